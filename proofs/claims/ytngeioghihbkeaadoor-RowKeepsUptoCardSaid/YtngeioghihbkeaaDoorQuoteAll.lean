/- strings.Builder at this seat: copyCheck, WriteByte, WriteString, String. datum.quoted at texts without control bytes: what it answers. Worlds in which the library's functions that write numbers answer as their contracts say; FormatInt, FormatBool, FormatUint's helpers, Repeat. strconv.FormatUint at base 16 of the control bytes. datum.quoted of any text: what it answers. Conditions: each theorem states its own. -/
import Derived.Test.YtngeioghihbkeaaDoorCheck
import Derived.Test.YtngeioghihbkeaaDoorShB
import Derived.Test.YtngeioghihbkeaaDoorBytes
import Derived.Lib.Builder
import Derived.Lib.AppendStr
import Derived.OwnWalk
import Derived.Test.YtngeioghihbkeaaDoorDCome
import Derived.Lib.AppendIntMem
import Derived.Lib.LaidTab
import Derived.Lib.LaidU8
import Derived.Lib.TrailingZeros
import Derived.Laws.BytesString
import Derived.Laws.Cells
namespace Go.Proofs.YtngeioghihbkeaaDoor
open Go.RowKit

theorem size_builder : (Tryd.prog.info? 185).map (·.size) = some 2 := by kernel_rfl
theorem lies_builder : liesAt Tryd.prog Tryd.prog.depth 185 (2 / Tryd.prog.cellsOf 185) 0 185 1 = true := by kernel_rfl
theorem under_unsafe : Tryd.prog.underlying 227 = some .unsafePointer := by kernel_rfl
theorem under_ptr : Tryd.prog.underlying 183 = some (.pointer 185) := by kernel_rfl
set_option maxRecDepth 100000 in
set_option maxHeartbeats 400000 in
theorem copy_fresh (b : Nat) (w : World) (h0 : w.cell? ⟨b, 0, none⟩ = some (.pointer none)) (hs : w.shape? b = some (185, 2)) (hf : w.frozen? ⟨b, 0, none⟩ = false) :
    Calls Tryd.prog 139 #[.pointer (some ⟨b, 0, none⟩)] w fun e w' => e = .returned (.tuple #[]) ∧ w' = w.setCell ⟨b, 0, none⟩ (.pointer (some ⟨b, 0, none⟩)) := by
  obtain ⟨j, hj, hjs⟩ := Option.map_eq_some_iff.1 size_builder
  have k1 := Lib.run_to_unsafe w ⟨b, 0, none⟩ under_ptr under_unsafe hj (by rw [hjs]; decide) hs (Nat.zero_lt_succ 1)
  have k2 := Lib.run_from_unsafe w ⟨b, 0, none⟩ under_unsafe under_ptr hj hs lies_builder
  have HJ := Lib.hid hj
  have HS := Lib.hid hs
  clear hj hs hjs
  go_enter Tryd.func139, Tryd.ntmps139
  go_wp2
  rw [run_callFunc_extern Tryd.func155 (by kernel_rfl) (by kernel_rfl) (by kernel_rfl) (e := Extern.AbiNoEscape.same) (by kernel_rfl)]
  rw [Lib.run_noEscape]
  simp only [Result.andThen]
  rw [Oper.upon_value]
  go_wp2
  refine bodyPost_end (results_none (fn := Tryd.f139) rfl _ _ _) rfl ?_
  exact ⟨rfl, rfl⟩
set_option maxRecDepth 100000 in
set_option maxHeartbeats 400000 in
theorem copy_used (b : Nat) (w : World) (h0 : w.cell? ⟨b, 0, none⟩ = some (.pointer (some ⟨b, 0, none⟩))) :
    Calls Tryd.prog 139 #[.pointer (some ⟨b, 0, none⟩)] w fun e w' => e = .returned (.tuple #[]) ∧ w' = w := by
  obtain ⟨j, hj, _⟩ := Option.map_eq_some_iff.1 size_builder
  have k1 := Lib.run_neq_ptr_same (P := Tryd.prog) w ⟨b, 0, none⟩ under_ptr hj
  have HJ := Lib.hid hj
  clear hj
  go_enter Tryd.func139, Tryd.ntmps139
  go_wp2
  go_end0
  exact ⟨rfl, rfl⟩
theorem copy_any (B b : Nat) (bs : List Value) (w : World) (h : Lib.IsBuilder 185 5 B b bs w) :
    Calls Tryd.prog 139 #[.pointer (some ⟨b, 0, none⟩)] w fun e w' => e = .returned (.tuple #[]) ∧ (Lib.BuilderAt 185 5 B b (.pointer (some ⟨b, 0, none⟩)) bs w' ∧ Below B w w') := by
  rcases h with h | h
  · refine (copy_fresh b w h.cell0 h.shape h.frozen0).mono ?_
    rintro e w' ⟨rfl, rfl⟩
    exact ⟨rfl, h.used _, (Below.refl B w).setCell (p := ⟨b, 0, none⟩) h.1 _⟩
  · refine (copy_used b w h.cell0).mono ?_
    rintro e w' ⟨rfl, rfl⟩
    exact ⟨rfl, h, Below.refl B _⟩

/-- what is written to a builder, and where it lies -/
def Written (B b : Nat) (bs : List Value) (w : World) (w' : World) : Prop := Lib.BuilderAt 185 5 B b (.pointer (some ⟨b, 0, none⟩)) bs w' ∧ Below B w w'
set_option maxRecDepth 100000 in
set_option maxHeartbeats 800000 in
theorem writeByte_any (B b : Nat) (bs : List Value) (c : Int) (w : World) (h : Lib.IsBuilder 185 5 B b bs w) (hlen : bs.length + 1 ≤ 140737488355328) (hBw : B ≤ w.heap.size) :
    Calls Tryd.prog 133 #[.pointer (some ⟨b, 0, none⟩), .int .u8 c] w fun e w' => e = .returned .nilIface ∧ Written B b (bs ++ [.int .u8 c]) w w' := by
  obtain ⟨i0, hi, hz0, hz1, hz2⟩ := info_parts info_byte
  have HI := Lib.hid hi
  clear hi
  have HL := Lib.hid hlen
  clear hlen
  go_enter Tryd.func133, Tryd.ntmps133
  go_wp2_with fail
  refine (copy_any B b bs _ h).mono ?_
  rintro e w1 ⟨rfl, hat, x1⟩
  obtain ⟨hB, v, hb, hown, hne⟩ := hat
  obtain ⟨vA, vc, rfl⟩ := owns_form hown
  have c1 : w1.cell? ⟨b, 1, none⟩ = some (.slice vA bs.length vc) := by rw [Lib.cell_of_heap hb]; rfl
  have f1 : w1.frozen? ⟨b, 1, none⟩ = false := Lib.frozen_of_heap hb 1
  have hv : ∀ k, (Value.slice vA bs.length vc).ownBlock = some k → B ≤ k := fun k hk => (hown.lt k hk).1
  have hs1 := x1.size
  have HV := Lib.hid hv
  have HB := Lib.hid hb
  have HN := Lib.hid hne
  have HO := Lib.hid hown
  clear hv hb hne hown h
  go_wp2_with (at_builtin; refine wpList_append_own _ rfl _ _ 35 rfl B 5 i0 (.int .u8 0) 1 1 under_bytes HI.out hz0 hz1 hz2 rfl (by decide) (.slice vA bs.length vc) bs.length bs rfl (HO.out.alloc _) ⟨w1.heap.size, 0, none⟩ 1 1 [.int .u8 c] rfl rfl ?c1 ?c2 ?c3 ?c4 ?c5 ?_)
  case c1 =>
    intro j u hu
    have hj : j = 0 := by have := (List.getElem?_eq_some_iff.1 hu).1; simpa using this
    subst hj
    simp at hu
    subst hu
    first | rfl | (simp; done) | go_simp
  case c2 => intro u hu; simp at hu; subst hu; rfl
  case c3 => have := HL.out; unfold maxLen; omega
  case c4 => have := HL.out; omega
  case c5 => simp; omega
  intro v' w2 hown2 hg2 hnil
  clear hnil
  obtain ⟨nA, nc, rfl⟩ := owns_form hown2
  have hb2 : w2.heap[b]? = some (.cells #[.pointer (some ⟨b, 0, none⟩), .slice vA bs.length vc] 185 (0, 0)) := (hg2.block b (by have := (Array.getElem?_eq_some_iff.1 HB.out).1; simp; omega) (Ne.symm HN.out)).trans ((Below.heap_alloc w1 _ b (Array.getElem?_eq_some_iff.1 HB.out).1).trans HB.out)
  have c2 : w2.cell? ⟨b, 1, none⟩ = some (.slice vA bs.length vc) := by rw [Lib.cell_of_heap hb2]; rfl
  have f2 : w2.frozen? ⟨b, 1, none⟩ = false := Lib.frozen_of_heap hb2 1
  have HB2 := Lib.hid hb2
  clear hb2
  go_wp2
  go_ret
  refine ⟨rfl, ?_⟩
  refine ⟨Lib.BuilderAt.put hB HB2.out (by simpa using hown2) (by decide), ?_⟩
  refine Below.setCell ?_ hB _
  exact Below.grown (x1.alloc (by omega) _) hg2 (by simp; omega) HV.out

set_option maxRecDepth 100000 in
set_option maxHeartbeats 800000 in
theorem writeString_any (B b : Nat) (bs : List Value) (s : ByteArray) (w : World) (h : Lib.IsBuilder 185 5 B b bs w) (hlen : bs.length + s.size ≤ 140737488355328) (hBw : B ≤ w.heap.size) :
    Calls Tryd.prog 112 #[.pointer (some ⟨b, 0, none⟩), .string s] w fun e w' => e = .returned (.tuple #[.int .i64 s.size, .nilIface]) ∧ Written B b (bs ++ Lib.strCells s) w w' := by
  obtain ⟨i0, hi, hz0, hz1, hz2⟩ := info_parts info_byte
  have HI := Lib.hid hi
  clear hi
  have HL := Lib.hid hlen
  clear hlen
  go_enter Tryd.func112, Tryd.ntmps112
  go_wp2_with fail
  refine (copy_any B b bs _ h).mono ?_
  rintro e w1 ⟨rfl, hat, x1⟩
  obtain ⟨hB, v, hb, hown, hne⟩ := hat
  obtain ⟨vA, vc, rfl⟩ := owns_form hown
  have c1 : w1.cell? ⟨b, 1, none⟩ = some (.slice vA bs.length vc) := by rw [Lib.cell_of_heap hb]; rfl
  have f1 : w1.frozen? ⟨b, 1, none⟩ = false := Lib.frozen_of_heap hb 1
  have hv : ∀ k, (Value.slice vA bs.length vc).ownBlock = some k → B ≤ k := fun k hk => (hown.lt k hk).1
  have hs1 := x1.size
  have HV := Lib.hid hv
  have HB := Lib.hid hb
  have HN := Lib.hid hne
  have HO := Lib.hid hown
  clear hv hb hne hown h
  go_wp2_with (at_builtin; refine Lib.wpList_append_own_string _ rfl _ _ 35 9 rfl B 5 i0 under_bytes under_string HI.out hz0 hz1 hz2 (.slice vA bs.length vc) bs.length bs rfl HO.out s rfl ?c3 ?c4 ?c5 ?_)
  case c3 => have := HL.out; unfold maxLen; omega
  case c4 => exact HL.out
  case c5 => omega
  intro v' w2 hown2 hg2 hnil
  clear hnil
  obtain ⟨nA, nc, rfl⟩ := owns_form hown2
  have hb2 : w2.heap[b]? = some (.cells #[.pointer (some ⟨b, 0, none⟩), .slice vA bs.length vc] 185 (0, 0)) := (hg2.block b (Array.getElem?_eq_some_iff.1 HB.out).1 (Ne.symm HN.out)).trans HB.out
  have c2 : w2.cell? ⟨b, 1, none⟩ = some (.slice vA bs.length vc) := by rw [Lib.cell_of_heap hb2]; rfl
  have f2 : w2.frozen? ⟨b, 1, none⟩ = false := Lib.frozen_of_heap hb2 1
  have HB2 := Lib.hid hb2
  clear hb2
  go_wp2
  go_ret2
  refine ⟨rfl, ?_⟩
  refine ⟨Lib.BuilderAt.put hB HB2.out (by rw [List.length_append, Lib.strCells_length]; exact hown2) (by decide), ?_⟩
  refine Below.setCell ?_ hB _
  exact Below.grown x1 hg2 (by omega) HV.out

theorem string_any (B b : Nat) (l : List UInt8) (w : World) (h : Lib.IsBuilder 185 5 B b (Lib.byteCells l) w) (hBw : B ≤ w.heap.size) :
    Calls Tryd.prog 113 #[.pointer (some ⟨b, 0, none⟩)] w fun e w' => e = .returned (.string ⟨l.toArray⟩) ∧ Below B w w' := Tryd.Builder_String_any B b l w h hBw
end Go.Proofs.YtngeioghihbkeaaDoor
namespace Go.Proofs.YtngeioghihbkeaaDoor
open Go.RowKit

def hexD (n : Nat) : UInt8 := if n < 10 then UInt8.ofNat (48 + n) else UInt8.ofNat (87 + n)
/-- how a byte is written -/
def esc (c : UInt8) : List UInt8 :=
  if c = 39 then [39, 39] else if c = 92 then [92, 92] else if c = 10 then [92, 110] else if c = 13 then [92, 114] else if c = 9 then [92, 116]
  else if c < 32 ∨ c = 127 then [92, 120, hexD (c.toNat / 16), hexD (c.toNat % 16)] else [c]
def quotedT (l : List UInt8) : List UInt8 := 39 :: (l.flatMap esc ++ [39])
theorem esc_len (c : UInt8) : (esc c).length ≤ 4 := by
  unfold esc
  repeat' split
  all_goals simp
theorem flat_len : ∀ l : List UInt8, (l.flatMap esc).length ≤ 4 * l.length
  | [] => by simp
  | c :: l => by
    have h1 := esc_len c
    have h2 := flat_len l
    simp only [List.flatMap_cons, List.length_append, List.length_cons]
    omega
theorem take_flat {s : ByteArray} {k : Nat} (h : k < s.size) : (s.data.toList.take (k + 1)).flatMap esc = (s.data.toList.take k).flatMap esc ++ esc s[k] := by
  have h' : k < s.data.toList.length := by simpa using h
  rw [List.take_succ_eq_append_getElem h', List.flatMap_append]
  simp
  rfl

theorem fresh_builder (w : World) : Lib.IsBuilder 185 5 w.heap.size w.heap.size (Lib.byteCells []) (w.alloc (.cells #[.pointer none, .slice none 0 0] 185)) :=
  .inl ⟨Nat.le_refl _, .slice none 0 0, heap_alloc_new w _, World.ownsRow_nil _ _ _ _, by simp [Value.ownBlock]⟩

set_option maxRecDepth 100000 in
set_option maxHeartbeats 2000000 in
theorem quoted_plain (s : ByteArray) (w : World) (hs : s.size ≤ 1000000) (hp : ∀ k (h : k < s.size), 32 ≤ s[k].toNat ∧ ¬ s[k].toNat = 127) :
    Calls Tryd.prog 110 #[.string s] w fun e w' => e = .returned (.string ⟨(quotedT s.data.toList).toArray⟩) ∧ Ext w w' := by
  have HP := Lib.hid hp
  clear hp
  go_enter Tryd.func110, Tryd.ntmps110
  go_wp2_with (go_at_call 133; refine (writeByte_any w.heap.size w.heap.size (Lib.byteCells []) 39 _ (fresh_builder w) (by simp [Lib.byteCells]) (by simp)).mono ?_; rintro e w1 ⟨rfl, hw1⟩)
  obtain ⟨hat, x1⟩ := hw1
  go_loopw [4] (fun v wr => ∃ k : Nat, k ≤ s.size ∧ v = .int .i64 k ∧ Lib.BuilderAt 185 5 w.heap.size w.heap.size (.pointer (some ⟨w.heap.size, 0, none⟩)) (Lib.byteCells (39 :: (s.data.toList.take k).flatMap esc)) wr ∧ Ext w wr) (fun v _ => s.size - (intOf v).toNat)
  case atStart => exact ⟨0, Nat.zero_le _, rfl, by simpa [Lib.byteCells] using hat, Below.trans ((Ext.refl w).alloc _) x1⟩
  case round =>
    obtain ⟨k, hk, rfl, hb, er⟩ := hrel
    have hlen : (Lib.byteCells (39 :: (s.data.toList.take k).flatMap esc)).length ≤ 4000001 := by
      have := flat_len (s.data.toList.take k)
      have h2 : (s.data.toList.take k).length ≤ k := List.length_take_le _ _
      rw [Lib.byteCells_length, List.length_cons]
      omega
    have HLn := Lib.hid hlen
    have HB := Lib.hid hb
    have hsz := er.size
    clear hlen hb
    by_cases hlt : k < s.size
    · have hpl := HP.out k hlt
      have HT := Lib.hid (take_flat hlt)
      by_cases h39 : s[k].toNat = 39
      · have hc : s[k].toNat = (39 : UInt8).toNat := h39
        have z39 : ((s[k].toNat : Int) == 39) = true := by simp; omega
        have HE : Hid (esc s[k] = [39, 39]) := Lib.hid (by rw [show s[k] = 39 from UInt8.toNat_inj.1 hc]; rfl)
        go_wp2_with (go_at_call 112; refine (writeString_any w.heap.size w.heap.size _ ⟨#[39, 39]⟩ _ (.inr HB.out) (by have := HLn.out; simp [ByteArray.size]; omega) (by omega)).mono ?_; rintro e w2 ⟨rfl, hw2⟩)
        go_roundw
        case rel =>
          refine ⟨k + 1, by omega, by go_num, ?_, Below.trans er hw2.2⟩
          have h2 := hw2.1
          have e1 : Lib.byteCells (39 :: (s.data.toList.take k).flatMap esc) ++ Lib.strCells ⟨#[39, 39]⟩ = Lib.byteCells (39 :: (s.data.toList.take (k + 1)).flatMap esc) := by
            rw [HT.out, HE.out, ← List.cons_append, cells_append]
            rfl
          rw [e1] at h2
          exact h2
        case measure => simp [intOf]; omega
      by_cases h92 : s[k].toNat = 92
      · have hc : s[k].toNat = (92 : UInt8).toNat := h92
        have z39 : ((s[k].toNat : Int) == 39) = false := by simp; omega
        have z92 : ((s[k].toNat : Int) == 92) = true := by simp; omega
        have HE : Hid (esc s[k] = [92, 92]) := Lib.hid (by rw [show s[k] = 92 from UInt8.toNat_inj.1 hc]; rfl)
        go_wp2_with (go_at_call 112; refine (writeString_any w.heap.size w.heap.size _ ⟨#[92, 92]⟩ _ (.inr HB.out) (by have := HLn.out; simp [ByteArray.size]; omega) (by omega)).mono ?_; rintro e w2 ⟨rfl, hw2⟩)
        go_roundw
        case rel =>
          refine ⟨k + 1, by omega, by go_num, ?_, Below.trans er hw2.2⟩
          have h2 := hw2.1
          have e1 : Lib.byteCells (39 :: (s.data.toList.take k).flatMap esc) ++ Lib.strCells ⟨#[92, 92]⟩ = Lib.byteCells (39 :: (s.data.toList.take (k + 1)).flatMap esc) := by
            rw [HT.out, HE.out, ← List.cons_append, cells_append]
            rfl
          rw [e1] at h2
          exact h2
        case measure => simp [intOf]; omega
      have z39 : ((s[k].toNat : Int) == 39) = false := by simp; omega
      have z92 : ((s[k].toNat : Int) == 92) = false := by simp; omega
      have z10 : ((s[k].toNat : Int) == 10) = false := by simp; omega
      have z13 : ((s[k].toNat : Int) == 13) = false := by simp; omega
      have z9 : ((s[k].toNat : Int) == 9) = false := by simp; omega
      have z127 : ((s[k].toNat : Int) == 127) = false := by simp; omega
      have h32 : (32 : Int) ≤ (s[k].toNat : Int) := by omega
      have HE : Hid (esc s[k] = [s[k]]) := Lib.hid (by
        have ne : ∀ c : UInt8, ¬ s[k].toNat = c.toNat → ¬ s[k] = c := fun c h e => h (by rw [e])
        unfold esc
        rw [if_neg (ne 39 h39), if_neg (ne 92 h92), if_neg (ne 10 (by show ¬ s[k].toNat = 10; omega)), if_neg (ne 13 (by show ¬ s[k].toNat = 13; omega)), if_neg (ne 9 (by show ¬ s[k].toNat = 9; omega)), if_neg ?_]
        rintro (h | h)
        · have := UInt8.lt_iff_toNat_lt.1 h
          have e32 : (32 : UInt8).toNat = 32 := rfl
          omega
        · exact hpl.2 (by rw [h]; rfl))
      go_wp2_with (go_at_call 133; refine (writeByte_any w.heap.size w.heap.size _ (s[k].toNat : Int) _ (.inr HB.out) (by have := HLn.out; omega) (by omega)).mono ?_; rintro e w2 ⟨rfl, hw2⟩)
      go_roundw
      case rel =>
        refine ⟨k + 1, by omega, by go_num, ?_, Below.trans er hw2.2⟩
        have h2 := hw2.1
        have e1 : Lib.byteCells (39 :: (s.data.toList.take k).flatMap esc) ++ [Value.int .u8 (s[k].toNat : Int)] = Lib.byteCells (39 :: (s.data.toList.take (k + 1)).flatMap esc) := by
          rw [HT.out, HE.out, ← List.cons_append, cells_append]
          rfl
        rw [e1] at h2
        exact h2
      case measure => simp [intOf]; omega
    · have e1 : k = s.size := by omega
      have htk : s.data.toList.take k = s.data.toList := List.take_of_length_le (by simp; omega)
      rw [htk] at HB HLn
      have HK := Lib.hid e1
      clear e1 htk
      have m1 : True := trivial
      go_wp2_with (first
        | (go_at_call 133; refine (writeByte_any w.heap.size w.heap.size _ 39 _ (.inr HB.out) (by have := HLn.out; omega) (by omega)).mono ?_; rintro e w2 ⟨rfl, hw2⟩; have hb2 : Lib.IsBuilder 185 5 w.heap.size w.heap.size (Lib.byteCells (quotedT s.data.toList)) w2 := (by have h2 := hw2.1; have e2 : Lib.byteCells (39 :: s.data.toList.flatMap esc) ++ [Value.int .u8 39] = Lib.byteCells (quotedT s.data.toList) := (by unfold quotedT; rw [← List.cons_append, cells_append]; rfl); rw [e2] at h2; exact .inr h2); have X2 : Ext w w2 := Below.trans er hw2.2; have HB2 := Lib.hid hb2; clear hb2 hw2)
        | (go_at_call 113; refine (string_any w.heap.size w.heap.size (quotedT s.data.toList) _ HB2.out X2.size).mono ?_; rintro e w3 ⟨rfl, x3⟩))
      go_ret
      exact ⟨rfl, Below.trans X2 x3⟩
end Go.Proofs.YtngeioghihbkeaaDoor
namespace Go.Proofs.YtngeioghihbkeaaDoor
open Go.ChangeShapes Go.WideShapes Go.ChangeAt Go.RowKit Go.WideElems

def debTab : List Int := Lib.deBruijn64tab.map fun (n : Nat) => (n : Int)
/-- the two tables stand as they were laid, and the library's functions that read UTF-8 answer -/
structure Good2 (w : World) : Prop where
  good : Good w
  pow : ∀ W, Ext w W → Lib.TabIs Tryd.prog W "internal/strconv.uint64pow10" .u64 Lib.pow10Tab
  deb : ∀ W, Ext w W → Lib.TabIs Tryd.prog W "math/bits.deBruijn64tab" .u8 debTab
theorem Good2.ext {w w' : World} (h : Good2 w) (x : Ext w w') : Good2 w' := ⟨h.good.ext x, fun W y => h.pow W (x.trans y), fun W y => h.deb W (x.trans y)⟩
theorem pow_is : (Rows.laid_internal_strconv_uint64pow10 : DataW Unit) = Lib.tabData .u64 Lib.pow10Tab := by kernel_rfl
theorem deb_is : (Rows.laid_math_bits_deBruijn64tab : DataW Unit) = Lib.tabData .u8 debTab := by kernel_rfl
theorem tab_of_reads {P : Program} {W : World} {name : String} {k : IntKind} {zs : List Int} {g : Nat} {t e : TypeId} {n : Nat}
    (hg : P.globalNamed name = some g) (hty : (P.globals[g]?).map (·.type) = some t) (ht : P.underlying t = some (.array n e)) (he : P.underlying e = some (.int k)) (hce : P.cellsOf e = 1) (hct : P.cellsOf t = n)
    (h : Lib.VarReads P W name (Lib.tabData k zs)) : Lib.TabIs P W name k zs := by
  obtain ⟨g', t', cs, fuel, p, hg', ht', hvar, hd⟩ := h
  obtain rfl := Option.some.inj (hg.symm.trans hg')
  obtain rfl := Option.some.inj (hty.symm.trans ht')
  unfold Lib.TabIs
  rw [hvar, ← Lib.cells_of_tab ht he hce hct hd]
theorem good2_of {W : World} {l : List (String × DataW Unit)} (h : laidMet Tryd.prog l W) (h1 : ("unicode/utf8.first", Rows.laid_unicode_utf8_first) ∈ l) (h2 : ("unicode/utf8.acceptRanges", Rows.laid_unicode_utf8_acceptRanges) ∈ l)
    (h3 : ("internal/strconv.uint64pow10", Rows.laid_internal_strconv_uint64pow10) ∈ l) (h4 : ("math/bits.deBruijn64tab", Rows.laid_math_bits_deBruijn64tab) ∈ l) : Good2 W := by
  have a := Lib.laidMet.reads h h3
  have b := Lib.laidMet.reads h h4
  rw [pow_is] at a
  rw [deb_is] at b
  have ta : Lib.TabIs Tryd.prog W "internal/strconv.uint64pow10" .u64 Lib.pow10Tab := tab_of_reads (g := 3) (t := 235) (e := 46) (n := 20) (by kernel_rfl) (by kernel_rfl) Tryd.underlying235 Tryd.underlying46 (by kernel_rfl) (by kernel_rfl) a
  have tb : Lib.TabIs Tryd.prog W "math/bits.deBruijn64tab" .u8 debTab := tab_of_reads (g := 7) (t := 251) (e := 5) (n := 64) (by kernel_rfl) (by kernel_rfl) Tryd.underlying251 Tryd.underlying5 (by kernel_rfl) (by kernel_rfl) b
  exact ⟨good_of h h1 h2, fun W' x => Lib.tabBelow_of_tabIs ta W' x, fun W' x => Lib.tabBelow_of_tabIs tb W' x⟩

/-! ### numbers as they are written -/
theorem inner_int (n : Int) (w : World) (h : -9223372036854775808 ≤ n ∧ n ≤ 9223372036854775807) (G : Good2 w) : Calls Tryd.prog 136 #[.int .i64 n, .int .i64 10] w fun e w' => e = .returned (.string ⟨(Lib.itoa n).toArray⟩) ∧ Ext w w' :=
  (Tryd.internal_strconv_FormatInt_10 n h.1 h.2 w (G.pow w (Ext.refl w))).mono fun _ _ ⟨he, k, os, hw⟩ => ⟨he, hw ▸ Lib.below_grow _ w (Nat.le_refl _) k os⟩
set_option maxRecDepth 100000 in
set_option maxHeartbeats 400000 in
theorem formatInt_any (n : Int) (w : World) (h : -9223372036854775808 ≤ n ∧ n ≤ 9223372036854775807) (G : Good2 w) : Calls Tryd.prog 109 #[.int .i64 n, .int .i64 10] w fun e w' => e = .returned (.string ⟨(Lib.itoa n).toArray⟩) ∧ Ext w w' := by
  have H := Lib.hid h
  clear h
  go_enter Tryd.func109, Tryd.ntmps109
  go_wp2_with (go_at_call 136; refine (inner_int n _ H.out G).mono ?_; rintro e w1 ⟨rfl, x1⟩)
  go_ret
  exact ⟨rfl, x1⟩
theorem formatBool_any (b : Bool) (w : World) : Calls Tryd.prog 108 #[.bool b] w fun e w' => e = .returned (.string ⟨(Lib.formatBool b).toArray⟩) ∧ Ext w w' :=
  (Tryd.strconv_FormatBool b w).mono fun _ _ ⟨he, hw⟩ => ⟨he, hw ▸ Ext.refl w⟩
set_option maxRecDepth 100000 in
set_option maxHeartbeats 400000 in
theorem tz64_16 (w : World) (G : Good2 w) : Calls Tryd.prog 176 #[.int .u64 16] w fun e w' => e = .returned (.int .i64 4) ∧ w = w' := by
  have hc : w.cell? ⟨7, 15, none⟩ = some (.int .u8 4) := (G.deb w (Ext.refl w)).cell (by kernel_rfl) 15 (by decide)
  have e1 : bits BinOp.and IntKind.u64 16 (IntKind.u64.wrap (-16)) = 16 := by decide +kernel
  have e2 : IntKind.u64.wrap (16 * 285870213051353865) / 288230376151711744 = 15 := by decide +kernel
  go_enter Tryd.func176, Tryd.ntmps176
  go_wp2
  go_ret
  exact ⟨rfl, rfl⟩
set_option maxRecDepth 100000 in
set_option maxHeartbeats 400000 in
theorem tz_16 (w : World) (G : Good2 w) : Calls Tryd.prog 167 #[.int .u64 16] w fun e w' => e = .returned (.int .i64 4) ∧ w = w' := by
  go_enter Tryd.func167, Tryd.ntmps167
  go_wp2_with (go_at_call 176; refine (tz64_16 _ G).mono ?_; rintro e w1 ⟨rfl, rfl⟩)
  go_ret
  exact ⟨rfl, rfl⟩
set_option maxRecDepth 100000 in
set_option maxHeartbeats 400000 in
theorem pow2_16 (w : World) : Calls Tryd.prog 166 #[.int .i64 16] w fun e w' => e = .returned (.bool true) ∧ w = w' := by
  go_enter Tryd.func166, Tryd.ntmps166
  go_wp2
  go_ret
  exact ⟨rfl, rfl⟩
set_option maxRecDepth 100000 in
set_option maxHeartbeats 400000 in
theorem repeat0 (s : ByteArray) (w : World) : Calls Tryd.prog 138 #[.string s, .int .i64 0] w fun e w' => e = .returned (.string ⟨#[]⟩) ∧ w = w' := by
  go_enter Tryd.func138, Tryd.ntmps138
  go_wp2
  go_ret
  exact ⟨rfl, rfl⟩
set_option maxRecDepth 100000 in
set_option maxHeartbeats 400000 in
theorem repeat1 (s : ByteArray) (w : World) : Calls Tryd.prog 138 #[.string s, .int .i64 1] w fun e w' => e = .returned (.string s) ∧ w = w' := by
  go_enter Tryd.func138, Tryd.ntmps138
  go_wp2
  go_ret
  exact ⟨rfl, rfl⟩
end Go.Proofs.YtngeioghihbkeaaDoor
namespace Go.Proofs.YtngeioghihbkeaaDoor
open Go.RowKit

theorem push_all : ∀ (ns : List Int) (r : ByteArray), ns.foldl (fun r n => r.push (UInt8.ofNat n.toNat)) r = ⟨(r.data.toList ++ ns.map fun n => UInt8.ofNat n.toNat).toArray⟩
  | [], r => by simp
  | n :: ns, r => by
    rw [List.foldl_cons, push_all ns]
    simp
/-- '[]byte' made a string, out of the block just made -/
theorem conv_fresh (w : World) (t : TypeId) (cs : Array Value) (off n cap : Nat) (ns : List Int) (h : (cs.toList.drop off).take n = ns.map (Value.int .u8)) (hn : ns.length = n) :
    Sem.run Tryd.prog (convert 35 9 (.slice (some ⟨w.heap.size, off, none⟩) n cap)) (w.alloc (.cells cs t)) = .ok (.string ⟨(ns.map fun n => UInt8.ofNat n.toNat).toArray⟩) (w.alloc (.cells cs t)) := by
  rw [run_convert_bytes_string _ _ _ _ _ _ _ under_bytes Tryd.underlying5 under_string]
  have hb : Bk (w.alloc (.cells cs t)) w.heap.size t cs := Bk.new w t cs
  have hl : (ns.map (Value.int .u8)).length = n := by simpa using hn
  have hr := run_loadCells_list (P := Tryd.prog) (w := w.alloc (.cells cs t)) ⟨w.heap.size, off, none⟩ (ns.map (Value.int .u8)) (fun j v hj => by
    rw [show (⟨w.heap.size, off, none⟩ : Addr).add j = ⟨w.heap.size, off + j, none⟩ by unfold Addr.add; split <;> simp_all, hb.cell, ← Array.getElem?_toList]
    rw [← h, List.getElem?_take] at hj
    split at hj
    · rw [List.getElem?_drop] at hj; exact hj
    · cases hj)
  rw [hl] at hr
  rw [run_bytesToString _ _ _ _ ns hr, push_all]
  rfl

set_option maxRecDepth 100000 in
set_option maxHeartbeats 1000000 in
theorem bits_0 (w : World) (G : Good2 w) : Calls Tryd.prog 150 #[.slice none 0 0, .int .u64 0, .int .i64 16, .bool false, .bool false] w fun e w' => e = .returned (.tuple #[.slice none 0 0, .string ⟨#[48]⟩]) ∧ Ext w w' := by
  go_enter Tryd.func150, Tryd.ntmps150
  go_wp2_with (first
    | (go_at_call 166; refine (pow2_16 _).mono ?_; rintro e w1 ⟨rfl, rfl⟩)
    | (go_at_call 167; refine (tz_16 _ (by exact G.ext ((Ext.refl _).alloc _))).mono ?_; rintro e w1 ⟨rfl, rfl⟩))
  go_rounds 1
  rw [conv_fresh _ _ _ 64 1 1 [48] (by kernel_rfl) rfl]
  simp only [Result.andThen]
  rw [Oper.upon_value]
  go_wp2
  go_ret2
  exact ⟨rfl, (Ext.refl w).alloc _⟩
set_option maxRecDepth 100000 in
set_option maxHeartbeats 1000000 in
theorem bits_1 (w : World) (G : Good2 w) : Calls Tryd.prog 150 #[.slice none 0 0, .int .u64 1, .int .i64 16, .bool false, .bool false] w fun e w' => e = .returned (.tuple #[.slice none 0 0, .string ⟨#[49]⟩]) ∧ Ext w w' := by
  go_enter Tryd.func150, Tryd.ntmps150
  go_wp2_with (first
    | (go_at_call 166; refine (pow2_16 _).mono ?_; rintro e w1 ⟨rfl, rfl⟩)
    | (go_at_call 167; refine (tz_16 _ (by exact G.ext ((Ext.refl _).alloc _))).mono ?_; rintro e w1 ⟨rfl, rfl⟩))
  go_rounds 1
  rw [conv_fresh _ _ _ 64 1 1 [49] (by kernel_rfl) rfl]
  simp only [Result.andThen]
  rw [Oper.upon_value]
  go_wp2
  go_ret2
  exact ⟨rfl, (Ext.refl w).alloc _⟩
set_option maxRecDepth 100000 in
set_option maxHeartbeats 1000000 in
theorem bits_2 (w : World) (G : Good2 w) : Calls Tryd.prog 150 #[.slice none 0 0, .int .u64 2, .int .i64 16, .bool false, .bool false] w fun e w' => e = .returned (.tuple #[.slice none 0 0, .string ⟨#[50]⟩]) ∧ Ext w w' := by
  go_enter Tryd.func150, Tryd.ntmps150
  go_wp2_with (first
    | (go_at_call 166; refine (pow2_16 _).mono ?_; rintro e w1 ⟨rfl, rfl⟩)
    | (go_at_call 167; refine (tz_16 _ (by exact G.ext ((Ext.refl _).alloc _))).mono ?_; rintro e w1 ⟨rfl, rfl⟩))
  go_rounds 1
  rw [conv_fresh _ _ _ 64 1 1 [50] (by kernel_rfl) rfl]
  simp only [Result.andThen]
  rw [Oper.upon_value]
  go_wp2
  go_ret2
  exact ⟨rfl, (Ext.refl w).alloc _⟩
set_option maxRecDepth 100000 in
set_option maxHeartbeats 1000000 in
theorem bits_3 (w : World) (G : Good2 w) : Calls Tryd.prog 150 #[.slice none 0 0, .int .u64 3, .int .i64 16, .bool false, .bool false] w fun e w' => e = .returned (.tuple #[.slice none 0 0, .string ⟨#[51]⟩]) ∧ Ext w w' := by
  go_enter Tryd.func150, Tryd.ntmps150
  go_wp2_with (first
    | (go_at_call 166; refine (pow2_16 _).mono ?_; rintro e w1 ⟨rfl, rfl⟩)
    | (go_at_call 167; refine (tz_16 _ (by exact G.ext ((Ext.refl _).alloc _))).mono ?_; rintro e w1 ⟨rfl, rfl⟩))
  go_rounds 1
  rw [conv_fresh _ _ _ 64 1 1 [51] (by kernel_rfl) rfl]
  simp only [Result.andThen]
  rw [Oper.upon_value]
  go_wp2
  go_ret2
  exact ⟨rfl, (Ext.refl w).alloc _⟩
set_option maxRecDepth 100000 in
set_option maxHeartbeats 1000000 in
theorem bits_4 (w : World) (G : Good2 w) : Calls Tryd.prog 150 #[.slice none 0 0, .int .u64 4, .int .i64 16, .bool false, .bool false] w fun e w' => e = .returned (.tuple #[.slice none 0 0, .string ⟨#[52]⟩]) ∧ Ext w w' := by
  go_enter Tryd.func150, Tryd.ntmps150
  go_wp2_with (first
    | (go_at_call 166; refine (pow2_16 _).mono ?_; rintro e w1 ⟨rfl, rfl⟩)
    | (go_at_call 167; refine (tz_16 _ (by exact G.ext ((Ext.refl _).alloc _))).mono ?_; rintro e w1 ⟨rfl, rfl⟩))
  go_rounds 1
  rw [conv_fresh _ _ _ 64 1 1 [52] (by kernel_rfl) rfl]
  simp only [Result.andThen]
  rw [Oper.upon_value]
  go_wp2
  go_ret2
  exact ⟨rfl, (Ext.refl w).alloc _⟩
set_option maxRecDepth 100000 in
set_option maxHeartbeats 1000000 in
theorem bits_5 (w : World) (G : Good2 w) : Calls Tryd.prog 150 #[.slice none 0 0, .int .u64 5, .int .i64 16, .bool false, .bool false] w fun e w' => e = .returned (.tuple #[.slice none 0 0, .string ⟨#[53]⟩]) ∧ Ext w w' := by
  go_enter Tryd.func150, Tryd.ntmps150
  go_wp2_with (first
    | (go_at_call 166; refine (pow2_16 _).mono ?_; rintro e w1 ⟨rfl, rfl⟩)
    | (go_at_call 167; refine (tz_16 _ (by exact G.ext ((Ext.refl _).alloc _))).mono ?_; rintro e w1 ⟨rfl, rfl⟩))
  go_rounds 1
  rw [conv_fresh _ _ _ 64 1 1 [53] (by kernel_rfl) rfl]
  simp only [Result.andThen]
  rw [Oper.upon_value]
  go_wp2
  go_ret2
  exact ⟨rfl, (Ext.refl w).alloc _⟩
set_option maxRecDepth 100000 in
set_option maxHeartbeats 1000000 in
theorem bits_6 (w : World) (G : Good2 w) : Calls Tryd.prog 150 #[.slice none 0 0, .int .u64 6, .int .i64 16, .bool false, .bool false] w fun e w' => e = .returned (.tuple #[.slice none 0 0, .string ⟨#[54]⟩]) ∧ Ext w w' := by
  go_enter Tryd.func150, Tryd.ntmps150
  go_wp2_with (first
    | (go_at_call 166; refine (pow2_16 _).mono ?_; rintro e w1 ⟨rfl, rfl⟩)
    | (go_at_call 167; refine (tz_16 _ (by exact G.ext ((Ext.refl _).alloc _))).mono ?_; rintro e w1 ⟨rfl, rfl⟩))
  go_rounds 1
  rw [conv_fresh _ _ _ 64 1 1 [54] (by kernel_rfl) rfl]
  simp only [Result.andThen]
  rw [Oper.upon_value]
  go_wp2
  go_ret2
  exact ⟨rfl, (Ext.refl w).alloc _⟩
set_option maxRecDepth 100000 in
set_option maxHeartbeats 1000000 in
theorem bits_7 (w : World) (G : Good2 w) : Calls Tryd.prog 150 #[.slice none 0 0, .int .u64 7, .int .i64 16, .bool false, .bool false] w fun e w' => e = .returned (.tuple #[.slice none 0 0, .string ⟨#[55]⟩]) ∧ Ext w w' := by
  go_enter Tryd.func150, Tryd.ntmps150
  go_wp2_with (first
    | (go_at_call 166; refine (pow2_16 _).mono ?_; rintro e w1 ⟨rfl, rfl⟩)
    | (go_at_call 167; refine (tz_16 _ (by exact G.ext ((Ext.refl _).alloc _))).mono ?_; rintro e w1 ⟨rfl, rfl⟩))
  go_rounds 1
  rw [conv_fresh _ _ _ 64 1 1 [55] (by kernel_rfl) rfl]
  simp only [Result.andThen]
  rw [Oper.upon_value]
  go_wp2
  go_ret2
  exact ⟨rfl, (Ext.refl w).alloc _⟩
set_option maxRecDepth 100000 in
set_option maxHeartbeats 1000000 in
theorem bits_8 (w : World) (G : Good2 w) : Calls Tryd.prog 150 #[.slice none 0 0, .int .u64 8, .int .i64 16, .bool false, .bool false] w fun e w' => e = .returned (.tuple #[.slice none 0 0, .string ⟨#[56]⟩]) ∧ Ext w w' := by
  go_enter Tryd.func150, Tryd.ntmps150
  go_wp2_with (first
    | (go_at_call 166; refine (pow2_16 _).mono ?_; rintro e w1 ⟨rfl, rfl⟩)
    | (go_at_call 167; refine (tz_16 _ (by exact G.ext ((Ext.refl _).alloc _))).mono ?_; rintro e w1 ⟨rfl, rfl⟩))
  go_rounds 1
  rw [conv_fresh _ _ _ 64 1 1 [56] (by kernel_rfl) rfl]
  simp only [Result.andThen]
  rw [Oper.upon_value]
  go_wp2
  go_ret2
  exact ⟨rfl, (Ext.refl w).alloc _⟩
set_option maxRecDepth 100000 in
set_option maxHeartbeats 1000000 in
theorem bits_9 (w : World) (G : Good2 w) : Calls Tryd.prog 150 #[.slice none 0 0, .int .u64 9, .int .i64 16, .bool false, .bool false] w fun e w' => e = .returned (.tuple #[.slice none 0 0, .string ⟨#[57]⟩]) ∧ Ext w w' := by
  go_enter Tryd.func150, Tryd.ntmps150
  go_wp2_with (first
    | (go_at_call 166; refine (pow2_16 _).mono ?_; rintro e w1 ⟨rfl, rfl⟩)
    | (go_at_call 167; refine (tz_16 _ (by exact G.ext ((Ext.refl _).alloc _))).mono ?_; rintro e w1 ⟨rfl, rfl⟩))
  go_rounds 1
  rw [conv_fresh _ _ _ 64 1 1 [57] (by kernel_rfl) rfl]
  simp only [Result.andThen]
  rw [Oper.upon_value]
  go_wp2
  go_ret2
  exact ⟨rfl, (Ext.refl w).alloc _⟩
set_option maxRecDepth 100000 in
set_option maxHeartbeats 1000000 in
theorem bits_10 (w : World) (G : Good2 w) : Calls Tryd.prog 150 #[.slice none 0 0, .int .u64 10, .int .i64 16, .bool false, .bool false] w fun e w' => e = .returned (.tuple #[.slice none 0 0, .string ⟨#[97]⟩]) ∧ Ext w w' := by
  go_enter Tryd.func150, Tryd.ntmps150
  go_wp2_with (first
    | (go_at_call 166; refine (pow2_16 _).mono ?_; rintro e w1 ⟨rfl, rfl⟩)
    | (go_at_call 167; refine (tz_16 _ (by exact G.ext ((Ext.refl _).alloc _))).mono ?_; rintro e w1 ⟨rfl, rfl⟩))
  go_rounds 1
  rw [conv_fresh _ _ _ 64 1 1 [97] (by kernel_rfl) rfl]
  simp only [Result.andThen]
  rw [Oper.upon_value]
  go_wp2
  go_ret2
  exact ⟨rfl, (Ext.refl w).alloc _⟩
set_option maxRecDepth 100000 in
set_option maxHeartbeats 1000000 in
theorem bits_11 (w : World) (G : Good2 w) : Calls Tryd.prog 150 #[.slice none 0 0, .int .u64 11, .int .i64 16, .bool false, .bool false] w fun e w' => e = .returned (.tuple #[.slice none 0 0, .string ⟨#[98]⟩]) ∧ Ext w w' := by
  go_enter Tryd.func150, Tryd.ntmps150
  go_wp2_with (first
    | (go_at_call 166; refine (pow2_16 _).mono ?_; rintro e w1 ⟨rfl, rfl⟩)
    | (go_at_call 167; refine (tz_16 _ (by exact G.ext ((Ext.refl _).alloc _))).mono ?_; rintro e w1 ⟨rfl, rfl⟩))
  go_rounds 1
  rw [conv_fresh _ _ _ 64 1 1 [98] (by kernel_rfl) rfl]
  simp only [Result.andThen]
  rw [Oper.upon_value]
  go_wp2
  go_ret2
  exact ⟨rfl, (Ext.refl w).alloc _⟩
set_option maxRecDepth 100000 in
set_option maxHeartbeats 1000000 in
theorem bits_12 (w : World) (G : Good2 w) : Calls Tryd.prog 150 #[.slice none 0 0, .int .u64 12, .int .i64 16, .bool false, .bool false] w fun e w' => e = .returned (.tuple #[.slice none 0 0, .string ⟨#[99]⟩]) ∧ Ext w w' := by
  go_enter Tryd.func150, Tryd.ntmps150
  go_wp2_with (first
    | (go_at_call 166; refine (pow2_16 _).mono ?_; rintro e w1 ⟨rfl, rfl⟩)
    | (go_at_call 167; refine (tz_16 _ (by exact G.ext ((Ext.refl _).alloc _))).mono ?_; rintro e w1 ⟨rfl, rfl⟩))
  go_rounds 1
  rw [conv_fresh _ _ _ 64 1 1 [99] (by kernel_rfl) rfl]
  simp only [Result.andThen]
  rw [Oper.upon_value]
  go_wp2
  go_ret2
  exact ⟨rfl, (Ext.refl w).alloc _⟩
set_option maxRecDepth 100000 in
set_option maxHeartbeats 1000000 in
theorem bits_13 (w : World) (G : Good2 w) : Calls Tryd.prog 150 #[.slice none 0 0, .int .u64 13, .int .i64 16, .bool false, .bool false] w fun e w' => e = .returned (.tuple #[.slice none 0 0, .string ⟨#[100]⟩]) ∧ Ext w w' := by
  go_enter Tryd.func150, Tryd.ntmps150
  go_wp2_with (first
    | (go_at_call 166; refine (pow2_16 _).mono ?_; rintro e w1 ⟨rfl, rfl⟩)
    | (go_at_call 167; refine (tz_16 _ (by exact G.ext ((Ext.refl _).alloc _))).mono ?_; rintro e w1 ⟨rfl, rfl⟩))
  go_rounds 1
  rw [conv_fresh _ _ _ 64 1 1 [100] (by kernel_rfl) rfl]
  simp only [Result.andThen]
  rw [Oper.upon_value]
  go_wp2
  go_ret2
  exact ⟨rfl, (Ext.refl w).alloc _⟩
set_option maxRecDepth 100000 in
set_option maxHeartbeats 1000000 in
theorem bits_14 (w : World) (G : Good2 w) : Calls Tryd.prog 150 #[.slice none 0 0, .int .u64 14, .int .i64 16, .bool false, .bool false] w fun e w' => e = .returned (.tuple #[.slice none 0 0, .string ⟨#[101]⟩]) ∧ Ext w w' := by
  go_enter Tryd.func150, Tryd.ntmps150
  go_wp2_with (first
    | (go_at_call 166; refine (pow2_16 _).mono ?_; rintro e w1 ⟨rfl, rfl⟩)
    | (go_at_call 167; refine (tz_16 _ (by exact G.ext ((Ext.refl _).alloc _))).mono ?_; rintro e w1 ⟨rfl, rfl⟩))
  go_rounds 1
  rw [conv_fresh _ _ _ 64 1 1 [101] (by kernel_rfl) rfl]
  simp only [Result.andThen]
  rw [Oper.upon_value]
  go_wp2
  go_ret2
  exact ⟨rfl, (Ext.refl w).alloc _⟩
set_option maxRecDepth 100000 in
set_option maxHeartbeats 1000000 in
theorem bits_15 (w : World) (G : Good2 w) : Calls Tryd.prog 150 #[.slice none 0 0, .int .u64 15, .int .i64 16, .bool false, .bool false] w fun e w' => e = .returned (.tuple #[.slice none 0 0, .string ⟨#[102]⟩]) ∧ Ext w w' := by
  go_enter Tryd.func150, Tryd.ntmps150
  go_wp2_with (first
    | (go_at_call 166; refine (pow2_16 _).mono ?_; rintro e w1 ⟨rfl, rfl⟩)
    | (go_at_call 167; refine (tz_16 _ (by exact G.ext ((Ext.refl _).alloc _))).mono ?_; rintro e w1 ⟨rfl, rfl⟩))
  go_rounds 1
  rw [conv_fresh _ _ _ 64 1 1 [102] (by kernel_rfl) rfl]
  simp only [Result.andThen]
  rw [Oper.upon_value]
  go_wp2
  go_ret2
  exact ⟨rfl, (Ext.refl w).alloc _⟩
set_option maxRecDepth 100000 in
set_option maxHeartbeats 1000000 in
theorem bits_16 (w : World) (G : Good2 w) : Calls Tryd.prog 150 #[.slice none 0 0, .int .u64 16, .int .i64 16, .bool false, .bool false] w fun e w' => e = .returned (.tuple #[.slice none 0 0, .string ⟨#[49, 48]⟩]) ∧ Ext w w' := by
  go_enter Tryd.func150, Tryd.ntmps150
  go_wp2_with (first
    | (go_at_call 166; refine (pow2_16 _).mono ?_; rintro e w1 ⟨rfl, rfl⟩)
    | (go_at_call 167; refine (tz_16 _ (by exact G.ext ((Ext.refl _).alloc _))).mono ?_; rintro e w1 ⟨rfl, rfl⟩))
  go_rounds 2
  rw [conv_fresh _ _ _ 63 2 2 [49, 48] (by kernel_rfl) rfl]
  simp only [Result.andThen]
  rw [Oper.upon_value]
  go_wp2
  go_ret2
  exact ⟨rfl, (Ext.refl w).alloc _⟩
set_option maxRecDepth 100000 in
set_option maxHeartbeats 1000000 in
theorem bits_17 (w : World) (G : Good2 w) : Calls Tryd.prog 150 #[.slice none 0 0, .int .u64 17, .int .i64 16, .bool false, .bool false] w fun e w' => e = .returned (.tuple #[.slice none 0 0, .string ⟨#[49, 49]⟩]) ∧ Ext w w' := by
  go_enter Tryd.func150, Tryd.ntmps150
  go_wp2_with (first
    | (go_at_call 166; refine (pow2_16 _).mono ?_; rintro e w1 ⟨rfl, rfl⟩)
    | (go_at_call 167; refine (tz_16 _ (by exact G.ext ((Ext.refl _).alloc _))).mono ?_; rintro e w1 ⟨rfl, rfl⟩))
  go_rounds 2
  rw [conv_fresh _ _ _ 63 2 2 [49, 49] (by kernel_rfl) rfl]
  simp only [Result.andThen]
  rw [Oper.upon_value]
  go_wp2
  go_ret2
  exact ⟨rfl, (Ext.refl w).alloc _⟩
set_option maxRecDepth 100000 in
set_option maxHeartbeats 1000000 in
theorem bits_18 (w : World) (G : Good2 w) : Calls Tryd.prog 150 #[.slice none 0 0, .int .u64 18, .int .i64 16, .bool false, .bool false] w fun e w' => e = .returned (.tuple #[.slice none 0 0, .string ⟨#[49, 50]⟩]) ∧ Ext w w' := by
  go_enter Tryd.func150, Tryd.ntmps150
  go_wp2_with (first
    | (go_at_call 166; refine (pow2_16 _).mono ?_; rintro e w1 ⟨rfl, rfl⟩)
    | (go_at_call 167; refine (tz_16 _ (by exact G.ext ((Ext.refl _).alloc _))).mono ?_; rintro e w1 ⟨rfl, rfl⟩))
  go_rounds 2
  rw [conv_fresh _ _ _ 63 2 2 [49, 50] (by kernel_rfl) rfl]
  simp only [Result.andThen]
  rw [Oper.upon_value]
  go_wp2
  go_ret2
  exact ⟨rfl, (Ext.refl w).alloc _⟩
set_option maxRecDepth 100000 in
set_option maxHeartbeats 1000000 in
theorem bits_19 (w : World) (G : Good2 w) : Calls Tryd.prog 150 #[.slice none 0 0, .int .u64 19, .int .i64 16, .bool false, .bool false] w fun e w' => e = .returned (.tuple #[.slice none 0 0, .string ⟨#[49, 51]⟩]) ∧ Ext w w' := by
  go_enter Tryd.func150, Tryd.ntmps150
  go_wp2_with (first
    | (go_at_call 166; refine (pow2_16 _).mono ?_; rintro e w1 ⟨rfl, rfl⟩)
    | (go_at_call 167; refine (tz_16 _ (by exact G.ext ((Ext.refl _).alloc _))).mono ?_; rintro e w1 ⟨rfl, rfl⟩))
  go_rounds 2
  rw [conv_fresh _ _ _ 63 2 2 [49, 51] (by kernel_rfl) rfl]
  simp only [Result.andThen]
  rw [Oper.upon_value]
  go_wp2
  go_ret2
  exact ⟨rfl, (Ext.refl w).alloc _⟩
set_option maxRecDepth 100000 in
set_option maxHeartbeats 1000000 in
theorem bits_20 (w : World) (G : Good2 w) : Calls Tryd.prog 150 #[.slice none 0 0, .int .u64 20, .int .i64 16, .bool false, .bool false] w fun e w' => e = .returned (.tuple #[.slice none 0 0, .string ⟨#[49, 52]⟩]) ∧ Ext w w' := by
  go_enter Tryd.func150, Tryd.ntmps150
  go_wp2_with (first
    | (go_at_call 166; refine (pow2_16 _).mono ?_; rintro e w1 ⟨rfl, rfl⟩)
    | (go_at_call 167; refine (tz_16 _ (by exact G.ext ((Ext.refl _).alloc _))).mono ?_; rintro e w1 ⟨rfl, rfl⟩))
  go_rounds 2
  rw [conv_fresh _ _ _ 63 2 2 [49, 52] (by kernel_rfl) rfl]
  simp only [Result.andThen]
  rw [Oper.upon_value]
  go_wp2
  go_ret2
  exact ⟨rfl, (Ext.refl w).alloc _⟩
set_option maxRecDepth 100000 in
set_option maxHeartbeats 1000000 in
theorem bits_21 (w : World) (G : Good2 w) : Calls Tryd.prog 150 #[.slice none 0 0, .int .u64 21, .int .i64 16, .bool false, .bool false] w fun e w' => e = .returned (.tuple #[.slice none 0 0, .string ⟨#[49, 53]⟩]) ∧ Ext w w' := by
  go_enter Tryd.func150, Tryd.ntmps150
  go_wp2_with (first
    | (go_at_call 166; refine (pow2_16 _).mono ?_; rintro e w1 ⟨rfl, rfl⟩)
    | (go_at_call 167; refine (tz_16 _ (by exact G.ext ((Ext.refl _).alloc _))).mono ?_; rintro e w1 ⟨rfl, rfl⟩))
  go_rounds 2
  rw [conv_fresh _ _ _ 63 2 2 [49, 53] (by kernel_rfl) rfl]
  simp only [Result.andThen]
  rw [Oper.upon_value]
  go_wp2
  go_ret2
  exact ⟨rfl, (Ext.refl w).alloc _⟩
set_option maxRecDepth 100000 in
set_option maxHeartbeats 1000000 in
theorem bits_22 (w : World) (G : Good2 w) : Calls Tryd.prog 150 #[.slice none 0 0, .int .u64 22, .int .i64 16, .bool false, .bool false] w fun e w' => e = .returned (.tuple #[.slice none 0 0, .string ⟨#[49, 54]⟩]) ∧ Ext w w' := by
  go_enter Tryd.func150, Tryd.ntmps150
  go_wp2_with (first
    | (go_at_call 166; refine (pow2_16 _).mono ?_; rintro e w1 ⟨rfl, rfl⟩)
    | (go_at_call 167; refine (tz_16 _ (by exact G.ext ((Ext.refl _).alloc _))).mono ?_; rintro e w1 ⟨rfl, rfl⟩))
  go_rounds 2
  rw [conv_fresh _ _ _ 63 2 2 [49, 54] (by kernel_rfl) rfl]
  simp only [Result.andThen]
  rw [Oper.upon_value]
  go_wp2
  go_ret2
  exact ⟨rfl, (Ext.refl w).alloc _⟩
set_option maxRecDepth 100000 in
set_option maxHeartbeats 1000000 in
theorem bits_23 (w : World) (G : Good2 w) : Calls Tryd.prog 150 #[.slice none 0 0, .int .u64 23, .int .i64 16, .bool false, .bool false] w fun e w' => e = .returned (.tuple #[.slice none 0 0, .string ⟨#[49, 55]⟩]) ∧ Ext w w' := by
  go_enter Tryd.func150, Tryd.ntmps150
  go_wp2_with (first
    | (go_at_call 166; refine (pow2_16 _).mono ?_; rintro e w1 ⟨rfl, rfl⟩)
    | (go_at_call 167; refine (tz_16 _ (by exact G.ext ((Ext.refl _).alloc _))).mono ?_; rintro e w1 ⟨rfl, rfl⟩))
  go_rounds 2
  rw [conv_fresh _ _ _ 63 2 2 [49, 55] (by kernel_rfl) rfl]
  simp only [Result.andThen]
  rw [Oper.upon_value]
  go_wp2
  go_ret2
  exact ⟨rfl, (Ext.refl w).alloc _⟩
set_option maxRecDepth 100000 in
set_option maxHeartbeats 1000000 in
theorem bits_24 (w : World) (G : Good2 w) : Calls Tryd.prog 150 #[.slice none 0 0, .int .u64 24, .int .i64 16, .bool false, .bool false] w fun e w' => e = .returned (.tuple #[.slice none 0 0, .string ⟨#[49, 56]⟩]) ∧ Ext w w' := by
  go_enter Tryd.func150, Tryd.ntmps150
  go_wp2_with (first
    | (go_at_call 166; refine (pow2_16 _).mono ?_; rintro e w1 ⟨rfl, rfl⟩)
    | (go_at_call 167; refine (tz_16 _ (by exact G.ext ((Ext.refl _).alloc _))).mono ?_; rintro e w1 ⟨rfl, rfl⟩))
  go_rounds 2
  rw [conv_fresh _ _ _ 63 2 2 [49, 56] (by kernel_rfl) rfl]
  simp only [Result.andThen]
  rw [Oper.upon_value]
  go_wp2
  go_ret2
  exact ⟨rfl, (Ext.refl w).alloc _⟩
set_option maxRecDepth 100000 in
set_option maxHeartbeats 1000000 in
theorem bits_25 (w : World) (G : Good2 w) : Calls Tryd.prog 150 #[.slice none 0 0, .int .u64 25, .int .i64 16, .bool false, .bool false] w fun e w' => e = .returned (.tuple #[.slice none 0 0, .string ⟨#[49, 57]⟩]) ∧ Ext w w' := by
  go_enter Tryd.func150, Tryd.ntmps150
  go_wp2_with (first
    | (go_at_call 166; refine (pow2_16 _).mono ?_; rintro e w1 ⟨rfl, rfl⟩)
    | (go_at_call 167; refine (tz_16 _ (by exact G.ext ((Ext.refl _).alloc _))).mono ?_; rintro e w1 ⟨rfl, rfl⟩))
  go_rounds 2
  rw [conv_fresh _ _ _ 63 2 2 [49, 57] (by kernel_rfl) rfl]
  simp only [Result.andThen]
  rw [Oper.upon_value]
  go_wp2
  go_ret2
  exact ⟨rfl, (Ext.refl w).alloc _⟩
set_option maxRecDepth 100000 in
set_option maxHeartbeats 1000000 in
theorem bits_26 (w : World) (G : Good2 w) : Calls Tryd.prog 150 #[.slice none 0 0, .int .u64 26, .int .i64 16, .bool false, .bool false] w fun e w' => e = .returned (.tuple #[.slice none 0 0, .string ⟨#[49, 97]⟩]) ∧ Ext w w' := by
  go_enter Tryd.func150, Tryd.ntmps150
  go_wp2_with (first
    | (go_at_call 166; refine (pow2_16 _).mono ?_; rintro e w1 ⟨rfl, rfl⟩)
    | (go_at_call 167; refine (tz_16 _ (by exact G.ext ((Ext.refl _).alloc _))).mono ?_; rintro e w1 ⟨rfl, rfl⟩))
  go_rounds 2
  rw [conv_fresh _ _ _ 63 2 2 [49, 97] (by kernel_rfl) rfl]
  simp only [Result.andThen]
  rw [Oper.upon_value]
  go_wp2
  go_ret2
  exact ⟨rfl, (Ext.refl w).alloc _⟩
set_option maxRecDepth 100000 in
set_option maxHeartbeats 1000000 in
theorem bits_27 (w : World) (G : Good2 w) : Calls Tryd.prog 150 #[.slice none 0 0, .int .u64 27, .int .i64 16, .bool false, .bool false] w fun e w' => e = .returned (.tuple #[.slice none 0 0, .string ⟨#[49, 98]⟩]) ∧ Ext w w' := by
  go_enter Tryd.func150, Tryd.ntmps150
  go_wp2_with (first
    | (go_at_call 166; refine (pow2_16 _).mono ?_; rintro e w1 ⟨rfl, rfl⟩)
    | (go_at_call 167; refine (tz_16 _ (by exact G.ext ((Ext.refl _).alloc _))).mono ?_; rintro e w1 ⟨rfl, rfl⟩))
  go_rounds 2
  rw [conv_fresh _ _ _ 63 2 2 [49, 98] (by kernel_rfl) rfl]
  simp only [Result.andThen]
  rw [Oper.upon_value]
  go_wp2
  go_ret2
  exact ⟨rfl, (Ext.refl w).alloc _⟩
set_option maxRecDepth 100000 in
set_option maxHeartbeats 1000000 in
theorem bits_28 (w : World) (G : Good2 w) : Calls Tryd.prog 150 #[.slice none 0 0, .int .u64 28, .int .i64 16, .bool false, .bool false] w fun e w' => e = .returned (.tuple #[.slice none 0 0, .string ⟨#[49, 99]⟩]) ∧ Ext w w' := by
  go_enter Tryd.func150, Tryd.ntmps150
  go_wp2_with (first
    | (go_at_call 166; refine (pow2_16 _).mono ?_; rintro e w1 ⟨rfl, rfl⟩)
    | (go_at_call 167; refine (tz_16 _ (by exact G.ext ((Ext.refl _).alloc _))).mono ?_; rintro e w1 ⟨rfl, rfl⟩))
  go_rounds 2
  rw [conv_fresh _ _ _ 63 2 2 [49, 99] (by kernel_rfl) rfl]
  simp only [Result.andThen]
  rw [Oper.upon_value]
  go_wp2
  go_ret2
  exact ⟨rfl, (Ext.refl w).alloc _⟩
set_option maxRecDepth 100000 in
set_option maxHeartbeats 1000000 in
theorem bits_29 (w : World) (G : Good2 w) : Calls Tryd.prog 150 #[.slice none 0 0, .int .u64 29, .int .i64 16, .bool false, .bool false] w fun e w' => e = .returned (.tuple #[.slice none 0 0, .string ⟨#[49, 100]⟩]) ∧ Ext w w' := by
  go_enter Tryd.func150, Tryd.ntmps150
  go_wp2_with (first
    | (go_at_call 166; refine (pow2_16 _).mono ?_; rintro e w1 ⟨rfl, rfl⟩)
    | (go_at_call 167; refine (tz_16 _ (by exact G.ext ((Ext.refl _).alloc _))).mono ?_; rintro e w1 ⟨rfl, rfl⟩))
  go_rounds 2
  rw [conv_fresh _ _ _ 63 2 2 [49, 100] (by kernel_rfl) rfl]
  simp only [Result.andThen]
  rw [Oper.upon_value]
  go_wp2
  go_ret2
  exact ⟨rfl, (Ext.refl w).alloc _⟩
set_option maxRecDepth 100000 in
set_option maxHeartbeats 1000000 in
theorem bits_30 (w : World) (G : Good2 w) : Calls Tryd.prog 150 #[.slice none 0 0, .int .u64 30, .int .i64 16, .bool false, .bool false] w fun e w' => e = .returned (.tuple #[.slice none 0 0, .string ⟨#[49, 101]⟩]) ∧ Ext w w' := by
  go_enter Tryd.func150, Tryd.ntmps150
  go_wp2_with (first
    | (go_at_call 166; refine (pow2_16 _).mono ?_; rintro e w1 ⟨rfl, rfl⟩)
    | (go_at_call 167; refine (tz_16 _ (by exact G.ext ((Ext.refl _).alloc _))).mono ?_; rintro e w1 ⟨rfl, rfl⟩))
  go_rounds 2
  rw [conv_fresh _ _ _ 63 2 2 [49, 101] (by kernel_rfl) rfl]
  simp only [Result.andThen]
  rw [Oper.upon_value]
  go_wp2
  go_ret2
  exact ⟨rfl, (Ext.refl w).alloc _⟩
set_option maxRecDepth 100000 in
set_option maxHeartbeats 1000000 in
theorem bits_31 (w : World) (G : Good2 w) : Calls Tryd.prog 150 #[.slice none 0 0, .int .u64 31, .int .i64 16, .bool false, .bool false] w fun e w' => e = .returned (.tuple #[.slice none 0 0, .string ⟨#[49, 102]⟩]) ∧ Ext w w' := by
  go_enter Tryd.func150, Tryd.ntmps150
  go_wp2_with (first
    | (go_at_call 166; refine (pow2_16 _).mono ?_; rintro e w1 ⟨rfl, rfl⟩)
    | (go_at_call 167; refine (tz_16 _ (by exact G.ext ((Ext.refl _).alloc _))).mono ?_; rintro e w1 ⟨rfl, rfl⟩))
  go_rounds 2
  rw [conv_fresh _ _ _ 63 2 2 [49, 102] (by kernel_rfl) rfl]
  simp only [Result.andThen]
  rw [Oper.upon_value]
  go_wp2
  go_ret2
  exact ⟨rfl, (Ext.refl w).alloc _⟩
set_option maxRecDepth 100000 in
set_option maxHeartbeats 1000000 in
theorem bits_127 (w : World) (G : Good2 w) : Calls Tryd.prog 150 #[.slice none 0 0, .int .u64 127, .int .i64 16, .bool false, .bool false] w fun e w' => e = .returned (.tuple #[.slice none 0 0, .string ⟨#[55, 102]⟩]) ∧ Ext w w' := by
  go_enter Tryd.func150, Tryd.ntmps150
  go_wp2_with (first
    | (go_at_call 166; refine (pow2_16 _).mono ?_; rintro e w1 ⟨rfl, rfl⟩)
    | (go_at_call 167; refine (tz_16 _ (by exact G.ext ((Ext.refl _).alloc _))).mono ?_; rintro e w1 ⟨rfl, rfl⟩))
  go_rounds 2
  rw [conv_fresh _ _ _ 63 2 2 [55, 102] (by kernel_rfl) rfl]
  simp only [Result.andThen]
  rw [Oper.upon_value]
  go_wp2
  go_ret2
  exact ⟨rfl, (Ext.refl w).alloc _⟩
def hexS (c : Nat) : ByteArray := if c < 16 then ⟨#[hexD c]⟩ else ⟨#[hexD (c / 16), hexD (c % 16)]⟩
theorem bits_ctrl (c : Nat) (w : World) (h : c < 32 ∨ c = 127) (G : Good2 w) : Calls Tryd.prog 150 #[.slice none 0 0, .int .u64 c, .int .i64 16, .bool false, .bool false] w fun e w' => e = .returned (.tuple #[.slice none 0 0, .string (hexS c)]) ∧ Ext w w' := by
  have hc : c = 0 ∨ c = 1 ∨ c = 2 ∨ c = 3 ∨ c = 4 ∨ c = 5 ∨ c = 6 ∨ c = 7 ∨ c = 8 ∨ c = 9 ∨ c = 10 ∨ c = 11 ∨ c = 12 ∨ c = 13 ∨ c = 14 ∨ c = 15 ∨ c = 16 ∨ c = 17 ∨ c = 18 ∨ c = 19 ∨ c = 20 ∨ c = 21 ∨ c = 22 ∨ c = 23 ∨ c = 24 ∨ c = 25 ∨ c = 26 ∨ c = 27 ∨ c = 28 ∨ c = 29 ∨ c = 30 ∨ c = 31 ∨ c = 127 := by omega
  rcases hc with rfl | rfl | rfl | rfl | rfl | rfl | rfl | rfl | rfl | rfl | rfl | rfl | rfl | rfl | rfl | rfl | rfl | rfl | rfl | rfl | rfl | rfl | rfl | rfl | rfl | rfl | rfl | rfl | rfl | rfl | rfl | rfl | rfl
  · exact bits_0 w G
  · exact bits_1 w G
  · exact bits_2 w G
  · exact bits_3 w G
  · exact bits_4 w G
  · exact bits_5 w G
  · exact bits_6 w G
  · exact bits_7 w G
  · exact bits_8 w G
  · exact bits_9 w G
  · exact bits_10 w G
  · exact bits_11 w G
  · exact bits_12 w G
  · exact bits_13 w G
  · exact bits_14 w G
  · exact bits_15 w G
  · exact bits_16 w G
  · exact bits_17 w G
  · exact bits_18 w G
  · exact bits_19 w G
  · exact bits_20 w G
  · exact bits_21 w G
  · exact bits_22 w G
  · exact bits_23 w G
  · exact bits_24 w G
  · exact bits_25 w G
  · exact bits_26 w G
  · exact bits_27 w G
  · exact bits_28 w G
  · exact bits_29 w G
  · exact bits_30 w G
  · exact bits_31 w G
  · exact bits_127 w G
set_option maxRecDepth 100000 in
set_option maxHeartbeats 400000 in
theorem inner_hex (c : Nat) (w : World) (h : c < 32 ∨ c = 127) (G : Good2 w) : Calls Tryd.prog 151 #[.int .u64 c, .int .i64 16] w fun e w' => e = .returned (.string (hexS c)) ∧ Ext w w' := by
  have H := Lib.hid h
  clear h
  go_enter Tryd.func151, Tryd.ntmps151
  go_wp2_with (go_at_call 150; refine (bits_ctrl c _ H.out G).mono ?_; rintro e w1 ⟨rfl, x1⟩)
  go_ret
  exact ⟨rfl, x1⟩
set_option maxRecDepth 100000 in
set_option maxHeartbeats 400000 in
theorem hex_any (c : Nat) (w : World) (h : c < 32 ∨ c = 127) (G : Good2 w) : Calls Tryd.prog 137 #[.int .u64 c, .int .i64 16] w fun e w' => e = .returned (.string (hexS c)) ∧ Ext w w' := by
  have H := Lib.hid h
  clear h
  go_enter Tryd.func137, Tryd.ntmps137
  go_wp2_with (go_at_call 151; refine (inner_hex c _ H.out G).mono ?_; rintro e w1 ⟨rfl, x1⟩)
  go_ret
  exact ⟨rfl, x1⟩
end Go.Proofs.YtngeioghihbkeaaDoor
namespace Go.Proofs.YtngeioghihbkeaaDoor
open Go.RowKit

theorem _root_.Go.Lib.BuilderAt.ext {T e : TypeId} {B b : Nat} {p : Value} {bs : List Value} {w w' : World} (h : Lib.BuilderAt T e B b p bs w) (x : Ext w w') : Lib.BuilderAt T e B b p bs w' := by
  obtain ⟨hB, v, hb, hown, hne⟩ := h
  refine ⟨hB, v, x.heap hb, ⟨hown.1, ?_⟩, hne⟩
  rcases hown.2 with hn | ⟨g, cap, cur, hv, hbg, hg, rest⟩
  · exact .inl hn
  · exact .inr ⟨g, cap, cur, hv, hbg, x.heap hg, rest⟩
set_option maxRecDepth 100000 in
set_option maxHeartbeats 2000000 in
theorem quoted_any (s : ByteArray) (w : World) (hs : s.size ≤ 1000000) (G : Good2 w) :
    Calls Tryd.prog 110 #[.string s] w fun e w' => e = .returned (.string ⟨(quotedT s.data.toList).toArray⟩) ∧ Ext w w' := by
  go_enter Tryd.func110, Tryd.ntmps110
  go_wp2_with (go_at_call 133; refine (writeByte_any w.heap.size w.heap.size (Lib.byteCells []) 39 _ (fresh_builder w) (by simp [Lib.byteCells]) (by simp)).mono ?_; rintro e w1 ⟨rfl, hw1⟩)
  obtain ⟨hat, x1⟩ := hw1
  go_loopw [4] (fun v wr => ∃ k : Nat, k ≤ s.size ∧ v = .int .i64 k ∧ Lib.BuilderAt 185 5 w.heap.size w.heap.size (.pointer (some ⟨w.heap.size, 0, none⟩)) (Lib.byteCells (39 :: (s.data.toList.take k).flatMap esc)) wr ∧ Ext w wr) (fun v _ => s.size - (intOf v).toNat)
  case atStart => exact ⟨0, Nat.zero_le _, rfl, by simpa [Lib.byteCells] using hat, Below.trans ((Ext.refl w).alloc _) x1⟩
  case round =>
    obtain ⟨k, hk, rfl, hb, er⟩ := hrel
    have hlen : (Lib.byteCells (39 :: (s.data.toList.take k).flatMap esc)).length ≤ 4000001 := by
      have := flat_len (s.data.toList.take k)
      have h2 : (s.data.toList.take k).length ≤ k := List.length_take_le _ _
      rw [Lib.byteCells_length, List.length_cons]
      omega
    have HLn := Lib.hid hlen
    have HB := Lib.hid hb
    have hsz := er.size
    clear hlen hb
    by_cases hlt : k < s.size
    · have HT := Lib.hid (take_flat hlt)
      by_cases h39 : s[k].toNat = 39
      · have hc : s[k].toNat = (39 : UInt8).toNat := h39
        have z39 : ((s[k].toNat : Int) == 39) = true := by simp; omega
        have HE : Hid (esc s[k] = [39, 39]) := Lib.hid (by rw [show s[k] = 39 from UInt8.toNat_inj.1 hc]; rfl)
        go_wp2_with (go_at_call 112; refine (writeString_any w.heap.size w.heap.size _ ⟨#[39, 39]⟩ _ (.inr HB.out) (by have := HLn.out; simp [ByteArray.size]; omega) (by omega)).mono ?_; rintro e w2 ⟨rfl, hw2⟩)
        go_roundw
        case rel =>
          refine ⟨k + 1, by omega, by go_num, ?_, Below.trans er hw2.2⟩
          have h2 := hw2.1
          have e1 : Lib.byteCells (39 :: (s.data.toList.take k).flatMap esc) ++ Lib.strCells ⟨#[39, 39]⟩ = Lib.byteCells (39 :: (s.data.toList.take (k + 1)).flatMap esc) := by
            rw [HT.out, HE.out, ← List.cons_append, cells_append]
            rfl
          rw [e1] at h2
          exact h2
        case measure => simp [intOf]; omega
      by_cases h92 : s[k].toNat = 92
      · have hc : s[k].toNat = (92 : UInt8).toNat := h92
        have z39 : ((s[k].toNat : Int) == 39) = false := by simp; omega
        have z92 : ((s[k].toNat : Int) == 92) = true := by simp; omega
        have HE : Hid (esc s[k] = [92, 92]) := Lib.hid (by rw [show s[k] = 92 from UInt8.toNat_inj.1 hc]; rfl)
        go_wp2_with (go_at_call 112; refine (writeString_any w.heap.size w.heap.size _ ⟨#[92, 92]⟩ _ (.inr HB.out) (by have := HLn.out; simp [ByteArray.size]; omega) (by omega)).mono ?_; rintro e w2 ⟨rfl, hw2⟩)
        go_roundw
        case rel =>
          refine ⟨k + 1, by omega, by go_num, ?_, Below.trans er hw2.2⟩
          have h2 := hw2.1
          have e1 : Lib.byteCells (39 :: (s.data.toList.take k).flatMap esc) ++ Lib.strCells ⟨#[92, 92]⟩ = Lib.byteCells (39 :: (s.data.toList.take (k + 1)).flatMap esc) := by
            rw [HT.out, HE.out, ← List.cons_append, cells_append]
            rfl
          rw [e1] at h2
          exact h2
        case measure => simp [intOf]; omega
      by_cases h10 : s[k].toNat = 10
      · have hc : s[k].toNat = (10 : UInt8).toNat := h10
        have z39 : ((s[k].toNat : Int) == 39) = false := by simp; omega
        have z92 : ((s[k].toNat : Int) == 92) = false := by simp; omega
        have z10 : ((s[k].toNat : Int) == 10) = true := by simp; omega
        have HE : Hid (esc s[k] = [92, 110]) := Lib.hid (by rw [show s[k] = 10 from UInt8.toNat_inj.1 hc]; rfl)
        go_wp2_with (go_at_call 112; refine (writeString_any w.heap.size w.heap.size _ ⟨#[92, 110]⟩ _ (.inr HB.out) (by have := HLn.out; simp [ByteArray.size]; omega) (by omega)).mono ?_; rintro e w2 ⟨rfl, hw2⟩)
        go_roundw
        case rel =>
          refine ⟨k + 1, by omega, by go_num, ?_, Below.trans er hw2.2⟩
          have h2 := hw2.1
          have e1 : Lib.byteCells (39 :: (s.data.toList.take k).flatMap esc) ++ Lib.strCells ⟨#[92, 110]⟩ = Lib.byteCells (39 :: (s.data.toList.take (k + 1)).flatMap esc) := by
            rw [HT.out, HE.out, ← List.cons_append, cells_append]
            rfl
          rw [e1] at h2
          exact h2
        case measure => simp [intOf]; omega
      by_cases h13 : s[k].toNat = 13
      · have hc : s[k].toNat = (13 : UInt8).toNat := h13
        have z39 : ((s[k].toNat : Int) == 39) = false := by simp; omega
        have z92 : ((s[k].toNat : Int) == 92) = false := by simp; omega
        have z10 : ((s[k].toNat : Int) == 10) = false := by simp; omega
        have z13 : ((s[k].toNat : Int) == 13) = true := by simp; omega
        have HE : Hid (esc s[k] = [92, 114]) := Lib.hid (by rw [show s[k] = 13 from UInt8.toNat_inj.1 hc]; rfl)
        go_wp2_with (go_at_call 112; refine (writeString_any w.heap.size w.heap.size _ ⟨#[92, 114]⟩ _ (.inr HB.out) (by have := HLn.out; simp [ByteArray.size]; omega) (by omega)).mono ?_; rintro e w2 ⟨rfl, hw2⟩)
        go_roundw
        case rel =>
          refine ⟨k + 1, by omega, by go_num, ?_, Below.trans er hw2.2⟩
          have h2 := hw2.1
          have e1 : Lib.byteCells (39 :: (s.data.toList.take k).flatMap esc) ++ Lib.strCells ⟨#[92, 114]⟩ = Lib.byteCells (39 :: (s.data.toList.take (k + 1)).flatMap esc) := by
            rw [HT.out, HE.out, ← List.cons_append, cells_append]
            rfl
          rw [e1] at h2
          exact h2
        case measure => simp [intOf]; omega
      by_cases h9 : s[k].toNat = 9
      · have hc : s[k].toNat = (9 : UInt8).toNat := h9
        have z39 : ((s[k].toNat : Int) == 39) = false := by simp; omega
        have z92 : ((s[k].toNat : Int) == 92) = false := by simp; omega
        have z10 : ((s[k].toNat : Int) == 10) = false := by simp; omega
        have z13 : ((s[k].toNat : Int) == 13) = false := by simp; omega
        have z9 : ((s[k].toNat : Int) == 9) = true := by simp; omega
        have HE : Hid (esc s[k] = [92, 116]) := Lib.hid (by rw [show s[k] = 9 from UInt8.toNat_inj.1 hc]; rfl)
        go_wp2_with (go_at_call 112; refine (writeString_any w.heap.size w.heap.size _ ⟨#[92, 116]⟩ _ (.inr HB.out) (by have := HLn.out; simp [ByteArray.size]; omega) (by omega)).mono ?_; rintro e w2 ⟨rfl, hw2⟩)
        go_roundw
        case rel =>
          refine ⟨k + 1, by omega, by go_num, ?_, Below.trans er hw2.2⟩
          have h2 := hw2.1
          have e1 : Lib.byteCells (39 :: (s.data.toList.take k).flatMap esc) ++ Lib.strCells ⟨#[92, 116]⟩ = Lib.byteCells (39 :: (s.data.toList.take (k + 1)).flatMap esc) := by
            rw [HT.out, HE.out, ← List.cons_append, cells_append]
            rfl
          rw [e1] at h2
          exact h2
        case measure => simp [intOf]; omega
      by_cases hctl : s[k].toNat < 32 ∨ s[k].toNat = 127
      · have HC := Lib.hid hctl
        have z39 : ((s[k].toNat : Int) == 39) = false := by simp; omega
        have z92 : ((s[k].toNat : Int) == 92) = false := by simp; omega
        have z10 : ((s[k].toNat : Int) == 10) = false := by simp; omega
        have z13 : ((s[k].toNat : Int) == 13) = false := by simp; omega
        have z9 : ((s[k].toNat : Int) == 9) = false := by simp; omega
        have hlt8 : s[k].toNat < 256 := s[k].toNat_lt
        have HE : Hid (esc s[k] = [92, 120, hexD (s[k].toNat / 16), hexD (s[k].toNat % 16)]) := Lib.hid (by
          have ne : ∀ c : UInt8, ¬ s[k].toNat = c.toNat → ¬ s[k] = c := fun c h e => h (by rw [e])
          unfold esc
          rw [if_neg (ne 39 h39), if_neg (ne 92 h92), if_neg (ne 10 h10), if_neg (ne 13 h13), if_neg (ne 9 h9), if_pos ?_]
          rcases HC.out with h | h
          · exact .inl (UInt8.lt_iff_toNat_lt.2 h)
          · exact .inr (UInt8.toNat_inj.1 h))
        have hgx : Good2 wr := G.ext er
        have e16 : ∀ x y : List UInt8, Lib.byteCells (39 :: x) ++ Lib.byteCells y = Lib.byteCells (39 :: (x ++ y)) := fun x y => by rw [← List.cons_append, cells_append]
        have E16 := Lib.hid e16
        clear e16
        have hcase : (s[k].toNat < 32 ∧ (decide ((s[k].toNat : Int) < 32) = true)) ∨ (decide ((s[k].toNat : Int) < 32) = false ∧ ((s[k].toNat : Int) == 127) = true) := by
          rcases HC.out with h | h
          · exact .inl ⟨h, by simp; omega⟩
          · exact .inr ⟨by simp; omega, by simp; omega⟩
        by_cases h16 : s[k].toNat < 16
        · have hx : hexS s[k].toNat = ⟨#[hexD s[k].toNat]⟩ := by unfold hexS; rw [if_pos h16]
          have hq := hex_any s[k].toNat wr HC.out hgx
          rw [hx] at hq
          have HQ := Lib.hid hq
          have hd : hexD (s[k].toNat / 16) = 48 ∧ hexD (s[k].toNat % 16) = hexD s[k].toNat := by
            rw [show s[k].toNat / 16 = 0 by omega, show s[k].toNat % 16 = s[k].toNat by omega]; exact ⟨rfl, rfl⟩
          have HD := Lib.hid hd
          clear hx hq hd hcase
          have z32 : decide ((s[k].toNat : Int) < 32) = true := by simp; omega
          obtain ⟨hb8, hhb⟩ : ∃ b, hexD s[k].toNat = b := ⟨_, rfl⟩
          rw [hhb] at HQ HD
          clear hhb
          go_wp2_with (first
            | (go_at_call 137; refine HQ.out.mono ?_; rintro e w1 ⟨rfl, x1⟩)
            | (go_at_call 138; refine (repeat1 _ _).mono ?_; rintro e w3 ⟨rfl, rfl⟩)
            | (go_at_call 112; refine (writeString_any w.heap.size w.heap.size _ ⟨#[92, 120, 48, hb8]⟩ _ (.inr (HB.out.ext x1)) (by have := HLn.out; simp [ByteArray.size]; omega) (by have := x1.size; omega)).mono ?_; rintro e w2 ⟨rfl, hw2⟩))
          go_roundw
          case rel =>
            refine ⟨k + 1, by omega, by go_num, ?_, Below.trans (er.trans x1) hw2.2⟩
            have h2 := hw2.1
            have e1 : Lib.byteCells (39 :: (s.data.toList.take k).flatMap esc) ++ Lib.strCells ⟨#[92, 120, 48, hb8]⟩ = Lib.byteCells (39 :: (s.data.toList.take (k + 1)).flatMap esc) := by
              rw [HT.out, HE.out, HD.out.1, HD.out.2]
              exact E16.out _ [92, 120, 48, hb8]
            rw [e1] at h2
            exact h2
          case measure => simp [intOf]; omega
        · have hx : hexS s[k].toNat = ⟨#[hexD (s[k].toNat / 16), hexD (s[k].toNat % 16)]⟩ := by unfold hexS; rw [if_neg h16]
          have hq := hex_any s[k].toNat wr HC.out hgx
          rw [hx] at hq
          have HQ := Lib.hid hq
          clear hx hq
          obtain ⟨hb8, hhb⟩ : ∃ b, hexD (s[k].toNat / 16) = b := ⟨_, rfl⟩
          obtain ⟨hc8, hhc⟩ : ∃ b, hexD (s[k].toNat % 16) = b := ⟨_, rfl⟩
          rw [hhb, hhc] at HQ HE
          clear hhb hhc
          rcases hcase with ⟨_, z32⟩ | ⟨z32, z127⟩
          all_goals
            go_wp2_with (first
              | (go_at_call 137; refine HQ.out.mono ?_; rintro e w1 ⟨rfl, x1⟩)
              | (go_at_call 138; refine (repeat0 _ _).mono ?_; rintro e w3 ⟨rfl, rfl⟩)
              | (go_at_call 112; refine (writeString_any w.heap.size w.heap.size _ ⟨#[92, 120, hb8, hc8]⟩ _ (.inr (HB.out.ext x1)) (by have := HLn.out; simp [ByteArray.size]; omega) (by have := x1.size; omega)).mono ?_; rintro e w2 ⟨rfl, hw2⟩))
            go_roundw
            case rel =>
              refine ⟨k + 1, by omega, by go_num, ?_, Below.trans (er.trans x1) hw2.2⟩
              have h2 := hw2.1
              have e1 : Lib.byteCells (39 :: (s.data.toList.take k).flatMap esc) ++ Lib.strCells ⟨#[92, 120, hb8, hc8]⟩ = Lib.byteCells (39 :: (s.data.toList.take (k + 1)).flatMap esc) := by
                rw [HT.out, HE.out]
                exact E16.out _ [92, 120, hb8, hc8]
              rw [e1] at h2
              exact h2
            case measure => simp [intOf]; omega
      have hpl : 32 ≤ s[k].toNat ∧ ¬ s[k].toNat = 127 := ⟨by omega, by omega⟩
      have z39 : ((s[k].toNat : Int) == 39) = false := by simp; omega
      have z92 : ((s[k].toNat : Int) == 92) = false := by simp; omega
      have z10 : ((s[k].toNat : Int) == 10) = false := by simp; omega
      have z13 : ((s[k].toNat : Int) == 13) = false := by simp; omega
      have z9 : ((s[k].toNat : Int) == 9) = false := by simp; omega
      have z127 : ((s[k].toNat : Int) == 127) = false := by simp; omega
      have h32 : (32 : Int) ≤ (s[k].toNat : Int) := by omega
      have HE : Hid (esc s[k] = [s[k]]) := Lib.hid (by
        have ne : ∀ c : UInt8, ¬ s[k].toNat = c.toNat → ¬ s[k] = c := fun c h e => h (by rw [e])
        unfold esc
        rw [if_neg (ne 39 h39), if_neg (ne 92 h92), if_neg (ne 10 (by show ¬ s[k].toNat = 10; omega)), if_neg (ne 13 (by show ¬ s[k].toNat = 13; omega)), if_neg (ne 9 (by show ¬ s[k].toNat = 9; omega)), if_neg ?_]
        rintro (h | h)
        · have := UInt8.lt_iff_toNat_lt.1 h
          have e32 : (32 : UInt8).toNat = 32 := rfl
          omega
        · exact hpl.2 (by rw [h]; rfl))
      go_wp2_with (go_at_call 133; refine (writeByte_any w.heap.size w.heap.size _ (s[k].toNat : Int) _ (.inr HB.out) (by have := HLn.out; omega) (by omega)).mono ?_; rintro e w2 ⟨rfl, hw2⟩)
      go_roundw
      case rel =>
        refine ⟨k + 1, by omega, by go_num, ?_, Below.trans er hw2.2⟩
        have h2 := hw2.1
        have e1 : Lib.byteCells (39 :: (s.data.toList.take k).flatMap esc) ++ [Value.int .u8 (s[k].toNat : Int)] = Lib.byteCells (39 :: (s.data.toList.take (k + 1)).flatMap esc) := by
          rw [HT.out, HE.out, ← List.cons_append, cells_append]
          rfl
        rw [e1] at h2
        exact h2
      case measure => simp [intOf]; omega
    · have e1 : k = s.size := by omega
      have htk : s.data.toList.take k = s.data.toList := List.take_of_length_le (by simp; omega)
      rw [htk] at HB HLn
      have HK := Lib.hid e1
      clear e1 htk
      have m1 : True := trivial
      go_wp2_with (first
        | (go_at_call 133; refine (writeByte_any w.heap.size w.heap.size _ 39 _ (.inr HB.out) (by have := HLn.out; omega) (by omega)).mono ?_; rintro e w2 ⟨rfl, hw2⟩; have hb2 : Lib.IsBuilder 185 5 w.heap.size w.heap.size (Lib.byteCells (quotedT s.data.toList)) w2 := (by have h2 := hw2.1; have e2 : Lib.byteCells (39 :: s.data.toList.flatMap esc) ++ [Value.int .u8 39] = Lib.byteCells (quotedT s.data.toList) := (by unfold quotedT; rw [← List.cons_append, cells_append]; rfl); rw [e2] at h2; exact .inr h2); have X2 : Ext w w2 := Below.trans er hw2.2; have HB2 := Lib.hid hb2; clear hb2 hw2)
        | (go_at_call 113; refine (string_any w.heap.size w.heap.size (quotedT s.data.toList) _ HB2.out X2.size).mono ?_; rintro e w3 ⟨rfl, x3⟩))
      go_ret
      exact ⟨rfl, Below.trans X2 x3⟩
end Go.Proofs.YtngeioghihbkeaaDoor
