/- datum.quoted at texts without control bytes: what it answers. Conditions: such a text, not too long. -/
import Derived.Test.YtobgfegdfcpgfaaDoorBuild
namespace Go.Proofs.YtobgfegdfcpgfaaDoor
open Go.RowKit

def hexD (n : Nat) : UInt8 := if n < 10 then UInt8.ofNat (48 + n) else UInt8.ofNat (87 + n)
/-- how a byte is written -/
def esc (c : UInt8) : List UInt8 :=
  if c = 39 then [39, 39] else if c = 92 then [92, 92] else if c = 10 then [92, 110] else if c = 13 then [92, 114] else if c = 9 then [92, 116]
  else if c < 32 ∨ c = 127 then [92, 120, hexD (c.toNat / 16), hexD (c.toNat % 16)] else [c]
def quotedT (l : List UInt8) : List UInt8 := 39 :: (l.flatMap esc ++ [39])
theorem esc_len (c : UInt8) : (esc c).length ≤ 4 := by
  unfold esc
  repeat' split
  all_goals simp
theorem flat_len : ∀ l : List UInt8, (l.flatMap esc).length ≤ 4 * l.length
  | [] => by simp
  | c :: l => by
    have h1 := esc_len c
    have h2 := flat_len l
    simp only [List.flatMap_cons, List.length_append, List.length_cons]
    omega
theorem cells_append (l m : List UInt8) : Lib.byteCells (l ++ m) = Lib.byteCells l ++ Lib.byteCells m := by simp [Lib.byteCells]

theorem take_flat {s : ByteArray} {k : Nat} (h : k < s.size) : (s.data.toList.take (k + 1)).flatMap esc = (s.data.toList.take k).flatMap esc ++ esc s[k] := by
  have h' : k < s.data.toList.length := by simpa using h
  rw [List.take_succ_eq_append_getElem h', List.flatMap_append]
  simp
  rfl

theorem fresh_builder (w : World) : Lib.IsBuilder 91 5 w.heap.size w.heap.size (Lib.byteCells []) (w.alloc (.cells #[.pointer none, .slice none 0 0] 91)) :=
  .inl ⟨Nat.le_refl _, .slice none 0 0, heap_alloc_new w _, World.ownsRow_nil _ _ _ _, by simp [Value.ownBlock]⟩

set_option maxRecDepth 100000 in
set_option maxHeartbeats 2000000 in
theorem quoted_plain (s : ByteArray) (w : World) (hs : s.size ≤ 1000000) (hp : ∀ k (h : k < s.size), 32 ≤ s[k].toNat ∧ ¬ s[k].toNat = 127) :
    Calls Tryd.prog 56 #[.string s] w fun e w' => e = .returned (.string ⟨(quotedT s.data.toList).toArray⟩) ∧ Ext w w' := by
  have HP := Lib.hid hp
  clear hp
  go_enter Tryd.func56, Tryd.ntmps56
  go_wp2_with (go_at_call 92; refine (writeByte_any w.heap.size w.heap.size (Lib.byteCells []) 39 _ (fresh_builder w) (by simp [Lib.byteCells]) (by simp)).mono ?_; rintro e w1 ⟨rfl, hw1⟩)
  obtain ⟨hat, x1⟩ := hw1
  go_loopw [4] (fun v wr => ∃ k : Nat, k ≤ s.size ∧ v = .int .i64 k ∧ Lib.BuilderAt 91 5 w.heap.size w.heap.size (.pointer (some ⟨w.heap.size, 0, none⟩)) (Lib.byteCells (39 :: (s.data.toList.take k).flatMap esc)) wr ∧ Ext w wr) (fun v _ => s.size - (intOf v).toNat)
  case atStart => exact ⟨0, Nat.zero_le _, rfl, by simpa [Lib.byteCells] using hat, Below.trans ((Ext.refl w).alloc _) x1⟩
  case round =>
    obtain ⟨k, hk, rfl, hb, er⟩ := hrel
    have hlen : (Lib.byteCells (39 :: (s.data.toList.take k).flatMap esc)).length ≤ 4000001 := by
      have := flat_len (s.data.toList.take k)
      have h2 : (s.data.toList.take k).length ≤ k := List.length_take_le _ _
      rw [Lib.byteCells_length, List.length_cons]
      omega
    have HLn := Lib.hid hlen
    have HB := Lib.hid hb
    have hsz := er.size
    clear hlen hb
    by_cases hlt : k < s.size
    · have hpl := HP.out k hlt
      have HT := Lib.hid (take_flat hlt)
      by_cases h39 : s[k].toNat = 39
      · have hc : s[k].toNat = (39 : UInt8).toNat := h39
        have z39 : ((s[k].toNat : Int) == 39) = true := by simp; omega
        have HE : Hid (esc s[k] = [39, 39]) := Lib.hid (by rw [show s[k] = 39 from UInt8.toNat_inj.1 hc]; rfl)
        go_wp2_with (go_at_call 93; refine (writeString_any w.heap.size w.heap.size _ ⟨#[39, 39]⟩ _ (.inr HB.out) (by have := HLn.out; simp [ByteArray.size]; omega) (by omega)).mono ?_; rintro e w2 ⟨rfl, hw2⟩)
        go_roundw
        case rel =>
          refine ⟨k + 1, by omega, by go_num, ?_, Below.trans er hw2.2⟩
          have h2 := hw2.1
          have e1 : Lib.byteCells (39 :: (s.data.toList.take k).flatMap esc) ++ Lib.strCells ⟨#[39, 39]⟩ = Lib.byteCells (39 :: (s.data.toList.take (k + 1)).flatMap esc) := by
            rw [HT.out, HE.out, ← List.cons_append, cells_append]
            rfl
          rw [e1] at h2
          exact h2
        case measure => simp [intOf]; omega
      by_cases h92 : s[k].toNat = 92
      · have hc : s[k].toNat = (92 : UInt8).toNat := h92
        have z39 : ((s[k].toNat : Int) == 39) = false := by simp; omega
        have z92 : ((s[k].toNat : Int) == 92) = true := by simp; omega
        have HE : Hid (esc s[k] = [92, 92]) := Lib.hid (by rw [show s[k] = 92 from UInt8.toNat_inj.1 hc]; rfl)
        go_wp2_with (go_at_call 93; refine (writeString_any w.heap.size w.heap.size _ ⟨#[92, 92]⟩ _ (.inr HB.out) (by have := HLn.out; simp [ByteArray.size]; omega) (by omega)).mono ?_; rintro e w2 ⟨rfl, hw2⟩)
        go_roundw
        case rel =>
          refine ⟨k + 1, by omega, by go_num, ?_, Below.trans er hw2.2⟩
          have h2 := hw2.1
          have e1 : Lib.byteCells (39 :: (s.data.toList.take k).flatMap esc) ++ Lib.strCells ⟨#[92, 92]⟩ = Lib.byteCells (39 :: (s.data.toList.take (k + 1)).flatMap esc) := by
            rw [HT.out, HE.out, ← List.cons_append, cells_append]
            rfl
          rw [e1] at h2
          exact h2
        case measure => simp [intOf]; omega
      have z39 : ((s[k].toNat : Int) == 39) = false := by simp; omega
      have z92 : ((s[k].toNat : Int) == 92) = false := by simp; omega
      have z10 : ((s[k].toNat : Int) == 10) = false := by simp; omega
      have z13 : ((s[k].toNat : Int) == 13) = false := by simp; omega
      have z9 : ((s[k].toNat : Int) == 9) = false := by simp; omega
      have z127 : ((s[k].toNat : Int) == 127) = false := by simp; omega
      have h32 : (32 : Int) ≤ (s[k].toNat : Int) := by omega
      have HE : Hid (esc s[k] = [s[k]]) := Lib.hid (by
        have ne : ∀ c : UInt8, ¬ s[k].toNat = c.toNat → ¬ s[k] = c := fun c h e => h (by rw [e])
        unfold esc
        rw [if_neg (ne 39 h39), if_neg (ne 92 h92), if_neg (ne 10 (by show ¬ s[k].toNat = 10; omega)), if_neg (ne 13 (by show ¬ s[k].toNat = 13; omega)), if_neg (ne 9 (by show ¬ s[k].toNat = 9; omega)), if_neg ?_]
        rintro (h | h)
        · have := UInt8.lt_iff_toNat_lt.1 h
          have e32 : (32 : UInt8).toNat = 32 := rfl
          omega
        · exact hpl.2 (by rw [h]; rfl))
      go_wp2_with (go_at_call 92; refine (writeByte_any w.heap.size w.heap.size _ (s[k].toNat : Int) _ (.inr HB.out) (by have := HLn.out; omega) (by omega)).mono ?_; rintro e w2 ⟨rfl, hw2⟩)
      go_roundw
      case rel =>
        refine ⟨k + 1, by omega, by go_num, ?_, Below.trans er hw2.2⟩
        have h2 := hw2.1
        have e1 : Lib.byteCells (39 :: (s.data.toList.take k).flatMap esc) ++ [Value.int .u8 (s[k].toNat : Int)] = Lib.byteCells (39 :: (s.data.toList.take (k + 1)).flatMap esc) := by
          rw [HT.out, HE.out, ← List.cons_append, cells_append]
          rfl
        rw [e1] at h2
        exact h2
      case measure => simp [intOf]; omega
    · have e1 : k = s.size := by omega
      have htk : s.data.toList.take k = s.data.toList := List.take_of_length_le (by simp; omega)
      rw [htk] at HB HLn
      have HK := Lib.hid e1
      clear e1 htk
      have m1 : True := trivial
      go_wp2_with (first
        | (go_at_call 92; refine (writeByte_any w.heap.size w.heap.size _ 39 _ (.inr HB.out) (by have := HLn.out; omega) (by omega)).mono ?_; rintro e w2 ⟨rfl, hw2⟩; have hb2 : Lib.IsBuilder 91 5 w.heap.size w.heap.size (Lib.byteCells (quotedT s.data.toList)) w2 := (by have h2 := hw2.1; have e2 : Lib.byteCells (39 :: s.data.toList.flatMap esc) ++ [Value.int .u8 39] = Lib.byteCells (quotedT s.data.toList) := (by unfold quotedT; rw [← List.cons_append, cells_append]; rfl); rw [e2] at h2; exact .inr h2); have X2 : Ext w w2 := Below.trans er hw2.2; have HB2 := Lib.hid hb2; clear hb2 hw2)
        | (go_at_call 96; refine (string_any w.heap.size w.heap.size (quotedT s.data.toList) _ HB2.out X2.size).mono ?_; rintro e w3 ⟨rfl, x3⟩))
      go_ret
      exact ⟨rfl, Below.trans X2 x3⟩
end Go.Proofs.YtobgfegdfcpgfaaDoor
