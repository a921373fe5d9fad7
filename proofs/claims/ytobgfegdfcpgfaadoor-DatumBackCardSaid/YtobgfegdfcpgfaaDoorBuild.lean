/- strings.Builder at this seat: copyCheck, WriteByte, WriteString, String. Conditions: a builder that the call itself has made, and not too long. -/
import Derived.Test.YtobgfegdfcpgfaaDoorCheck
import Derived.Test.YtobgfegdfcpgfaaDoorShelf
import Derived.Lib.Builder
import Derived.Lib.AppendStr
import Derived.OwnWalk
namespace Go.Proofs.YtobgfegdfcpgfaaDoor
open Go.RowKit

theorem size_builder : (Tryd.prog.info? 91).map (·.size) = some 2 := by kernel_rfl
theorem lies_builder : liesAt Tryd.prog Tryd.prog.depth 91 (2 / Tryd.prog.cellsOf 91) 0 91 1 = true := by kernel_rfl
theorem under_unsafe : Tryd.prog.underlying 130 = some .unsafePointer := by kernel_rfl
theorem under_ptr : Tryd.prog.underlying 88 = some (.pointer 91) := by kernel_rfl
theorem info_byte : (Tryd.prog.info? 5).map (fun i => (i.zero, i.size, i.bytes)) = some (some (.int .u8 0), 1, 1) := by kernel_rfl
theorem under_bytes : Tryd.prog.underlying 89 = some (.slice 5) := by kernel_rfl
theorem under_string : Tryd.prog.underlying 9 = some .string := by kernel_rfl

set_option maxRecDepth 100000 in
set_option maxHeartbeats 400000 in
theorem copy_fresh (b : Nat) (w : World) (h0 : w.cell? ⟨b, 0, none⟩ = some (.pointer none)) (hs : w.shape? b = some (91, 2)) (hf : w.frozen? ⟨b, 0, none⟩ = false) :
    Calls Tryd.prog 112 #[.pointer (some ⟨b, 0, none⟩)] w fun e w' => e = .returned (.tuple #[]) ∧ w' = w.setCell ⟨b, 0, none⟩ (.pointer (some ⟨b, 0, none⟩)) := by
  obtain ⟨j, hj, hjs⟩ := Option.map_eq_some_iff.1 size_builder
  have k1 := Lib.run_to_unsafe w ⟨b, 0, none⟩ under_ptr under_unsafe hj (by rw [hjs]; decide) hs (Nat.zero_lt_succ 1)
  have k2 := Lib.run_from_unsafe w ⟨b, 0, none⟩ under_unsafe under_ptr hj hs lies_builder
  have HJ := Lib.hid hj
  have HS := Lib.hid hs
  clear hj hs hjs
  go_enter Tryd.func112, Tryd.ntmps112
  go_wp2
  rw [run_callFunc_extern Tryd.func128 (by kernel_rfl) (by kernel_rfl) (by kernel_rfl) (e := Extern.AbiNoEscape.same) (by kernel_rfl)]
  rw [Lib.run_noEscape]
  simp only [Result.andThen]
  rw [Oper.upon_value]
  go_wp2
  refine bodyPost_end (results_none (fn := Tryd.f112) rfl _ _ _) rfl ?_
  exact ⟨rfl, rfl⟩
set_option maxRecDepth 100000 in
set_option maxHeartbeats 400000 in
theorem copy_used (b : Nat) (w : World) (h0 : w.cell? ⟨b, 0, none⟩ = some (.pointer (some ⟨b, 0, none⟩))) :
    Calls Tryd.prog 112 #[.pointer (some ⟨b, 0, none⟩)] w fun e w' => e = .returned (.tuple #[]) ∧ w' = w := by
  obtain ⟨j, hj, _⟩ := Option.map_eq_some_iff.1 size_builder
  have k1 := Lib.run_neq_ptr_same (P := Tryd.prog) w ⟨b, 0, none⟩ under_ptr hj
  have HJ := Lib.hid hj
  clear hj
  go_enter Tryd.func112, Tryd.ntmps112
  go_wp2
  go_end0
  exact ⟨rfl, rfl⟩
theorem copy_any (B b : Nat) (bs : List Value) (w : World) (h : Lib.IsBuilder 91 5 B b bs w) :
    Calls Tryd.prog 112 #[.pointer (some ⟨b, 0, none⟩)] w fun e w' => e = .returned (.tuple #[]) ∧ (Lib.BuilderAt 91 5 B b (.pointer (some ⟨b, 0, none⟩)) bs w' ∧ Below B w w') := by
  rcases h with h | h
  · refine (copy_fresh b w h.cell0 h.shape h.frozen0).mono ?_
    rintro e w' ⟨rfl, rfl⟩
    exact ⟨rfl, h.used _, (Below.refl B w).setCell (p := ⟨b, 0, none⟩) h.1 _⟩
  · refine (copy_used b w h.cell0).mono ?_
    rintro e w' ⟨rfl, rfl⟩
    exact ⟨rfl, h, Below.refl B _⟩

theorem owns_form {w : World} {base : Nat} {e : TypeId} {size : Nat} {v : Value} {n : Nat} {xs : List Value} (h : w.ownsRow base e size v n xs) : ∃ A c, v = .slice A n c := by
  rcases h.2 with ⟨hv, h0⟩ | ⟨g, cap, cur, hv, _⟩
  · exact ⟨none, 0, by rw [hv, h0]⟩
  · exact ⟨_, _, hv⟩
/-- what is written to a builder, and where it lies -/
def Written (B b : Nat) (bs : List Value) (w : World) (w' : World) : Prop := Lib.BuilderAt 91 5 B b (.pointer (some ⟨b, 0, none⟩)) bs w' ∧ Below B w w'
set_option maxRecDepth 100000 in
set_option maxHeartbeats 800000 in
theorem writeByte_any (B b : Nat) (bs : List Value) (c : Int) (w : World) (h : Lib.IsBuilder 91 5 B b bs w) (hlen : bs.length + 1 ≤ 140737488355328) (hBw : B ≤ w.heap.size) :
    Calls Tryd.prog 92 #[.pointer (some ⟨b, 0, none⟩), .int .u8 c] w fun e w' => e = .returned .nilIface ∧ Written B b (bs ++ [.int .u8 c]) w w' := by
  obtain ⟨i0, hi, hz0, hz1, hz2⟩ := info_parts info_byte
  have HI := Lib.hid hi
  clear hi
  have HL := Lib.hid hlen
  clear hlen
  go_enter Tryd.func92, Tryd.ntmps92
  go_wp2_with fail
  refine (copy_any B b bs _ h).mono ?_
  rintro e w1 ⟨rfl, hat, x1⟩
  obtain ⟨hB, v, hb, hown, hne⟩ := hat
  obtain ⟨vA, vc, rfl⟩ := owns_form hown
  have c1 : w1.cell? ⟨b, 1, none⟩ = some (.slice vA bs.length vc) := by rw [Lib.cell_of_heap hb]; rfl
  have f1 : w1.frozen? ⟨b, 1, none⟩ = false := Lib.frozen_of_heap hb 1
  have hv : ∀ k, (Value.slice vA bs.length vc).ownBlock = some k → B ≤ k := fun k hk => (hown.lt k hk).1
  have hs1 := x1.size
  have HV := Lib.hid hv
  have HB := Lib.hid hb
  have HN := Lib.hid hne
  have HO := Lib.hid hown
  clear hv hb hne hown h
  go_wp2_with (at_builtin; refine wpList_append_own _ rfl _ _ 89 rfl B 5 i0 (.int .u8 0) 1 1 under_bytes HI.out hz0 hz1 hz2 rfl (by decide) (.slice vA bs.length vc) bs.length bs rfl (HO.out.alloc _) ⟨w1.heap.size, 0, none⟩ 1 1 [.int .u8 c] rfl rfl ?c1 ?c2 ?c3 ?c4 ?c5 ?_)
  case c1 =>
    intro j u hu
    have hj : j = 0 := by have := (List.getElem?_eq_some_iff.1 hu).1; simpa using this
    subst hj
    simp at hu
    subst hu
    first | rfl | (simp; done) | go_simp
  case c2 => intro u hu; simp at hu; subst hu; rfl
  case c3 => have := HL.out; unfold maxLen; omega
  case c4 => have := HL.out; omega
  case c5 => simp; omega
  intro v' w2 hown2 hg2 hnil
  clear hnil
  obtain ⟨nA, nc, rfl⟩ := owns_form hown2
  have hb2 : w2.heap[b]? = some (.cells #[.pointer (some ⟨b, 0, none⟩), .slice vA bs.length vc] 91 (0, 0)) := (hg2.block b (by have := (Array.getElem?_eq_some_iff.1 HB.out).1; simp; omega) (Ne.symm HN.out)).trans ((Below.heap_alloc w1 _ b (Array.getElem?_eq_some_iff.1 HB.out).1).trans HB.out)
  have c2 : w2.cell? ⟨b, 1, none⟩ = some (.slice vA bs.length vc) := by rw [Lib.cell_of_heap hb2]; rfl
  have f2 : w2.frozen? ⟨b, 1, none⟩ = false := Lib.frozen_of_heap hb2 1
  have HB2 := Lib.hid hb2
  clear hb2
  go_wp2
  go_ret
  refine ⟨rfl, ?_⟩
  refine ⟨Lib.BuilderAt.put hB HB2.out (by simpa using hown2) (by decide), ?_⟩
  refine Below.setCell ?_ hB _
  exact Below.grown (x1.alloc (by omega) _) hg2 (by simp; omega) HV.out

set_option maxRecDepth 100000 in
set_option maxHeartbeats 800000 in
theorem writeString_any (B b : Nat) (bs : List Value) (s : ByteArray) (w : World) (h : Lib.IsBuilder 91 5 B b bs w) (hlen : bs.length + s.size ≤ 140737488355328) (hBw : B ≤ w.heap.size) :
    Calls Tryd.prog 93 #[.pointer (some ⟨b, 0, none⟩), .string s] w fun e w' => e = .returned (.tuple #[.int .i64 s.size, .nilIface]) ∧ Written B b (bs ++ Lib.strCells s) w w' := by
  obtain ⟨i0, hi, hz0, hz1, hz2⟩ := info_parts info_byte
  have HI := Lib.hid hi
  clear hi
  have HL := Lib.hid hlen
  clear hlen
  go_enter Tryd.func93, Tryd.ntmps93
  go_wp2_with fail
  refine (copy_any B b bs _ h).mono ?_
  rintro e w1 ⟨rfl, hat, x1⟩
  obtain ⟨hB, v, hb, hown, hne⟩ := hat
  obtain ⟨vA, vc, rfl⟩ := owns_form hown
  have c1 : w1.cell? ⟨b, 1, none⟩ = some (.slice vA bs.length vc) := by rw [Lib.cell_of_heap hb]; rfl
  have f1 : w1.frozen? ⟨b, 1, none⟩ = false := Lib.frozen_of_heap hb 1
  have hv : ∀ k, (Value.slice vA bs.length vc).ownBlock = some k → B ≤ k := fun k hk => (hown.lt k hk).1
  have hs1 := x1.size
  have HV := Lib.hid hv
  have HB := Lib.hid hb
  have HN := Lib.hid hne
  have HO := Lib.hid hown
  clear hv hb hne hown h
  go_wp2_with (at_builtin; refine Lib.wpList_append_own_string _ rfl _ _ 89 9 rfl B 5 i0 under_bytes under_string HI.out hz0 hz1 hz2 (.slice vA bs.length vc) bs.length bs rfl HO.out s rfl ?c3 ?c4 ?c5 ?_)
  case c3 => have := HL.out; unfold maxLen; omega
  case c4 => exact HL.out
  case c5 => omega
  intro v' w2 hown2 hg2 hnil
  clear hnil
  obtain ⟨nA, nc, rfl⟩ := owns_form hown2
  have hb2 : w2.heap[b]? = some (.cells #[.pointer (some ⟨b, 0, none⟩), .slice vA bs.length vc] 91 (0, 0)) := (hg2.block b (Array.getElem?_eq_some_iff.1 HB.out).1 (Ne.symm HN.out)).trans HB.out
  have c2 : w2.cell? ⟨b, 1, none⟩ = some (.slice vA bs.length vc) := by rw [Lib.cell_of_heap hb2]; rfl
  have f2 : w2.frozen? ⟨b, 1, none⟩ = false := Lib.frozen_of_heap hb2 1
  have HB2 := Lib.hid hb2
  clear hb2
  go_wp2
  go_ret2
  refine ⟨rfl, ?_⟩
  refine ⟨Lib.BuilderAt.put hB HB2.out (by rw [List.length_append, Lib.strCells_length]; exact hown2) (by decide), ?_⟩
  refine Below.setCell ?_ hB _
  exact Below.grown x1 hg2 (by omega) HV.out

theorem string_any (B b : Nat) (l : List UInt8) (w : World) (h : Lib.IsBuilder 91 5 B b (Lib.byteCells l) w) (hBw : B ≤ w.heap.size) :
    Calls Tryd.prog 96 #[.pointer (some ⟨b, 0, none⟩)] w fun e w' => e = .returned (.string ⟨l.toArray⟩) ∧ Below B w w' := Tryd.Builder_String_any B b l w h hBw
end Go.Proofs.YtobgfegdfcpgfaaDoor
