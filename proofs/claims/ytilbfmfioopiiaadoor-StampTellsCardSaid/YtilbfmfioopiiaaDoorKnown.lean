/- penstocklaw04.known: what the chapter's examples fix, is so. -/
import Derived.Test.YtilbfmfioopiiaaDoorSame
import Derived.Test.YtilbfmfioopiiaaDoorPrint
import Derived.Test.YtilbfmfioopiiaaDoorPLeqB
import Derived.Test.YtilbfmfioopiiaaDoorThen
import Derived.Test.YtilbfmfioopiiaaDoorApply
import Derived.Test.YtilbfmfioopiiaaDoorJoin
namespace Go.Proofs.YtilbfmfioopiiaaDoor
open Go.RowKit

theorem Sl.fresh (w : World) (cs : Array Value) (t : TypeId) (n : Nat) (hs : cs.size = n) (hn : n ≤ 1000) : Sl (w.alloc (.cells cs t)) 1 (some ⟨w.heap.size, 0, none⟩) n n cs.toList := by
  refine ⟨by simp [hs], Nat.le_refl _, by unfold maxLen; omega, (fun h => nomatch h), fun _ => ⟨_, rfl, fun j u hu => ?_⟩⟩
  have hadd : (⟨w.heap.size, 0, none⟩ : Addr).add j = ⟨w.heap.size, j, none⟩ := by unfold Addr.add; split <;> simp_all
  rw [hadd, cell_of_row _ w.heap.size j cs t (0, 0) (heap_alloc_new w _)]
  simpa using hu
theorem u32_12 : U32 [1, 2] := by unfold U32; decide
theorem u32_02 : U32 [0, 2] := by unfold U32; decide
theorem u32_0 : U32 [0] := by unfold U32; decide
theorem u32_2 : U32 [2] := by unfold U32; decide
theorem u32_none : U32 [] := by unfold U32; decide

theorem join_ex (A1 A2 : Option Addr) (c1 c2 : Nat) (w : World) (h1 : Sl w 1 A1 2 c1 (wds [1, 2])) (h2 : Sl w 1 A2 2 c2 (wds [0, 2])) :
    Calls Tryd.prog 22 #[.agg #[.int .u64 3, .slice A1 2 c1], .agg #[.int .u64 4, .slice A2 2 c2]] w fun e w' =>
      ∃ A c, e = .returned (.tuple #[.agg #[.int .u64 4, .slice A 2 c], .int .u16 0]) ∧ Sl w' 1 A 2 c (wds [1, 2]) ∧ Ext w w' :=
  (join_same 3 4 A1 A2 2 c1 c2 [1, 2] [0, 2] w h1 h2 u32_12 u32_02 (by omega)).mono fun e w' ⟨A, c, h, ho, x⟩ => ⟨A, c, h, ho.sl, x⟩
theorem apply_ex (A : Option Addr) (c : Nat) (w : World) (h : Sl w 1 A 2 c (wds [1, 2])) :
    Calls Tryd.prog 8 #[.agg #[.int .i64 1, .int .u32 1, .slice none 0 0], .agg #[.int .u64 3, .slice A 2 c]] w fun e w' =>
      ∃ A c, e = .returned (.tuple #[.agg #[.int .u64 3, .slice A 1 c], .int .u16 0]) ∧ Sl w' 1 A 1 c (wds [2]) ∧ Ext w w' :=
  (apply_any 1 1 none A 0 2 0 c [] [1, 2] 3 w (Sl.nil w 1) h u32_12 (by omega) (by omega) (by omega) (by omega) (by omega)).mono fun e w' ⟨A, c, h, ho, x⟩ => ⟨A, c, h, ho.sl, x⟩
theorem then_ex (A : Option Addr) (c : Nat) (w : World) (h : Sl w 1 A 1 c (wds [0])) :
    Calls Tryd.prog 9 #[.agg #[.int .i64 0, .int .u32 0, .slice A 1 c], .agg #[.int .i64 0, .int .u32 2, .slice none 0 0]] w fun e w' =>
      ∃ A c, e = .returned (.tuple #[.agg #[.int .i64 0, .int .u32 0, .slice A 1 c], .int .u16 0]) ∧ Sl w' 1 A 1 c (wds [2]) ∧ Ext w w' :=
  (then_any 0 0 0 2 A none 1 0 c 0 [0] [] w h (Sl.nil w 1) u32_0 (by omega) (by omega) (by omega) (by omega)).mono fun e w' ⟨A, c, h, ho, x⟩ => ⟨A, c, h, ho.sl, x⟩

/-- small numbers' digits -/
def digits2 (x : Int) : ByteArray := if x.toNat < 100 then ⟨(Lib.decDigits x.toNat).toArray⟩ else ⟨#[]⟩
theorem digits2_size (x : Int) : (digits2 x).size ≤ 20 := by
  have h : ∀ i : Nat, i < 100 → (Lib.decDigits i).length ≤ 20 := by decide +kernel
  unfold digits2
  split
  · next h1 => exact h _ h1
  · exact Nat.zero_le _
theorem format_two (x : Int) (h0 : 0 ≤ x) (h1 : x < 100) (w : World) :
    Calls Tryd.prog 64 #[.int .u64 x, .int .i64 10] w fun r w' => r = .returned (.string (digits2 x)) ∧ Ext w w' := by
  have e : ((x.toNat : Nat) : Int) = x := by omega
  have := format_small x.toNat (by omega) w
  rw [e] at this
  unfold digits2
  rw [if_pos (by omega)]
  exact this
theorem print_ex1 (A : Option Addr) (c : Nat) (w : World) (h : Sl w 1 A 2 c (wds [1, 2])) :
    Calls Tryd.prog 26 #[.agg #[.int .u64 4, .slice A 2 c]] w fun r w' => r = .returned (.string ⟨#[52, 40, 49, 44, 50, 41]⟩) ∧ Ext w w' := by
  have := print_some 4 A 2 c [1, 2] digits2 w h u32_12 (by omega) (by omega) digits2_size (Lib.hid fun x W _ hx => format_two x (by simp at hx; omega) (by simp at hx; omega) W)
  have e : printT digits2 4 [1, 2] = ⟨#[52, 40, 49, 44, 50, 41]⟩ := by decide +kernel
  rwa [e] at this
theorem print_ex2 (A : Option Addr) (c : Nat) (w : World) (h : Sl w 1 A 1 c (wds [2])) :
    Calls Tryd.prog 26 #[.agg #[.int .u64 3, .slice A 1 c]] w fun r w' => r = .returned (.string ⟨#[51, 40, 50, 41]⟩) ∧ Ext w w' := by
  have := print_some 3 A 1 c [2] digits2 w h u32_2 (by omega) (by omega) digits2_size (Lib.hid fun x W _ hx => format_two x (by simp at hx; omega) (by simp at hx; omega) W)
  have e : printT digits2 3 [2] = ⟨#[51, 40, 50, 41]⟩ := by decide +kernel
  rwa [e] at this
end Go.Proofs.YtilbfmfioopiiaaDoor
