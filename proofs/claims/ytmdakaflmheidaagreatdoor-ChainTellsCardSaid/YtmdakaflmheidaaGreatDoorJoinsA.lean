/- The form in which times are answered, with an error's number. stamp.Join, Meet with one answer. Conditions: each theorem states its own. -/
import Derived.Test.YtmdakaflmheidaaGreatDoorBase
import Derived.Test.YtmdakaflmheidaaGreatDoorJoin
namespace Go.Proofs.YtmdakaflmheidaaGreatDoor
open Go.RowKit

/-- the form in which it is answered -/
def TimeOut (w : World) (r : (Int × List Int) × Int) (e : Ending) (w' : World) : Prop :=
  ∃ A c, e = .returned (.tuple #[.agg #[.int .u64 r.1.1, .slice A r.1.2.length c], .int .u16 r.2]) ∧ Own w' w.heap.size 74 1 A r.1.2.length c (wds r.1.2) ∧ Ext w w'
/-- the form in which the document's Apply answers -/
def RTimeOut (w : World) (r : (Int × List Int) × Int) (e : Ending) (w' : World) : Prop :=
  ∃ A c, e = .returned (.tuple #[.agg #[.int .u64 r.1.1, .slice A r.1.2.length c], .int .i64 r.2]) ∧ Own w' w.heap.size 74 1 A r.1.2.length c (wds r.1.2) ∧ Ext w w'
end Go.Proofs.YtmdakaflmheidaaGreatDoor
namespace Go.Proofs.YtmdakaflmheidaaGreatDoor
open Go.RowKit

def joinT (e1 : Int) (l1 : List Int) (e2 : Int) (l2 : List Int) : (Int × List Int) × Int := if l1.length = l2.length then ((max e1 e2, List.zipWith max l1 l2), 0) else ((0, []), 40)
theorem join_any (e1 e2 : Int) (A1 A2 : Option Addr) (n1 n2 c1 c2 : Nat) (l1 l2 : List Int) (w : World) (h1 : Sl w 1 A1 n1 c1 (wds l1)) (h2 : Sl w 1 A2 n2 c2 (wds l2)) (u1 : U32 l1) (u2 : U32 l2) (hn : n1 ≤ 1000000) :
    Calls Tryz.prog 62 #[.agg #[.int .u64 e1, .slice A1 n1 c1], .agg #[.int .u64 e2, .slice A2 n2 c2]] w (TimeOut w (joinT e1 l1 e2 l2)) := by
  have e3 := h1.wlen
  have e4 := h2.wlen
  unfold joinT
  by_cases h : n1 = n2
  · subst h
    rw [if_pos (by omega)]
    refine (join_same e1 e2 A1 A2 n1 c1 c2 l1 l2 w h1 h2 u1 u2 (by omega)).mono ?_
    rintro r w1 ⟨A, c, rfl, ho, x⟩
    have hz : (List.zipWith max l1 l2).length = n1 := by simp; omega
    exact ⟨A, c, by simp only [hz], by simp only [hz]; exact ho, x⟩
  · rw [if_neg (by omega)]
    refine (join_diff e1 e2 A1 A2 n1 n2 c1 c2 w (by simp; omega)).mono ?_
    rintro r w1 ⟨rfl, x⟩
    exact ⟨none, 0, rfl, Own.nil _ _ _ _, x⟩
def meetT (e1 : Int) (l1 : List Int) (e2 : Int) (l2 : List Int) : (Int × List Int) × Int := if l1.length = l2.length then ((min e1 e2, List.zipWith min l1 l2), 0) else ((0, []), 40)
theorem meet_any (e1 e2 : Int) (A1 A2 : Option Addr) (n1 n2 c1 c2 : Nat) (l1 l2 : List Int) (w : World) (h1 : Sl w 1 A1 n1 c1 (wds l1)) (h2 : Sl w 1 A2 n2 c2 (wds l2)) (u1 : U32 l1) (u2 : U32 l2) (hn : n1 ≤ 1000000) :
    Calls Tryz.prog 63 #[.agg #[.int .u64 e1, .slice A1 n1 c1], .agg #[.int .u64 e2, .slice A2 n2 c2]] w (TimeOut w (meetT e1 l1 e2 l2)) := by
  have e3 := h1.wlen
  have e4 := h2.wlen
  unfold meetT
  by_cases h : n1 = n2
  · subst h
    rw [if_pos (by omega)]
    refine (meet_same e1 e2 A1 A2 n1 c1 c2 l1 l2 w h1 h2 u1 u2 (by omega)).mono ?_
    rintro r w1 ⟨A, c, rfl, ho, x⟩
    have hz : (List.zipWith min l1 l2).length = n1 := by simp; omega
    exact ⟨A, c, by simp only [hz], by simp only [hz]; exact ho, x⟩
  · rw [if_neg (by omega)]
    refine (meet_diff e1 e2 A1 A2 n1 n2 c1 c2 w (by simp; omega)).mono ?_
    rintro r w1 ⟨rfl, x⟩
    exact ⟨none, 0, rfl, Own.nil _ _ _ _, x⟩
end Go.Proofs.YtmdakaflmheidaaGreatDoor
