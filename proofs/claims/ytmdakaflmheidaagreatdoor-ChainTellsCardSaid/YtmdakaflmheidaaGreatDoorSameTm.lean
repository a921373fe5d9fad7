/- penstockref00.SameTime, SameTimes: what they answer. Conditions: the slices are as readings give them. -/
import Derived.Test.YtmdakaflmheidaaGreatDoorSmallA
namespace Go.Proofs.YtmdakaflmheidaaGreatDoor
open Go.RowKit

theorem sameTime_any (e1 e2 : Int) (A1 A2 : Option Addr) (n1 n2 c1 c2 : Nat) (l1 l2 : List Int) (w : World) (h1 : Sl w 1 A1 n1 c1 (wds l1)) (h2 : Sl w 1 A2 n2 c2 (wds l2)) :
    Calls Tryz.prog 30 #[.agg #[.int .u64 e1, .slice A1 n1 c1], .agg #[.int .u64 e2, .slice A2 n2 c2]] w fun e w' => e = .returned (.bool (decide (e1 = e2 ∧ l1 = l2))) ∧ Ext w w' := by
  by_cases k1 : e1 = e2
  · have q1 : (e1 == e2) = true := by simpa using k1
    go_enter Tryz.func30, Tryz.ntmps30
    go_wp2_with (go_at_call 71; refine (sameWords_any A1 A2 n1 n2 c1 c2 l1 l2 _ (h1.ext (((Ext.refl w).alloc _).alloc _)) (h2.ext (((Ext.refl w).alloc _).alloc _))).mono ?_; rintro r w1 ⟨rfl, x1⟩)
    refine bodyPost_ret (v := .bool (decide (l1 = l2))) (by simp only [results, Tryz.results30]; go_simp) rfl ?_
    exact ⟨by simp [k1], (((Ext.refl w).alloc _).alloc _).trans x1⟩
  · have q1 : (e1 == e2) = false := by simpa using k1
    go_enter Tryz.func30, Tryz.ntmps30
    go_wp2
    refine bodyPost_ret (v := .bool false) (by simp only [results, Tryz.results30]; go_simp) rfl ?_
    exact ⟨by simp [k1], (((Ext.refl w).alloc _).alloc _)⟩
end Go.Proofs.YtmdakaflmheidaaGreatDoor
