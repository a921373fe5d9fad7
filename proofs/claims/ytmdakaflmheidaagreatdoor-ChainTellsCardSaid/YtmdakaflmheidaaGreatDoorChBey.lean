/- chain.Beyond, Leq: what they answer. Conditions: the lists are as readings give them. -/
import Derived.Test.YtmdakaflmheidaaGreatDoorTmsFunc
import Derived.Test.YtmdakaflmheidaaGreatDoorChainLaw2
namespace Go.Proofs.YtmdakaflmheidaaGreatDoor
open Go.RowKit

set_option maxRecDepth 100000 in
set_option maxHeartbeats 600000 in
theorem beyond1_any (x : Tm) (B : Nat) (e : Int) (A : Option Addr) (n c : Nat) (l : List Int) (w : World) (hx : Hid (Sl w 1 x.A x.l.length x.c (wds x.l))) (hb : Hid (Bk w B 26 #[.int .u64 e, .slice A n c])) (ht : Hid (Sl w 1 A n c (wds l))) :
    Calls Tryz.prog 65 #[tmV x, .pointer (some ⟨B, 0, none⟩)] w fun r w' => r = .returned (.bool (tleq x.v (e, l))) ∧ Ext w w' := by
  have c0 : w.cell? ⟨B, 0, none⟩ = some (.int .u64 e) := hb.out.cell 0
  have c1 : w.cell? ⟨B, 1, none⟩ = some (.slice A n c) := hb.out.cell 1
  have hlt := hb.out.lt
  unfold tmV
  obtain ⟨xe, xA, xc, xl⟩ := x
  go_enter Tryz.func65, Tryz.ntmps65
  go_wp2_with (go_at_call 66; refine (leq_any _ _ _ _ _ _ _ _ _ _ _ (hx.out.ext ((Ext.refl w).alloc _)) (ht.out.ext ((Ext.refl w).alloc _))).mono ?_; rintro r w1 ⟨rfl, x1⟩)
  go_ret
  exact ⟨rfl, ((Ext.refl w).alloc _).trans x1⟩
theorem enters_beyond1 : ∀ args w, (callFunc 65 args).run Tryz.prog w = .ok (.enter 65 args) w := enters_of Tryz.func65 (by kernel_rfl) rfl
theorem any_map {L : List Tm} (t : TV) : (L.any fun x => tleq x.v t) = beyondV (L.map Tm.v) t := by unfold beyondV; rw [List.any_map]; rfl
set_option maxRecDepth 100000 in
set_option maxHeartbeats 600000 in
theorem beyond_any (AL : Option Addr) (cL m : Nat) (L : List Tm) (e : Int) (A : Option Addr) (n c : Nat) (l : List Int) (w : World) (hm : Hid (m = L.length)) (hL : Hid (Tin w AL cL L)) (ht : Hid (Sl w 1 A n c (wds l))) :
    Calls Tryz.prog 24 #[.slice AL m cL, .agg #[.int .u64 e, .slice A n c]] w fun r w' => r = .returned (.bool (beyondV (L.map Tm.v) (e, l))) ∧ Ext w w' := by
  rw [← any_map]
  have X : Ext w (w.alloc (.cells #[.int .u64 e, .slice A n c] 26)) := (Ext.refl w).alloc _
  have HP : Hid (Pred 65 #[.pointer (some ⟨w.heap.size, 0, none⟩)] (fun x => tleq x.v (e, l)) L (w.alloc (.cells #[.int .u64 e, .slice A n c] 26))) := Lib.hid (fun W x hx y =>
    beyond1_any x w.heap.size e A n c l W (Lib.hid (((hL.out.ls x hx).ext X).ext y)) (Lib.hid ((Bk.new w _ _).ext y)) (Lib.hid ((ht.out.ext X).ext y)))
  obtain ⟨q, hq⟩ : ∃ q, (L.any fun x => tleq x.v (e, l)) = q := ⟨_, rfl⟩
  have HQ := Lib.hid hq
  rw [hq]
  clear hq
  go_enter Tryz.func24, Tryz.ntmps24
  go_wp2_with (go_at_call 38; refine (contains_times _ 65 _ enters_beyond1 AL cL m L _ hm (Lib.hid (hL.out.ext X)) HP).mono ?_; rintro r w1 ⟨rfl, x1⟩)
  go_ret
  exact ⟨by rw [← HQ.out]; rfl, X.trans x1⟩
theorem beyond_at {v : Bool} (AL : Option Addr) (cL m : Nat) (L : List Tm) (e : Int) (A : Option Addr) (n c : Nat) (l : List Int) (w : World) (hv : Hid (beyondV (L.map Tm.v) (e, l) = v)) (hm : Hid (m = L.length)) (hL : Hid (Tin w AL cL L)) (ht : Hid (Sl w 1 A n c (wds l))) :
    Calls Tryz.prog 24 #[.slice AL m cL, .agg #[.int .u64 e, .slice A n c]] w fun r w' => r = .returned (.bool v) ∧ Ext w w' := hv.out ▸ beyond_any AL cL m L e A n c l w hm hL ht
/-! ### Leq -/
set_option maxRecDepth 100000 in
set_option maxHeartbeats 600000 in
theorem leq1_any (x : Tm) (B : Nat) (AL : Option Addr) (cL m : Nat) (L : List Tm) (w : World) (hx : Hid (Sl w 1 x.A x.l.length x.c (wds x.l))) (hb : Hid (Bk w B 54 #[.slice AL m cL])) (hm : Hid (m = L.length)) (hL : Hid (Tin w AL cL L)) :
    Calls Tryz.prog 64 #[tmV x, .pointer (some ⟨B, 0, none⟩)] w fun r w' => r = .returned (.bool (!beyondV (L.map Tm.v) x.v)) ∧ Ext w w' := by
  have c0 : w.cell? ⟨B, 0, none⟩ = some (.slice AL m cL) := hb.out.cell 0
  have hlt := hb.out.lt
  unfold tmV
  obtain ⟨xe, xA, xc, xl⟩ := x
  obtain ⟨q, hq⟩ : ∃ q, beyondV (L.map Tm.v) (xe, xl) = q := ⟨_, rfl⟩
  have HQ := Lib.hid hq
  show Calls _ _ _ _ fun r w' => r = .returned (.bool (!beyondV (L.map Tm.v) (xe, xl))) ∧ Ext w w'
  rw [hq]
  clear hq
  go_enter Tryz.func64, Tryz.ntmps64
  go_wp2_with (go_at_call 24; refine (beyond_at AL cL m L xe xA xl.length xc xl _ HQ hm (Lib.hid (hL.out.ext ((Ext.refl w).alloc _))) (Lib.hid (hx.out.ext ((Ext.refl w).alloc _)))).mono ?_; rintro r w1 ⟨rfl, x1⟩)
  go_ret
  exact ⟨rfl, ((Ext.refl w).alloc _).trans x1⟩
theorem enters_leq1 : ∀ args w, (callFunc 64 args).run Tryz.prog w = .ok (.enter 64 args) w := enters_of Tryz.func64 (by kernel_rfl) rfl
theorem not_all {L M : List Tm} : (!M.any fun x => !beyondV (L.map Tm.v) x.v) = leqV (L.map Tm.v) (M.map Tm.v) := by
  unfold leqV
  rw [List.all_map, List.not_any_eq_all_not]
  simp only [Bool.not_not]
  rfl
set_option maxRecDepth 100000 in
set_option maxHeartbeats 600000 in
theorem chleq_any (AL AM : Option Addr) (cL cM m n : Nat) (L M : List Tm) (w : World) (hm : Hid (m = L.length)) (hn : Hid (n = M.length)) (hL : Hid (Tin w AL cL L)) (hM : Hid (Tin w AM cM M)) :
    Calls Tryz.prog 23 #[.slice AL m cL, .slice AM n cM] w fun r w' => r = .returned (.bool (leqV (L.map Tm.v) (M.map Tm.v))) ∧ Ext w w' := by
  rw [← not_all]
  have X : Ext w (w.alloc (.cells #[.slice AL m cL] 54)) := (Ext.refl w).alloc _
  have HP : Hid (Pred 64 #[.pointer (some ⟨w.heap.size, 0, none⟩)] (fun x => !beyondV (L.map Tm.v) x.v) M (w.alloc (.cells #[.slice AL m cL] 54))) := Lib.hid (fun W x hx y =>
    leq1_any x w.heap.size AL cL m L W (Lib.hid (((hM.out.ls x hx).ext X).ext y)) (Lib.hid ((Bk.new w _ _).ext y)) hm (Lib.hid ((hL.out.ext X).ext y)))
  obtain ⟨q, hq⟩ : ∃ q, (M.any fun x => !beyondV (L.map Tm.v) x.v) = q := ⟨_, rfl⟩
  have HQ := Lib.hid hq
  rw [hq]
  clear hq
  go_enter Tryz.func23, Tryz.ntmps23
  go_wp2_with (go_at_call 38; refine (contains_times _ 64 _ enters_leq1 AM cM n M _ hn (Lib.hid (hM.out.ext X)) HP).mono ?_; rintro r w1 ⟨rfl, x1⟩)
  go_ret
  exact ⟨by rw [← HQ.out]; rfl, X.trans x1⟩
end Go.Proofs.YtmdakaflmheidaaGreatDoor
