/- penstockref04.digits: what it answers. Conditions: a number of 64 bits. -/
import Derived.Test.YtilbfmfioopiiaaDoorBytes
import Derived.Lib.ItoaMem
import Derived.Test.YtilbfmfioopiiaaDoorOrd
import Derived.Laws.BytesString
import Derived.Laws.Cells
import Derived.Laws.Concat
namespace Go.Proofs.YtilbfmfioopiiaaDoor
open Go.RowKit

theorem digits_len : ∀ (f u : Nat), u < 10 ^ (f + 1) → (Lib.decDigits u).length ≤ f + 1
  | 0, u, h => by
    unfold Lib.decDigits
    rw [dif_pos (by omega)]
    simp
  | f + 1, u, h => by
    unfold Lib.decDigits
    split
    · simp
    · have := digits_len f (u / 10) (by rw [Nat.pow_succ] at h; omega)
      simp
      omega
set_option maxRecDepth 100000 in
set_option maxHeartbeats 1000000 in
theorem rdig_small (u : Nat) (w : World) (h : u < 10) : Calls Tryd.prog 67 #[.int .u64 u] w fun e w' => e = .returned (.string ⟨(Lib.decDigits u).toArray⟩) ∧ Ext w w' := by
  have hd : Lib.decDigits u = [UInt8.ofNat (48 + u)] := by unfold Lib.decDigits; rw [dif_pos h]
  have HD := Lib.hid hd
  clear hd
  go_enter Tryd.func67, Tryd.ntmps67
  go_wp2
  rw [conv_bk (Bk.new _ _ _) 0 1 1 [48 + (u : Int)] rfl rfl]
  simp only [Result.andThen]
  rw [Oper.upon_value]
  go_wp2
  go_ret
  refine ⟨?_, (Ext.refl w).alloc _⟩
  rw [HD.out]
  simp
set_option maxRecDepth 100000 in
set_option maxHeartbeats 2000000 in
theorem rdig_great (u q r : Nat) (w : World) (h : 10 ≤ u) (hu : u < 18446744073709551616) (hq : u / 10 = q) (hr : u % 10 = r) (hl : (Lib.decDigits q).length ≤ 20)
    (ih : ∀ w, Calls Tryd.prog 67 #[.int .u64 q] w fun e w' => e = .returned (.string ⟨(Lib.decDigits q).toArray⟩) ∧ Ext w w') : Calls Tryd.prog 67 #[.int .u64 u] w fun e w' => e = .returned (.string ⟨(Lib.decDigits u).toArray⟩) ∧ Ext w w' := by
  have hd : Lib.decDigits u = Lib.decDigits q ++ [UInt8.ofNat (48 + r)] := by
    conv => lhs; unfold Lib.decDigits
    rw [dif_neg (by omega), hq, hr]
  obtain ⟨D, hD⟩ : ∃ D, Lib.decDigits q = D := ⟨_, rfl⟩
  rw [hD] at hd ih hl
  have hsz : (⟨D.toArray⟩ : ByteArray).size ≤ 20 := by simpa [ByteArray.size] using hl
  have HD := Lib.hid hd
  have IH := Lib.hid ih
  have hnn : ¬ 9223372036854775807 < D.length + 1 := by omega
  have hu2 : (u : Int) ≤ 18446744073709551615 := by omega
  have h1 : (u : Int).tdiv 10 = (q : Int) := by rw [Int.tdiv_eq_ediv_of_nonneg (by omega)]; omega
  have h2 : (u : Int).tmod 10 = (r : Int) := by rw [Int.tmod_eq_emod_of_nonneg (by omega)]; omega
  have h3 : (u : Int) / 10 = (q : Int) := by omega
  have h4 : (u : Int) % 10 = (r : Int) := by omega
  have hr10 : r < 10 := by omega
  have hq20 : q < 1844674407370955162 := by omega
  have h5 : IntKind.u64.wrap (q : Int) = (q : Int) := IntWalk.u64_in _ (by omega)
  have h6 : IntKind.u8.wrap (r : Int) = (r : Int) := IntWalk.u8_in _ (by omega)
  have h7 : IntKind.u8.wrap (48 + (r : Int)) = 48 + (r : Int) := IntWalk.u8_in _ (by omega)
  have h8 : decide ((u : Int) < 10) = false := by simp; omega
  clear hd ih hD hl hq hr hu h hu2
  go_enter Tryd.func67, Tryd.ntmps67
  go_upto_region 3 with fail
  have X : Ext w w.drew := (Ext.refl w).drew
  refine wp_region_ord [0,1,3,0,8,24,56,120,248,511,1023] (.flo [0,1,3,4,5,6] (.both 2 7 (.ext 7 (.ext 8 (.flo [9,10] (.fin)))) (.both 2 8 (.ext 8 (.flo [9,10] (.fin))) (.ext 2 (.flo [9,10] (.fin)))))) (by kernel_rfl) (by kernel_rfl) (by intro _ _ d _ _ h; cases d <;> exact h) ?_
  (refine ord_flo (pick_cons rfl (pick_cons rfl (pick_cons rfl (pick_cons rfl (pick_cons rfl (pick_cons rfl pick_nil)))))) ?_; (repeat (go_big_quiet_step (fail))); refine wpQuiet_nil ?_; show ordWalk _ _ _ _ _ _ _)
  refine ord_both (pick_cons rfl pick_nil) (pick_cons rfl pick_nil) ?_ ?_ <;> intro K_ hK_
  · go_wp2_with (go_at_call 67; refine (IH.out _).mono ?_; rintro e w1 ⟨rfl, x1⟩)
    refine ordNext.mk x1 ?_
    refine ord_ext (pick_cons rfl pick_nil) ?_; intro K_ hK_
    go_wp2
    refine ordNext.mk ((Ext.refl _).alloc _) ?_
    refine ord_ext (pick_cons rfl pick_nil) ?_; intro K_ hK_
    go_wp2
    rw [conv_bk (t := 5) (cs := #[.int .u8 (48 + (r : Int))]) ?hb 0 1 1 [48 + (r : Int)] rfl rfl]
    case hb => first | exact Bk.at (by simp) | exact (Bk.at (by simp)).drew
    simp only [Result.andThen]
    rw [Oper.upon_value]
    go_simp
    go_wp2
    refine ordNext.mk (Ext.refl _) ?_
    (refine ord_flo (pick_cons rfl (pick_cons rfl pick_nil)) ?_; (repeat (go_big_quiet_step (fail))); refine wpQuiet_nil ?_; show ordWalk _ _ _ _ _ _ _)
    refine ord_fin ?_
    go_wp2
    go_ret
    refine ⟨?_, (X.trans x1).alloc _⟩
    rw [HD.out]
    simp
    exact app_one _ _
  · go_wp2
    refine ordNext.mk ((Ext.refl _).alloc _) ?_
    refine ord_both (pick_cons rfl pick_nil) (pick_cons rfl pick_nil) ?_ ?_ <;> intro K_ hK_
    · go_wp2_with (go_at_call 67; refine (IH.out _).mono ?_; rintro e w1 ⟨rfl, x1⟩)
      refine ordNext.mk x1 ?_
      refine ord_ext (pick_cons rfl pick_nil) ?_; intro K_ hK_
      go_wp2
      rw [conv_bk (t := 5) (cs := #[.int .u8 (48 + (r : Int))]) ?hb 0 1 1 [48 + (r : Int)] rfl rfl]
      case hb => first | exact Bk.ext (Bk.at (by simp)) x1 | exact Bk.ext ((Bk.at (w := w) (by simp)).drew) x1
      simp only [Result.andThen]
      rw [Oper.upon_value]
      go_simp
      go_wp2
      refine ordNext.mk (Ext.refl _) ?_
      (refine ord_flo (pick_cons rfl (pick_cons rfl pick_nil)) ?_; (repeat (go_big_quiet_step (fail))); refine wpQuiet_nil ?_; show ordWalk _ _ _ _ _ _ _)
      refine ord_fin ?_
      go_wp2
      go_ret
      refine ⟨?_, (X.alloc _).trans (by exact x1)⟩
      rw [HD.out]
      simp
      exact app_one _ _
    · go_wp2
      rw [conv_bk (t := 5) (cs := #[.int .u8 (48 + (r : Int))]) ?hb 0 1 1 [48 + (r : Int)] rfl rfl]
      case hb => first | exact Bk.at (by simp) | exact (Bk.at (by simp)).drew
      simp only [Result.andThen]
      rw [Oper.upon_value]
      go_simp
      go_wp2
      refine ordNext.mk (Ext.refl _) ?_
      refine ord_ext (pick_cons rfl pick_nil) ?_; intro K_ hK_
      go_wp2_with (go_at_call 67; refine (IH.out _).mono ?_; rintro e w1 ⟨rfl, x1⟩)
      refine ordNext.mk x1 ?_
      (refine ord_flo (pick_cons rfl (pick_cons rfl pick_nil)) ?_; (repeat (go_big_quiet_step (fail))); refine wpQuiet_nil ?_; show ordWalk _ _ _ _ _ _ _)
      refine ord_fin ?_
      go_wp2
      go_ret
      refine ⟨?_, (X.alloc _).trans (by exact x1)⟩
      rw [HD.out]
      simp
      exact app_one _ _
theorem rdig_aux : ∀ (f u : Nat) (w : World), u ≤ f → u < 18446744073709551616 → Calls Tryd.prog 67 #[.int .u64 u] w fun e w' => e = .returned (.string ⟨(Lib.decDigits u).toArray⟩) ∧ Ext w w'
  | 0, u, w, h, hu => rdig_small u w (by omega)
  | f + 1, u, w, h, hu => by
    by_cases h10 : u < 10
    · exact rdig_small u w h10
    · exact rdig_great u _ _ w (by omega) hu rfl rfl (digits_len 19 _ (by have : (10 : Nat) ^ 20 = 100000000000000000000 := by decide
                                                                          omega)) (fun w => rdig_aux f (u / 10) w (by omega) (by omega))
theorem rdig_any (u : Nat) (w : World) (hu : u < 18446744073709551616) : Calls Tryd.prog 67 #[.int .u64 u] w fun e w' => e = .returned (.string ⟨(Lib.decDigits u).toArray⟩) ∧ Ext w w' := rdig_aux u u w (Nat.le_refl _) hu
end Go.Proofs.YtilbfmfioopiiaaDoor
