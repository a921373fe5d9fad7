/- penstockref01.Add, Sub: they answer what datum's answer. Conditions: texts that lie in memory. -/
import Derived.Test.YtobgfegdfcpgfaaDoorRefNum
namespace Go.Proofs.YtobgfegdfcpgfaaDoor
open Go.RowKit

set_option maxRecDepth 100000 in
set_option maxHeartbeats 1600000 in
theorem radd_pp0 (ka na kb nb : Int) (ba bb : Bool) (sa sb : ByteArray) (c : Int) (w : World) (hs : sa.size ≤ 140737488355328) (hs2 : sb.size ≤ 140737488355328) (hw : wrap64 (na + nb) = c) (f0 : 0 ≤ na) (f1 : 0 ≤ nb) (f2 : ¬ c < 0) (f3 : ¬ na < 0) :
    Calls Tryd.prog 33 #[.agg #[.int .u8 (ka), .bool (ba), .int .i64 (na), .string (sa)], .agg #[.int .u8 (kb), .bool (bb), .int .i64 (nb), .string (sb)]] w (RefOut w (applyR 3 [⟨ka, ba, na, sa⟩, ⟨kb, bb, nb, sb⟩] (numR c 0))) := by
  have hw2 : IntKind.i64.wrap (na + nb) = c := by rw [IntKind.wrap_i64]; simpa [wrap64] using hw
  obtain ⟨⟨⟨rk, rb, rn, rs⟩, re⟩, hr⟩ : ∃ r, applyR 3 [⟨ka, ba, na, sa⟩, ⟨kb, bb, nb, sb⟩] (numR c 0) = r := ⟨_, rfl⟩
  rw [hr]
  have HR := Lib.hid hr
  clear hr
  have u0 : decide (0 ≤ na) = true := by first | exact decide_eq_true (by omega) | exact decide_eq_false (by omega)
  have u1 : decide (0 ≤ nb) = true := by first | exact decide_eq_true (by omega) | exact decide_eq_false (by omega)
  have u2 : decide (c < 0) = false := by first | exact decide_eq_true (by omega) | exact decide_eq_false (by omega)
  have u3 : decide (na < 0) = false := by first | exact decide_eq_true (by omega) | exact decide_eq_false (by omega)
  go_enter Tryd.func33, Tryd.ntmps33
  go_upto_region 2 with fail
  have a0 : Bk (((w.alloc (.cells #[.int .u8 (ka), .bool (ba), .int .i64 (na), .string (sa)] 24)).alloc (.cells #[.int .u8 (kb), .bool (bb), .int .i64 (nb), .string (sb)] 24)).alloc (.cells #[.int .u8 (0), .bool (false), .int .i64 (0), .string (⟨#[]⟩)] 24)) (w.heap.size) 24 #[.int .u8 (ka), .bool (ba), .int .i64 (na), .string (sa)] := ((Bk.at (by simp)).alloc _).alloc _
  have b0 : Bk (((w.alloc (.cells #[.int .u8 (ka), .bool (ba), .int .i64 (na), .string (sa)] 24)).alloc (.cells #[.int .u8 (kb), .bool (bb), .int .i64 (nb), .string (sb)] 24)).alloc (.cells #[.int .u8 (0), .bool (false), .int .i64 (0), .string (⟨#[]⟩)] 24)) (w.heap.size + 1) 24 #[.int .u8 (kb), .bool (bb), .int .i64 (nb), .string (sb)] := (Bk.at (by simp)).alloc _
  have z0 : Bk (((w.alloc (.cells #[.int .u8 (ka), .bool (ba), .int .i64 (na), .string (sa)] 24)).alloc (.cells #[.int .u8 (kb), .bool (bb), .int .i64 (nb), .string (sb)] 24)).alloc (.cells #[.int .u8 (0), .bool (false), .int .i64 (0), .string (⟨#[]⟩)] 24)) (w.heap.size + 1 + 1) 24 #[.int .u8 (0), .bool (false), .int .i64 (0), .string (⟨#[]⟩)] := Bk.at (by simp)
  have E0 : Ext w (((w.alloc (.cells #[.int .u8 (ka), .bool (ba), .int .i64 (na), .string (sa)] 24)).alloc (.cells #[.int .u8 (kb), .bool (bb), .int .i64 (nb), .string (sb)] 24)).alloc (.cells #[.int .u8 (0), .bool (false), .int .i64 (0), .string (⟨#[]⟩)] 24)) := (((Ext.refl w).alloc _).alloc _).alloc _
  obtain ⟨w0, hw0⟩ : ∃ w0, w0 = (((w.alloc (.cells #[.int .u8 (ka), .bool (ba), .int .i64 (na), .string (sa)] 24)).alloc (.cells #[.int .u8 (kb), .bool (bb), .int .i64 (nb), .string (sb)] 24)).alloc (.cells #[.int .u8 (0), .bool (false), .int .i64 (0), .string (⟨#[]⟩)] 24)) := ⟨_, rfl⟩
  rw [← hw0] at a0 b0 z0 E0 ⊢
  clear hw0
  have X : Ext w0 w0.drew := (Ext.refl w0).drew
  have p00 : ∀ y : Xt w0.drew, y.W.cell? ⟨w.heap.size, 0, none⟩ = some (.int .u8 (ka)) := fun y => (a0.ext (X.trans y.x)).cell 0
  have p01 : ∀ y : Xt w0.drew, y.W.cell? ⟨w.heap.size, 1, none⟩ = some (.bool (ba)) := fun y => (a0.ext (X.trans y.x)).cell 1
  have p02 : ∀ y : Xt w0.drew, y.W.cell? ⟨w.heap.size, 2, none⟩ = some (.int .i64 (na)) := fun y => (a0.ext (X.trans y.x)).cell 2
  have p03 : ∀ y : Xt w0.drew, y.W.cell? ⟨w.heap.size, 3, none⟩ = some (.string (sa)) := fun y => (a0.ext (X.trans y.x)).cell 3
  have p10 : ∀ y : Xt w0.drew, y.W.cell? ⟨w.heap.size + 1, 0, none⟩ = some (.int .u8 (kb)) := fun y => (b0.ext (X.trans y.x)).cell 0
  have p11 : ∀ y : Xt w0.drew, y.W.cell? ⟨w.heap.size + 1, 1, none⟩ = some (.bool (bb)) := fun y => (b0.ext (X.trans y.x)).cell 1
  have p12 : ∀ y : Xt w0.drew, y.W.cell? ⟨w.heap.size + 1, 2, none⟩ = some (.int .i64 (nb)) := fun y => (b0.ext (X.trans y.x)).cell 2
  have p13 : ∀ y : Xt w0.drew, y.W.cell? ⟨w.heap.size + 1, 3, none⟩ = some (.string (sb)) := fun y => (b0.ext (X.trans y.x)).cell 3
  refine wp_region_ord [0,0,2,6,14,30,62,126,254,510,1022,2046,4094,8190,16382,32766,65534,131070,262142,524286,1048574,2097150,4194302,8388606,16777214,33554430,67108862,134217726,0,0,805306368,2147483647,4294967295,4294967295,17179869183,34359738367] (.flo [0,1,2,3,4,5,6,7,8,9,10,11,12,13,14,15,16,17,18,19,20,21,22,23,24,25,26,28,29] (.both 27 30 (.ext 30 (.one 31 (.flo [32,33] (.one 34 (.flo [35] (.fin)))))) (.ext 27 (.one 31 (.flo [32,33] (.one 34 (.flo [35] (.fin)))))))) (by kernel_rfl) (by kernel_rfl) (by intro _ _ d _ _ h; cases d <;> exact h) ?_
  (refine ord_flo (pick_cons rfl (pick_cons rfl (pick_cons rfl (pick_cons rfl (pick_cons rfl (pick_cons rfl (pick_cons rfl (pick_cons rfl (pick_cons rfl (pick_cons rfl (pick_cons rfl (pick_cons rfl (pick_cons rfl (pick_cons rfl (pick_cons rfl (pick_cons rfl (pick_cons rfl (pick_cons rfl (pick_cons rfl (pick_cons rfl (pick_cons rfl (pick_cons rfl (pick_cons rfl (pick_cons rfl (pick_cons rfl (pick_cons rfl (pick_cons rfl (pick_cons rfl (pick_cons rfl pick_nil))))))))))))))))))))))))))))) ?_; (repeat (go_big_quiet_step (fail))); refine wpQuiet_nil ?_; show ordWalk _ _ _ _ _ _ _)
  refine ord_both (pick_cons rfl pick_nil) (pick_cons rfl pick_nil) ?_ ?_ <;> intro K_ hK_
  · go_wp2_with (go_at_call 72; refine (over_any _ _).mono ?_; rintro e w9 ⟨rfl, rfl⟩)
    refine ordNext.mk (Ext.refl _) ?_
    refine ord_ext (pick_cons rfl pick_nil) ?_; intro K_ hK_
    go_wp2
    refine ordNext.mk ((Ext.refl _).alloc _) ?_
    refine ord_one (pick_cons rfl pick_nil) ?_; intro K_ hK_
    go_wp2_with (go_at_call 71; refine (numbers_at _ _ _ _ 2 [⟨ka, ba, na, sa⟩, ⟨kb, bb, nb, sb⟩] _ HR rfl (by omega) (Dats.two (by first | exact Bk.at (by simp) | exact (Bk.at (by simp)).drew)) (by simpa using ⟨hs, hs2⟩)).mono ?_; rintro e w2 ⟨rfl, x2⟩; have z2 : Bk w2 (w.heap.size + 1 + 1) 24 #[.int .u8 (0), .bool (false), .int .i64 (0), .string (⟨#[]⟩)] := (z0.ext ((X.alloc (.cells #[.int .u8 (ka), .bool (ba), .int .i64 (na), .string (sa), .int .u8 (kb), .bool (bb), .int .i64 (nb), .string (sb)] 24)).trans (by exact x2))); have z2f0 : w2.frozen? ⟨w.heap.size + 1 + 1, 0, none⟩ = false := z2.free 0; have z2f1 : w2.frozen? ⟨w.heap.size + 1 + 1, 1, none⟩ = false := z2.free 1; have z2f2 : w2.frozen? ⟨w.heap.size + 1 + 1, 2, none⟩ = false := z2.free 2; have z2f3 : w2.frozen? ⟨w.heap.size + 1 + 1, 3, none⟩ = false := z2.free 3; have z2c0 : w2.cell? ⟨w.heap.size + 1 + 1, 0, none⟩ = some (.int .u8 (0)) := z2.cell 0; have z2c1 : w2.cell? ⟨w.heap.size + 1 + 1, 1, none⟩ = some (.bool (false)) := z2.cell 1; have z2c2 : w2.cell? ⟨w.heap.size + 1 + 1, 2, none⟩ = some (.int .i64 (0)) := z2.cell 2; have z2c3 : w2.cell? ⟨w.heap.size + 1 + 1, 3, none⟩ = some (.string (⟨#[]⟩)) := z2.cell 3)
    (refine ord_flo (pick_cons rfl (pick_cons rfl pick_nil)) ?_; (repeat (go_big_quiet_step (fail))); refine wpQuiet_nil ?_; show ordWalk _ _ _ _ _ _ _)
    refine ord_one (pick_cons rfl pick_nil) ?_; intro K_ hK_
    go_wp2
    (refine ord_flo (pick_cons rfl pick_nil) ?_; (repeat (go_big_quiet_step (fail))); refine wpQuiet_nil ?_; show ordWalk _ _ _ _ _ _ _)
    refine ord_fin ?_
    go_wp2
    have q := z2.set4 (.int .u8 rk) (.bool rb) (.int .i64 rn) (.string rs)
    refine bodyPost_ret (v := .tuple #[.agg #[.int .u8 rk, .bool rb, .int .i64 rn, .string rs], .int .i64 re]) (by simp [results, Tryd.results33, go_sem, q.1, q.2.1, q.2.2.1, q.2.2.2]) rfl ⟨rfl, Ext.set4 (E0.trans ((X.alloc (.cells #[.int .u8 (ka), .bool (ba), .int .i64 (na), .string (sa), .int .u8 (kb), .bool (bb), .int .i64 (nb), .string (sb)] 24)).trans (by exact x2))) (by first | omega | simp) _ _ _ _⟩
  · go_wp2
    refine ordNext.mk ((Ext.refl _).alloc _) ?_
    refine ord_ext (pick_cons rfl pick_nil) ?_; intro K_ hK_
    go_wp2_with (go_at_call 72; refine (over_any _ _).mono ?_; rintro e w9 ⟨rfl, rfl⟩)
    refine ordNext.mk (Ext.refl _) ?_
    refine ord_one (pick_cons rfl pick_nil) ?_; intro K_ hK_
    go_wp2_with (go_at_call 71; refine (numbers_at _ _ _ _ 2 [⟨ka, ba, na, sa⟩, ⟨kb, bb, nb, sb⟩] _ HR rfl (by omega) (Dats.two (by first | exact Bk.at (by simp) | exact (Bk.at (by simp)).drew)) (by simpa using ⟨hs, hs2⟩)).mono ?_; rintro e w2 ⟨rfl, x2⟩; have z2 : Bk w2 (w.heap.size + 1 + 1) 24 #[.int .u8 (0), .bool (false), .int .i64 (0), .string (⟨#[]⟩)] := (z0.ext ((X.alloc (.cells #[.int .u8 (ka), .bool (ba), .int .i64 (na), .string (sa), .int .u8 (kb), .bool (bb), .int .i64 (nb), .string (sb)] 24)).trans (by exact x2))); have z2f0 : w2.frozen? ⟨w.heap.size + 1 + 1, 0, none⟩ = false := z2.free 0; have z2f1 : w2.frozen? ⟨w.heap.size + 1 + 1, 1, none⟩ = false := z2.free 1; have z2f2 : w2.frozen? ⟨w.heap.size + 1 + 1, 2, none⟩ = false := z2.free 2; have z2f3 : w2.frozen? ⟨w.heap.size + 1 + 1, 3, none⟩ = false := z2.free 3; have z2c0 : w2.cell? ⟨w.heap.size + 1 + 1, 0, none⟩ = some (.int .u8 (0)) := z2.cell 0; have z2c1 : w2.cell? ⟨w.heap.size + 1 + 1, 1, none⟩ = some (.bool (false)) := z2.cell 1; have z2c2 : w2.cell? ⟨w.heap.size + 1 + 1, 2, none⟩ = some (.int .i64 (0)) := z2.cell 2; have z2c3 : w2.cell? ⟨w.heap.size + 1 + 1, 3, none⟩ = some (.string (⟨#[]⟩)) := z2.cell 3)
    (refine ord_flo (pick_cons rfl (pick_cons rfl pick_nil)) ?_; (repeat (go_big_quiet_step (fail))); refine wpQuiet_nil ?_; show ordWalk _ _ _ _ _ _ _)
    refine ord_one (pick_cons rfl pick_nil) ?_; intro K_ hK_
    go_wp2
    (refine ord_flo (pick_cons rfl pick_nil) ?_; (repeat (go_big_quiet_step (fail))); refine wpQuiet_nil ?_; show ordWalk _ _ _ _ _ _ _)
    refine ord_fin ?_
    go_wp2
    have q := z2.set4 (.int .u8 rk) (.bool rb) (.int .i64 rn) (.string rs)
    refine bodyPost_ret (v := .tuple #[.agg #[.int .u8 rk, .bool rb, .int .i64 rn, .string rs], .int .i64 re]) (by simp [results, Tryd.results33, go_sem, q.1, q.2.1, q.2.2.1, q.2.2.2]) rfl ⟨rfl, Ext.set4 (E0.trans ((X.alloc (.cells #[.int .u8 (ka), .bool (ba), .int .i64 (na), .string (sa), .int .u8 (kb), .bool (bb), .int .i64 (nb), .string (sb)] 24)).trans (by exact x2))) (by first | omega | simp) _ _ _ _⟩
set_option maxRecDepth 100000 in
set_option maxHeartbeats 1600000 in
theorem radd_pp1 (ka na kb nb : Int) (ba bb : Bool) (sa sb : ByteArray) (c : Int) (w : World) (hs : sa.size ≤ 140737488355328) (hs2 : sb.size ≤ 140737488355328) (hw : wrap64 (na + nb) = c) (f0 : 0 ≤ na) (f1 : 0 ≤ nb) (f2 : c < 0) :
    Calls Tryd.prog 33 #[.agg #[.int .u8 (ka), .bool (ba), .int .i64 (na), .string (sa)], .agg #[.int .u8 (kb), .bool (bb), .int .i64 (nb), .string (sb)]] w (RefOut w (applyR 3 [⟨ka, ba, na, sa⟩, ⟨kb, bb, nb, sb⟩] (numR c 10))) := by
  have hw2 : IntKind.i64.wrap (na + nb) = c := by rw [IntKind.wrap_i64]; simpa [wrap64] using hw
  obtain ⟨⟨⟨rk, rb, rn, rs⟩, re⟩, hr⟩ : ∃ r, applyR 3 [⟨ka, ba, na, sa⟩, ⟨kb, bb, nb, sb⟩] (numR c 10) = r := ⟨_, rfl⟩
  rw [hr]
  have HR := Lib.hid hr
  clear hr
  have u0 : decide (0 ≤ na) = true := by first | exact decide_eq_true (by omega) | exact decide_eq_false (by omega)
  have u1 : decide (0 ≤ nb) = true := by first | exact decide_eq_true (by omega) | exact decide_eq_false (by omega)
  have u2 : decide (c < 0) = true := by first | exact decide_eq_true (by omega) | exact decide_eq_false (by omega)
  go_enter Tryd.func33, Tryd.ntmps33
  go_upto_region 2 with fail
  have a0 : Bk (((w.alloc (.cells #[.int .u8 (ka), .bool (ba), .int .i64 (na), .string (sa)] 24)).alloc (.cells #[.int .u8 (kb), .bool (bb), .int .i64 (nb), .string (sb)] 24)).alloc (.cells #[.int .u8 (0), .bool (false), .int .i64 (0), .string (⟨#[]⟩)] 24)) (w.heap.size) 24 #[.int .u8 (ka), .bool (ba), .int .i64 (na), .string (sa)] := ((Bk.at (by simp)).alloc _).alloc _
  have b0 : Bk (((w.alloc (.cells #[.int .u8 (ka), .bool (ba), .int .i64 (na), .string (sa)] 24)).alloc (.cells #[.int .u8 (kb), .bool (bb), .int .i64 (nb), .string (sb)] 24)).alloc (.cells #[.int .u8 (0), .bool (false), .int .i64 (0), .string (⟨#[]⟩)] 24)) (w.heap.size + 1) 24 #[.int .u8 (kb), .bool (bb), .int .i64 (nb), .string (sb)] := (Bk.at (by simp)).alloc _
  have z0 : Bk (((w.alloc (.cells #[.int .u8 (ka), .bool (ba), .int .i64 (na), .string (sa)] 24)).alloc (.cells #[.int .u8 (kb), .bool (bb), .int .i64 (nb), .string (sb)] 24)).alloc (.cells #[.int .u8 (0), .bool (false), .int .i64 (0), .string (⟨#[]⟩)] 24)) (w.heap.size + 1 + 1) 24 #[.int .u8 (0), .bool (false), .int .i64 (0), .string (⟨#[]⟩)] := Bk.at (by simp)
  have E0 : Ext w (((w.alloc (.cells #[.int .u8 (ka), .bool (ba), .int .i64 (na), .string (sa)] 24)).alloc (.cells #[.int .u8 (kb), .bool (bb), .int .i64 (nb), .string (sb)] 24)).alloc (.cells #[.int .u8 (0), .bool (false), .int .i64 (0), .string (⟨#[]⟩)] 24)) := (((Ext.refl w).alloc _).alloc _).alloc _
  obtain ⟨w0, hw0⟩ : ∃ w0, w0 = (((w.alloc (.cells #[.int .u8 (ka), .bool (ba), .int .i64 (na), .string (sa)] 24)).alloc (.cells #[.int .u8 (kb), .bool (bb), .int .i64 (nb), .string (sb)] 24)).alloc (.cells #[.int .u8 (0), .bool (false), .int .i64 (0), .string (⟨#[]⟩)] 24)) := ⟨_, rfl⟩
  rw [← hw0] at a0 b0 z0 E0 ⊢
  clear hw0
  have X : Ext w0 w0.drew := (Ext.refl w0).drew
  have p00 : ∀ y : Xt w0.drew, y.W.cell? ⟨w.heap.size, 0, none⟩ = some (.int .u8 (ka)) := fun y => (a0.ext (X.trans y.x)).cell 0
  have p01 : ∀ y : Xt w0.drew, y.W.cell? ⟨w.heap.size, 1, none⟩ = some (.bool (ba)) := fun y => (a0.ext (X.trans y.x)).cell 1
  have p02 : ∀ y : Xt w0.drew, y.W.cell? ⟨w.heap.size, 2, none⟩ = some (.int .i64 (na)) := fun y => (a0.ext (X.trans y.x)).cell 2
  have p03 : ∀ y : Xt w0.drew, y.W.cell? ⟨w.heap.size, 3, none⟩ = some (.string (sa)) := fun y => (a0.ext (X.trans y.x)).cell 3
  have p10 : ∀ y : Xt w0.drew, y.W.cell? ⟨w.heap.size + 1, 0, none⟩ = some (.int .u8 (kb)) := fun y => (b0.ext (X.trans y.x)).cell 0
  have p11 : ∀ y : Xt w0.drew, y.W.cell? ⟨w.heap.size + 1, 1, none⟩ = some (.bool (bb)) := fun y => (b0.ext (X.trans y.x)).cell 1
  have p12 : ∀ y : Xt w0.drew, y.W.cell? ⟨w.heap.size + 1, 2, none⟩ = some (.int .i64 (nb)) := fun y => (b0.ext (X.trans y.x)).cell 2
  have p13 : ∀ y : Xt w0.drew, y.W.cell? ⟨w.heap.size + 1, 3, none⟩ = some (.string (sb)) := fun y => (b0.ext (X.trans y.x)).cell 3
  refine wp_region_ord [0,0,2,6,14,30,62,126,254,510,1022,2046,4094,8190,16382,32766,65534,131070,262142,524286,1048574,2097150,4194302,8388606,16777214,33554430,67108862,134217726,0,0,805306368,2147483647,4294967295,4294967295,17179869183,34359738367] (.flo [0,1,2,3,4,5,6,7,8,9,10,11,12,13,14,15,16,17,18,19,20,21,22,23,24,25,26,28,29] (.both 27 30 (.ext 30 (.one 31 (.flo [32,33] (.one 34 (.flo [35] (.fin)))))) (.ext 27 (.one 31 (.flo [32,33] (.one 34 (.flo [35] (.fin)))))))) (by kernel_rfl) (by kernel_rfl) (by intro _ _ d _ _ h; cases d <;> exact h) ?_
  (refine ord_flo (pick_cons rfl (pick_cons rfl (pick_cons rfl (pick_cons rfl (pick_cons rfl (pick_cons rfl (pick_cons rfl (pick_cons rfl (pick_cons rfl (pick_cons rfl (pick_cons rfl (pick_cons rfl (pick_cons rfl (pick_cons rfl (pick_cons rfl (pick_cons rfl (pick_cons rfl (pick_cons rfl (pick_cons rfl (pick_cons rfl (pick_cons rfl (pick_cons rfl (pick_cons rfl (pick_cons rfl (pick_cons rfl (pick_cons rfl (pick_cons rfl (pick_cons rfl (pick_cons rfl pick_nil))))))))))))))))))))))))))))) ?_; (repeat (go_big_quiet_step (fail))); refine wpQuiet_nil ?_; show ordWalk _ _ _ _ _ _ _)
  refine ord_both (pick_cons rfl pick_nil) (pick_cons rfl pick_nil) ?_ ?_ <;> intro K_ hK_
  · go_wp2_with (go_at_call 72; refine (over_any _ _).mono ?_; rintro e w9 ⟨rfl, rfl⟩)
    refine ordNext.mk (Ext.refl _) ?_
    refine ord_ext (pick_cons rfl pick_nil) ?_; intro K_ hK_
    go_wp2
    refine ordNext.mk ((Ext.refl _).alloc _) ?_
    refine ord_one (pick_cons rfl pick_nil) ?_; intro K_ hK_
    go_wp2_with (go_at_call 71; refine (numbers_at _ _ _ _ 2 [⟨ka, ba, na, sa⟩, ⟨kb, bb, nb, sb⟩] _ HR rfl (by omega) (Dats.two (by first | exact Bk.at (by simp) | exact (Bk.at (by simp)).drew)) (by simpa using ⟨hs, hs2⟩)).mono ?_; rintro e w2 ⟨rfl, x2⟩; have z2 : Bk w2 (w.heap.size + 1 + 1) 24 #[.int .u8 (0), .bool (false), .int .i64 (0), .string (⟨#[]⟩)] := (z0.ext ((X.alloc (.cells #[.int .u8 (ka), .bool (ba), .int .i64 (na), .string (sa), .int .u8 (kb), .bool (bb), .int .i64 (nb), .string (sb)] 24)).trans (by exact x2))); have z2f0 : w2.frozen? ⟨w.heap.size + 1 + 1, 0, none⟩ = false := z2.free 0; have z2f1 : w2.frozen? ⟨w.heap.size + 1 + 1, 1, none⟩ = false := z2.free 1; have z2f2 : w2.frozen? ⟨w.heap.size + 1 + 1, 2, none⟩ = false := z2.free 2; have z2f3 : w2.frozen? ⟨w.heap.size + 1 + 1, 3, none⟩ = false := z2.free 3; have z2c0 : w2.cell? ⟨w.heap.size + 1 + 1, 0, none⟩ = some (.int .u8 (0)) := z2.cell 0; have z2c1 : w2.cell? ⟨w.heap.size + 1 + 1, 1, none⟩ = some (.bool (false)) := z2.cell 1; have z2c2 : w2.cell? ⟨w.heap.size + 1 + 1, 2, none⟩ = some (.int .i64 (0)) := z2.cell 2; have z2c3 : w2.cell? ⟨w.heap.size + 1 + 1, 3, none⟩ = some (.string (⟨#[]⟩)) := z2.cell 3)
    (refine ord_flo (pick_cons rfl (pick_cons rfl pick_nil)) ?_; (repeat (go_big_quiet_step (fail))); refine wpQuiet_nil ?_; show ordWalk _ _ _ _ _ _ _)
    refine ord_one (pick_cons rfl pick_nil) ?_; intro K_ hK_
    go_wp2
    (refine ord_flo (pick_cons rfl pick_nil) ?_; (repeat (go_big_quiet_step (fail))); refine wpQuiet_nil ?_; show ordWalk _ _ _ _ _ _ _)
    refine ord_fin ?_
    go_wp2
    have q := z2.set4 (.int .u8 rk) (.bool rb) (.int .i64 rn) (.string rs)
    refine bodyPost_ret (v := .tuple #[.agg #[.int .u8 rk, .bool rb, .int .i64 rn, .string rs], .int .i64 re]) (by simp [results, Tryd.results33, go_sem, q.1, q.2.1, q.2.2.1, q.2.2.2]) rfl ⟨rfl, Ext.set4 (E0.trans ((X.alloc (.cells #[.int .u8 (ka), .bool (ba), .int .i64 (na), .string (sa), .int .u8 (kb), .bool (bb), .int .i64 (nb), .string (sb)] 24)).trans (by exact x2))) (by first | omega | simp) _ _ _ _⟩
  · go_wp2
    refine ordNext.mk ((Ext.refl _).alloc _) ?_
    refine ord_ext (pick_cons rfl pick_nil) ?_; intro K_ hK_
    go_wp2_with (go_at_call 72; refine (over_any _ _).mono ?_; rintro e w9 ⟨rfl, rfl⟩)
    refine ordNext.mk (Ext.refl _) ?_
    refine ord_one (pick_cons rfl pick_nil) ?_; intro K_ hK_
    go_wp2_with (go_at_call 71; refine (numbers_at _ _ _ _ 2 [⟨ka, ba, na, sa⟩, ⟨kb, bb, nb, sb⟩] _ HR rfl (by omega) (Dats.two (by first | exact Bk.at (by simp) | exact (Bk.at (by simp)).drew)) (by simpa using ⟨hs, hs2⟩)).mono ?_; rintro e w2 ⟨rfl, x2⟩; have z2 : Bk w2 (w.heap.size + 1 + 1) 24 #[.int .u8 (0), .bool (false), .int .i64 (0), .string (⟨#[]⟩)] := (z0.ext ((X.alloc (.cells #[.int .u8 (ka), .bool (ba), .int .i64 (na), .string (sa), .int .u8 (kb), .bool (bb), .int .i64 (nb), .string (sb)] 24)).trans (by exact x2))); have z2f0 : w2.frozen? ⟨w.heap.size + 1 + 1, 0, none⟩ = false := z2.free 0; have z2f1 : w2.frozen? ⟨w.heap.size + 1 + 1, 1, none⟩ = false := z2.free 1; have z2f2 : w2.frozen? ⟨w.heap.size + 1 + 1, 2, none⟩ = false := z2.free 2; have z2f3 : w2.frozen? ⟨w.heap.size + 1 + 1, 3, none⟩ = false := z2.free 3; have z2c0 : w2.cell? ⟨w.heap.size + 1 + 1, 0, none⟩ = some (.int .u8 (0)) := z2.cell 0; have z2c1 : w2.cell? ⟨w.heap.size + 1 + 1, 1, none⟩ = some (.bool (false)) := z2.cell 1; have z2c2 : w2.cell? ⟨w.heap.size + 1 + 1, 2, none⟩ = some (.int .i64 (0)) := z2.cell 2; have z2c3 : w2.cell? ⟨w.heap.size + 1 + 1, 3, none⟩ = some (.string (⟨#[]⟩)) := z2.cell 3)
    (refine ord_flo (pick_cons rfl (pick_cons rfl pick_nil)) ?_; (repeat (go_big_quiet_step (fail))); refine wpQuiet_nil ?_; show ordWalk _ _ _ _ _ _ _)
    refine ord_one (pick_cons rfl pick_nil) ?_; intro K_ hK_
    go_wp2
    (refine ord_flo (pick_cons rfl pick_nil) ?_; (repeat (go_big_quiet_step (fail))); refine wpQuiet_nil ?_; show ordWalk _ _ _ _ _ _ _)
    refine ord_fin ?_
    go_wp2
    have q := z2.set4 (.int .u8 rk) (.bool rb) (.int .i64 rn) (.string rs)
    refine bodyPost_ret (v := .tuple #[.agg #[.int .u8 rk, .bool rb, .int .i64 rn, .string rs], .int .i64 re]) (by simp [results, Tryd.results33, go_sem, q.1, q.2.1, q.2.2.1, q.2.2.2]) rfl ⟨rfl, Ext.set4 (E0.trans ((X.alloc (.cells #[.int .u8 (ka), .bool (ba), .int .i64 (na), .string (sa), .int .u8 (kb), .bool (bb), .int .i64 (nb), .string (sb)] 24)).trans (by exact x2))) (by first | omega | simp) _ _ _ _⟩
set_option maxRecDepth 100000 in
set_option maxHeartbeats 1600000 in
theorem radd_pn (ka na kb nb : Int) (ba bb : Bool) (sa sb : ByteArray) (c : Int) (w : World) (hs : sa.size ≤ 140737488355328) (hs2 : sb.size ≤ 140737488355328) (hw : wrap64 (na + nb) = c) (f0 : 0 ≤ na) (f1 : ¬ 0 ≤ nb) (f2 : ¬ na < 0) :
    Calls Tryd.prog 33 #[.agg #[.int .u8 (ka), .bool (ba), .int .i64 (na), .string (sa)], .agg #[.int .u8 (kb), .bool (bb), .int .i64 (nb), .string (sb)]] w (RefOut w (applyR 3 [⟨ka, ba, na, sa⟩, ⟨kb, bb, nb, sb⟩] (numR c 0))) := by
  have hw2 : IntKind.i64.wrap (na + nb) = c := by rw [IntKind.wrap_i64]; simpa [wrap64] using hw
  obtain ⟨⟨⟨rk, rb, rn, rs⟩, re⟩, hr⟩ : ∃ r, applyR 3 [⟨ka, ba, na, sa⟩, ⟨kb, bb, nb, sb⟩] (numR c 0) = r := ⟨_, rfl⟩
  rw [hr]
  have HR := Lib.hid hr
  clear hr
  have u0 : decide (0 ≤ na) = true := by first | exact decide_eq_true (by omega) | exact decide_eq_false (by omega)
  have u1 : decide (0 ≤ nb) = false := by first | exact decide_eq_true (by omega) | exact decide_eq_false (by omega)
  have u2 : decide (na < 0) = false := by first | exact decide_eq_true (by omega) | exact decide_eq_false (by omega)
  go_enter Tryd.func33, Tryd.ntmps33
  go_upto_region 2 with fail
  have a0 : Bk (((w.alloc (.cells #[.int .u8 (ka), .bool (ba), .int .i64 (na), .string (sa)] 24)).alloc (.cells #[.int .u8 (kb), .bool (bb), .int .i64 (nb), .string (sb)] 24)).alloc (.cells #[.int .u8 (0), .bool (false), .int .i64 (0), .string (⟨#[]⟩)] 24)) (w.heap.size) 24 #[.int .u8 (ka), .bool (ba), .int .i64 (na), .string (sa)] := ((Bk.at (by simp)).alloc _).alloc _
  have b0 : Bk (((w.alloc (.cells #[.int .u8 (ka), .bool (ba), .int .i64 (na), .string (sa)] 24)).alloc (.cells #[.int .u8 (kb), .bool (bb), .int .i64 (nb), .string (sb)] 24)).alloc (.cells #[.int .u8 (0), .bool (false), .int .i64 (0), .string (⟨#[]⟩)] 24)) (w.heap.size + 1) 24 #[.int .u8 (kb), .bool (bb), .int .i64 (nb), .string (sb)] := (Bk.at (by simp)).alloc _
  have z0 : Bk (((w.alloc (.cells #[.int .u8 (ka), .bool (ba), .int .i64 (na), .string (sa)] 24)).alloc (.cells #[.int .u8 (kb), .bool (bb), .int .i64 (nb), .string (sb)] 24)).alloc (.cells #[.int .u8 (0), .bool (false), .int .i64 (0), .string (⟨#[]⟩)] 24)) (w.heap.size + 1 + 1) 24 #[.int .u8 (0), .bool (false), .int .i64 (0), .string (⟨#[]⟩)] := Bk.at (by simp)
  have E0 : Ext w (((w.alloc (.cells #[.int .u8 (ka), .bool (ba), .int .i64 (na), .string (sa)] 24)).alloc (.cells #[.int .u8 (kb), .bool (bb), .int .i64 (nb), .string (sb)] 24)).alloc (.cells #[.int .u8 (0), .bool (false), .int .i64 (0), .string (⟨#[]⟩)] 24)) := (((Ext.refl w).alloc _).alloc _).alloc _
  obtain ⟨w0, hw0⟩ : ∃ w0, w0 = (((w.alloc (.cells #[.int .u8 (ka), .bool (ba), .int .i64 (na), .string (sa)] 24)).alloc (.cells #[.int .u8 (kb), .bool (bb), .int .i64 (nb), .string (sb)] 24)).alloc (.cells #[.int .u8 (0), .bool (false), .int .i64 (0), .string (⟨#[]⟩)] 24)) := ⟨_, rfl⟩
  rw [← hw0] at a0 b0 z0 E0 ⊢
  clear hw0
  have X : Ext w0 w0.drew := (Ext.refl w0).drew
  have p00 : ∀ y : Xt w0.drew, y.W.cell? ⟨w.heap.size, 0, none⟩ = some (.int .u8 (ka)) := fun y => (a0.ext (X.trans y.x)).cell 0
  have p01 : ∀ y : Xt w0.drew, y.W.cell? ⟨w.heap.size, 1, none⟩ = some (.bool (ba)) := fun y => (a0.ext (X.trans y.x)).cell 1
  have p02 : ∀ y : Xt w0.drew, y.W.cell? ⟨w.heap.size, 2, none⟩ = some (.int .i64 (na)) := fun y => (a0.ext (X.trans y.x)).cell 2
  have p03 : ∀ y : Xt w0.drew, y.W.cell? ⟨w.heap.size, 3, none⟩ = some (.string (sa)) := fun y => (a0.ext (X.trans y.x)).cell 3
  have p10 : ∀ y : Xt w0.drew, y.W.cell? ⟨w.heap.size + 1, 0, none⟩ = some (.int .u8 (kb)) := fun y => (b0.ext (X.trans y.x)).cell 0
  have p11 : ∀ y : Xt w0.drew, y.W.cell? ⟨w.heap.size + 1, 1, none⟩ = some (.bool (bb)) := fun y => (b0.ext (X.trans y.x)).cell 1
  have p12 : ∀ y : Xt w0.drew, y.W.cell? ⟨w.heap.size + 1, 2, none⟩ = some (.int .i64 (nb)) := fun y => (b0.ext (X.trans y.x)).cell 2
  have p13 : ∀ y : Xt w0.drew, y.W.cell? ⟨w.heap.size + 1, 3, none⟩ = some (.string (sb)) := fun y => (b0.ext (X.trans y.x)).cell 3
  refine wp_region_ord [0,0,2,6,14,30,62,126,254,510,1022,2046,4094,8190,16382,32766,65534,131070,262142,524286,1048574,2097150,4194302,8388606,16777214,33554430,67108862,134217726,0,0,805306368,2147483647,4294967295,4294967295,17179869183,34359738367] (.flo [0,1,2,3,4,5,6,7,8,9,10,11,12,13,14,15,16,17,18,19,20,21,22,23,24,25,26,28,29] (.both 27 30 (.ext 30 (.one 31 (.flo [32,33] (.one 34 (.flo [35] (.fin)))))) (.ext 27 (.one 31 (.flo [32,33] (.one 34 (.flo [35] (.fin)))))))) (by kernel_rfl) (by kernel_rfl) (by intro _ _ d _ _ h; cases d <;> exact h) ?_
  (refine ord_flo (pick_cons rfl (pick_cons rfl (pick_cons rfl (pick_cons rfl (pick_cons rfl (pick_cons rfl (pick_cons rfl (pick_cons rfl (pick_cons rfl (pick_cons rfl (pick_cons rfl (pick_cons rfl (pick_cons rfl (pick_cons rfl (pick_cons rfl (pick_cons rfl (pick_cons rfl (pick_cons rfl (pick_cons rfl (pick_cons rfl (pick_cons rfl (pick_cons rfl (pick_cons rfl (pick_cons rfl (pick_cons rfl (pick_cons rfl (pick_cons rfl (pick_cons rfl (pick_cons rfl pick_nil))))))))))))))))))))))))))))) ?_; (repeat (go_big_quiet_step (fail))); refine wpQuiet_nil ?_; show ordWalk _ _ _ _ _ _ _)
  refine ord_both (pick_cons rfl pick_nil) (pick_cons rfl pick_nil) ?_ ?_ <;> intro K_ hK_
  · go_wp2_with (go_at_call 72; refine (over_any _ _).mono ?_; rintro e w9 ⟨rfl, rfl⟩)
    refine ordNext.mk (Ext.refl _) ?_
    refine ord_ext (pick_cons rfl pick_nil) ?_; intro K_ hK_
    go_wp2
    refine ordNext.mk ((Ext.refl _).alloc _) ?_
    refine ord_one (pick_cons rfl pick_nil) ?_; intro K_ hK_
    go_wp2_with (go_at_call 71; refine (numbers_at _ _ _ _ 2 [⟨ka, ba, na, sa⟩, ⟨kb, bb, nb, sb⟩] _ HR rfl (by omega) (Dats.two (by first | exact Bk.at (by simp) | exact (Bk.at (by simp)).drew)) (by simpa using ⟨hs, hs2⟩)).mono ?_; rintro e w2 ⟨rfl, x2⟩; have z2 : Bk w2 (w.heap.size + 1 + 1) 24 #[.int .u8 (0), .bool (false), .int .i64 (0), .string (⟨#[]⟩)] := (z0.ext ((X.alloc (.cells #[.int .u8 (ka), .bool (ba), .int .i64 (na), .string (sa), .int .u8 (kb), .bool (bb), .int .i64 (nb), .string (sb)] 24)).trans (by exact x2))); have z2f0 : w2.frozen? ⟨w.heap.size + 1 + 1, 0, none⟩ = false := z2.free 0; have z2f1 : w2.frozen? ⟨w.heap.size + 1 + 1, 1, none⟩ = false := z2.free 1; have z2f2 : w2.frozen? ⟨w.heap.size + 1 + 1, 2, none⟩ = false := z2.free 2; have z2f3 : w2.frozen? ⟨w.heap.size + 1 + 1, 3, none⟩ = false := z2.free 3; have z2c0 : w2.cell? ⟨w.heap.size + 1 + 1, 0, none⟩ = some (.int .u8 (0)) := z2.cell 0; have z2c1 : w2.cell? ⟨w.heap.size + 1 + 1, 1, none⟩ = some (.bool (false)) := z2.cell 1; have z2c2 : w2.cell? ⟨w.heap.size + 1 + 1, 2, none⟩ = some (.int .i64 (0)) := z2.cell 2; have z2c3 : w2.cell? ⟨w.heap.size + 1 + 1, 3, none⟩ = some (.string (⟨#[]⟩)) := z2.cell 3)
    (refine ord_flo (pick_cons rfl (pick_cons rfl pick_nil)) ?_; (repeat (go_big_quiet_step (fail))); refine wpQuiet_nil ?_; show ordWalk _ _ _ _ _ _ _)
    refine ord_one (pick_cons rfl pick_nil) ?_; intro K_ hK_
    go_wp2
    (refine ord_flo (pick_cons rfl pick_nil) ?_; (repeat (go_big_quiet_step (fail))); refine wpQuiet_nil ?_; show ordWalk _ _ _ _ _ _ _)
    refine ord_fin ?_
    go_wp2
    have q := z2.set4 (.int .u8 rk) (.bool rb) (.int .i64 rn) (.string rs)
    refine bodyPost_ret (v := .tuple #[.agg #[.int .u8 rk, .bool rb, .int .i64 rn, .string rs], .int .i64 re]) (by simp [results, Tryd.results33, go_sem, q.1, q.2.1, q.2.2.1, q.2.2.2]) rfl ⟨rfl, Ext.set4 (E0.trans ((X.alloc (.cells #[.int .u8 (ka), .bool (ba), .int .i64 (na), .string (sa), .int .u8 (kb), .bool (bb), .int .i64 (nb), .string (sb)] 24)).trans (by exact x2))) (by first | omega | simp) _ _ _ _⟩
  · go_wp2
    refine ordNext.mk ((Ext.refl _).alloc _) ?_
    refine ord_ext (pick_cons rfl pick_nil) ?_; intro K_ hK_
    go_wp2_with (go_at_call 72; refine (over_any _ _).mono ?_; rintro e w9 ⟨rfl, rfl⟩)
    refine ordNext.mk (Ext.refl _) ?_
    refine ord_one (pick_cons rfl pick_nil) ?_; intro K_ hK_
    go_wp2_with (go_at_call 71; refine (numbers_at _ _ _ _ 2 [⟨ka, ba, na, sa⟩, ⟨kb, bb, nb, sb⟩] _ HR rfl (by omega) (Dats.two (by first | exact Bk.at (by simp) | exact (Bk.at (by simp)).drew)) (by simpa using ⟨hs, hs2⟩)).mono ?_; rintro e w2 ⟨rfl, x2⟩; have z2 : Bk w2 (w.heap.size + 1 + 1) 24 #[.int .u8 (0), .bool (false), .int .i64 (0), .string (⟨#[]⟩)] := (z0.ext ((X.alloc (.cells #[.int .u8 (ka), .bool (ba), .int .i64 (na), .string (sa), .int .u8 (kb), .bool (bb), .int .i64 (nb), .string (sb)] 24)).trans (by exact x2))); have z2f0 : w2.frozen? ⟨w.heap.size + 1 + 1, 0, none⟩ = false := z2.free 0; have z2f1 : w2.frozen? ⟨w.heap.size + 1 + 1, 1, none⟩ = false := z2.free 1; have z2f2 : w2.frozen? ⟨w.heap.size + 1 + 1, 2, none⟩ = false := z2.free 2; have z2f3 : w2.frozen? ⟨w.heap.size + 1 + 1, 3, none⟩ = false := z2.free 3; have z2c0 : w2.cell? ⟨w.heap.size + 1 + 1, 0, none⟩ = some (.int .u8 (0)) := z2.cell 0; have z2c1 : w2.cell? ⟨w.heap.size + 1 + 1, 1, none⟩ = some (.bool (false)) := z2.cell 1; have z2c2 : w2.cell? ⟨w.heap.size + 1 + 1, 2, none⟩ = some (.int .i64 (0)) := z2.cell 2; have z2c3 : w2.cell? ⟨w.heap.size + 1 + 1, 3, none⟩ = some (.string (⟨#[]⟩)) := z2.cell 3)
    (refine ord_flo (pick_cons rfl (pick_cons rfl pick_nil)) ?_; (repeat (go_big_quiet_step (fail))); refine wpQuiet_nil ?_; show ordWalk _ _ _ _ _ _ _)
    refine ord_one (pick_cons rfl pick_nil) ?_; intro K_ hK_
    go_wp2
    (refine ord_flo (pick_cons rfl pick_nil) ?_; (repeat (go_big_quiet_step (fail))); refine wpQuiet_nil ?_; show ordWalk _ _ _ _ _ _ _)
    refine ord_fin ?_
    go_wp2
    have q := z2.set4 (.int .u8 rk) (.bool rb) (.int .i64 rn) (.string rs)
    refine bodyPost_ret (v := .tuple #[.agg #[.int .u8 rk, .bool rb, .int .i64 rn, .string rs], .int .i64 re]) (by simp [results, Tryd.results33, go_sem, q.1, q.2.1, q.2.2.1, q.2.2.2]) rfl ⟨rfl, Ext.set4 (E0.trans ((X.alloc (.cells #[.int .u8 (ka), .bool (ba), .int .i64 (na), .string (sa), .int .u8 (kb), .bool (bb), .int .i64 (nb), .string (sb)] 24)).trans (by exact x2))) (by first | omega | simp) _ _ _ _⟩
set_option maxRecDepth 100000 in
set_option maxHeartbeats 1600000 in
theorem radd_np (ka na kb nb : Int) (ba bb : Bool) (sa sb : ByteArray) (c : Int) (w : World) (hs : sa.size ≤ 140737488355328) (hs2 : sb.size ≤ 140737488355328) (hw : wrap64 (na + nb) = c) (f0 : ¬ 0 ≤ na) (f1 : na < 0) (f2 : ¬ nb < 0) :
    Calls Tryd.prog 33 #[.agg #[.int .u8 (ka), .bool (ba), .int .i64 (na), .string (sa)], .agg #[.int .u8 (kb), .bool (bb), .int .i64 (nb), .string (sb)]] w (RefOut w (applyR 3 [⟨ka, ba, na, sa⟩, ⟨kb, bb, nb, sb⟩] (numR c 0))) := by
  have hw2 : IntKind.i64.wrap (na + nb) = c := by rw [IntKind.wrap_i64]; simpa [wrap64] using hw
  obtain ⟨⟨⟨rk, rb, rn, rs⟩, re⟩, hr⟩ : ∃ r, applyR 3 [⟨ka, ba, na, sa⟩, ⟨kb, bb, nb, sb⟩] (numR c 0) = r := ⟨_, rfl⟩
  rw [hr]
  have HR := Lib.hid hr
  clear hr
  have u0 : decide (0 ≤ na) = false := by first | exact decide_eq_true (by omega) | exact decide_eq_false (by omega)
  have u1 : decide (na < 0) = true := by first | exact decide_eq_true (by omega) | exact decide_eq_false (by omega)
  have u2 : decide (nb < 0) = false := by first | exact decide_eq_true (by omega) | exact decide_eq_false (by omega)
  go_enter Tryd.func33, Tryd.ntmps33
  go_upto_region 2 with fail
  have a0 : Bk (((w.alloc (.cells #[.int .u8 (ka), .bool (ba), .int .i64 (na), .string (sa)] 24)).alloc (.cells #[.int .u8 (kb), .bool (bb), .int .i64 (nb), .string (sb)] 24)).alloc (.cells #[.int .u8 (0), .bool (false), .int .i64 (0), .string (⟨#[]⟩)] 24)) (w.heap.size) 24 #[.int .u8 (ka), .bool (ba), .int .i64 (na), .string (sa)] := ((Bk.at (by simp)).alloc _).alloc _
  have b0 : Bk (((w.alloc (.cells #[.int .u8 (ka), .bool (ba), .int .i64 (na), .string (sa)] 24)).alloc (.cells #[.int .u8 (kb), .bool (bb), .int .i64 (nb), .string (sb)] 24)).alloc (.cells #[.int .u8 (0), .bool (false), .int .i64 (0), .string (⟨#[]⟩)] 24)) (w.heap.size + 1) 24 #[.int .u8 (kb), .bool (bb), .int .i64 (nb), .string (sb)] := (Bk.at (by simp)).alloc _
  have z0 : Bk (((w.alloc (.cells #[.int .u8 (ka), .bool (ba), .int .i64 (na), .string (sa)] 24)).alloc (.cells #[.int .u8 (kb), .bool (bb), .int .i64 (nb), .string (sb)] 24)).alloc (.cells #[.int .u8 (0), .bool (false), .int .i64 (0), .string (⟨#[]⟩)] 24)) (w.heap.size + 1 + 1) 24 #[.int .u8 (0), .bool (false), .int .i64 (0), .string (⟨#[]⟩)] := Bk.at (by simp)
  have E0 : Ext w (((w.alloc (.cells #[.int .u8 (ka), .bool (ba), .int .i64 (na), .string (sa)] 24)).alloc (.cells #[.int .u8 (kb), .bool (bb), .int .i64 (nb), .string (sb)] 24)).alloc (.cells #[.int .u8 (0), .bool (false), .int .i64 (0), .string (⟨#[]⟩)] 24)) := (((Ext.refl w).alloc _).alloc _).alloc _
  obtain ⟨w0, hw0⟩ : ∃ w0, w0 = (((w.alloc (.cells #[.int .u8 (ka), .bool (ba), .int .i64 (na), .string (sa)] 24)).alloc (.cells #[.int .u8 (kb), .bool (bb), .int .i64 (nb), .string (sb)] 24)).alloc (.cells #[.int .u8 (0), .bool (false), .int .i64 (0), .string (⟨#[]⟩)] 24)) := ⟨_, rfl⟩
  rw [← hw0] at a0 b0 z0 E0 ⊢
  clear hw0
  have X : Ext w0 w0.drew := (Ext.refl w0).drew
  have p00 : ∀ y : Xt w0.drew, y.W.cell? ⟨w.heap.size, 0, none⟩ = some (.int .u8 (ka)) := fun y => (a0.ext (X.trans y.x)).cell 0
  have p01 : ∀ y : Xt w0.drew, y.W.cell? ⟨w.heap.size, 1, none⟩ = some (.bool (ba)) := fun y => (a0.ext (X.trans y.x)).cell 1
  have p02 : ∀ y : Xt w0.drew, y.W.cell? ⟨w.heap.size, 2, none⟩ = some (.int .i64 (na)) := fun y => (a0.ext (X.trans y.x)).cell 2
  have p03 : ∀ y : Xt w0.drew, y.W.cell? ⟨w.heap.size, 3, none⟩ = some (.string (sa)) := fun y => (a0.ext (X.trans y.x)).cell 3
  have p10 : ∀ y : Xt w0.drew, y.W.cell? ⟨w.heap.size + 1, 0, none⟩ = some (.int .u8 (kb)) := fun y => (b0.ext (X.trans y.x)).cell 0
  have p11 : ∀ y : Xt w0.drew, y.W.cell? ⟨w.heap.size + 1, 1, none⟩ = some (.bool (bb)) := fun y => (b0.ext (X.trans y.x)).cell 1
  have p12 : ∀ y : Xt w0.drew, y.W.cell? ⟨w.heap.size + 1, 2, none⟩ = some (.int .i64 (nb)) := fun y => (b0.ext (X.trans y.x)).cell 2
  have p13 : ∀ y : Xt w0.drew, y.W.cell? ⟨w.heap.size + 1, 3, none⟩ = some (.string (sb)) := fun y => (b0.ext (X.trans y.x)).cell 3
  refine wp_region_ord [0,0,2,6,14,30,62,126,254,510,1022,2046,4094,8190,16382,32766,65534,131070,262142,524286,1048574,2097150,4194302,8388606,16777214,33554430,67108862,134217726,0,0,805306368,2147483647,4294967295,4294967295,17179869183,34359738367] (.flo [0,1,2,3,4,5,6,7,8,9,10,11,12,13,14,15,16,17,18,19,20,21,22,23,24,25,26,28,29] (.both 27 30 (.ext 30 (.one 31 (.flo [32,33] (.one 34 (.flo [35] (.fin)))))) (.ext 27 (.one 31 (.flo [32,33] (.one 34 (.flo [35] (.fin)))))))) (by kernel_rfl) (by kernel_rfl) (by intro _ _ d _ _ h; cases d <;> exact h) ?_
  (refine ord_flo (pick_cons rfl (pick_cons rfl (pick_cons rfl (pick_cons rfl (pick_cons rfl (pick_cons rfl (pick_cons rfl (pick_cons rfl (pick_cons rfl (pick_cons rfl (pick_cons rfl (pick_cons rfl (pick_cons rfl (pick_cons rfl (pick_cons rfl (pick_cons rfl (pick_cons rfl (pick_cons rfl (pick_cons rfl (pick_cons rfl (pick_cons rfl (pick_cons rfl (pick_cons rfl (pick_cons rfl (pick_cons rfl (pick_cons rfl (pick_cons rfl (pick_cons rfl (pick_cons rfl pick_nil))))))))))))))))))))))))))))) ?_; (repeat (go_big_quiet_step (fail))); refine wpQuiet_nil ?_; show ordWalk _ _ _ _ _ _ _)
  refine ord_both (pick_cons rfl pick_nil) (pick_cons rfl pick_nil) ?_ ?_ <;> intro K_ hK_
  · go_wp2_with (go_at_call 72; refine (over_any _ _).mono ?_; rintro e w9 ⟨rfl, rfl⟩)
    refine ordNext.mk (Ext.refl _) ?_
    refine ord_ext (pick_cons rfl pick_nil) ?_; intro K_ hK_
    go_wp2
    refine ordNext.mk ((Ext.refl _).alloc _) ?_
    refine ord_one (pick_cons rfl pick_nil) ?_; intro K_ hK_
    go_wp2_with (go_at_call 71; refine (numbers_at _ _ _ _ 2 [⟨ka, ba, na, sa⟩, ⟨kb, bb, nb, sb⟩] _ HR rfl (by omega) (Dats.two (by first | exact Bk.at (by simp) | exact (Bk.at (by simp)).drew)) (by simpa using ⟨hs, hs2⟩)).mono ?_; rintro e w2 ⟨rfl, x2⟩; have z2 : Bk w2 (w.heap.size + 1 + 1) 24 #[.int .u8 (0), .bool (false), .int .i64 (0), .string (⟨#[]⟩)] := (z0.ext ((X.alloc (.cells #[.int .u8 (ka), .bool (ba), .int .i64 (na), .string (sa), .int .u8 (kb), .bool (bb), .int .i64 (nb), .string (sb)] 24)).trans (by exact x2))); have z2f0 : w2.frozen? ⟨w.heap.size + 1 + 1, 0, none⟩ = false := z2.free 0; have z2f1 : w2.frozen? ⟨w.heap.size + 1 + 1, 1, none⟩ = false := z2.free 1; have z2f2 : w2.frozen? ⟨w.heap.size + 1 + 1, 2, none⟩ = false := z2.free 2; have z2f3 : w2.frozen? ⟨w.heap.size + 1 + 1, 3, none⟩ = false := z2.free 3; have z2c0 : w2.cell? ⟨w.heap.size + 1 + 1, 0, none⟩ = some (.int .u8 (0)) := z2.cell 0; have z2c1 : w2.cell? ⟨w.heap.size + 1 + 1, 1, none⟩ = some (.bool (false)) := z2.cell 1; have z2c2 : w2.cell? ⟨w.heap.size + 1 + 1, 2, none⟩ = some (.int .i64 (0)) := z2.cell 2; have z2c3 : w2.cell? ⟨w.heap.size + 1 + 1, 3, none⟩ = some (.string (⟨#[]⟩)) := z2.cell 3)
    (refine ord_flo (pick_cons rfl (pick_cons rfl pick_nil)) ?_; (repeat (go_big_quiet_step (fail))); refine wpQuiet_nil ?_; show ordWalk _ _ _ _ _ _ _)
    refine ord_one (pick_cons rfl pick_nil) ?_; intro K_ hK_
    go_wp2
    (refine ord_flo (pick_cons rfl pick_nil) ?_; (repeat (go_big_quiet_step (fail))); refine wpQuiet_nil ?_; show ordWalk _ _ _ _ _ _ _)
    refine ord_fin ?_
    go_wp2
    have q := z2.set4 (.int .u8 rk) (.bool rb) (.int .i64 rn) (.string rs)
    refine bodyPost_ret (v := .tuple #[.agg #[.int .u8 rk, .bool rb, .int .i64 rn, .string rs], .int .i64 re]) (by simp [results, Tryd.results33, go_sem, q.1, q.2.1, q.2.2.1, q.2.2.2]) rfl ⟨rfl, Ext.set4 (E0.trans ((X.alloc (.cells #[.int .u8 (ka), .bool (ba), .int .i64 (na), .string (sa), .int .u8 (kb), .bool (bb), .int .i64 (nb), .string (sb)] 24)).trans (by exact x2))) (by first | omega | simp) _ _ _ _⟩
  · go_wp2
    refine ordNext.mk ((Ext.refl _).alloc _) ?_
    refine ord_ext (pick_cons rfl pick_nil) ?_; intro K_ hK_
    go_wp2_with (go_at_call 72; refine (over_any _ _).mono ?_; rintro e w9 ⟨rfl, rfl⟩)
    refine ordNext.mk (Ext.refl _) ?_
    refine ord_one (pick_cons rfl pick_nil) ?_; intro K_ hK_
    go_wp2_with (go_at_call 71; refine (numbers_at _ _ _ _ 2 [⟨ka, ba, na, sa⟩, ⟨kb, bb, nb, sb⟩] _ HR rfl (by omega) (Dats.two (by first | exact Bk.at (by simp) | exact (Bk.at (by simp)).drew)) (by simpa using ⟨hs, hs2⟩)).mono ?_; rintro e w2 ⟨rfl, x2⟩; have z2 : Bk w2 (w.heap.size + 1 + 1) 24 #[.int .u8 (0), .bool (false), .int .i64 (0), .string (⟨#[]⟩)] := (z0.ext ((X.alloc (.cells #[.int .u8 (ka), .bool (ba), .int .i64 (na), .string (sa), .int .u8 (kb), .bool (bb), .int .i64 (nb), .string (sb)] 24)).trans (by exact x2))); have z2f0 : w2.frozen? ⟨w.heap.size + 1 + 1, 0, none⟩ = false := z2.free 0; have z2f1 : w2.frozen? ⟨w.heap.size + 1 + 1, 1, none⟩ = false := z2.free 1; have z2f2 : w2.frozen? ⟨w.heap.size + 1 + 1, 2, none⟩ = false := z2.free 2; have z2f3 : w2.frozen? ⟨w.heap.size + 1 + 1, 3, none⟩ = false := z2.free 3; have z2c0 : w2.cell? ⟨w.heap.size + 1 + 1, 0, none⟩ = some (.int .u8 (0)) := z2.cell 0; have z2c1 : w2.cell? ⟨w.heap.size + 1 + 1, 1, none⟩ = some (.bool (false)) := z2.cell 1; have z2c2 : w2.cell? ⟨w.heap.size + 1 + 1, 2, none⟩ = some (.int .i64 (0)) := z2.cell 2; have z2c3 : w2.cell? ⟨w.heap.size + 1 + 1, 3, none⟩ = some (.string (⟨#[]⟩)) := z2.cell 3)
    (refine ord_flo (pick_cons rfl (pick_cons rfl pick_nil)) ?_; (repeat (go_big_quiet_step (fail))); refine wpQuiet_nil ?_; show ordWalk _ _ _ _ _ _ _)
    refine ord_one (pick_cons rfl pick_nil) ?_; intro K_ hK_
    go_wp2
    (refine ord_flo (pick_cons rfl pick_nil) ?_; (repeat (go_big_quiet_step (fail))); refine wpQuiet_nil ?_; show ordWalk _ _ _ _ _ _ _)
    refine ord_fin ?_
    go_wp2
    have q := z2.set4 (.int .u8 rk) (.bool rb) (.int .i64 rn) (.string rs)
    refine bodyPost_ret (v := .tuple #[.agg #[.int .u8 rk, .bool rb, .int .i64 rn, .string rs], .int .i64 re]) (by simp [results, Tryd.results33, go_sem, q.1, q.2.1, q.2.2.1, q.2.2.2]) rfl ⟨rfl, Ext.set4 (E0.trans ((X.alloc (.cells #[.int .u8 (ka), .bool (ba), .int .i64 (na), .string (sa), .int .u8 (kb), .bool (bb), .int .i64 (nb), .string (sb)] 24)).trans (by exact x2))) (by first | omega | simp) _ _ _ _⟩
set_option maxRecDepth 100000 in
set_option maxHeartbeats 1600000 in
theorem radd_nn0 (ka na kb nb : Int) (ba bb : Bool) (sa sb : ByteArray) (c : Int) (w : World) (hs : sa.size ≤ 140737488355328) (hs2 : sb.size ≤ 140737488355328) (hw : wrap64 (na + nb) = c) (f0 : ¬ 0 ≤ na) (f1 : na < 0) (f2 : nb < 0) (f3 : ¬ 0 ≤ c) :
    Calls Tryd.prog 33 #[.agg #[.int .u8 (ka), .bool (ba), .int .i64 (na), .string (sa)], .agg #[.int .u8 (kb), .bool (bb), .int .i64 (nb), .string (sb)]] w (RefOut w (applyR 3 [⟨ka, ba, na, sa⟩, ⟨kb, bb, nb, sb⟩] (numR c 0))) := by
  have hw2 : IntKind.i64.wrap (na + nb) = c := by rw [IntKind.wrap_i64]; simpa [wrap64] using hw
  obtain ⟨⟨⟨rk, rb, rn, rs⟩, re⟩, hr⟩ : ∃ r, applyR 3 [⟨ka, ba, na, sa⟩, ⟨kb, bb, nb, sb⟩] (numR c 0) = r := ⟨_, rfl⟩
  rw [hr]
  have HR := Lib.hid hr
  clear hr
  have u0 : decide (0 ≤ na) = false := by first | exact decide_eq_true (by omega) | exact decide_eq_false (by omega)
  have u1 : decide (na < 0) = true := by first | exact decide_eq_true (by omega) | exact decide_eq_false (by omega)
  have u2 : decide (nb < 0) = true := by first | exact decide_eq_true (by omega) | exact decide_eq_false (by omega)
  have u3 : decide (0 ≤ c) = false := by first | exact decide_eq_true (by omega) | exact decide_eq_false (by omega)
  go_enter Tryd.func33, Tryd.ntmps33
  go_upto_region 2 with fail
  have a0 : Bk (((w.alloc (.cells #[.int .u8 (ka), .bool (ba), .int .i64 (na), .string (sa)] 24)).alloc (.cells #[.int .u8 (kb), .bool (bb), .int .i64 (nb), .string (sb)] 24)).alloc (.cells #[.int .u8 (0), .bool (false), .int .i64 (0), .string (⟨#[]⟩)] 24)) (w.heap.size) 24 #[.int .u8 (ka), .bool (ba), .int .i64 (na), .string (sa)] := ((Bk.at (by simp)).alloc _).alloc _
  have b0 : Bk (((w.alloc (.cells #[.int .u8 (ka), .bool (ba), .int .i64 (na), .string (sa)] 24)).alloc (.cells #[.int .u8 (kb), .bool (bb), .int .i64 (nb), .string (sb)] 24)).alloc (.cells #[.int .u8 (0), .bool (false), .int .i64 (0), .string (⟨#[]⟩)] 24)) (w.heap.size + 1) 24 #[.int .u8 (kb), .bool (bb), .int .i64 (nb), .string (sb)] := (Bk.at (by simp)).alloc _
  have z0 : Bk (((w.alloc (.cells #[.int .u8 (ka), .bool (ba), .int .i64 (na), .string (sa)] 24)).alloc (.cells #[.int .u8 (kb), .bool (bb), .int .i64 (nb), .string (sb)] 24)).alloc (.cells #[.int .u8 (0), .bool (false), .int .i64 (0), .string (⟨#[]⟩)] 24)) (w.heap.size + 1 + 1) 24 #[.int .u8 (0), .bool (false), .int .i64 (0), .string (⟨#[]⟩)] := Bk.at (by simp)
  have E0 : Ext w (((w.alloc (.cells #[.int .u8 (ka), .bool (ba), .int .i64 (na), .string (sa)] 24)).alloc (.cells #[.int .u8 (kb), .bool (bb), .int .i64 (nb), .string (sb)] 24)).alloc (.cells #[.int .u8 (0), .bool (false), .int .i64 (0), .string (⟨#[]⟩)] 24)) := (((Ext.refl w).alloc _).alloc _).alloc _
  obtain ⟨w0, hw0⟩ : ∃ w0, w0 = (((w.alloc (.cells #[.int .u8 (ka), .bool (ba), .int .i64 (na), .string (sa)] 24)).alloc (.cells #[.int .u8 (kb), .bool (bb), .int .i64 (nb), .string (sb)] 24)).alloc (.cells #[.int .u8 (0), .bool (false), .int .i64 (0), .string (⟨#[]⟩)] 24)) := ⟨_, rfl⟩
  rw [← hw0] at a0 b0 z0 E0 ⊢
  clear hw0
  have X : Ext w0 w0.drew := (Ext.refl w0).drew
  have p00 : ∀ y : Xt w0.drew, y.W.cell? ⟨w.heap.size, 0, none⟩ = some (.int .u8 (ka)) := fun y => (a0.ext (X.trans y.x)).cell 0
  have p01 : ∀ y : Xt w0.drew, y.W.cell? ⟨w.heap.size, 1, none⟩ = some (.bool (ba)) := fun y => (a0.ext (X.trans y.x)).cell 1
  have p02 : ∀ y : Xt w0.drew, y.W.cell? ⟨w.heap.size, 2, none⟩ = some (.int .i64 (na)) := fun y => (a0.ext (X.trans y.x)).cell 2
  have p03 : ∀ y : Xt w0.drew, y.W.cell? ⟨w.heap.size, 3, none⟩ = some (.string (sa)) := fun y => (a0.ext (X.trans y.x)).cell 3
  have p10 : ∀ y : Xt w0.drew, y.W.cell? ⟨w.heap.size + 1, 0, none⟩ = some (.int .u8 (kb)) := fun y => (b0.ext (X.trans y.x)).cell 0
  have p11 : ∀ y : Xt w0.drew, y.W.cell? ⟨w.heap.size + 1, 1, none⟩ = some (.bool (bb)) := fun y => (b0.ext (X.trans y.x)).cell 1
  have p12 : ∀ y : Xt w0.drew, y.W.cell? ⟨w.heap.size + 1, 2, none⟩ = some (.int .i64 (nb)) := fun y => (b0.ext (X.trans y.x)).cell 2
  have p13 : ∀ y : Xt w0.drew, y.W.cell? ⟨w.heap.size + 1, 3, none⟩ = some (.string (sb)) := fun y => (b0.ext (X.trans y.x)).cell 3
  refine wp_region_ord [0,0,2,6,14,30,62,126,254,510,1022,2046,4094,8190,16382,32766,65534,131070,262142,524286,1048574,2097150,4194302,8388606,16777214,33554430,67108862,134217726,0,0,805306368,2147483647,4294967295,4294967295,17179869183,34359738367] (.flo [0,1,2,3,4,5,6,7,8,9,10,11,12,13,14,15,16,17,18,19,20,21,22,23,24,25,26,28,29] (.both 27 30 (.ext 30 (.one 31 (.flo [32,33] (.one 34 (.flo [35] (.fin)))))) (.ext 27 (.one 31 (.flo [32,33] (.one 34 (.flo [35] (.fin)))))))) (by kernel_rfl) (by kernel_rfl) (by intro _ _ d _ _ h; cases d <;> exact h) ?_
  (refine ord_flo (pick_cons rfl (pick_cons rfl (pick_cons rfl (pick_cons rfl (pick_cons rfl (pick_cons rfl (pick_cons rfl (pick_cons rfl (pick_cons rfl (pick_cons rfl (pick_cons rfl (pick_cons rfl (pick_cons rfl (pick_cons rfl (pick_cons rfl (pick_cons rfl (pick_cons rfl (pick_cons rfl (pick_cons rfl (pick_cons rfl (pick_cons rfl (pick_cons rfl (pick_cons rfl (pick_cons rfl (pick_cons rfl (pick_cons rfl (pick_cons rfl (pick_cons rfl (pick_cons rfl pick_nil))))))))))))))))))))))))))))) ?_; (repeat (go_big_quiet_step (fail))); refine wpQuiet_nil ?_; show ordWalk _ _ _ _ _ _ _)
  refine ord_both (pick_cons rfl pick_nil) (pick_cons rfl pick_nil) ?_ ?_ <;> intro K_ hK_
  · go_wp2_with (go_at_call 72; refine (over_any _ _).mono ?_; rintro e w9 ⟨rfl, rfl⟩)
    refine ordNext.mk (Ext.refl _) ?_
    refine ord_ext (pick_cons rfl pick_nil) ?_; intro K_ hK_
    go_wp2
    refine ordNext.mk ((Ext.refl _).alloc _) ?_
    refine ord_one (pick_cons rfl pick_nil) ?_; intro K_ hK_
    go_wp2_with (go_at_call 71; refine (numbers_at _ _ _ _ 2 [⟨ka, ba, na, sa⟩, ⟨kb, bb, nb, sb⟩] _ HR rfl (by omega) (Dats.two (by first | exact Bk.at (by simp) | exact (Bk.at (by simp)).drew)) (by simpa using ⟨hs, hs2⟩)).mono ?_; rintro e w2 ⟨rfl, x2⟩; have z2 : Bk w2 (w.heap.size + 1 + 1) 24 #[.int .u8 (0), .bool (false), .int .i64 (0), .string (⟨#[]⟩)] := (z0.ext ((X.alloc (.cells #[.int .u8 (ka), .bool (ba), .int .i64 (na), .string (sa), .int .u8 (kb), .bool (bb), .int .i64 (nb), .string (sb)] 24)).trans (by exact x2))); have z2f0 : w2.frozen? ⟨w.heap.size + 1 + 1, 0, none⟩ = false := z2.free 0; have z2f1 : w2.frozen? ⟨w.heap.size + 1 + 1, 1, none⟩ = false := z2.free 1; have z2f2 : w2.frozen? ⟨w.heap.size + 1 + 1, 2, none⟩ = false := z2.free 2; have z2f3 : w2.frozen? ⟨w.heap.size + 1 + 1, 3, none⟩ = false := z2.free 3; have z2c0 : w2.cell? ⟨w.heap.size + 1 + 1, 0, none⟩ = some (.int .u8 (0)) := z2.cell 0; have z2c1 : w2.cell? ⟨w.heap.size + 1 + 1, 1, none⟩ = some (.bool (false)) := z2.cell 1; have z2c2 : w2.cell? ⟨w.heap.size + 1 + 1, 2, none⟩ = some (.int .i64 (0)) := z2.cell 2; have z2c3 : w2.cell? ⟨w.heap.size + 1 + 1, 3, none⟩ = some (.string (⟨#[]⟩)) := z2.cell 3)
    (refine ord_flo (pick_cons rfl (pick_cons rfl pick_nil)) ?_; (repeat (go_big_quiet_step (fail))); refine wpQuiet_nil ?_; show ordWalk _ _ _ _ _ _ _)
    refine ord_one (pick_cons rfl pick_nil) ?_; intro K_ hK_
    go_wp2
    (refine ord_flo (pick_cons rfl pick_nil) ?_; (repeat (go_big_quiet_step (fail))); refine wpQuiet_nil ?_; show ordWalk _ _ _ _ _ _ _)
    refine ord_fin ?_
    go_wp2
    have q := z2.set4 (.int .u8 rk) (.bool rb) (.int .i64 rn) (.string rs)
    refine bodyPost_ret (v := .tuple #[.agg #[.int .u8 rk, .bool rb, .int .i64 rn, .string rs], .int .i64 re]) (by simp [results, Tryd.results33, go_sem, q.1, q.2.1, q.2.2.1, q.2.2.2]) rfl ⟨rfl, Ext.set4 (E0.trans ((X.alloc (.cells #[.int .u8 (ka), .bool (ba), .int .i64 (na), .string (sa), .int .u8 (kb), .bool (bb), .int .i64 (nb), .string (sb)] 24)).trans (by exact x2))) (by first | omega | simp) _ _ _ _⟩
  · go_wp2
    refine ordNext.mk ((Ext.refl _).alloc _) ?_
    refine ord_ext (pick_cons rfl pick_nil) ?_; intro K_ hK_
    go_wp2_with (go_at_call 72; refine (over_any _ _).mono ?_; rintro e w9 ⟨rfl, rfl⟩)
    refine ordNext.mk (Ext.refl _) ?_
    refine ord_one (pick_cons rfl pick_nil) ?_; intro K_ hK_
    go_wp2_with (go_at_call 71; refine (numbers_at _ _ _ _ 2 [⟨ka, ba, na, sa⟩, ⟨kb, bb, nb, sb⟩] _ HR rfl (by omega) (Dats.two (by first | exact Bk.at (by simp) | exact (Bk.at (by simp)).drew)) (by simpa using ⟨hs, hs2⟩)).mono ?_; rintro e w2 ⟨rfl, x2⟩; have z2 : Bk w2 (w.heap.size + 1 + 1) 24 #[.int .u8 (0), .bool (false), .int .i64 (0), .string (⟨#[]⟩)] := (z0.ext ((X.alloc (.cells #[.int .u8 (ka), .bool (ba), .int .i64 (na), .string (sa), .int .u8 (kb), .bool (bb), .int .i64 (nb), .string (sb)] 24)).trans (by exact x2))); have z2f0 : w2.frozen? ⟨w.heap.size + 1 + 1, 0, none⟩ = false := z2.free 0; have z2f1 : w2.frozen? ⟨w.heap.size + 1 + 1, 1, none⟩ = false := z2.free 1; have z2f2 : w2.frozen? ⟨w.heap.size + 1 + 1, 2, none⟩ = false := z2.free 2; have z2f3 : w2.frozen? ⟨w.heap.size + 1 + 1, 3, none⟩ = false := z2.free 3; have z2c0 : w2.cell? ⟨w.heap.size + 1 + 1, 0, none⟩ = some (.int .u8 (0)) := z2.cell 0; have z2c1 : w2.cell? ⟨w.heap.size + 1 + 1, 1, none⟩ = some (.bool (false)) := z2.cell 1; have z2c2 : w2.cell? ⟨w.heap.size + 1 + 1, 2, none⟩ = some (.int .i64 (0)) := z2.cell 2; have z2c3 : w2.cell? ⟨w.heap.size + 1 + 1, 3, none⟩ = some (.string (⟨#[]⟩)) := z2.cell 3)
    (refine ord_flo (pick_cons rfl (pick_cons rfl pick_nil)) ?_; (repeat (go_big_quiet_step (fail))); refine wpQuiet_nil ?_; show ordWalk _ _ _ _ _ _ _)
    refine ord_one (pick_cons rfl pick_nil) ?_; intro K_ hK_
    go_wp2
    (refine ord_flo (pick_cons rfl pick_nil) ?_; (repeat (go_big_quiet_step (fail))); refine wpQuiet_nil ?_; show ordWalk _ _ _ _ _ _ _)
    refine ord_fin ?_
    go_wp2
    have q := z2.set4 (.int .u8 rk) (.bool rb) (.int .i64 rn) (.string rs)
    refine bodyPost_ret (v := .tuple #[.agg #[.int .u8 rk, .bool rb, .int .i64 rn, .string rs], .int .i64 re]) (by simp [results, Tryd.results33, go_sem, q.1, q.2.1, q.2.2.1, q.2.2.2]) rfl ⟨rfl, Ext.set4 (E0.trans ((X.alloc (.cells #[.int .u8 (ka), .bool (ba), .int .i64 (na), .string (sa), .int .u8 (kb), .bool (bb), .int .i64 (nb), .string (sb)] 24)).trans (by exact x2))) (by first | omega | simp) _ _ _ _⟩
set_option maxRecDepth 100000 in
set_option maxHeartbeats 1600000 in
theorem radd_nn1 (ka na kb nb : Int) (ba bb : Bool) (sa sb : ByteArray) (c : Int) (w : World) (hs : sa.size ≤ 140737488355328) (hs2 : sb.size ≤ 140737488355328) (hw : wrap64 (na + nb) = c) (f0 : ¬ 0 ≤ na) (f1 : na < 0) (f2 : nb < 0) (f3 : 0 ≤ c) :
    Calls Tryd.prog 33 #[.agg #[.int .u8 (ka), .bool (ba), .int .i64 (na), .string (sa)], .agg #[.int .u8 (kb), .bool (bb), .int .i64 (nb), .string (sb)]] w (RefOut w (applyR 3 [⟨ka, ba, na, sa⟩, ⟨kb, bb, nb, sb⟩] (numR c 10))) := by
  have hw2 : IntKind.i64.wrap (na + nb) = c := by rw [IntKind.wrap_i64]; simpa [wrap64] using hw
  obtain ⟨⟨⟨rk, rb, rn, rs⟩, re⟩, hr⟩ : ∃ r, applyR 3 [⟨ka, ba, na, sa⟩, ⟨kb, bb, nb, sb⟩] (numR c 10) = r := ⟨_, rfl⟩
  rw [hr]
  have HR := Lib.hid hr
  clear hr
  have u0 : decide (0 ≤ na) = false := by first | exact decide_eq_true (by omega) | exact decide_eq_false (by omega)
  have u1 : decide (na < 0) = true := by first | exact decide_eq_true (by omega) | exact decide_eq_false (by omega)
  have u2 : decide (nb < 0) = true := by first | exact decide_eq_true (by omega) | exact decide_eq_false (by omega)
  have u3 : decide (0 ≤ c) = true := by first | exact decide_eq_true (by omega) | exact decide_eq_false (by omega)
  go_enter Tryd.func33, Tryd.ntmps33
  go_upto_region 2 with fail
  have a0 : Bk (((w.alloc (.cells #[.int .u8 (ka), .bool (ba), .int .i64 (na), .string (sa)] 24)).alloc (.cells #[.int .u8 (kb), .bool (bb), .int .i64 (nb), .string (sb)] 24)).alloc (.cells #[.int .u8 (0), .bool (false), .int .i64 (0), .string (⟨#[]⟩)] 24)) (w.heap.size) 24 #[.int .u8 (ka), .bool (ba), .int .i64 (na), .string (sa)] := ((Bk.at (by simp)).alloc _).alloc _
  have b0 : Bk (((w.alloc (.cells #[.int .u8 (ka), .bool (ba), .int .i64 (na), .string (sa)] 24)).alloc (.cells #[.int .u8 (kb), .bool (bb), .int .i64 (nb), .string (sb)] 24)).alloc (.cells #[.int .u8 (0), .bool (false), .int .i64 (0), .string (⟨#[]⟩)] 24)) (w.heap.size + 1) 24 #[.int .u8 (kb), .bool (bb), .int .i64 (nb), .string (sb)] := (Bk.at (by simp)).alloc _
  have z0 : Bk (((w.alloc (.cells #[.int .u8 (ka), .bool (ba), .int .i64 (na), .string (sa)] 24)).alloc (.cells #[.int .u8 (kb), .bool (bb), .int .i64 (nb), .string (sb)] 24)).alloc (.cells #[.int .u8 (0), .bool (false), .int .i64 (0), .string (⟨#[]⟩)] 24)) (w.heap.size + 1 + 1) 24 #[.int .u8 (0), .bool (false), .int .i64 (0), .string (⟨#[]⟩)] := Bk.at (by simp)
  have E0 : Ext w (((w.alloc (.cells #[.int .u8 (ka), .bool (ba), .int .i64 (na), .string (sa)] 24)).alloc (.cells #[.int .u8 (kb), .bool (bb), .int .i64 (nb), .string (sb)] 24)).alloc (.cells #[.int .u8 (0), .bool (false), .int .i64 (0), .string (⟨#[]⟩)] 24)) := (((Ext.refl w).alloc _).alloc _).alloc _
  obtain ⟨w0, hw0⟩ : ∃ w0, w0 = (((w.alloc (.cells #[.int .u8 (ka), .bool (ba), .int .i64 (na), .string (sa)] 24)).alloc (.cells #[.int .u8 (kb), .bool (bb), .int .i64 (nb), .string (sb)] 24)).alloc (.cells #[.int .u8 (0), .bool (false), .int .i64 (0), .string (⟨#[]⟩)] 24)) := ⟨_, rfl⟩
  rw [← hw0] at a0 b0 z0 E0 ⊢
  clear hw0
  have X : Ext w0 w0.drew := (Ext.refl w0).drew
  have p00 : ∀ y : Xt w0.drew, y.W.cell? ⟨w.heap.size, 0, none⟩ = some (.int .u8 (ka)) := fun y => (a0.ext (X.trans y.x)).cell 0
  have p01 : ∀ y : Xt w0.drew, y.W.cell? ⟨w.heap.size, 1, none⟩ = some (.bool (ba)) := fun y => (a0.ext (X.trans y.x)).cell 1
  have p02 : ∀ y : Xt w0.drew, y.W.cell? ⟨w.heap.size, 2, none⟩ = some (.int .i64 (na)) := fun y => (a0.ext (X.trans y.x)).cell 2
  have p03 : ∀ y : Xt w0.drew, y.W.cell? ⟨w.heap.size, 3, none⟩ = some (.string (sa)) := fun y => (a0.ext (X.trans y.x)).cell 3
  have p10 : ∀ y : Xt w0.drew, y.W.cell? ⟨w.heap.size + 1, 0, none⟩ = some (.int .u8 (kb)) := fun y => (b0.ext (X.trans y.x)).cell 0
  have p11 : ∀ y : Xt w0.drew, y.W.cell? ⟨w.heap.size + 1, 1, none⟩ = some (.bool (bb)) := fun y => (b0.ext (X.trans y.x)).cell 1
  have p12 : ∀ y : Xt w0.drew, y.W.cell? ⟨w.heap.size + 1, 2, none⟩ = some (.int .i64 (nb)) := fun y => (b0.ext (X.trans y.x)).cell 2
  have p13 : ∀ y : Xt w0.drew, y.W.cell? ⟨w.heap.size + 1, 3, none⟩ = some (.string (sb)) := fun y => (b0.ext (X.trans y.x)).cell 3
  refine wp_region_ord [0,0,2,6,14,30,62,126,254,510,1022,2046,4094,8190,16382,32766,65534,131070,262142,524286,1048574,2097150,4194302,8388606,16777214,33554430,67108862,134217726,0,0,805306368,2147483647,4294967295,4294967295,17179869183,34359738367] (.flo [0,1,2,3,4,5,6,7,8,9,10,11,12,13,14,15,16,17,18,19,20,21,22,23,24,25,26,28,29] (.both 27 30 (.ext 30 (.one 31 (.flo [32,33] (.one 34 (.flo [35] (.fin)))))) (.ext 27 (.one 31 (.flo [32,33] (.one 34 (.flo [35] (.fin)))))))) (by kernel_rfl) (by kernel_rfl) (by intro _ _ d _ _ h; cases d <;> exact h) ?_
  (refine ord_flo (pick_cons rfl (pick_cons rfl (pick_cons rfl (pick_cons rfl (pick_cons rfl (pick_cons rfl (pick_cons rfl (pick_cons rfl (pick_cons rfl (pick_cons rfl (pick_cons rfl (pick_cons rfl (pick_cons rfl (pick_cons rfl (pick_cons rfl (pick_cons rfl (pick_cons rfl (pick_cons rfl (pick_cons rfl (pick_cons rfl (pick_cons rfl (pick_cons rfl (pick_cons rfl (pick_cons rfl (pick_cons rfl (pick_cons rfl (pick_cons rfl (pick_cons rfl (pick_cons rfl pick_nil))))))))))))))))))))))))))))) ?_; (repeat (go_big_quiet_step (fail))); refine wpQuiet_nil ?_; show ordWalk _ _ _ _ _ _ _)
  refine ord_both (pick_cons rfl pick_nil) (pick_cons rfl pick_nil) ?_ ?_ <;> intro K_ hK_
  · go_wp2_with (go_at_call 72; refine (over_any _ _).mono ?_; rintro e w9 ⟨rfl, rfl⟩)
    refine ordNext.mk (Ext.refl _) ?_
    refine ord_ext (pick_cons rfl pick_nil) ?_; intro K_ hK_
    go_wp2
    refine ordNext.mk ((Ext.refl _).alloc _) ?_
    refine ord_one (pick_cons rfl pick_nil) ?_; intro K_ hK_
    go_wp2_with (go_at_call 71; refine (numbers_at _ _ _ _ 2 [⟨ka, ba, na, sa⟩, ⟨kb, bb, nb, sb⟩] _ HR rfl (by omega) (Dats.two (by first | exact Bk.at (by simp) | exact (Bk.at (by simp)).drew)) (by simpa using ⟨hs, hs2⟩)).mono ?_; rintro e w2 ⟨rfl, x2⟩; have z2 : Bk w2 (w.heap.size + 1 + 1) 24 #[.int .u8 (0), .bool (false), .int .i64 (0), .string (⟨#[]⟩)] := (z0.ext ((X.alloc (.cells #[.int .u8 (ka), .bool (ba), .int .i64 (na), .string (sa), .int .u8 (kb), .bool (bb), .int .i64 (nb), .string (sb)] 24)).trans (by exact x2))); have z2f0 : w2.frozen? ⟨w.heap.size + 1 + 1, 0, none⟩ = false := z2.free 0; have z2f1 : w2.frozen? ⟨w.heap.size + 1 + 1, 1, none⟩ = false := z2.free 1; have z2f2 : w2.frozen? ⟨w.heap.size + 1 + 1, 2, none⟩ = false := z2.free 2; have z2f3 : w2.frozen? ⟨w.heap.size + 1 + 1, 3, none⟩ = false := z2.free 3; have z2c0 : w2.cell? ⟨w.heap.size + 1 + 1, 0, none⟩ = some (.int .u8 (0)) := z2.cell 0; have z2c1 : w2.cell? ⟨w.heap.size + 1 + 1, 1, none⟩ = some (.bool (false)) := z2.cell 1; have z2c2 : w2.cell? ⟨w.heap.size + 1 + 1, 2, none⟩ = some (.int .i64 (0)) := z2.cell 2; have z2c3 : w2.cell? ⟨w.heap.size + 1 + 1, 3, none⟩ = some (.string (⟨#[]⟩)) := z2.cell 3)
    (refine ord_flo (pick_cons rfl (pick_cons rfl pick_nil)) ?_; (repeat (go_big_quiet_step (fail))); refine wpQuiet_nil ?_; show ordWalk _ _ _ _ _ _ _)
    refine ord_one (pick_cons rfl pick_nil) ?_; intro K_ hK_
    go_wp2
    (refine ord_flo (pick_cons rfl pick_nil) ?_; (repeat (go_big_quiet_step (fail))); refine wpQuiet_nil ?_; show ordWalk _ _ _ _ _ _ _)
    refine ord_fin ?_
    go_wp2
    have q := z2.set4 (.int .u8 rk) (.bool rb) (.int .i64 rn) (.string rs)
    refine bodyPost_ret (v := .tuple #[.agg #[.int .u8 rk, .bool rb, .int .i64 rn, .string rs], .int .i64 re]) (by simp [results, Tryd.results33, go_sem, q.1, q.2.1, q.2.2.1, q.2.2.2]) rfl ⟨rfl, Ext.set4 (E0.trans ((X.alloc (.cells #[.int .u8 (ka), .bool (ba), .int .i64 (na), .string (sa), .int .u8 (kb), .bool (bb), .int .i64 (nb), .string (sb)] 24)).trans (by exact x2))) (by first | omega | simp) _ _ _ _⟩
  · go_wp2
    refine ordNext.mk ((Ext.refl _).alloc _) ?_
    refine ord_ext (pick_cons rfl pick_nil) ?_; intro K_ hK_
    go_wp2_with (go_at_call 72; refine (over_any _ _).mono ?_; rintro e w9 ⟨rfl, rfl⟩)
    refine ordNext.mk (Ext.refl _) ?_
    refine ord_one (pick_cons rfl pick_nil) ?_; intro K_ hK_
    go_wp2_with (go_at_call 71; refine (numbers_at _ _ _ _ 2 [⟨ka, ba, na, sa⟩, ⟨kb, bb, nb, sb⟩] _ HR rfl (by omega) (Dats.two (by first | exact Bk.at (by simp) | exact (Bk.at (by simp)).drew)) (by simpa using ⟨hs, hs2⟩)).mono ?_; rintro e w2 ⟨rfl, x2⟩; have z2 : Bk w2 (w.heap.size + 1 + 1) 24 #[.int .u8 (0), .bool (false), .int .i64 (0), .string (⟨#[]⟩)] := (z0.ext ((X.alloc (.cells #[.int .u8 (ka), .bool (ba), .int .i64 (na), .string (sa), .int .u8 (kb), .bool (bb), .int .i64 (nb), .string (sb)] 24)).trans (by exact x2))); have z2f0 : w2.frozen? ⟨w.heap.size + 1 + 1, 0, none⟩ = false := z2.free 0; have z2f1 : w2.frozen? ⟨w.heap.size + 1 + 1, 1, none⟩ = false := z2.free 1; have z2f2 : w2.frozen? ⟨w.heap.size + 1 + 1, 2, none⟩ = false := z2.free 2; have z2f3 : w2.frozen? ⟨w.heap.size + 1 + 1, 3, none⟩ = false := z2.free 3; have z2c0 : w2.cell? ⟨w.heap.size + 1 + 1, 0, none⟩ = some (.int .u8 (0)) := z2.cell 0; have z2c1 : w2.cell? ⟨w.heap.size + 1 + 1, 1, none⟩ = some (.bool (false)) := z2.cell 1; have z2c2 : w2.cell? ⟨w.heap.size + 1 + 1, 2, none⟩ = some (.int .i64 (0)) := z2.cell 2; have z2c3 : w2.cell? ⟨w.heap.size + 1 + 1, 3, none⟩ = some (.string (⟨#[]⟩)) := z2.cell 3)
    (refine ord_flo (pick_cons rfl (pick_cons rfl pick_nil)) ?_; (repeat (go_big_quiet_step (fail))); refine wpQuiet_nil ?_; show ordWalk _ _ _ _ _ _ _)
    refine ord_one (pick_cons rfl pick_nil) ?_; intro K_ hK_
    go_wp2
    (refine ord_flo (pick_cons rfl pick_nil) ?_; (repeat (go_big_quiet_step (fail))); refine wpQuiet_nil ?_; show ordWalk _ _ _ _ _ _ _)
    refine ord_fin ?_
    go_wp2
    have q := z2.set4 (.int .u8 rk) (.bool rb) (.int .i64 rn) (.string rs)
    refine bodyPost_ret (v := .tuple #[.agg #[.int .u8 rk, .bool rb, .int .i64 rn, .string rs], .int .i64 re]) (by simp [results, Tryd.results33, go_sem, q.1, q.2.1, q.2.2.1, q.2.2.2]) rfl ⟨rfl, Ext.set4 (E0.trans ((X.alloc (.cells #[.int .u8 (ka), .bool (ba), .int .i64 (na), .string (sa), .int .u8 (kb), .bool (bb), .int .i64 (nb), .string (sb)] 24)).trans (by exact x2))) (by first | omega | simp) _ _ _ _⟩
set_option maxRecDepth 100000 in
set_option maxHeartbeats 1600000 in
theorem rsub_pn0 (ka na kb nb : Int) (ba bb : Bool) (sa sb : ByteArray) (c : Int) (w : World) (hs : sa.size ≤ 140737488355328) (hs2 : sb.size ≤ 140737488355328) (hw : wrap64 (na - nb) = c) (f0 : 0 ≤ na) (f1 : nb < 0) (f2 : ¬ c < 0) (f3 : ¬ na < 0) :
    Calls Tryd.prog 34 #[.agg #[.int .u8 (ka), .bool (ba), .int .i64 (na), .string (sa)], .agg #[.int .u8 (kb), .bool (bb), .int .i64 (nb), .string (sb)]] w (RefOut w (applyR 3 [⟨ka, ba, na, sa⟩, ⟨kb, bb, nb, sb⟩] (numR c 0))) := by
  have hw2 : IntKind.i64.wrap (na - nb) = c := by rw [IntKind.wrap_i64]; simpa [wrap64] using hw
  obtain ⟨⟨⟨rk, rb, rn, rs⟩, re⟩, hr⟩ : ∃ r, applyR 3 [⟨ka, ba, na, sa⟩, ⟨kb, bb, nb, sb⟩] (numR c 0) = r := ⟨_, rfl⟩
  rw [hr]
  have HR := Lib.hid hr
  clear hr
  have u0 : decide (0 ≤ na) = true := by first | exact decide_eq_true (by omega) | exact decide_eq_false (by omega)
  have u1 : decide (nb < 0) = true := by first | exact decide_eq_true (by omega) | exact decide_eq_false (by omega)
  have u2 : decide (c < 0) = false := by first | exact decide_eq_true (by omega) | exact decide_eq_false (by omega)
  have u3 : decide (na < 0) = false := by first | exact decide_eq_true (by omega) | exact decide_eq_false (by omega)
  go_enter Tryd.func34, Tryd.ntmps34
  go_upto_region 2 with fail
  have a0 : Bk (((w.alloc (.cells #[.int .u8 (ka), .bool (ba), .int .i64 (na), .string (sa)] 24)).alloc (.cells #[.int .u8 (kb), .bool (bb), .int .i64 (nb), .string (sb)] 24)).alloc (.cells #[.int .u8 (0), .bool (false), .int .i64 (0), .string (⟨#[]⟩)] 24)) (w.heap.size) 24 #[.int .u8 (ka), .bool (ba), .int .i64 (na), .string (sa)] := ((Bk.at (by simp)).alloc _).alloc _
  have b0 : Bk (((w.alloc (.cells #[.int .u8 (ka), .bool (ba), .int .i64 (na), .string (sa)] 24)).alloc (.cells #[.int .u8 (kb), .bool (bb), .int .i64 (nb), .string (sb)] 24)).alloc (.cells #[.int .u8 (0), .bool (false), .int .i64 (0), .string (⟨#[]⟩)] 24)) (w.heap.size + 1) 24 #[.int .u8 (kb), .bool (bb), .int .i64 (nb), .string (sb)] := (Bk.at (by simp)).alloc _
  have z0 : Bk (((w.alloc (.cells #[.int .u8 (ka), .bool (ba), .int .i64 (na), .string (sa)] 24)).alloc (.cells #[.int .u8 (kb), .bool (bb), .int .i64 (nb), .string (sb)] 24)).alloc (.cells #[.int .u8 (0), .bool (false), .int .i64 (0), .string (⟨#[]⟩)] 24)) (w.heap.size + 1 + 1) 24 #[.int .u8 (0), .bool (false), .int .i64 (0), .string (⟨#[]⟩)] := Bk.at (by simp)
  have E0 : Ext w (((w.alloc (.cells #[.int .u8 (ka), .bool (ba), .int .i64 (na), .string (sa)] 24)).alloc (.cells #[.int .u8 (kb), .bool (bb), .int .i64 (nb), .string (sb)] 24)).alloc (.cells #[.int .u8 (0), .bool (false), .int .i64 (0), .string (⟨#[]⟩)] 24)) := (((Ext.refl w).alloc _).alloc _).alloc _
  obtain ⟨w0, hw0⟩ : ∃ w0, w0 = (((w.alloc (.cells #[.int .u8 (ka), .bool (ba), .int .i64 (na), .string (sa)] 24)).alloc (.cells #[.int .u8 (kb), .bool (bb), .int .i64 (nb), .string (sb)] 24)).alloc (.cells #[.int .u8 (0), .bool (false), .int .i64 (0), .string (⟨#[]⟩)] 24)) := ⟨_, rfl⟩
  rw [← hw0] at a0 b0 z0 E0 ⊢
  clear hw0
  have X : Ext w0 w0.drew := (Ext.refl w0).drew
  have p00 : ∀ y : Xt w0.drew, y.W.cell? ⟨w.heap.size, 0, none⟩ = some (.int .u8 (ka)) := fun y => (a0.ext (X.trans y.x)).cell 0
  have p01 : ∀ y : Xt w0.drew, y.W.cell? ⟨w.heap.size, 1, none⟩ = some (.bool (ba)) := fun y => (a0.ext (X.trans y.x)).cell 1
  have p02 : ∀ y : Xt w0.drew, y.W.cell? ⟨w.heap.size, 2, none⟩ = some (.int .i64 (na)) := fun y => (a0.ext (X.trans y.x)).cell 2
  have p03 : ∀ y : Xt w0.drew, y.W.cell? ⟨w.heap.size, 3, none⟩ = some (.string (sa)) := fun y => (a0.ext (X.trans y.x)).cell 3
  have p10 : ∀ y : Xt w0.drew, y.W.cell? ⟨w.heap.size + 1, 0, none⟩ = some (.int .u8 (kb)) := fun y => (b0.ext (X.trans y.x)).cell 0
  have p11 : ∀ y : Xt w0.drew, y.W.cell? ⟨w.heap.size + 1, 1, none⟩ = some (.bool (bb)) := fun y => (b0.ext (X.trans y.x)).cell 1
  have p12 : ∀ y : Xt w0.drew, y.W.cell? ⟨w.heap.size + 1, 2, none⟩ = some (.int .i64 (nb)) := fun y => (b0.ext (X.trans y.x)).cell 2
  have p13 : ∀ y : Xt w0.drew, y.W.cell? ⟨w.heap.size + 1, 3, none⟩ = some (.string (sb)) := fun y => (b0.ext (X.trans y.x)).cell 3
  refine wp_region_ord [0,0,2,6,14,30,62,126,254,510,1022,2046,4094,8190,16382,32766,65534,131070,262142,524286,1048574,2097150,4194302,8388606,16777214,33554430,67108862,134217726,0,0,805306368,2147483647,4294967295,4294967295,17179869183,34359738367] (.flo [0,1,2,3,4,5,6,7,8,9,10,11,12,13,14,15,16,17,18,19,20,21,22,23,24,25,26,28,29] (.both 27 30 (.ext 30 (.one 31 (.flo [32,33] (.one 34 (.flo [35] (.fin)))))) (.ext 27 (.one 31 (.flo [32,33] (.one 34 (.flo [35] (.fin)))))))) (by kernel_rfl) (by kernel_rfl) (by intro _ _ d _ _ h; cases d <;> exact h) ?_
  (refine ord_flo (pick_cons rfl (pick_cons rfl (pick_cons rfl (pick_cons rfl (pick_cons rfl (pick_cons rfl (pick_cons rfl (pick_cons rfl (pick_cons rfl (pick_cons rfl (pick_cons rfl (pick_cons rfl (pick_cons rfl (pick_cons rfl (pick_cons rfl (pick_cons rfl (pick_cons rfl (pick_cons rfl (pick_cons rfl (pick_cons rfl (pick_cons rfl (pick_cons rfl (pick_cons rfl (pick_cons rfl (pick_cons rfl (pick_cons rfl (pick_cons rfl (pick_cons rfl (pick_cons rfl pick_nil))))))))))))))))))))))))))))) ?_; (repeat (go_big_quiet_step (fail))); refine wpQuiet_nil ?_; show ordWalk _ _ _ _ _ _ _)
  refine ord_both (pick_cons rfl pick_nil) (pick_cons rfl pick_nil) ?_ ?_ <;> intro K_ hK_
  · go_wp2_with (go_at_call 72; refine (over_any _ _).mono ?_; rintro e w9 ⟨rfl, rfl⟩)
    refine ordNext.mk (Ext.refl _) ?_
    refine ord_ext (pick_cons rfl pick_nil) ?_; intro K_ hK_
    go_wp2
    refine ordNext.mk ((Ext.refl _).alloc _) ?_
    refine ord_one (pick_cons rfl pick_nil) ?_; intro K_ hK_
    go_wp2_with (go_at_call 71; refine (numbers_at _ _ _ _ 2 [⟨ka, ba, na, sa⟩, ⟨kb, bb, nb, sb⟩] _ HR rfl (by omega) (Dats.two (by first | exact Bk.at (by simp) | exact (Bk.at (by simp)).drew)) (by simpa using ⟨hs, hs2⟩)).mono ?_; rintro e w2 ⟨rfl, x2⟩; have z2 : Bk w2 (w.heap.size + 1 + 1) 24 #[.int .u8 (0), .bool (false), .int .i64 (0), .string (⟨#[]⟩)] := (z0.ext ((X.alloc (.cells #[.int .u8 (ka), .bool (ba), .int .i64 (na), .string (sa), .int .u8 (kb), .bool (bb), .int .i64 (nb), .string (sb)] 24)).trans (by exact x2))); have z2f0 : w2.frozen? ⟨w.heap.size + 1 + 1, 0, none⟩ = false := z2.free 0; have z2f1 : w2.frozen? ⟨w.heap.size + 1 + 1, 1, none⟩ = false := z2.free 1; have z2f2 : w2.frozen? ⟨w.heap.size + 1 + 1, 2, none⟩ = false := z2.free 2; have z2f3 : w2.frozen? ⟨w.heap.size + 1 + 1, 3, none⟩ = false := z2.free 3; have z2c0 : w2.cell? ⟨w.heap.size + 1 + 1, 0, none⟩ = some (.int .u8 (0)) := z2.cell 0; have z2c1 : w2.cell? ⟨w.heap.size + 1 + 1, 1, none⟩ = some (.bool (false)) := z2.cell 1; have z2c2 : w2.cell? ⟨w.heap.size + 1 + 1, 2, none⟩ = some (.int .i64 (0)) := z2.cell 2; have z2c3 : w2.cell? ⟨w.heap.size + 1 + 1, 3, none⟩ = some (.string (⟨#[]⟩)) := z2.cell 3)
    (refine ord_flo (pick_cons rfl (pick_cons rfl pick_nil)) ?_; (repeat (go_big_quiet_step (fail))); refine wpQuiet_nil ?_; show ordWalk _ _ _ _ _ _ _)
    refine ord_one (pick_cons rfl pick_nil) ?_; intro K_ hK_
    go_wp2
    (refine ord_flo (pick_cons rfl pick_nil) ?_; (repeat (go_big_quiet_step (fail))); refine wpQuiet_nil ?_; show ordWalk _ _ _ _ _ _ _)
    refine ord_fin ?_
    go_wp2
    have q := z2.set4 (.int .u8 rk) (.bool rb) (.int .i64 rn) (.string rs)
    refine bodyPost_ret (v := .tuple #[.agg #[.int .u8 rk, .bool rb, .int .i64 rn, .string rs], .int .i64 re]) (by simp [results, Tryd.results34, go_sem, q.1, q.2.1, q.2.2.1, q.2.2.2]) rfl ⟨rfl, Ext.set4 (E0.trans ((X.alloc (.cells #[.int .u8 (ka), .bool (ba), .int .i64 (na), .string (sa), .int .u8 (kb), .bool (bb), .int .i64 (nb), .string (sb)] 24)).trans (by exact x2))) (by first | omega | simp) _ _ _ _⟩
  · go_wp2
    refine ordNext.mk ((Ext.refl _).alloc _) ?_
    refine ord_ext (pick_cons rfl pick_nil) ?_; intro K_ hK_
    go_wp2_with (go_at_call 72; refine (over_any _ _).mono ?_; rintro e w9 ⟨rfl, rfl⟩)
    refine ordNext.mk (Ext.refl _) ?_
    refine ord_one (pick_cons rfl pick_nil) ?_; intro K_ hK_
    go_wp2_with (go_at_call 71; refine (numbers_at _ _ _ _ 2 [⟨ka, ba, na, sa⟩, ⟨kb, bb, nb, sb⟩] _ HR rfl (by omega) (Dats.two (by first | exact Bk.at (by simp) | exact (Bk.at (by simp)).drew)) (by simpa using ⟨hs, hs2⟩)).mono ?_; rintro e w2 ⟨rfl, x2⟩; have z2 : Bk w2 (w.heap.size + 1 + 1) 24 #[.int .u8 (0), .bool (false), .int .i64 (0), .string (⟨#[]⟩)] := (z0.ext ((X.alloc (.cells #[.int .u8 (ka), .bool (ba), .int .i64 (na), .string (sa), .int .u8 (kb), .bool (bb), .int .i64 (nb), .string (sb)] 24)).trans (by exact x2))); have z2f0 : w2.frozen? ⟨w.heap.size + 1 + 1, 0, none⟩ = false := z2.free 0; have z2f1 : w2.frozen? ⟨w.heap.size + 1 + 1, 1, none⟩ = false := z2.free 1; have z2f2 : w2.frozen? ⟨w.heap.size + 1 + 1, 2, none⟩ = false := z2.free 2; have z2f3 : w2.frozen? ⟨w.heap.size + 1 + 1, 3, none⟩ = false := z2.free 3; have z2c0 : w2.cell? ⟨w.heap.size + 1 + 1, 0, none⟩ = some (.int .u8 (0)) := z2.cell 0; have z2c1 : w2.cell? ⟨w.heap.size + 1 + 1, 1, none⟩ = some (.bool (false)) := z2.cell 1; have z2c2 : w2.cell? ⟨w.heap.size + 1 + 1, 2, none⟩ = some (.int .i64 (0)) := z2.cell 2; have z2c3 : w2.cell? ⟨w.heap.size + 1 + 1, 3, none⟩ = some (.string (⟨#[]⟩)) := z2.cell 3)
    (refine ord_flo (pick_cons rfl (pick_cons rfl pick_nil)) ?_; (repeat (go_big_quiet_step (fail))); refine wpQuiet_nil ?_; show ordWalk _ _ _ _ _ _ _)
    refine ord_one (pick_cons rfl pick_nil) ?_; intro K_ hK_
    go_wp2
    (refine ord_flo (pick_cons rfl pick_nil) ?_; (repeat (go_big_quiet_step (fail))); refine wpQuiet_nil ?_; show ordWalk _ _ _ _ _ _ _)
    refine ord_fin ?_
    go_wp2
    have q := z2.set4 (.int .u8 rk) (.bool rb) (.int .i64 rn) (.string rs)
    refine bodyPost_ret (v := .tuple #[.agg #[.int .u8 rk, .bool rb, .int .i64 rn, .string rs], .int .i64 re]) (by simp [results, Tryd.results34, go_sem, q.1, q.2.1, q.2.2.1, q.2.2.2]) rfl ⟨rfl, Ext.set4 (E0.trans ((X.alloc (.cells #[.int .u8 (ka), .bool (ba), .int .i64 (na), .string (sa), .int .u8 (kb), .bool (bb), .int .i64 (nb), .string (sb)] 24)).trans (by exact x2))) (by first | omega | simp) _ _ _ _⟩
set_option maxRecDepth 100000 in
set_option maxHeartbeats 1600000 in
theorem rsub_pn1 (ka na kb nb : Int) (ba bb : Bool) (sa sb : ByteArray) (c : Int) (w : World) (hs : sa.size ≤ 140737488355328) (hs2 : sb.size ≤ 140737488355328) (hw : wrap64 (na - nb) = c) (f0 : 0 ≤ na) (f1 : nb < 0) (f2 : c < 0) :
    Calls Tryd.prog 34 #[.agg #[.int .u8 (ka), .bool (ba), .int .i64 (na), .string (sa)], .agg #[.int .u8 (kb), .bool (bb), .int .i64 (nb), .string (sb)]] w (RefOut w (applyR 3 [⟨ka, ba, na, sa⟩, ⟨kb, bb, nb, sb⟩] (numR c 10))) := by
  have hw2 : IntKind.i64.wrap (na - nb) = c := by rw [IntKind.wrap_i64]; simpa [wrap64] using hw
  obtain ⟨⟨⟨rk, rb, rn, rs⟩, re⟩, hr⟩ : ∃ r, applyR 3 [⟨ka, ba, na, sa⟩, ⟨kb, bb, nb, sb⟩] (numR c 10) = r := ⟨_, rfl⟩
  rw [hr]
  have HR := Lib.hid hr
  clear hr
  have u0 : decide (0 ≤ na) = true := by first | exact decide_eq_true (by omega) | exact decide_eq_false (by omega)
  have u1 : decide (nb < 0) = true := by first | exact decide_eq_true (by omega) | exact decide_eq_false (by omega)
  have u2 : decide (c < 0) = true := by first | exact decide_eq_true (by omega) | exact decide_eq_false (by omega)
  go_enter Tryd.func34, Tryd.ntmps34
  go_upto_region 2 with fail
  have a0 : Bk (((w.alloc (.cells #[.int .u8 (ka), .bool (ba), .int .i64 (na), .string (sa)] 24)).alloc (.cells #[.int .u8 (kb), .bool (bb), .int .i64 (nb), .string (sb)] 24)).alloc (.cells #[.int .u8 (0), .bool (false), .int .i64 (0), .string (⟨#[]⟩)] 24)) (w.heap.size) 24 #[.int .u8 (ka), .bool (ba), .int .i64 (na), .string (sa)] := ((Bk.at (by simp)).alloc _).alloc _
  have b0 : Bk (((w.alloc (.cells #[.int .u8 (ka), .bool (ba), .int .i64 (na), .string (sa)] 24)).alloc (.cells #[.int .u8 (kb), .bool (bb), .int .i64 (nb), .string (sb)] 24)).alloc (.cells #[.int .u8 (0), .bool (false), .int .i64 (0), .string (⟨#[]⟩)] 24)) (w.heap.size + 1) 24 #[.int .u8 (kb), .bool (bb), .int .i64 (nb), .string (sb)] := (Bk.at (by simp)).alloc _
  have z0 : Bk (((w.alloc (.cells #[.int .u8 (ka), .bool (ba), .int .i64 (na), .string (sa)] 24)).alloc (.cells #[.int .u8 (kb), .bool (bb), .int .i64 (nb), .string (sb)] 24)).alloc (.cells #[.int .u8 (0), .bool (false), .int .i64 (0), .string (⟨#[]⟩)] 24)) (w.heap.size + 1 + 1) 24 #[.int .u8 (0), .bool (false), .int .i64 (0), .string (⟨#[]⟩)] := Bk.at (by simp)
  have E0 : Ext w (((w.alloc (.cells #[.int .u8 (ka), .bool (ba), .int .i64 (na), .string (sa)] 24)).alloc (.cells #[.int .u8 (kb), .bool (bb), .int .i64 (nb), .string (sb)] 24)).alloc (.cells #[.int .u8 (0), .bool (false), .int .i64 (0), .string (⟨#[]⟩)] 24)) := (((Ext.refl w).alloc _).alloc _).alloc _
  obtain ⟨w0, hw0⟩ : ∃ w0, w0 = (((w.alloc (.cells #[.int .u8 (ka), .bool (ba), .int .i64 (na), .string (sa)] 24)).alloc (.cells #[.int .u8 (kb), .bool (bb), .int .i64 (nb), .string (sb)] 24)).alloc (.cells #[.int .u8 (0), .bool (false), .int .i64 (0), .string (⟨#[]⟩)] 24)) := ⟨_, rfl⟩
  rw [← hw0] at a0 b0 z0 E0 ⊢
  clear hw0
  have X : Ext w0 w0.drew := (Ext.refl w0).drew
  have p00 : ∀ y : Xt w0.drew, y.W.cell? ⟨w.heap.size, 0, none⟩ = some (.int .u8 (ka)) := fun y => (a0.ext (X.trans y.x)).cell 0
  have p01 : ∀ y : Xt w0.drew, y.W.cell? ⟨w.heap.size, 1, none⟩ = some (.bool (ba)) := fun y => (a0.ext (X.trans y.x)).cell 1
  have p02 : ∀ y : Xt w0.drew, y.W.cell? ⟨w.heap.size, 2, none⟩ = some (.int .i64 (na)) := fun y => (a0.ext (X.trans y.x)).cell 2
  have p03 : ∀ y : Xt w0.drew, y.W.cell? ⟨w.heap.size, 3, none⟩ = some (.string (sa)) := fun y => (a0.ext (X.trans y.x)).cell 3
  have p10 : ∀ y : Xt w0.drew, y.W.cell? ⟨w.heap.size + 1, 0, none⟩ = some (.int .u8 (kb)) := fun y => (b0.ext (X.trans y.x)).cell 0
  have p11 : ∀ y : Xt w0.drew, y.W.cell? ⟨w.heap.size + 1, 1, none⟩ = some (.bool (bb)) := fun y => (b0.ext (X.trans y.x)).cell 1
  have p12 : ∀ y : Xt w0.drew, y.W.cell? ⟨w.heap.size + 1, 2, none⟩ = some (.int .i64 (nb)) := fun y => (b0.ext (X.trans y.x)).cell 2
  have p13 : ∀ y : Xt w0.drew, y.W.cell? ⟨w.heap.size + 1, 3, none⟩ = some (.string (sb)) := fun y => (b0.ext (X.trans y.x)).cell 3
  refine wp_region_ord [0,0,2,6,14,30,62,126,254,510,1022,2046,4094,8190,16382,32766,65534,131070,262142,524286,1048574,2097150,4194302,8388606,16777214,33554430,67108862,134217726,0,0,805306368,2147483647,4294967295,4294967295,17179869183,34359738367] (.flo [0,1,2,3,4,5,6,7,8,9,10,11,12,13,14,15,16,17,18,19,20,21,22,23,24,25,26,28,29] (.both 27 30 (.ext 30 (.one 31 (.flo [32,33] (.one 34 (.flo [35] (.fin)))))) (.ext 27 (.one 31 (.flo [32,33] (.one 34 (.flo [35] (.fin)))))))) (by kernel_rfl) (by kernel_rfl) (by intro _ _ d _ _ h; cases d <;> exact h) ?_
  (refine ord_flo (pick_cons rfl (pick_cons rfl (pick_cons rfl (pick_cons rfl (pick_cons rfl (pick_cons rfl (pick_cons rfl (pick_cons rfl (pick_cons rfl (pick_cons rfl (pick_cons rfl (pick_cons rfl (pick_cons rfl (pick_cons rfl (pick_cons rfl (pick_cons rfl (pick_cons rfl (pick_cons rfl (pick_cons rfl (pick_cons rfl (pick_cons rfl (pick_cons rfl (pick_cons rfl (pick_cons rfl (pick_cons rfl (pick_cons rfl (pick_cons rfl (pick_cons rfl (pick_cons rfl pick_nil))))))))))))))))))))))))))))) ?_; (repeat (go_big_quiet_step (fail))); refine wpQuiet_nil ?_; show ordWalk _ _ _ _ _ _ _)
  refine ord_both (pick_cons rfl pick_nil) (pick_cons rfl pick_nil) ?_ ?_ <;> intro K_ hK_
  · go_wp2_with (go_at_call 72; refine (over_any _ _).mono ?_; rintro e w9 ⟨rfl, rfl⟩)
    refine ordNext.mk (Ext.refl _) ?_
    refine ord_ext (pick_cons rfl pick_nil) ?_; intro K_ hK_
    go_wp2
    refine ordNext.mk ((Ext.refl _).alloc _) ?_
    refine ord_one (pick_cons rfl pick_nil) ?_; intro K_ hK_
    go_wp2_with (go_at_call 71; refine (numbers_at _ _ _ _ 2 [⟨ka, ba, na, sa⟩, ⟨kb, bb, nb, sb⟩] _ HR rfl (by omega) (Dats.two (by first | exact Bk.at (by simp) | exact (Bk.at (by simp)).drew)) (by simpa using ⟨hs, hs2⟩)).mono ?_; rintro e w2 ⟨rfl, x2⟩; have z2 : Bk w2 (w.heap.size + 1 + 1) 24 #[.int .u8 (0), .bool (false), .int .i64 (0), .string (⟨#[]⟩)] := (z0.ext ((X.alloc (.cells #[.int .u8 (ka), .bool (ba), .int .i64 (na), .string (sa), .int .u8 (kb), .bool (bb), .int .i64 (nb), .string (sb)] 24)).trans (by exact x2))); have z2f0 : w2.frozen? ⟨w.heap.size + 1 + 1, 0, none⟩ = false := z2.free 0; have z2f1 : w2.frozen? ⟨w.heap.size + 1 + 1, 1, none⟩ = false := z2.free 1; have z2f2 : w2.frozen? ⟨w.heap.size + 1 + 1, 2, none⟩ = false := z2.free 2; have z2f3 : w2.frozen? ⟨w.heap.size + 1 + 1, 3, none⟩ = false := z2.free 3; have z2c0 : w2.cell? ⟨w.heap.size + 1 + 1, 0, none⟩ = some (.int .u8 (0)) := z2.cell 0; have z2c1 : w2.cell? ⟨w.heap.size + 1 + 1, 1, none⟩ = some (.bool (false)) := z2.cell 1; have z2c2 : w2.cell? ⟨w.heap.size + 1 + 1, 2, none⟩ = some (.int .i64 (0)) := z2.cell 2; have z2c3 : w2.cell? ⟨w.heap.size + 1 + 1, 3, none⟩ = some (.string (⟨#[]⟩)) := z2.cell 3)
    (refine ord_flo (pick_cons rfl (pick_cons rfl pick_nil)) ?_; (repeat (go_big_quiet_step (fail))); refine wpQuiet_nil ?_; show ordWalk _ _ _ _ _ _ _)
    refine ord_one (pick_cons rfl pick_nil) ?_; intro K_ hK_
    go_wp2
    (refine ord_flo (pick_cons rfl pick_nil) ?_; (repeat (go_big_quiet_step (fail))); refine wpQuiet_nil ?_; show ordWalk _ _ _ _ _ _ _)
    refine ord_fin ?_
    go_wp2
    have q := z2.set4 (.int .u8 rk) (.bool rb) (.int .i64 rn) (.string rs)
    refine bodyPost_ret (v := .tuple #[.agg #[.int .u8 rk, .bool rb, .int .i64 rn, .string rs], .int .i64 re]) (by simp [results, Tryd.results34, go_sem, q.1, q.2.1, q.2.2.1, q.2.2.2]) rfl ⟨rfl, Ext.set4 (E0.trans ((X.alloc (.cells #[.int .u8 (ka), .bool (ba), .int .i64 (na), .string (sa), .int .u8 (kb), .bool (bb), .int .i64 (nb), .string (sb)] 24)).trans (by exact x2))) (by first | omega | simp) _ _ _ _⟩
  · go_wp2
    refine ordNext.mk ((Ext.refl _).alloc _) ?_
    refine ord_ext (pick_cons rfl pick_nil) ?_; intro K_ hK_
    go_wp2_with (go_at_call 72; refine (over_any _ _).mono ?_; rintro e w9 ⟨rfl, rfl⟩)
    refine ordNext.mk (Ext.refl _) ?_
    refine ord_one (pick_cons rfl pick_nil) ?_; intro K_ hK_
    go_wp2_with (go_at_call 71; refine (numbers_at _ _ _ _ 2 [⟨ka, ba, na, sa⟩, ⟨kb, bb, nb, sb⟩] _ HR rfl (by omega) (Dats.two (by first | exact Bk.at (by simp) | exact (Bk.at (by simp)).drew)) (by simpa using ⟨hs, hs2⟩)).mono ?_; rintro e w2 ⟨rfl, x2⟩; have z2 : Bk w2 (w.heap.size + 1 + 1) 24 #[.int .u8 (0), .bool (false), .int .i64 (0), .string (⟨#[]⟩)] := (z0.ext ((X.alloc (.cells #[.int .u8 (ka), .bool (ba), .int .i64 (na), .string (sa), .int .u8 (kb), .bool (bb), .int .i64 (nb), .string (sb)] 24)).trans (by exact x2))); have z2f0 : w2.frozen? ⟨w.heap.size + 1 + 1, 0, none⟩ = false := z2.free 0; have z2f1 : w2.frozen? ⟨w.heap.size + 1 + 1, 1, none⟩ = false := z2.free 1; have z2f2 : w2.frozen? ⟨w.heap.size + 1 + 1, 2, none⟩ = false := z2.free 2; have z2f3 : w2.frozen? ⟨w.heap.size + 1 + 1, 3, none⟩ = false := z2.free 3; have z2c0 : w2.cell? ⟨w.heap.size + 1 + 1, 0, none⟩ = some (.int .u8 (0)) := z2.cell 0; have z2c1 : w2.cell? ⟨w.heap.size + 1 + 1, 1, none⟩ = some (.bool (false)) := z2.cell 1; have z2c2 : w2.cell? ⟨w.heap.size + 1 + 1, 2, none⟩ = some (.int .i64 (0)) := z2.cell 2; have z2c3 : w2.cell? ⟨w.heap.size + 1 + 1, 3, none⟩ = some (.string (⟨#[]⟩)) := z2.cell 3)
    (refine ord_flo (pick_cons rfl (pick_cons rfl pick_nil)) ?_; (repeat (go_big_quiet_step (fail))); refine wpQuiet_nil ?_; show ordWalk _ _ _ _ _ _ _)
    refine ord_one (pick_cons rfl pick_nil) ?_; intro K_ hK_
    go_wp2
    (refine ord_flo (pick_cons rfl pick_nil) ?_; (repeat (go_big_quiet_step (fail))); refine wpQuiet_nil ?_; show ordWalk _ _ _ _ _ _ _)
    refine ord_fin ?_
    go_wp2
    have q := z2.set4 (.int .u8 rk) (.bool rb) (.int .i64 rn) (.string rs)
    refine bodyPost_ret (v := .tuple #[.agg #[.int .u8 rk, .bool rb, .int .i64 rn, .string rs], .int .i64 re]) (by simp [results, Tryd.results34, go_sem, q.1, q.2.1, q.2.2.1, q.2.2.2]) rfl ⟨rfl, Ext.set4 (E0.trans ((X.alloc (.cells #[.int .u8 (ka), .bool (ba), .int .i64 (na), .string (sa), .int .u8 (kb), .bool (bb), .int .i64 (nb), .string (sb)] 24)).trans (by exact x2))) (by first | omega | simp) _ _ _ _⟩
set_option maxRecDepth 100000 in
set_option maxHeartbeats 1600000 in
theorem rsub_pp (ka na kb nb : Int) (ba bb : Bool) (sa sb : ByteArray) (c : Int) (w : World) (hs : sa.size ≤ 140737488355328) (hs2 : sb.size ≤ 140737488355328) (hw : wrap64 (na - nb) = c) (f0 : 0 ≤ na) (f1 : ¬ nb < 0) (f2 : ¬ na < 0) :
    Calls Tryd.prog 34 #[.agg #[.int .u8 (ka), .bool (ba), .int .i64 (na), .string (sa)], .agg #[.int .u8 (kb), .bool (bb), .int .i64 (nb), .string (sb)]] w (RefOut w (applyR 3 [⟨ka, ba, na, sa⟩, ⟨kb, bb, nb, sb⟩] (numR c 0))) := by
  have hw2 : IntKind.i64.wrap (na - nb) = c := by rw [IntKind.wrap_i64]; simpa [wrap64] using hw
  obtain ⟨⟨⟨rk, rb, rn, rs⟩, re⟩, hr⟩ : ∃ r, applyR 3 [⟨ka, ba, na, sa⟩, ⟨kb, bb, nb, sb⟩] (numR c 0) = r := ⟨_, rfl⟩
  rw [hr]
  have HR := Lib.hid hr
  clear hr
  have u0 : decide (0 ≤ na) = true := by first | exact decide_eq_true (by omega) | exact decide_eq_false (by omega)
  have u1 : decide (nb < 0) = false := by first | exact decide_eq_true (by omega) | exact decide_eq_false (by omega)
  have u2 : decide (na < 0) = false := by first | exact decide_eq_true (by omega) | exact decide_eq_false (by omega)
  go_enter Tryd.func34, Tryd.ntmps34
  go_upto_region 2 with fail
  have a0 : Bk (((w.alloc (.cells #[.int .u8 (ka), .bool (ba), .int .i64 (na), .string (sa)] 24)).alloc (.cells #[.int .u8 (kb), .bool (bb), .int .i64 (nb), .string (sb)] 24)).alloc (.cells #[.int .u8 (0), .bool (false), .int .i64 (0), .string (⟨#[]⟩)] 24)) (w.heap.size) 24 #[.int .u8 (ka), .bool (ba), .int .i64 (na), .string (sa)] := ((Bk.at (by simp)).alloc _).alloc _
  have b0 : Bk (((w.alloc (.cells #[.int .u8 (ka), .bool (ba), .int .i64 (na), .string (sa)] 24)).alloc (.cells #[.int .u8 (kb), .bool (bb), .int .i64 (nb), .string (sb)] 24)).alloc (.cells #[.int .u8 (0), .bool (false), .int .i64 (0), .string (⟨#[]⟩)] 24)) (w.heap.size + 1) 24 #[.int .u8 (kb), .bool (bb), .int .i64 (nb), .string (sb)] := (Bk.at (by simp)).alloc _
  have z0 : Bk (((w.alloc (.cells #[.int .u8 (ka), .bool (ba), .int .i64 (na), .string (sa)] 24)).alloc (.cells #[.int .u8 (kb), .bool (bb), .int .i64 (nb), .string (sb)] 24)).alloc (.cells #[.int .u8 (0), .bool (false), .int .i64 (0), .string (⟨#[]⟩)] 24)) (w.heap.size + 1 + 1) 24 #[.int .u8 (0), .bool (false), .int .i64 (0), .string (⟨#[]⟩)] := Bk.at (by simp)
  have E0 : Ext w (((w.alloc (.cells #[.int .u8 (ka), .bool (ba), .int .i64 (na), .string (sa)] 24)).alloc (.cells #[.int .u8 (kb), .bool (bb), .int .i64 (nb), .string (sb)] 24)).alloc (.cells #[.int .u8 (0), .bool (false), .int .i64 (0), .string (⟨#[]⟩)] 24)) := (((Ext.refl w).alloc _).alloc _).alloc _
  obtain ⟨w0, hw0⟩ : ∃ w0, w0 = (((w.alloc (.cells #[.int .u8 (ka), .bool (ba), .int .i64 (na), .string (sa)] 24)).alloc (.cells #[.int .u8 (kb), .bool (bb), .int .i64 (nb), .string (sb)] 24)).alloc (.cells #[.int .u8 (0), .bool (false), .int .i64 (0), .string (⟨#[]⟩)] 24)) := ⟨_, rfl⟩
  rw [← hw0] at a0 b0 z0 E0 ⊢
  clear hw0
  have X : Ext w0 w0.drew := (Ext.refl w0).drew
  have p00 : ∀ y : Xt w0.drew, y.W.cell? ⟨w.heap.size, 0, none⟩ = some (.int .u8 (ka)) := fun y => (a0.ext (X.trans y.x)).cell 0
  have p01 : ∀ y : Xt w0.drew, y.W.cell? ⟨w.heap.size, 1, none⟩ = some (.bool (ba)) := fun y => (a0.ext (X.trans y.x)).cell 1
  have p02 : ∀ y : Xt w0.drew, y.W.cell? ⟨w.heap.size, 2, none⟩ = some (.int .i64 (na)) := fun y => (a0.ext (X.trans y.x)).cell 2
  have p03 : ∀ y : Xt w0.drew, y.W.cell? ⟨w.heap.size, 3, none⟩ = some (.string (sa)) := fun y => (a0.ext (X.trans y.x)).cell 3
  have p10 : ∀ y : Xt w0.drew, y.W.cell? ⟨w.heap.size + 1, 0, none⟩ = some (.int .u8 (kb)) := fun y => (b0.ext (X.trans y.x)).cell 0
  have p11 : ∀ y : Xt w0.drew, y.W.cell? ⟨w.heap.size + 1, 1, none⟩ = some (.bool (bb)) := fun y => (b0.ext (X.trans y.x)).cell 1
  have p12 : ∀ y : Xt w0.drew, y.W.cell? ⟨w.heap.size + 1, 2, none⟩ = some (.int .i64 (nb)) := fun y => (b0.ext (X.trans y.x)).cell 2
  have p13 : ∀ y : Xt w0.drew, y.W.cell? ⟨w.heap.size + 1, 3, none⟩ = some (.string (sb)) := fun y => (b0.ext (X.trans y.x)).cell 3
  refine wp_region_ord [0,0,2,6,14,30,62,126,254,510,1022,2046,4094,8190,16382,32766,65534,131070,262142,524286,1048574,2097150,4194302,8388606,16777214,33554430,67108862,134217726,0,0,805306368,2147483647,4294967295,4294967295,17179869183,34359738367] (.flo [0,1,2,3,4,5,6,7,8,9,10,11,12,13,14,15,16,17,18,19,20,21,22,23,24,25,26,28,29] (.both 27 30 (.ext 30 (.one 31 (.flo [32,33] (.one 34 (.flo [35] (.fin)))))) (.ext 27 (.one 31 (.flo [32,33] (.one 34 (.flo [35] (.fin)))))))) (by kernel_rfl) (by kernel_rfl) (by intro _ _ d _ _ h; cases d <;> exact h) ?_
  (refine ord_flo (pick_cons rfl (pick_cons rfl (pick_cons rfl (pick_cons rfl (pick_cons rfl (pick_cons rfl (pick_cons rfl (pick_cons rfl (pick_cons rfl (pick_cons rfl (pick_cons rfl (pick_cons rfl (pick_cons rfl (pick_cons rfl (pick_cons rfl (pick_cons rfl (pick_cons rfl (pick_cons rfl (pick_cons rfl (pick_cons rfl (pick_cons rfl (pick_cons rfl (pick_cons rfl (pick_cons rfl (pick_cons rfl (pick_cons rfl (pick_cons rfl (pick_cons rfl (pick_cons rfl pick_nil))))))))))))))))))))))))))))) ?_; (repeat (go_big_quiet_step (fail))); refine wpQuiet_nil ?_; show ordWalk _ _ _ _ _ _ _)
  refine ord_both (pick_cons rfl pick_nil) (pick_cons rfl pick_nil) ?_ ?_ <;> intro K_ hK_
  · go_wp2_with (go_at_call 72; refine (over_any _ _).mono ?_; rintro e w9 ⟨rfl, rfl⟩)
    refine ordNext.mk (Ext.refl _) ?_
    refine ord_ext (pick_cons rfl pick_nil) ?_; intro K_ hK_
    go_wp2
    refine ordNext.mk ((Ext.refl _).alloc _) ?_
    refine ord_one (pick_cons rfl pick_nil) ?_; intro K_ hK_
    go_wp2_with (go_at_call 71; refine (numbers_at _ _ _ _ 2 [⟨ka, ba, na, sa⟩, ⟨kb, bb, nb, sb⟩] _ HR rfl (by omega) (Dats.two (by first | exact Bk.at (by simp) | exact (Bk.at (by simp)).drew)) (by simpa using ⟨hs, hs2⟩)).mono ?_; rintro e w2 ⟨rfl, x2⟩; have z2 : Bk w2 (w.heap.size + 1 + 1) 24 #[.int .u8 (0), .bool (false), .int .i64 (0), .string (⟨#[]⟩)] := (z0.ext ((X.alloc (.cells #[.int .u8 (ka), .bool (ba), .int .i64 (na), .string (sa), .int .u8 (kb), .bool (bb), .int .i64 (nb), .string (sb)] 24)).trans (by exact x2))); have z2f0 : w2.frozen? ⟨w.heap.size + 1 + 1, 0, none⟩ = false := z2.free 0; have z2f1 : w2.frozen? ⟨w.heap.size + 1 + 1, 1, none⟩ = false := z2.free 1; have z2f2 : w2.frozen? ⟨w.heap.size + 1 + 1, 2, none⟩ = false := z2.free 2; have z2f3 : w2.frozen? ⟨w.heap.size + 1 + 1, 3, none⟩ = false := z2.free 3; have z2c0 : w2.cell? ⟨w.heap.size + 1 + 1, 0, none⟩ = some (.int .u8 (0)) := z2.cell 0; have z2c1 : w2.cell? ⟨w.heap.size + 1 + 1, 1, none⟩ = some (.bool (false)) := z2.cell 1; have z2c2 : w2.cell? ⟨w.heap.size + 1 + 1, 2, none⟩ = some (.int .i64 (0)) := z2.cell 2; have z2c3 : w2.cell? ⟨w.heap.size + 1 + 1, 3, none⟩ = some (.string (⟨#[]⟩)) := z2.cell 3)
    (refine ord_flo (pick_cons rfl (pick_cons rfl pick_nil)) ?_; (repeat (go_big_quiet_step (fail))); refine wpQuiet_nil ?_; show ordWalk _ _ _ _ _ _ _)
    refine ord_one (pick_cons rfl pick_nil) ?_; intro K_ hK_
    go_wp2
    (refine ord_flo (pick_cons rfl pick_nil) ?_; (repeat (go_big_quiet_step (fail))); refine wpQuiet_nil ?_; show ordWalk _ _ _ _ _ _ _)
    refine ord_fin ?_
    go_wp2
    have q := z2.set4 (.int .u8 rk) (.bool rb) (.int .i64 rn) (.string rs)
    refine bodyPost_ret (v := .tuple #[.agg #[.int .u8 rk, .bool rb, .int .i64 rn, .string rs], .int .i64 re]) (by simp [results, Tryd.results34, go_sem, q.1, q.2.1, q.2.2.1, q.2.2.2]) rfl ⟨rfl, Ext.set4 (E0.trans ((X.alloc (.cells #[.int .u8 (ka), .bool (ba), .int .i64 (na), .string (sa), .int .u8 (kb), .bool (bb), .int .i64 (nb), .string (sb)] 24)).trans (by exact x2))) (by first | omega | simp) _ _ _ _⟩
  · go_wp2
    refine ordNext.mk ((Ext.refl _).alloc _) ?_
    refine ord_ext (pick_cons rfl pick_nil) ?_; intro K_ hK_
    go_wp2_with (go_at_call 72; refine (over_any _ _).mono ?_; rintro e w9 ⟨rfl, rfl⟩)
    refine ordNext.mk (Ext.refl _) ?_
    refine ord_one (pick_cons rfl pick_nil) ?_; intro K_ hK_
    go_wp2_with (go_at_call 71; refine (numbers_at _ _ _ _ 2 [⟨ka, ba, na, sa⟩, ⟨kb, bb, nb, sb⟩] _ HR rfl (by omega) (Dats.two (by first | exact Bk.at (by simp) | exact (Bk.at (by simp)).drew)) (by simpa using ⟨hs, hs2⟩)).mono ?_; rintro e w2 ⟨rfl, x2⟩; have z2 : Bk w2 (w.heap.size + 1 + 1) 24 #[.int .u8 (0), .bool (false), .int .i64 (0), .string (⟨#[]⟩)] := (z0.ext ((X.alloc (.cells #[.int .u8 (ka), .bool (ba), .int .i64 (na), .string (sa), .int .u8 (kb), .bool (bb), .int .i64 (nb), .string (sb)] 24)).trans (by exact x2))); have z2f0 : w2.frozen? ⟨w.heap.size + 1 + 1, 0, none⟩ = false := z2.free 0; have z2f1 : w2.frozen? ⟨w.heap.size + 1 + 1, 1, none⟩ = false := z2.free 1; have z2f2 : w2.frozen? ⟨w.heap.size + 1 + 1, 2, none⟩ = false := z2.free 2; have z2f3 : w2.frozen? ⟨w.heap.size + 1 + 1, 3, none⟩ = false := z2.free 3; have z2c0 : w2.cell? ⟨w.heap.size + 1 + 1, 0, none⟩ = some (.int .u8 (0)) := z2.cell 0; have z2c1 : w2.cell? ⟨w.heap.size + 1 + 1, 1, none⟩ = some (.bool (false)) := z2.cell 1; have z2c2 : w2.cell? ⟨w.heap.size + 1 + 1, 2, none⟩ = some (.int .i64 (0)) := z2.cell 2; have z2c3 : w2.cell? ⟨w.heap.size + 1 + 1, 3, none⟩ = some (.string (⟨#[]⟩)) := z2.cell 3)
    (refine ord_flo (pick_cons rfl (pick_cons rfl pick_nil)) ?_; (repeat (go_big_quiet_step (fail))); refine wpQuiet_nil ?_; show ordWalk _ _ _ _ _ _ _)
    refine ord_one (pick_cons rfl pick_nil) ?_; intro K_ hK_
    go_wp2
    (refine ord_flo (pick_cons rfl pick_nil) ?_; (repeat (go_big_quiet_step (fail))); refine wpQuiet_nil ?_; show ordWalk _ _ _ _ _ _ _)
    refine ord_fin ?_
    go_wp2
    have q := z2.set4 (.int .u8 rk) (.bool rb) (.int .i64 rn) (.string rs)
    refine bodyPost_ret (v := .tuple #[.agg #[.int .u8 rk, .bool rb, .int .i64 rn, .string rs], .int .i64 re]) (by simp [results, Tryd.results34, go_sem, q.1, q.2.1, q.2.2.1, q.2.2.2]) rfl ⟨rfl, Ext.set4 (E0.trans ((X.alloc (.cells #[.int .u8 (ka), .bool (ba), .int .i64 (na), .string (sa), .int .u8 (kb), .bool (bb), .int .i64 (nb), .string (sb)] 24)).trans (by exact x2))) (by first | omega | simp) _ _ _ _⟩
set_option maxRecDepth 100000 in
set_option maxHeartbeats 1600000 in
theorem rsub_nn (ka na kb nb : Int) (ba bb : Bool) (sa sb : ByteArray) (c : Int) (w : World) (hs : sa.size ≤ 140737488355328) (hs2 : sb.size ≤ 140737488355328) (hw : wrap64 (na - nb) = c) (f0 : ¬ 0 ≤ na) (f1 : na < 0) (f2 : ¬ 0 < nb) :
    Calls Tryd.prog 34 #[.agg #[.int .u8 (ka), .bool (ba), .int .i64 (na), .string (sa)], .agg #[.int .u8 (kb), .bool (bb), .int .i64 (nb), .string (sb)]] w (RefOut w (applyR 3 [⟨ka, ba, na, sa⟩, ⟨kb, bb, nb, sb⟩] (numR c 0))) := by
  have hw2 : IntKind.i64.wrap (na - nb) = c := by rw [IntKind.wrap_i64]; simpa [wrap64] using hw
  obtain ⟨⟨⟨rk, rb, rn, rs⟩, re⟩, hr⟩ : ∃ r, applyR 3 [⟨ka, ba, na, sa⟩, ⟨kb, bb, nb, sb⟩] (numR c 0) = r := ⟨_, rfl⟩
  rw [hr]
  have HR := Lib.hid hr
  clear hr
  have u0 : decide (0 ≤ na) = false := by first | exact decide_eq_true (by omega) | exact decide_eq_false (by omega)
  have u1 : decide (na < 0) = true := by first | exact decide_eq_true (by omega) | exact decide_eq_false (by omega)
  have u2 : decide (0 < nb) = false := by first | exact decide_eq_true (by omega) | exact decide_eq_false (by omega)
  go_enter Tryd.func34, Tryd.ntmps34
  go_upto_region 2 with fail
  have a0 : Bk (((w.alloc (.cells #[.int .u8 (ka), .bool (ba), .int .i64 (na), .string (sa)] 24)).alloc (.cells #[.int .u8 (kb), .bool (bb), .int .i64 (nb), .string (sb)] 24)).alloc (.cells #[.int .u8 (0), .bool (false), .int .i64 (0), .string (⟨#[]⟩)] 24)) (w.heap.size) 24 #[.int .u8 (ka), .bool (ba), .int .i64 (na), .string (sa)] := ((Bk.at (by simp)).alloc _).alloc _
  have b0 : Bk (((w.alloc (.cells #[.int .u8 (ka), .bool (ba), .int .i64 (na), .string (sa)] 24)).alloc (.cells #[.int .u8 (kb), .bool (bb), .int .i64 (nb), .string (sb)] 24)).alloc (.cells #[.int .u8 (0), .bool (false), .int .i64 (0), .string (⟨#[]⟩)] 24)) (w.heap.size + 1) 24 #[.int .u8 (kb), .bool (bb), .int .i64 (nb), .string (sb)] := (Bk.at (by simp)).alloc _
  have z0 : Bk (((w.alloc (.cells #[.int .u8 (ka), .bool (ba), .int .i64 (na), .string (sa)] 24)).alloc (.cells #[.int .u8 (kb), .bool (bb), .int .i64 (nb), .string (sb)] 24)).alloc (.cells #[.int .u8 (0), .bool (false), .int .i64 (0), .string (⟨#[]⟩)] 24)) (w.heap.size + 1 + 1) 24 #[.int .u8 (0), .bool (false), .int .i64 (0), .string (⟨#[]⟩)] := Bk.at (by simp)
  have E0 : Ext w (((w.alloc (.cells #[.int .u8 (ka), .bool (ba), .int .i64 (na), .string (sa)] 24)).alloc (.cells #[.int .u8 (kb), .bool (bb), .int .i64 (nb), .string (sb)] 24)).alloc (.cells #[.int .u8 (0), .bool (false), .int .i64 (0), .string (⟨#[]⟩)] 24)) := (((Ext.refl w).alloc _).alloc _).alloc _
  obtain ⟨w0, hw0⟩ : ∃ w0, w0 = (((w.alloc (.cells #[.int .u8 (ka), .bool (ba), .int .i64 (na), .string (sa)] 24)).alloc (.cells #[.int .u8 (kb), .bool (bb), .int .i64 (nb), .string (sb)] 24)).alloc (.cells #[.int .u8 (0), .bool (false), .int .i64 (0), .string (⟨#[]⟩)] 24)) := ⟨_, rfl⟩
  rw [← hw0] at a0 b0 z0 E0 ⊢
  clear hw0
  have X : Ext w0 w0.drew := (Ext.refl w0).drew
  have p00 : ∀ y : Xt w0.drew, y.W.cell? ⟨w.heap.size, 0, none⟩ = some (.int .u8 (ka)) := fun y => (a0.ext (X.trans y.x)).cell 0
  have p01 : ∀ y : Xt w0.drew, y.W.cell? ⟨w.heap.size, 1, none⟩ = some (.bool (ba)) := fun y => (a0.ext (X.trans y.x)).cell 1
  have p02 : ∀ y : Xt w0.drew, y.W.cell? ⟨w.heap.size, 2, none⟩ = some (.int .i64 (na)) := fun y => (a0.ext (X.trans y.x)).cell 2
  have p03 : ∀ y : Xt w0.drew, y.W.cell? ⟨w.heap.size, 3, none⟩ = some (.string (sa)) := fun y => (a0.ext (X.trans y.x)).cell 3
  have p10 : ∀ y : Xt w0.drew, y.W.cell? ⟨w.heap.size + 1, 0, none⟩ = some (.int .u8 (kb)) := fun y => (b0.ext (X.trans y.x)).cell 0
  have p11 : ∀ y : Xt w0.drew, y.W.cell? ⟨w.heap.size + 1, 1, none⟩ = some (.bool (bb)) := fun y => (b0.ext (X.trans y.x)).cell 1
  have p12 : ∀ y : Xt w0.drew, y.W.cell? ⟨w.heap.size + 1, 2, none⟩ = some (.int .i64 (nb)) := fun y => (b0.ext (X.trans y.x)).cell 2
  have p13 : ∀ y : Xt w0.drew, y.W.cell? ⟨w.heap.size + 1, 3, none⟩ = some (.string (sb)) := fun y => (b0.ext (X.trans y.x)).cell 3
  refine wp_region_ord [0,0,2,6,14,30,62,126,254,510,1022,2046,4094,8190,16382,32766,65534,131070,262142,524286,1048574,2097150,4194302,8388606,16777214,33554430,67108862,134217726,0,0,805306368,2147483647,4294967295,4294967295,17179869183,34359738367] (.flo [0,1,2,3,4,5,6,7,8,9,10,11,12,13,14,15,16,17,18,19,20,21,22,23,24,25,26,28,29] (.both 27 30 (.ext 30 (.one 31 (.flo [32,33] (.one 34 (.flo [35] (.fin)))))) (.ext 27 (.one 31 (.flo [32,33] (.one 34 (.flo [35] (.fin)))))))) (by kernel_rfl) (by kernel_rfl) (by intro _ _ d _ _ h; cases d <;> exact h) ?_
  (refine ord_flo (pick_cons rfl (pick_cons rfl (pick_cons rfl (pick_cons rfl (pick_cons rfl (pick_cons rfl (pick_cons rfl (pick_cons rfl (pick_cons rfl (pick_cons rfl (pick_cons rfl (pick_cons rfl (pick_cons rfl (pick_cons rfl (pick_cons rfl (pick_cons rfl (pick_cons rfl (pick_cons rfl (pick_cons rfl (pick_cons rfl (pick_cons rfl (pick_cons rfl (pick_cons rfl (pick_cons rfl (pick_cons rfl (pick_cons rfl (pick_cons rfl (pick_cons rfl (pick_cons rfl pick_nil))))))))))))))))))))))))))))) ?_; (repeat (go_big_quiet_step (fail))); refine wpQuiet_nil ?_; show ordWalk _ _ _ _ _ _ _)
  refine ord_both (pick_cons rfl pick_nil) (pick_cons rfl pick_nil) ?_ ?_ <;> intro K_ hK_
  · go_wp2_with (go_at_call 72; refine (over_any _ _).mono ?_; rintro e w9 ⟨rfl, rfl⟩)
    refine ordNext.mk (Ext.refl _) ?_
    refine ord_ext (pick_cons rfl pick_nil) ?_; intro K_ hK_
    go_wp2
    refine ordNext.mk ((Ext.refl _).alloc _) ?_
    refine ord_one (pick_cons rfl pick_nil) ?_; intro K_ hK_
    go_wp2_with (go_at_call 71; refine (numbers_at _ _ _ _ 2 [⟨ka, ba, na, sa⟩, ⟨kb, bb, nb, sb⟩] _ HR rfl (by omega) (Dats.two (by first | exact Bk.at (by simp) | exact (Bk.at (by simp)).drew)) (by simpa using ⟨hs, hs2⟩)).mono ?_; rintro e w2 ⟨rfl, x2⟩; have z2 : Bk w2 (w.heap.size + 1 + 1) 24 #[.int .u8 (0), .bool (false), .int .i64 (0), .string (⟨#[]⟩)] := (z0.ext ((X.alloc (.cells #[.int .u8 (ka), .bool (ba), .int .i64 (na), .string (sa), .int .u8 (kb), .bool (bb), .int .i64 (nb), .string (sb)] 24)).trans (by exact x2))); have z2f0 : w2.frozen? ⟨w.heap.size + 1 + 1, 0, none⟩ = false := z2.free 0; have z2f1 : w2.frozen? ⟨w.heap.size + 1 + 1, 1, none⟩ = false := z2.free 1; have z2f2 : w2.frozen? ⟨w.heap.size + 1 + 1, 2, none⟩ = false := z2.free 2; have z2f3 : w2.frozen? ⟨w.heap.size + 1 + 1, 3, none⟩ = false := z2.free 3; have z2c0 : w2.cell? ⟨w.heap.size + 1 + 1, 0, none⟩ = some (.int .u8 (0)) := z2.cell 0; have z2c1 : w2.cell? ⟨w.heap.size + 1 + 1, 1, none⟩ = some (.bool (false)) := z2.cell 1; have z2c2 : w2.cell? ⟨w.heap.size + 1 + 1, 2, none⟩ = some (.int .i64 (0)) := z2.cell 2; have z2c3 : w2.cell? ⟨w.heap.size + 1 + 1, 3, none⟩ = some (.string (⟨#[]⟩)) := z2.cell 3)
    (refine ord_flo (pick_cons rfl (pick_cons rfl pick_nil)) ?_; (repeat (go_big_quiet_step (fail))); refine wpQuiet_nil ?_; show ordWalk _ _ _ _ _ _ _)
    refine ord_one (pick_cons rfl pick_nil) ?_; intro K_ hK_
    go_wp2
    (refine ord_flo (pick_cons rfl pick_nil) ?_; (repeat (go_big_quiet_step (fail))); refine wpQuiet_nil ?_; show ordWalk _ _ _ _ _ _ _)
    refine ord_fin ?_
    go_wp2
    have q := z2.set4 (.int .u8 rk) (.bool rb) (.int .i64 rn) (.string rs)
    refine bodyPost_ret (v := .tuple #[.agg #[.int .u8 rk, .bool rb, .int .i64 rn, .string rs], .int .i64 re]) (by simp [results, Tryd.results34, go_sem, q.1, q.2.1, q.2.2.1, q.2.2.2]) rfl ⟨rfl, Ext.set4 (E0.trans ((X.alloc (.cells #[.int .u8 (ka), .bool (ba), .int .i64 (na), .string (sa), .int .u8 (kb), .bool (bb), .int .i64 (nb), .string (sb)] 24)).trans (by exact x2))) (by first | omega | simp) _ _ _ _⟩
  · go_wp2
    refine ordNext.mk ((Ext.refl _).alloc _) ?_
    refine ord_ext (pick_cons rfl pick_nil) ?_; intro K_ hK_
    go_wp2_with (go_at_call 72; refine (over_any _ _).mono ?_; rintro e w9 ⟨rfl, rfl⟩)
    refine ordNext.mk (Ext.refl _) ?_
    refine ord_one (pick_cons rfl pick_nil) ?_; intro K_ hK_
    go_wp2_with (go_at_call 71; refine (numbers_at _ _ _ _ 2 [⟨ka, ba, na, sa⟩, ⟨kb, bb, nb, sb⟩] _ HR rfl (by omega) (Dats.two (by first | exact Bk.at (by simp) | exact (Bk.at (by simp)).drew)) (by simpa using ⟨hs, hs2⟩)).mono ?_; rintro e w2 ⟨rfl, x2⟩; have z2 : Bk w2 (w.heap.size + 1 + 1) 24 #[.int .u8 (0), .bool (false), .int .i64 (0), .string (⟨#[]⟩)] := (z0.ext ((X.alloc (.cells #[.int .u8 (ka), .bool (ba), .int .i64 (na), .string (sa), .int .u8 (kb), .bool (bb), .int .i64 (nb), .string (sb)] 24)).trans (by exact x2))); have z2f0 : w2.frozen? ⟨w.heap.size + 1 + 1, 0, none⟩ = false := z2.free 0; have z2f1 : w2.frozen? ⟨w.heap.size + 1 + 1, 1, none⟩ = false := z2.free 1; have z2f2 : w2.frozen? ⟨w.heap.size + 1 + 1, 2, none⟩ = false := z2.free 2; have z2f3 : w2.frozen? ⟨w.heap.size + 1 + 1, 3, none⟩ = false := z2.free 3; have z2c0 : w2.cell? ⟨w.heap.size + 1 + 1, 0, none⟩ = some (.int .u8 (0)) := z2.cell 0; have z2c1 : w2.cell? ⟨w.heap.size + 1 + 1, 1, none⟩ = some (.bool (false)) := z2.cell 1; have z2c2 : w2.cell? ⟨w.heap.size + 1 + 1, 2, none⟩ = some (.int .i64 (0)) := z2.cell 2; have z2c3 : w2.cell? ⟨w.heap.size + 1 + 1, 3, none⟩ = some (.string (⟨#[]⟩)) := z2.cell 3)
    (refine ord_flo (pick_cons rfl (pick_cons rfl pick_nil)) ?_; (repeat (go_big_quiet_step (fail))); refine wpQuiet_nil ?_; show ordWalk _ _ _ _ _ _ _)
    refine ord_one (pick_cons rfl pick_nil) ?_; intro K_ hK_
    go_wp2
    (refine ord_flo (pick_cons rfl pick_nil) ?_; (repeat (go_big_quiet_step (fail))); refine wpQuiet_nil ?_; show ordWalk _ _ _ _ _ _ _)
    refine ord_fin ?_
    go_wp2
    have q := z2.set4 (.int .u8 rk) (.bool rb) (.int .i64 rn) (.string rs)
    refine bodyPost_ret (v := .tuple #[.agg #[.int .u8 rk, .bool rb, .int .i64 rn, .string rs], .int .i64 re]) (by simp [results, Tryd.results34, go_sem, q.1, q.2.1, q.2.2.1, q.2.2.2]) rfl ⟨rfl, Ext.set4 (E0.trans ((X.alloc (.cells #[.int .u8 (ka), .bool (ba), .int .i64 (na), .string (sa), .int .u8 (kb), .bool (bb), .int .i64 (nb), .string (sb)] 24)).trans (by exact x2))) (by first | omega | simp) _ _ _ _⟩
set_option maxRecDepth 100000 in
set_option maxHeartbeats 1600000 in
theorem rsub_np0 (ka na kb nb : Int) (ba bb : Bool) (sa sb : ByteArray) (c : Int) (w : World) (hs : sa.size ≤ 140737488355328) (hs2 : sb.size ≤ 140737488355328) (hw : wrap64 (na - nb) = c) (f0 : ¬ 0 ≤ na) (f1 : na < 0) (f2 : 0 < nb) (f3 : ¬ 0 ≤ c) :
    Calls Tryd.prog 34 #[.agg #[.int .u8 (ka), .bool (ba), .int .i64 (na), .string (sa)], .agg #[.int .u8 (kb), .bool (bb), .int .i64 (nb), .string (sb)]] w (RefOut w (applyR 3 [⟨ka, ba, na, sa⟩, ⟨kb, bb, nb, sb⟩] (numR c 0))) := by
  have hw2 : IntKind.i64.wrap (na - nb) = c := by rw [IntKind.wrap_i64]; simpa [wrap64] using hw
  obtain ⟨⟨⟨rk, rb, rn, rs⟩, re⟩, hr⟩ : ∃ r, applyR 3 [⟨ka, ba, na, sa⟩, ⟨kb, bb, nb, sb⟩] (numR c 0) = r := ⟨_, rfl⟩
  rw [hr]
  have HR := Lib.hid hr
  clear hr
  have u0 : decide (0 ≤ na) = false := by first | exact decide_eq_true (by omega) | exact decide_eq_false (by omega)
  have u1 : decide (na < 0) = true := by first | exact decide_eq_true (by omega) | exact decide_eq_false (by omega)
  have u2 : decide (0 < nb) = true := by first | exact decide_eq_true (by omega) | exact decide_eq_false (by omega)
  have u3 : decide (0 ≤ c) = false := by first | exact decide_eq_true (by omega) | exact decide_eq_false (by omega)
  go_enter Tryd.func34, Tryd.ntmps34
  go_upto_region 2 with fail
  have a0 : Bk (((w.alloc (.cells #[.int .u8 (ka), .bool (ba), .int .i64 (na), .string (sa)] 24)).alloc (.cells #[.int .u8 (kb), .bool (bb), .int .i64 (nb), .string (sb)] 24)).alloc (.cells #[.int .u8 (0), .bool (false), .int .i64 (0), .string (⟨#[]⟩)] 24)) (w.heap.size) 24 #[.int .u8 (ka), .bool (ba), .int .i64 (na), .string (sa)] := ((Bk.at (by simp)).alloc _).alloc _
  have b0 : Bk (((w.alloc (.cells #[.int .u8 (ka), .bool (ba), .int .i64 (na), .string (sa)] 24)).alloc (.cells #[.int .u8 (kb), .bool (bb), .int .i64 (nb), .string (sb)] 24)).alloc (.cells #[.int .u8 (0), .bool (false), .int .i64 (0), .string (⟨#[]⟩)] 24)) (w.heap.size + 1) 24 #[.int .u8 (kb), .bool (bb), .int .i64 (nb), .string (sb)] := (Bk.at (by simp)).alloc _
  have z0 : Bk (((w.alloc (.cells #[.int .u8 (ka), .bool (ba), .int .i64 (na), .string (sa)] 24)).alloc (.cells #[.int .u8 (kb), .bool (bb), .int .i64 (nb), .string (sb)] 24)).alloc (.cells #[.int .u8 (0), .bool (false), .int .i64 (0), .string (⟨#[]⟩)] 24)) (w.heap.size + 1 + 1) 24 #[.int .u8 (0), .bool (false), .int .i64 (0), .string (⟨#[]⟩)] := Bk.at (by simp)
  have E0 : Ext w (((w.alloc (.cells #[.int .u8 (ka), .bool (ba), .int .i64 (na), .string (sa)] 24)).alloc (.cells #[.int .u8 (kb), .bool (bb), .int .i64 (nb), .string (sb)] 24)).alloc (.cells #[.int .u8 (0), .bool (false), .int .i64 (0), .string (⟨#[]⟩)] 24)) := (((Ext.refl w).alloc _).alloc _).alloc _
  obtain ⟨w0, hw0⟩ : ∃ w0, w0 = (((w.alloc (.cells #[.int .u8 (ka), .bool (ba), .int .i64 (na), .string (sa)] 24)).alloc (.cells #[.int .u8 (kb), .bool (bb), .int .i64 (nb), .string (sb)] 24)).alloc (.cells #[.int .u8 (0), .bool (false), .int .i64 (0), .string (⟨#[]⟩)] 24)) := ⟨_, rfl⟩
  rw [← hw0] at a0 b0 z0 E0 ⊢
  clear hw0
  have X : Ext w0 w0.drew := (Ext.refl w0).drew
  have p00 : ∀ y : Xt w0.drew, y.W.cell? ⟨w.heap.size, 0, none⟩ = some (.int .u8 (ka)) := fun y => (a0.ext (X.trans y.x)).cell 0
  have p01 : ∀ y : Xt w0.drew, y.W.cell? ⟨w.heap.size, 1, none⟩ = some (.bool (ba)) := fun y => (a0.ext (X.trans y.x)).cell 1
  have p02 : ∀ y : Xt w0.drew, y.W.cell? ⟨w.heap.size, 2, none⟩ = some (.int .i64 (na)) := fun y => (a0.ext (X.trans y.x)).cell 2
  have p03 : ∀ y : Xt w0.drew, y.W.cell? ⟨w.heap.size, 3, none⟩ = some (.string (sa)) := fun y => (a0.ext (X.trans y.x)).cell 3
  have p10 : ∀ y : Xt w0.drew, y.W.cell? ⟨w.heap.size + 1, 0, none⟩ = some (.int .u8 (kb)) := fun y => (b0.ext (X.trans y.x)).cell 0
  have p11 : ∀ y : Xt w0.drew, y.W.cell? ⟨w.heap.size + 1, 1, none⟩ = some (.bool (bb)) := fun y => (b0.ext (X.trans y.x)).cell 1
  have p12 : ∀ y : Xt w0.drew, y.W.cell? ⟨w.heap.size + 1, 2, none⟩ = some (.int .i64 (nb)) := fun y => (b0.ext (X.trans y.x)).cell 2
  have p13 : ∀ y : Xt w0.drew, y.W.cell? ⟨w.heap.size + 1, 3, none⟩ = some (.string (sb)) := fun y => (b0.ext (X.trans y.x)).cell 3
  refine wp_region_ord [0,0,2,6,14,30,62,126,254,510,1022,2046,4094,8190,16382,32766,65534,131070,262142,524286,1048574,2097150,4194302,8388606,16777214,33554430,67108862,134217726,0,0,805306368,2147483647,4294967295,4294967295,17179869183,34359738367] (.flo [0,1,2,3,4,5,6,7,8,9,10,11,12,13,14,15,16,17,18,19,20,21,22,23,24,25,26,28,29] (.both 27 30 (.ext 30 (.one 31 (.flo [32,33] (.one 34 (.flo [35] (.fin)))))) (.ext 27 (.one 31 (.flo [32,33] (.one 34 (.flo [35] (.fin)))))))) (by kernel_rfl) (by kernel_rfl) (by intro _ _ d _ _ h; cases d <;> exact h) ?_
  (refine ord_flo (pick_cons rfl (pick_cons rfl (pick_cons rfl (pick_cons rfl (pick_cons rfl (pick_cons rfl (pick_cons rfl (pick_cons rfl (pick_cons rfl (pick_cons rfl (pick_cons rfl (pick_cons rfl (pick_cons rfl (pick_cons rfl (pick_cons rfl (pick_cons rfl (pick_cons rfl (pick_cons rfl (pick_cons rfl (pick_cons rfl (pick_cons rfl (pick_cons rfl (pick_cons rfl (pick_cons rfl (pick_cons rfl (pick_cons rfl (pick_cons rfl (pick_cons rfl (pick_cons rfl pick_nil))))))))))))))))))))))))))))) ?_; (repeat (go_big_quiet_step (fail))); refine wpQuiet_nil ?_; show ordWalk _ _ _ _ _ _ _)
  refine ord_both (pick_cons rfl pick_nil) (pick_cons rfl pick_nil) ?_ ?_ <;> intro K_ hK_
  · go_wp2_with (go_at_call 72; refine (over_any _ _).mono ?_; rintro e w9 ⟨rfl, rfl⟩)
    refine ordNext.mk (Ext.refl _) ?_
    refine ord_ext (pick_cons rfl pick_nil) ?_; intro K_ hK_
    go_wp2
    refine ordNext.mk ((Ext.refl _).alloc _) ?_
    refine ord_one (pick_cons rfl pick_nil) ?_; intro K_ hK_
    go_wp2_with (go_at_call 71; refine (numbers_at _ _ _ _ 2 [⟨ka, ba, na, sa⟩, ⟨kb, bb, nb, sb⟩] _ HR rfl (by omega) (Dats.two (by first | exact Bk.at (by simp) | exact (Bk.at (by simp)).drew)) (by simpa using ⟨hs, hs2⟩)).mono ?_; rintro e w2 ⟨rfl, x2⟩; have z2 : Bk w2 (w.heap.size + 1 + 1) 24 #[.int .u8 (0), .bool (false), .int .i64 (0), .string (⟨#[]⟩)] := (z0.ext ((X.alloc (.cells #[.int .u8 (ka), .bool (ba), .int .i64 (na), .string (sa), .int .u8 (kb), .bool (bb), .int .i64 (nb), .string (sb)] 24)).trans (by exact x2))); have z2f0 : w2.frozen? ⟨w.heap.size + 1 + 1, 0, none⟩ = false := z2.free 0; have z2f1 : w2.frozen? ⟨w.heap.size + 1 + 1, 1, none⟩ = false := z2.free 1; have z2f2 : w2.frozen? ⟨w.heap.size + 1 + 1, 2, none⟩ = false := z2.free 2; have z2f3 : w2.frozen? ⟨w.heap.size + 1 + 1, 3, none⟩ = false := z2.free 3; have z2c0 : w2.cell? ⟨w.heap.size + 1 + 1, 0, none⟩ = some (.int .u8 (0)) := z2.cell 0; have z2c1 : w2.cell? ⟨w.heap.size + 1 + 1, 1, none⟩ = some (.bool (false)) := z2.cell 1; have z2c2 : w2.cell? ⟨w.heap.size + 1 + 1, 2, none⟩ = some (.int .i64 (0)) := z2.cell 2; have z2c3 : w2.cell? ⟨w.heap.size + 1 + 1, 3, none⟩ = some (.string (⟨#[]⟩)) := z2.cell 3)
    (refine ord_flo (pick_cons rfl (pick_cons rfl pick_nil)) ?_; (repeat (go_big_quiet_step (fail))); refine wpQuiet_nil ?_; show ordWalk _ _ _ _ _ _ _)
    refine ord_one (pick_cons rfl pick_nil) ?_; intro K_ hK_
    go_wp2
    (refine ord_flo (pick_cons rfl pick_nil) ?_; (repeat (go_big_quiet_step (fail))); refine wpQuiet_nil ?_; show ordWalk _ _ _ _ _ _ _)
    refine ord_fin ?_
    go_wp2
    have q := z2.set4 (.int .u8 rk) (.bool rb) (.int .i64 rn) (.string rs)
    refine bodyPost_ret (v := .tuple #[.agg #[.int .u8 rk, .bool rb, .int .i64 rn, .string rs], .int .i64 re]) (by simp [results, Tryd.results34, go_sem, q.1, q.2.1, q.2.2.1, q.2.2.2]) rfl ⟨rfl, Ext.set4 (E0.trans ((X.alloc (.cells #[.int .u8 (ka), .bool (ba), .int .i64 (na), .string (sa), .int .u8 (kb), .bool (bb), .int .i64 (nb), .string (sb)] 24)).trans (by exact x2))) (by first | omega | simp) _ _ _ _⟩
  · go_wp2
    refine ordNext.mk ((Ext.refl _).alloc _) ?_
    refine ord_ext (pick_cons rfl pick_nil) ?_; intro K_ hK_
    go_wp2_with (go_at_call 72; refine (over_any _ _).mono ?_; rintro e w9 ⟨rfl, rfl⟩)
    refine ordNext.mk (Ext.refl _) ?_
    refine ord_one (pick_cons rfl pick_nil) ?_; intro K_ hK_
    go_wp2_with (go_at_call 71; refine (numbers_at _ _ _ _ 2 [⟨ka, ba, na, sa⟩, ⟨kb, bb, nb, sb⟩] _ HR rfl (by omega) (Dats.two (by first | exact Bk.at (by simp) | exact (Bk.at (by simp)).drew)) (by simpa using ⟨hs, hs2⟩)).mono ?_; rintro e w2 ⟨rfl, x2⟩; have z2 : Bk w2 (w.heap.size + 1 + 1) 24 #[.int .u8 (0), .bool (false), .int .i64 (0), .string (⟨#[]⟩)] := (z0.ext ((X.alloc (.cells #[.int .u8 (ka), .bool (ba), .int .i64 (na), .string (sa), .int .u8 (kb), .bool (bb), .int .i64 (nb), .string (sb)] 24)).trans (by exact x2))); have z2f0 : w2.frozen? ⟨w.heap.size + 1 + 1, 0, none⟩ = false := z2.free 0; have z2f1 : w2.frozen? ⟨w.heap.size + 1 + 1, 1, none⟩ = false := z2.free 1; have z2f2 : w2.frozen? ⟨w.heap.size + 1 + 1, 2, none⟩ = false := z2.free 2; have z2f3 : w2.frozen? ⟨w.heap.size + 1 + 1, 3, none⟩ = false := z2.free 3; have z2c0 : w2.cell? ⟨w.heap.size + 1 + 1, 0, none⟩ = some (.int .u8 (0)) := z2.cell 0; have z2c1 : w2.cell? ⟨w.heap.size + 1 + 1, 1, none⟩ = some (.bool (false)) := z2.cell 1; have z2c2 : w2.cell? ⟨w.heap.size + 1 + 1, 2, none⟩ = some (.int .i64 (0)) := z2.cell 2; have z2c3 : w2.cell? ⟨w.heap.size + 1 + 1, 3, none⟩ = some (.string (⟨#[]⟩)) := z2.cell 3)
    (refine ord_flo (pick_cons rfl (pick_cons rfl pick_nil)) ?_; (repeat (go_big_quiet_step (fail))); refine wpQuiet_nil ?_; show ordWalk _ _ _ _ _ _ _)
    refine ord_one (pick_cons rfl pick_nil) ?_; intro K_ hK_
    go_wp2
    (refine ord_flo (pick_cons rfl pick_nil) ?_; (repeat (go_big_quiet_step (fail))); refine wpQuiet_nil ?_; show ordWalk _ _ _ _ _ _ _)
    refine ord_fin ?_
    go_wp2
    have q := z2.set4 (.int .u8 rk) (.bool rb) (.int .i64 rn) (.string rs)
    refine bodyPost_ret (v := .tuple #[.agg #[.int .u8 rk, .bool rb, .int .i64 rn, .string rs], .int .i64 re]) (by simp [results, Tryd.results34, go_sem, q.1, q.2.1, q.2.2.1, q.2.2.2]) rfl ⟨rfl, Ext.set4 (E0.trans ((X.alloc (.cells #[.int .u8 (ka), .bool (ba), .int .i64 (na), .string (sa), .int .u8 (kb), .bool (bb), .int .i64 (nb), .string (sb)] 24)).trans (by exact x2))) (by first | omega | simp) _ _ _ _⟩
set_option maxRecDepth 100000 in
set_option maxHeartbeats 1600000 in
theorem rsub_np1 (ka na kb nb : Int) (ba bb : Bool) (sa sb : ByteArray) (c : Int) (w : World) (hs : sa.size ≤ 140737488355328) (hs2 : sb.size ≤ 140737488355328) (hw : wrap64 (na - nb) = c) (f0 : ¬ 0 ≤ na) (f1 : na < 0) (f2 : 0 < nb) (f3 : 0 ≤ c) :
    Calls Tryd.prog 34 #[.agg #[.int .u8 (ka), .bool (ba), .int .i64 (na), .string (sa)], .agg #[.int .u8 (kb), .bool (bb), .int .i64 (nb), .string (sb)]] w (RefOut w (applyR 3 [⟨ka, ba, na, sa⟩, ⟨kb, bb, nb, sb⟩] (numR c 10))) := by
  have hw2 : IntKind.i64.wrap (na - nb) = c := by rw [IntKind.wrap_i64]; simpa [wrap64] using hw
  obtain ⟨⟨⟨rk, rb, rn, rs⟩, re⟩, hr⟩ : ∃ r, applyR 3 [⟨ka, ba, na, sa⟩, ⟨kb, bb, nb, sb⟩] (numR c 10) = r := ⟨_, rfl⟩
  rw [hr]
  have HR := Lib.hid hr
  clear hr
  have u0 : decide (0 ≤ na) = false := by first | exact decide_eq_true (by omega) | exact decide_eq_false (by omega)
  have u1 : decide (na < 0) = true := by first | exact decide_eq_true (by omega) | exact decide_eq_false (by omega)
  have u2 : decide (0 < nb) = true := by first | exact decide_eq_true (by omega) | exact decide_eq_false (by omega)
  have u3 : decide (0 ≤ c) = true := by first | exact decide_eq_true (by omega) | exact decide_eq_false (by omega)
  go_enter Tryd.func34, Tryd.ntmps34
  go_upto_region 2 with fail
  have a0 : Bk (((w.alloc (.cells #[.int .u8 (ka), .bool (ba), .int .i64 (na), .string (sa)] 24)).alloc (.cells #[.int .u8 (kb), .bool (bb), .int .i64 (nb), .string (sb)] 24)).alloc (.cells #[.int .u8 (0), .bool (false), .int .i64 (0), .string (⟨#[]⟩)] 24)) (w.heap.size) 24 #[.int .u8 (ka), .bool (ba), .int .i64 (na), .string (sa)] := ((Bk.at (by simp)).alloc _).alloc _
  have b0 : Bk (((w.alloc (.cells #[.int .u8 (ka), .bool (ba), .int .i64 (na), .string (sa)] 24)).alloc (.cells #[.int .u8 (kb), .bool (bb), .int .i64 (nb), .string (sb)] 24)).alloc (.cells #[.int .u8 (0), .bool (false), .int .i64 (0), .string (⟨#[]⟩)] 24)) (w.heap.size + 1) 24 #[.int .u8 (kb), .bool (bb), .int .i64 (nb), .string (sb)] := (Bk.at (by simp)).alloc _
  have z0 : Bk (((w.alloc (.cells #[.int .u8 (ka), .bool (ba), .int .i64 (na), .string (sa)] 24)).alloc (.cells #[.int .u8 (kb), .bool (bb), .int .i64 (nb), .string (sb)] 24)).alloc (.cells #[.int .u8 (0), .bool (false), .int .i64 (0), .string (⟨#[]⟩)] 24)) (w.heap.size + 1 + 1) 24 #[.int .u8 (0), .bool (false), .int .i64 (0), .string (⟨#[]⟩)] := Bk.at (by simp)
  have E0 : Ext w (((w.alloc (.cells #[.int .u8 (ka), .bool (ba), .int .i64 (na), .string (sa)] 24)).alloc (.cells #[.int .u8 (kb), .bool (bb), .int .i64 (nb), .string (sb)] 24)).alloc (.cells #[.int .u8 (0), .bool (false), .int .i64 (0), .string (⟨#[]⟩)] 24)) := (((Ext.refl w).alloc _).alloc _).alloc _
  obtain ⟨w0, hw0⟩ : ∃ w0, w0 = (((w.alloc (.cells #[.int .u8 (ka), .bool (ba), .int .i64 (na), .string (sa)] 24)).alloc (.cells #[.int .u8 (kb), .bool (bb), .int .i64 (nb), .string (sb)] 24)).alloc (.cells #[.int .u8 (0), .bool (false), .int .i64 (0), .string (⟨#[]⟩)] 24)) := ⟨_, rfl⟩
  rw [← hw0] at a0 b0 z0 E0 ⊢
  clear hw0
  have X : Ext w0 w0.drew := (Ext.refl w0).drew
  have p00 : ∀ y : Xt w0.drew, y.W.cell? ⟨w.heap.size, 0, none⟩ = some (.int .u8 (ka)) := fun y => (a0.ext (X.trans y.x)).cell 0
  have p01 : ∀ y : Xt w0.drew, y.W.cell? ⟨w.heap.size, 1, none⟩ = some (.bool (ba)) := fun y => (a0.ext (X.trans y.x)).cell 1
  have p02 : ∀ y : Xt w0.drew, y.W.cell? ⟨w.heap.size, 2, none⟩ = some (.int .i64 (na)) := fun y => (a0.ext (X.trans y.x)).cell 2
  have p03 : ∀ y : Xt w0.drew, y.W.cell? ⟨w.heap.size, 3, none⟩ = some (.string (sa)) := fun y => (a0.ext (X.trans y.x)).cell 3
  have p10 : ∀ y : Xt w0.drew, y.W.cell? ⟨w.heap.size + 1, 0, none⟩ = some (.int .u8 (kb)) := fun y => (b0.ext (X.trans y.x)).cell 0
  have p11 : ∀ y : Xt w0.drew, y.W.cell? ⟨w.heap.size + 1, 1, none⟩ = some (.bool (bb)) := fun y => (b0.ext (X.trans y.x)).cell 1
  have p12 : ∀ y : Xt w0.drew, y.W.cell? ⟨w.heap.size + 1, 2, none⟩ = some (.int .i64 (nb)) := fun y => (b0.ext (X.trans y.x)).cell 2
  have p13 : ∀ y : Xt w0.drew, y.W.cell? ⟨w.heap.size + 1, 3, none⟩ = some (.string (sb)) := fun y => (b0.ext (X.trans y.x)).cell 3
  refine wp_region_ord [0,0,2,6,14,30,62,126,254,510,1022,2046,4094,8190,16382,32766,65534,131070,262142,524286,1048574,2097150,4194302,8388606,16777214,33554430,67108862,134217726,0,0,805306368,2147483647,4294967295,4294967295,17179869183,34359738367] (.flo [0,1,2,3,4,5,6,7,8,9,10,11,12,13,14,15,16,17,18,19,20,21,22,23,24,25,26,28,29] (.both 27 30 (.ext 30 (.one 31 (.flo [32,33] (.one 34 (.flo [35] (.fin)))))) (.ext 27 (.one 31 (.flo [32,33] (.one 34 (.flo [35] (.fin)))))))) (by kernel_rfl) (by kernel_rfl) (by intro _ _ d _ _ h; cases d <;> exact h) ?_
  (refine ord_flo (pick_cons rfl (pick_cons rfl (pick_cons rfl (pick_cons rfl (pick_cons rfl (pick_cons rfl (pick_cons rfl (pick_cons rfl (pick_cons rfl (pick_cons rfl (pick_cons rfl (pick_cons rfl (pick_cons rfl (pick_cons rfl (pick_cons rfl (pick_cons rfl (pick_cons rfl (pick_cons rfl (pick_cons rfl (pick_cons rfl (pick_cons rfl (pick_cons rfl (pick_cons rfl (pick_cons rfl (pick_cons rfl (pick_cons rfl (pick_cons rfl (pick_cons rfl (pick_cons rfl pick_nil))))))))))))))))))))))))))))) ?_; (repeat (go_big_quiet_step (fail))); refine wpQuiet_nil ?_; show ordWalk _ _ _ _ _ _ _)
  refine ord_both (pick_cons rfl pick_nil) (pick_cons rfl pick_nil) ?_ ?_ <;> intro K_ hK_
  · go_wp2_with (go_at_call 72; refine (over_any _ _).mono ?_; rintro e w9 ⟨rfl, rfl⟩)
    refine ordNext.mk (Ext.refl _) ?_
    refine ord_ext (pick_cons rfl pick_nil) ?_; intro K_ hK_
    go_wp2
    refine ordNext.mk ((Ext.refl _).alloc _) ?_
    refine ord_one (pick_cons rfl pick_nil) ?_; intro K_ hK_
    go_wp2_with (go_at_call 71; refine (numbers_at _ _ _ _ 2 [⟨ka, ba, na, sa⟩, ⟨kb, bb, nb, sb⟩] _ HR rfl (by omega) (Dats.two (by first | exact Bk.at (by simp) | exact (Bk.at (by simp)).drew)) (by simpa using ⟨hs, hs2⟩)).mono ?_; rintro e w2 ⟨rfl, x2⟩; have z2 : Bk w2 (w.heap.size + 1 + 1) 24 #[.int .u8 (0), .bool (false), .int .i64 (0), .string (⟨#[]⟩)] := (z0.ext ((X.alloc (.cells #[.int .u8 (ka), .bool (ba), .int .i64 (na), .string (sa), .int .u8 (kb), .bool (bb), .int .i64 (nb), .string (sb)] 24)).trans (by exact x2))); have z2f0 : w2.frozen? ⟨w.heap.size + 1 + 1, 0, none⟩ = false := z2.free 0; have z2f1 : w2.frozen? ⟨w.heap.size + 1 + 1, 1, none⟩ = false := z2.free 1; have z2f2 : w2.frozen? ⟨w.heap.size + 1 + 1, 2, none⟩ = false := z2.free 2; have z2f3 : w2.frozen? ⟨w.heap.size + 1 + 1, 3, none⟩ = false := z2.free 3; have z2c0 : w2.cell? ⟨w.heap.size + 1 + 1, 0, none⟩ = some (.int .u8 (0)) := z2.cell 0; have z2c1 : w2.cell? ⟨w.heap.size + 1 + 1, 1, none⟩ = some (.bool (false)) := z2.cell 1; have z2c2 : w2.cell? ⟨w.heap.size + 1 + 1, 2, none⟩ = some (.int .i64 (0)) := z2.cell 2; have z2c3 : w2.cell? ⟨w.heap.size + 1 + 1, 3, none⟩ = some (.string (⟨#[]⟩)) := z2.cell 3)
    (refine ord_flo (pick_cons rfl (pick_cons rfl pick_nil)) ?_; (repeat (go_big_quiet_step (fail))); refine wpQuiet_nil ?_; show ordWalk _ _ _ _ _ _ _)
    refine ord_one (pick_cons rfl pick_nil) ?_; intro K_ hK_
    go_wp2
    (refine ord_flo (pick_cons rfl pick_nil) ?_; (repeat (go_big_quiet_step (fail))); refine wpQuiet_nil ?_; show ordWalk _ _ _ _ _ _ _)
    refine ord_fin ?_
    go_wp2
    have q := z2.set4 (.int .u8 rk) (.bool rb) (.int .i64 rn) (.string rs)
    refine bodyPost_ret (v := .tuple #[.agg #[.int .u8 rk, .bool rb, .int .i64 rn, .string rs], .int .i64 re]) (by simp [results, Tryd.results34, go_sem, q.1, q.2.1, q.2.2.1, q.2.2.2]) rfl ⟨rfl, Ext.set4 (E0.trans ((X.alloc (.cells #[.int .u8 (ka), .bool (ba), .int .i64 (na), .string (sa), .int .u8 (kb), .bool (bb), .int .i64 (nb), .string (sb)] 24)).trans (by exact x2))) (by first | omega | simp) _ _ _ _⟩
  · go_wp2
    refine ordNext.mk ((Ext.refl _).alloc _) ?_
    refine ord_ext (pick_cons rfl pick_nil) ?_; intro K_ hK_
    go_wp2_with (go_at_call 72; refine (over_any _ _).mono ?_; rintro e w9 ⟨rfl, rfl⟩)
    refine ordNext.mk (Ext.refl _) ?_
    refine ord_one (pick_cons rfl pick_nil) ?_; intro K_ hK_
    go_wp2_with (go_at_call 71; refine (numbers_at _ _ _ _ 2 [⟨ka, ba, na, sa⟩, ⟨kb, bb, nb, sb⟩] _ HR rfl (by omega) (Dats.two (by first | exact Bk.at (by simp) | exact (Bk.at (by simp)).drew)) (by simpa using ⟨hs, hs2⟩)).mono ?_; rintro e w2 ⟨rfl, x2⟩; have z2 : Bk w2 (w.heap.size + 1 + 1) 24 #[.int .u8 (0), .bool (false), .int .i64 (0), .string (⟨#[]⟩)] := (z0.ext ((X.alloc (.cells #[.int .u8 (ka), .bool (ba), .int .i64 (na), .string (sa), .int .u8 (kb), .bool (bb), .int .i64 (nb), .string (sb)] 24)).trans (by exact x2))); have z2f0 : w2.frozen? ⟨w.heap.size + 1 + 1, 0, none⟩ = false := z2.free 0; have z2f1 : w2.frozen? ⟨w.heap.size + 1 + 1, 1, none⟩ = false := z2.free 1; have z2f2 : w2.frozen? ⟨w.heap.size + 1 + 1, 2, none⟩ = false := z2.free 2; have z2f3 : w2.frozen? ⟨w.heap.size + 1 + 1, 3, none⟩ = false := z2.free 3; have z2c0 : w2.cell? ⟨w.heap.size + 1 + 1, 0, none⟩ = some (.int .u8 (0)) := z2.cell 0; have z2c1 : w2.cell? ⟨w.heap.size + 1 + 1, 1, none⟩ = some (.bool (false)) := z2.cell 1; have z2c2 : w2.cell? ⟨w.heap.size + 1 + 1, 2, none⟩ = some (.int .i64 (0)) := z2.cell 2; have z2c3 : w2.cell? ⟨w.heap.size + 1 + 1, 3, none⟩ = some (.string (⟨#[]⟩)) := z2.cell 3)
    (refine ord_flo (pick_cons rfl (pick_cons rfl pick_nil)) ?_; (repeat (go_big_quiet_step (fail))); refine wpQuiet_nil ?_; show ordWalk _ _ _ _ _ _ _)
    refine ord_one (pick_cons rfl pick_nil) ?_; intro K_ hK_
    go_wp2
    (refine ord_flo (pick_cons rfl pick_nil) ?_; (repeat (go_big_quiet_step (fail))); refine wpQuiet_nil ?_; show ordWalk _ _ _ _ _ _ _)
    refine ord_fin ?_
    go_wp2
    have q := z2.set4 (.int .u8 rk) (.bool rb) (.int .i64 rn) (.string rs)
    refine bodyPost_ret (v := .tuple #[.agg #[.int .u8 rk, .bool rb, .int .i64 rn, .string rs], .int .i64 re]) (by simp [results, Tryd.results34, go_sem, q.1, q.2.1, q.2.2.1, q.2.2.2]) rfl ⟨rfl, Ext.set4 (E0.trans ((X.alloc (.cells #[.int .u8 (ka), .bool (ba), .int .i64 (na), .string (sa), .int .u8 (kb), .bool (bb), .int .i64 (nb), .string (sb)] 24)).trans (by exact x2))) (by first | omega | simp) _ _ _ _⟩
end Go.Proofs.YtobgfegdfcpgfaaDoor
