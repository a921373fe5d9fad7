/- penstockref01.Mul: it answers what datum.Mul answers. Conditions: texts that lie in memory. -/
import Derived.Test.YtobgfegdfcpgfaaDoorRefNum
namespace Go.Proofs.YtobgfegdfcpgfaaDoor
open Go.RowKit

set_option maxRecDepth 100000 in
set_option maxHeartbeats 1600000 in
theorem rmul_a1 (ka na kb nb : Int) (ba bb : Bool) (sa sb : ByteArray) (c : Int) (w : World) (hs : sa.size ≤ 140737488355328) (hs2 : sb.size ≤ 140737488355328) (q : Int) (hw : wrap64 (na * nb) = c) (hq : wrap64 (c.tdiv na) = q) (f0 : (na == -1) = true) (f1 : (nb == -9223372036854775808) = true) :
    Calls Tryd.prog 35 #[.agg #[.int .u8 (ka), .bool (ba), .int .i64 (na), .string (sa)], .agg #[.int .u8 (kb), .bool (bb), .int .i64 (nb), .string (sb)]] w (RefOut w (applyR 3 [⟨ka, ba, na, sa⟩, ⟨kb, bb, nb, sb⟩] (numR c 10))) := by
  have hw2 : IntKind.i64.wrap (na * nb) = c := by rw [IntKind.wrap_i64]; simpa [wrap64] using hw
  have hq2 : IntKind.i64.wrap (c.tdiv na) = q := by rw [IntKind.wrap_i64]; simpa [wrap64] using hq
  obtain ⟨⟨⟨rk, rb, rn, rs⟩, re⟩, hr⟩ : ∃ r, applyR 3 [⟨ka, ba, na, sa⟩, ⟨kb, bb, nb, sb⟩] (numR c 10) = r := ⟨_, rfl⟩
  rw [hr]
  have HR := Lib.hid hr
  clear hr
  go_enter Tryd.func35, Tryd.ntmps35
  go_upto_region 2 with fail
  have a0 : Bk (((w.alloc (.cells #[.int .u8 (ka), .bool (ba), .int .i64 (na), .string (sa)] 24)).alloc (.cells #[.int .u8 (kb), .bool (bb), .int .i64 (nb), .string (sb)] 24)).alloc (.cells #[.int .u8 (0), .bool (false), .int .i64 (0), .string (⟨#[]⟩)] 24)) (w.heap.size) 24 #[.int .u8 (ka), .bool (ba), .int .i64 (na), .string (sa)] := ((Bk.at (by simp)).alloc _).alloc _
  have b0 : Bk (((w.alloc (.cells #[.int .u8 (ka), .bool (ba), .int .i64 (na), .string (sa)] 24)).alloc (.cells #[.int .u8 (kb), .bool (bb), .int .i64 (nb), .string (sb)] 24)).alloc (.cells #[.int .u8 (0), .bool (false), .int .i64 (0), .string (⟨#[]⟩)] 24)) (w.heap.size + 1) 24 #[.int .u8 (kb), .bool (bb), .int .i64 (nb), .string (sb)] := (Bk.at (by simp)).alloc _
  have z0 : Bk (((w.alloc (.cells #[.int .u8 (ka), .bool (ba), .int .i64 (na), .string (sa)] 24)).alloc (.cells #[.int .u8 (kb), .bool (bb), .int .i64 (nb), .string (sb)] 24)).alloc (.cells #[.int .u8 (0), .bool (false), .int .i64 (0), .string (⟨#[]⟩)] 24)) (w.heap.size + 1 + 1) 24 #[.int .u8 (0), .bool (false), .int .i64 (0), .string (⟨#[]⟩)] := Bk.at (by simp)
  have E0 : Ext w (((w.alloc (.cells #[.int .u8 (ka), .bool (ba), .int .i64 (na), .string (sa)] 24)).alloc (.cells #[.int .u8 (kb), .bool (bb), .int .i64 (nb), .string (sb)] 24)).alloc (.cells #[.int .u8 (0), .bool (false), .int .i64 (0), .string (⟨#[]⟩)] 24)) := (((Ext.refl w).alloc _).alloc _).alloc _
  obtain ⟨w0, hw0⟩ : ∃ w0, w0 = (((w.alloc (.cells #[.int .u8 (ka), .bool (ba), .int .i64 (na), .string (sa)] 24)).alloc (.cells #[.int .u8 (kb), .bool (bb), .int .i64 (nb), .string (sb)] 24)).alloc (.cells #[.int .u8 (0), .bool (false), .int .i64 (0), .string (⟨#[]⟩)] 24)) := ⟨_, rfl⟩
  rw [← hw0] at a0 b0 z0 E0 ⊢
  clear hw0
  have X : Ext w0 w0.drew := (Ext.refl w0).drew
  have p00 : ∀ y : Xt w0.drew, y.W.cell? ⟨w.heap.size, 0, none⟩ = some (.int .u8 (ka)) := fun y => (a0.ext (X.trans y.x)).cell 0
  have p01 : ∀ y : Xt w0.drew, y.W.cell? ⟨w.heap.size, 1, none⟩ = some (.bool (ba)) := fun y => (a0.ext (X.trans y.x)).cell 1
  have p02 : ∀ y : Xt w0.drew, y.W.cell? ⟨w.heap.size, 2, none⟩ = some (.int .i64 (na)) := fun y => (a0.ext (X.trans y.x)).cell 2
  have p03 : ∀ y : Xt w0.drew, y.W.cell? ⟨w.heap.size, 3, none⟩ = some (.string (sa)) := fun y => (a0.ext (X.trans y.x)).cell 3
  have p10 : ∀ y : Xt w0.drew, y.W.cell? ⟨w.heap.size + 1, 0, none⟩ = some (.int .u8 (kb)) := fun y => (b0.ext (X.trans y.x)).cell 0
  have p11 : ∀ y : Xt w0.drew, y.W.cell? ⟨w.heap.size + 1, 1, none⟩ = some (.bool (bb)) := fun y => (b0.ext (X.trans y.x)).cell 1
  have p12 : ∀ y : Xt w0.drew, y.W.cell? ⟨w.heap.size + 1, 2, none⟩ = some (.int .i64 (nb)) := fun y => (b0.ext (X.trans y.x)).cell 2
  have p13 : ∀ y : Xt w0.drew, y.W.cell? ⟨w.heap.size + 1, 3, none⟩ = some (.string (sb)) := fun y => (b0.ext (X.trans y.x)).cell 3
  refine wp_region_ord [0,1,3,7,15,31,63,127,255,511,1023,2047,4095,8191,16383,32767,65535,131071,262143,524287,1048575,2097151,4194303,8388607,16777215,33554431,67108863,134217727,268435455,268435455,805306367,2147483647,268435455,4563402751,17179869183,34359738367,68719476735,137438953471] (.flo [0,1,2,3,4,5,6,7,8,9,10,11,12,13,14,15,16,17,18,19,20,21,22,23,24,25,26,27,28,29,30,31,32,33,34,35,36,37] (.fin)) (by kernel_rfl) (by kernel_rfl) (by intro _ _ d _ _ h; cases d <;> exact h) ?_
  (refine ord_flo (pick_cons rfl (pick_cons rfl (pick_cons rfl (pick_cons rfl (pick_cons rfl (pick_cons rfl (pick_cons rfl (pick_cons rfl (pick_cons rfl (pick_cons rfl (pick_cons rfl (pick_cons rfl (pick_cons rfl (pick_cons rfl (pick_cons rfl (pick_cons rfl (pick_cons rfl (pick_cons rfl (pick_cons rfl (pick_cons rfl (pick_cons rfl (pick_cons rfl (pick_cons rfl (pick_cons rfl (pick_cons rfl (pick_cons rfl (pick_cons rfl (pick_cons rfl (pick_cons rfl (pick_cons rfl (pick_cons rfl (pick_cons rfl (pick_cons rfl (pick_cons rfl (pick_cons rfl (pick_cons rfl (pick_cons rfl (pick_cons rfl pick_nil)))))))))))))))))))))))))))))))))))))) ?_; (repeat (go_big_quiet_step (fail))); refine wpQuiet_nil ?_; show ordWalk _ _ _ _ _ _ _)
  refine ord_fin ?_
  go_wp2_with fail
  have a1 := a0.drew
  have b1 := b0.drew
  have z1 := z0.drew
  have E1 := E0.drew
  clear p00 p01 p02 p03 p10 p11 p12 p13 X
  obtain ⟨w8, hw8⟩ : ∃ w8, w8 = w0.drew := ⟨_, rfl⟩
  rw [← hw8] at a1 b1 z1 E1 ⊢
  clear hw8 a0 b0 z0 E0
  have z0 := z1
  have E0 := E1
  have X : Ext w8 w8.drew := (Ext.refl w8).drew
  have p00 : ∀ y : Xt w8.drew, y.W.cell? ⟨w.heap.size, 0, none⟩ = some (.int .u8 (ka)) := fun y => (a1.ext (X.trans y.x)).cell 0
  have p01 : ∀ y : Xt w8.drew, y.W.cell? ⟨w.heap.size, 1, none⟩ = some (.bool (ba)) := fun y => (a1.ext (X.trans y.x)).cell 1
  have p02 : ∀ y : Xt w8.drew, y.W.cell? ⟨w.heap.size, 2, none⟩ = some (.int .i64 (na)) := fun y => (a1.ext (X.trans y.x)).cell 2
  have p03 : ∀ y : Xt w8.drew, y.W.cell? ⟨w.heap.size, 3, none⟩ = some (.string (sa)) := fun y => (a1.ext (X.trans y.x)).cell 3
  have p10 : ∀ y : Xt w8.drew, y.W.cell? ⟨w.heap.size + 1, 0, none⟩ = some (.int .u8 (kb)) := fun y => (b1.ext (X.trans y.x)).cell 0
  have p11 : ∀ y : Xt w8.drew, y.W.cell? ⟨w.heap.size + 1, 1, none⟩ = some (.bool (bb)) := fun y => (b1.ext (X.trans y.x)).cell 1
  have p12 : ∀ y : Xt w8.drew, y.W.cell? ⟨w.heap.size + 1, 2, none⟩ = some (.int .i64 (nb)) := fun y => (b1.ext (X.trans y.x)).cell 2
  have p13 : ∀ y : Xt w8.drew, y.W.cell? ⟨w.heap.size + 1, 3, none⟩ = some (.string (sb)) := fun y => (b1.ext (X.trans y.x)).cell 3
  refine wp_region_ord [0,0,2,0,0,24,63,127,127,511,1023] (.flo [0,1,3,4] (.both 2 5 (.ext 5 (.one 6 (.flo [7,8] (.one 9 (.flo [10] (.fin)))))) (.ext 2 (.one 6 (.flo [7,8] (.one 9 (.flo [10] (.fin)))))))) (by kernel_rfl) (by kernel_rfl) (by intro _ _ d _ _ h; cases d <;> exact h) ?_
  (refine ord_flo (pick_cons rfl (pick_cons rfl (pick_cons rfl (pick_cons rfl pick_nil)))) ?_; (repeat (go_big_quiet_step (fail))); refine wpQuiet_nil ?_; show ordWalk _ _ _ _ _ _ _)
  refine ord_both (pick_cons rfl pick_nil) (pick_cons rfl pick_nil) ?_ ?_ <;> intro K_ hK_
  · go_wp2_with (go_at_call 72; refine (over_any _ _).mono ?_; rintro e w9 ⟨rfl, rfl⟩)
    refine ordNext.mk (Ext.refl _) ?_
    refine ord_ext (pick_cons rfl pick_nil) ?_; intro K_ hK_
    go_wp2
    refine ordNext.mk ((Ext.refl _).alloc _) ?_
    refine ord_one (pick_cons rfl pick_nil) ?_; intro K_ hK_
    go_wp2_with (go_at_call 71; refine (numbers_at _ _ _ _ 2 [⟨ka, ba, na, sa⟩, ⟨kb, bb, nb, sb⟩] _ HR rfl (by omega) (Dats.two (by first | exact Bk.at (by simp) | exact (Bk.at (by simp)).drew)) (by simpa using ⟨hs, hs2⟩)).mono ?_; rintro e w2 ⟨rfl, x2⟩; have z2 : Bk w2 (w.heap.size + 1 + 1) 24 #[.int .u8 (0), .bool (false), .int .i64 (0), .string (⟨#[]⟩)] := (z0.ext ((X.alloc (.cells #[.int .u8 (ka), .bool (ba), .int .i64 (na), .string (sa), .int .u8 (kb), .bool (bb), .int .i64 (nb), .string (sb)] 24)).trans (by exact x2))); have z2f0 : w2.frozen? ⟨w.heap.size + 1 + 1, 0, none⟩ = false := z2.free 0; have z2f1 : w2.frozen? ⟨w.heap.size + 1 + 1, 1, none⟩ = false := z2.free 1; have z2f2 : w2.frozen? ⟨w.heap.size + 1 + 1, 2, none⟩ = false := z2.free 2; have z2f3 : w2.frozen? ⟨w.heap.size + 1 + 1, 3, none⟩ = false := z2.free 3; have z2c0 : w2.cell? ⟨w.heap.size + 1 + 1, 0, none⟩ = some (.int .u8 (0)) := z2.cell 0; have z2c1 : w2.cell? ⟨w.heap.size + 1 + 1, 1, none⟩ = some (.bool (false)) := z2.cell 1; have z2c2 : w2.cell? ⟨w.heap.size + 1 + 1, 2, none⟩ = some (.int .i64 (0)) := z2.cell 2; have z2c3 : w2.cell? ⟨w.heap.size + 1 + 1, 3, none⟩ = some (.string (⟨#[]⟩)) := z2.cell 3)
    (refine ord_flo (pick_cons rfl (pick_cons rfl pick_nil)) ?_; (repeat (go_big_quiet_step (fail))); refine wpQuiet_nil ?_; show ordWalk _ _ _ _ _ _ _)
    refine ord_one (pick_cons rfl pick_nil) ?_; intro K_ hK_
    go_wp2
    (refine ord_flo (pick_cons rfl pick_nil) ?_; (repeat (go_big_quiet_step (fail))); refine wpQuiet_nil ?_; show ordWalk _ _ _ _ _ _ _)
    refine ord_fin ?_
    go_wp2
    have q := z2.set4 (.int .u8 rk) (.bool rb) (.int .i64 rn) (.string rs)
    refine bodyPost_ret (v := .tuple #[.agg #[.int .u8 rk, .bool rb, .int .i64 rn, .string rs], .int .i64 re]) (by simp [results, Tryd.results35, go_sem, q.1, q.2.1, q.2.2.1, q.2.2.2]) rfl ⟨rfl, Ext.set4 (E0.trans ((X.alloc (.cells #[.int .u8 (ka), .bool (ba), .int .i64 (na), .string (sa), .int .u8 (kb), .bool (bb), .int .i64 (nb), .string (sb)] 24)).trans (by exact x2))) (by first | omega | simp) _ _ _ _⟩
  · go_wp2
    refine ordNext.mk ((Ext.refl _).alloc _) ?_
    refine ord_ext (pick_cons rfl pick_nil) ?_; intro K_ hK_
    go_wp2_with (go_at_call 72; refine (over_any _ _).mono ?_; rintro e w9 ⟨rfl, rfl⟩)
    refine ordNext.mk (Ext.refl _) ?_
    refine ord_one (pick_cons rfl pick_nil) ?_; intro K_ hK_
    go_wp2_with (go_at_call 71; refine (numbers_at _ _ _ _ 2 [⟨ka, ba, na, sa⟩, ⟨kb, bb, nb, sb⟩] _ HR rfl (by omega) (Dats.two (by first | exact Bk.at (by simp) | exact (Bk.at (by simp)).drew)) (by simpa using ⟨hs, hs2⟩)).mono ?_; rintro e w2 ⟨rfl, x2⟩; have z2 : Bk w2 (w.heap.size + 1 + 1) 24 #[.int .u8 (0), .bool (false), .int .i64 (0), .string (⟨#[]⟩)] := (z0.ext ((X.alloc (.cells #[.int .u8 (ka), .bool (ba), .int .i64 (na), .string (sa), .int .u8 (kb), .bool (bb), .int .i64 (nb), .string (sb)] 24)).trans (by exact x2))); have z2f0 : w2.frozen? ⟨w.heap.size + 1 + 1, 0, none⟩ = false := z2.free 0; have z2f1 : w2.frozen? ⟨w.heap.size + 1 + 1, 1, none⟩ = false := z2.free 1; have z2f2 : w2.frozen? ⟨w.heap.size + 1 + 1, 2, none⟩ = false := z2.free 2; have z2f3 : w2.frozen? ⟨w.heap.size + 1 + 1, 3, none⟩ = false := z2.free 3; have z2c0 : w2.cell? ⟨w.heap.size + 1 + 1, 0, none⟩ = some (.int .u8 (0)) := z2.cell 0; have z2c1 : w2.cell? ⟨w.heap.size + 1 + 1, 1, none⟩ = some (.bool (false)) := z2.cell 1; have z2c2 : w2.cell? ⟨w.heap.size + 1 + 1, 2, none⟩ = some (.int .i64 (0)) := z2.cell 2; have z2c3 : w2.cell? ⟨w.heap.size + 1 + 1, 3, none⟩ = some (.string (⟨#[]⟩)) := z2.cell 3)
    (refine ord_flo (pick_cons rfl (pick_cons rfl pick_nil)) ?_; (repeat (go_big_quiet_step (fail))); refine wpQuiet_nil ?_; show ordWalk _ _ _ _ _ _ _)
    refine ord_one (pick_cons rfl pick_nil) ?_; intro K_ hK_
    go_wp2
    (refine ord_flo (pick_cons rfl pick_nil) ?_; (repeat (go_big_quiet_step (fail))); refine wpQuiet_nil ?_; show ordWalk _ _ _ _ _ _ _)
    refine ord_fin ?_
    go_wp2
    have q := z2.set4 (.int .u8 rk) (.bool rb) (.int .i64 rn) (.string rs)
    refine bodyPost_ret (v := .tuple #[.agg #[.int .u8 rk, .bool rb, .int .i64 rn, .string rs], .int .i64 re]) (by simp [results, Tryd.results35, go_sem, q.1, q.2.1, q.2.2.1, q.2.2.2]) rfl ⟨rfl, Ext.set4 (E0.trans ((X.alloc (.cells #[.int .u8 (ka), .bool (ba), .int .i64 (na), .string (sa), .int .u8 (kb), .bool (bb), .int .i64 (nb), .string (sb)] 24)).trans (by exact x2))) (by first | omega | simp) _ _ _ _⟩
set_option maxRecDepth 100000 in
set_option maxHeartbeats 1600000 in
theorem rmul_a2 (ka na kb nb : Int) (ba bb : Bool) (sa sb : ByteArray) (c : Int) (w : World) (hs : sa.size ≤ 140737488355328) (hs2 : sb.size ≤ 140737488355328) (q : Int) (hw : wrap64 (na * nb) = c) (hq : wrap64 (c.tdiv na) = q) (f0 : (na == -1) = true) (f1 : (nb == -9223372036854775808) = false) (f2 : (nb == -1) = false) (f3 : (na != 0) = true) (f4 : (na != -1) = false) :
    Calls Tryd.prog 35 #[.agg #[.int .u8 (ka), .bool (ba), .int .i64 (na), .string (sa)], .agg #[.int .u8 (kb), .bool (bb), .int .i64 (nb), .string (sb)]] w (RefOut w (applyR 3 [⟨ka, ba, na, sa⟩, ⟨kb, bb, nb, sb⟩] (numR c 0))) := by
  have hw2 : IntKind.i64.wrap (na * nb) = c := by rw [IntKind.wrap_i64]; simpa [wrap64] using hw
  have hq2 : IntKind.i64.wrap (c.tdiv na) = q := by rw [IntKind.wrap_i64]; simpa [wrap64] using hq
  have hn0 : ¬ na = 0 := by simpa using f3
  obtain ⟨⟨⟨rk, rb, rn, rs⟩, re⟩, hr⟩ : ∃ r, applyR 3 [⟨ka, ba, na, sa⟩, ⟨kb, bb, nb, sb⟩] (numR c 0) = r := ⟨_, rfl⟩
  rw [hr]
  have HR := Lib.hid hr
  clear hr
  go_enter Tryd.func35, Tryd.ntmps35
  go_upto_region 2 with fail
  have a0 : Bk (((w.alloc (.cells #[.int .u8 (ka), .bool (ba), .int .i64 (na), .string (sa)] 24)).alloc (.cells #[.int .u8 (kb), .bool (bb), .int .i64 (nb), .string (sb)] 24)).alloc (.cells #[.int .u8 (0), .bool (false), .int .i64 (0), .string (⟨#[]⟩)] 24)) (w.heap.size) 24 #[.int .u8 (ka), .bool (ba), .int .i64 (na), .string (sa)] := ((Bk.at (by simp)).alloc _).alloc _
  have b0 : Bk (((w.alloc (.cells #[.int .u8 (ka), .bool (ba), .int .i64 (na), .string (sa)] 24)).alloc (.cells #[.int .u8 (kb), .bool (bb), .int .i64 (nb), .string (sb)] 24)).alloc (.cells #[.int .u8 (0), .bool (false), .int .i64 (0), .string (⟨#[]⟩)] 24)) (w.heap.size + 1) 24 #[.int .u8 (kb), .bool (bb), .int .i64 (nb), .string (sb)] := (Bk.at (by simp)).alloc _
  have z0 : Bk (((w.alloc (.cells #[.int .u8 (ka), .bool (ba), .int .i64 (na), .string (sa)] 24)).alloc (.cells #[.int .u8 (kb), .bool (bb), .int .i64 (nb), .string (sb)] 24)).alloc (.cells #[.int .u8 (0), .bool (false), .int .i64 (0), .string (⟨#[]⟩)] 24)) (w.heap.size + 1 + 1) 24 #[.int .u8 (0), .bool (false), .int .i64 (0), .string (⟨#[]⟩)] := Bk.at (by simp)
  have E0 : Ext w (((w.alloc (.cells #[.int .u8 (ka), .bool (ba), .int .i64 (na), .string (sa)] 24)).alloc (.cells #[.int .u8 (kb), .bool (bb), .int .i64 (nb), .string (sb)] 24)).alloc (.cells #[.int .u8 (0), .bool (false), .int .i64 (0), .string (⟨#[]⟩)] 24)) := (((Ext.refl w).alloc _).alloc _).alloc _
  obtain ⟨w0, hw0⟩ : ∃ w0, w0 = (((w.alloc (.cells #[.int .u8 (ka), .bool (ba), .int .i64 (na), .string (sa)] 24)).alloc (.cells #[.int .u8 (kb), .bool (bb), .int .i64 (nb), .string (sb)] 24)).alloc (.cells #[.int .u8 (0), .bool (false), .int .i64 (0), .string (⟨#[]⟩)] 24)) := ⟨_, rfl⟩
  rw [← hw0] at a0 b0 z0 E0 ⊢
  clear hw0
  have X : Ext w0 w0.drew := (Ext.refl w0).drew
  have p00 : ∀ y : Xt w0.drew, y.W.cell? ⟨w.heap.size, 0, none⟩ = some (.int .u8 (ka)) := fun y => (a0.ext (X.trans y.x)).cell 0
  have p01 : ∀ y : Xt w0.drew, y.W.cell? ⟨w.heap.size, 1, none⟩ = some (.bool (ba)) := fun y => (a0.ext (X.trans y.x)).cell 1
  have p02 : ∀ y : Xt w0.drew, y.W.cell? ⟨w.heap.size, 2, none⟩ = some (.int .i64 (na)) := fun y => (a0.ext (X.trans y.x)).cell 2
  have p03 : ∀ y : Xt w0.drew, y.W.cell? ⟨w.heap.size, 3, none⟩ = some (.string (sa)) := fun y => (a0.ext (X.trans y.x)).cell 3
  have p10 : ∀ y : Xt w0.drew, y.W.cell? ⟨w.heap.size + 1, 0, none⟩ = some (.int .u8 (kb)) := fun y => (b0.ext (X.trans y.x)).cell 0
  have p11 : ∀ y : Xt w0.drew, y.W.cell? ⟨w.heap.size + 1, 1, none⟩ = some (.bool (bb)) := fun y => (b0.ext (X.trans y.x)).cell 1
  have p12 : ∀ y : Xt w0.drew, y.W.cell? ⟨w.heap.size + 1, 2, none⟩ = some (.int .i64 (nb)) := fun y => (b0.ext (X.trans y.x)).cell 2
  have p13 : ∀ y : Xt w0.drew, y.W.cell? ⟨w.heap.size + 1, 3, none⟩ = some (.string (sb)) := fun y => (b0.ext (X.trans y.x)).cell 3
  refine wp_region_ord [0,1,3,7,15,31,63,127,255,511,1023,2047,4095,8191,16383,32767,65535,131071,262143,524287,1048575,2097151,4194303,8388607,16777215,33554431,67108863,134217727,268435455,268435455,805306367,2147483647,268435455,4563402751,17179869183,34359738367,68719476735,137438953471] (.flo [0,1,2,3,4,5,6,7,8,9,10,11,12,13,14,15,16,17,18,19,20,21,22,23,24,25,26,27,28,29,30,31,32,33,34,35,36,37] (.fin)) (by kernel_rfl) (by kernel_rfl) (by intro _ _ d _ _ h; cases d <;> exact h) ?_
  (refine ord_flo (pick_cons rfl (pick_cons rfl (pick_cons rfl (pick_cons rfl (pick_cons rfl (pick_cons rfl (pick_cons rfl (pick_cons rfl (pick_cons rfl (pick_cons rfl (pick_cons rfl (pick_cons rfl (pick_cons rfl (pick_cons rfl (pick_cons rfl (pick_cons rfl (pick_cons rfl (pick_cons rfl (pick_cons rfl (pick_cons rfl (pick_cons rfl (pick_cons rfl (pick_cons rfl (pick_cons rfl (pick_cons rfl (pick_cons rfl (pick_cons rfl (pick_cons rfl (pick_cons rfl (pick_cons rfl (pick_cons rfl (pick_cons rfl (pick_cons rfl (pick_cons rfl (pick_cons rfl (pick_cons rfl (pick_cons rfl (pick_cons rfl pick_nil)))))))))))))))))))))))))))))))))))))) ?_; (repeat (go_big_quiet_step (fail))); refine wpQuiet_nil ?_; show ordWalk _ _ _ _ _ _ _)
  refine ord_fin ?_
  go_wp2_with fail
  have a1 := a0.drew
  have b1 := b0.drew
  have z1 := z0.drew
  have E1 := E0.drew
  clear p00 p01 p02 p03 p10 p11 p12 p13 X
  obtain ⟨w8, hw8⟩ : ∃ w8, w8 = w0.drew := ⟨_, rfl⟩
  rw [← hw8] at a1 b1 z1 E1 ⊢
  clear hw8 a0 b0 z0 E0
  have z0 := z1
  have E0 := E1
  have X : Ext w8 w8.drew := (Ext.refl w8).drew
  have p00 : ∀ y : Xt w8.drew, y.W.cell? ⟨w.heap.size, 0, none⟩ = some (.int .u8 (ka)) := fun y => (a1.ext (X.trans y.x)).cell 0
  have p01 : ∀ y : Xt w8.drew, y.W.cell? ⟨w.heap.size, 1, none⟩ = some (.bool (ba)) := fun y => (a1.ext (X.trans y.x)).cell 1
  have p02 : ∀ y : Xt w8.drew, y.W.cell? ⟨w.heap.size, 2, none⟩ = some (.int .i64 (na)) := fun y => (a1.ext (X.trans y.x)).cell 2
  have p03 : ∀ y : Xt w8.drew, y.W.cell? ⟨w.heap.size, 3, none⟩ = some (.string (sa)) := fun y => (a1.ext (X.trans y.x)).cell 3
  have p10 : ∀ y : Xt w8.drew, y.W.cell? ⟨w.heap.size + 1, 0, none⟩ = some (.int .u8 (kb)) := fun y => (b1.ext (X.trans y.x)).cell 0
  have p11 : ∀ y : Xt w8.drew, y.W.cell? ⟨w.heap.size + 1, 1, none⟩ = some (.bool (bb)) := fun y => (b1.ext (X.trans y.x)).cell 1
  have p12 : ∀ y : Xt w8.drew, y.W.cell? ⟨w.heap.size + 1, 2, none⟩ = some (.int .i64 (nb)) := fun y => (b1.ext (X.trans y.x)).cell 2
  have p13 : ∀ y : Xt w8.drew, y.W.cell? ⟨w.heap.size + 1, 3, none⟩ = some (.string (sb)) := fun y => (b1.ext (X.trans y.x)).cell 3
  refine wp_region_ord [0,0,2,0,0,24,63,127,127,511,1023] (.flo [0,1,3,4] (.both 2 5 (.ext 5 (.one 6 (.flo [7,8] (.one 9 (.flo [10] (.fin)))))) (.ext 2 (.one 6 (.flo [7,8] (.one 9 (.flo [10] (.fin)))))))) (by kernel_rfl) (by kernel_rfl) (by intro _ _ d _ _ h; cases d <;> exact h) ?_
  (refine ord_flo (pick_cons rfl (pick_cons rfl (pick_cons rfl (pick_cons rfl pick_nil)))) ?_; (repeat (go_big_quiet_step (fail))); refine wpQuiet_nil ?_; show ordWalk _ _ _ _ _ _ _)
  refine ord_both (pick_cons rfl pick_nil) (pick_cons rfl pick_nil) ?_ ?_ <;> intro K_ hK_
  · go_wp2_with (go_at_call 72; refine (over_any _ _).mono ?_; rintro e w9 ⟨rfl, rfl⟩)
    refine ordNext.mk (Ext.refl _) ?_
    refine ord_ext (pick_cons rfl pick_nil) ?_; intro K_ hK_
    go_wp2
    refine ordNext.mk ((Ext.refl _).alloc _) ?_
    refine ord_one (pick_cons rfl pick_nil) ?_; intro K_ hK_
    go_wp2_with (go_at_call 71; refine (numbers_at _ _ _ _ 2 [⟨ka, ba, na, sa⟩, ⟨kb, bb, nb, sb⟩] _ HR rfl (by omega) (Dats.two (by first | exact Bk.at (by simp) | exact (Bk.at (by simp)).drew)) (by simpa using ⟨hs, hs2⟩)).mono ?_; rintro e w2 ⟨rfl, x2⟩; have z2 : Bk w2 (w.heap.size + 1 + 1) 24 #[.int .u8 (0), .bool (false), .int .i64 (0), .string (⟨#[]⟩)] := (z0.ext ((X.alloc (.cells #[.int .u8 (ka), .bool (ba), .int .i64 (na), .string (sa), .int .u8 (kb), .bool (bb), .int .i64 (nb), .string (sb)] 24)).trans (by exact x2))); have z2f0 : w2.frozen? ⟨w.heap.size + 1 + 1, 0, none⟩ = false := z2.free 0; have z2f1 : w2.frozen? ⟨w.heap.size + 1 + 1, 1, none⟩ = false := z2.free 1; have z2f2 : w2.frozen? ⟨w.heap.size + 1 + 1, 2, none⟩ = false := z2.free 2; have z2f3 : w2.frozen? ⟨w.heap.size + 1 + 1, 3, none⟩ = false := z2.free 3; have z2c0 : w2.cell? ⟨w.heap.size + 1 + 1, 0, none⟩ = some (.int .u8 (0)) := z2.cell 0; have z2c1 : w2.cell? ⟨w.heap.size + 1 + 1, 1, none⟩ = some (.bool (false)) := z2.cell 1; have z2c2 : w2.cell? ⟨w.heap.size + 1 + 1, 2, none⟩ = some (.int .i64 (0)) := z2.cell 2; have z2c3 : w2.cell? ⟨w.heap.size + 1 + 1, 3, none⟩ = some (.string (⟨#[]⟩)) := z2.cell 3)
    (refine ord_flo (pick_cons rfl (pick_cons rfl pick_nil)) ?_; (repeat (go_big_quiet_step (fail))); refine wpQuiet_nil ?_; show ordWalk _ _ _ _ _ _ _)
    refine ord_one (pick_cons rfl pick_nil) ?_; intro K_ hK_
    go_wp2
    (refine ord_flo (pick_cons rfl pick_nil) ?_; (repeat (go_big_quiet_step (fail))); refine wpQuiet_nil ?_; show ordWalk _ _ _ _ _ _ _)
    refine ord_fin ?_
    go_wp2
    have q := z2.set4 (.int .u8 rk) (.bool rb) (.int .i64 rn) (.string rs)
    refine bodyPost_ret (v := .tuple #[.agg #[.int .u8 rk, .bool rb, .int .i64 rn, .string rs], .int .i64 re]) (by simp [results, Tryd.results35, go_sem, q.1, q.2.1, q.2.2.1, q.2.2.2]) rfl ⟨rfl, Ext.set4 (E0.trans ((X.alloc (.cells #[.int .u8 (ka), .bool (ba), .int .i64 (na), .string (sa), .int .u8 (kb), .bool (bb), .int .i64 (nb), .string (sb)] 24)).trans (by exact x2))) (by first | omega | simp) _ _ _ _⟩
  · go_wp2
    refine ordNext.mk ((Ext.refl _).alloc _) ?_
    refine ord_ext (pick_cons rfl pick_nil) ?_; intro K_ hK_
    go_wp2_with (go_at_call 72; refine (over_any _ _).mono ?_; rintro e w9 ⟨rfl, rfl⟩)
    refine ordNext.mk (Ext.refl _) ?_
    refine ord_one (pick_cons rfl pick_nil) ?_; intro K_ hK_
    go_wp2_with (go_at_call 71; refine (numbers_at _ _ _ _ 2 [⟨ka, ba, na, sa⟩, ⟨kb, bb, nb, sb⟩] _ HR rfl (by omega) (Dats.two (by first | exact Bk.at (by simp) | exact (Bk.at (by simp)).drew)) (by simpa using ⟨hs, hs2⟩)).mono ?_; rintro e w2 ⟨rfl, x2⟩; have z2 : Bk w2 (w.heap.size + 1 + 1) 24 #[.int .u8 (0), .bool (false), .int .i64 (0), .string (⟨#[]⟩)] := (z0.ext ((X.alloc (.cells #[.int .u8 (ka), .bool (ba), .int .i64 (na), .string (sa), .int .u8 (kb), .bool (bb), .int .i64 (nb), .string (sb)] 24)).trans (by exact x2))); have z2f0 : w2.frozen? ⟨w.heap.size + 1 + 1, 0, none⟩ = false := z2.free 0; have z2f1 : w2.frozen? ⟨w.heap.size + 1 + 1, 1, none⟩ = false := z2.free 1; have z2f2 : w2.frozen? ⟨w.heap.size + 1 + 1, 2, none⟩ = false := z2.free 2; have z2f3 : w2.frozen? ⟨w.heap.size + 1 + 1, 3, none⟩ = false := z2.free 3; have z2c0 : w2.cell? ⟨w.heap.size + 1 + 1, 0, none⟩ = some (.int .u8 (0)) := z2.cell 0; have z2c1 : w2.cell? ⟨w.heap.size + 1 + 1, 1, none⟩ = some (.bool (false)) := z2.cell 1; have z2c2 : w2.cell? ⟨w.heap.size + 1 + 1, 2, none⟩ = some (.int .i64 (0)) := z2.cell 2; have z2c3 : w2.cell? ⟨w.heap.size + 1 + 1, 3, none⟩ = some (.string (⟨#[]⟩)) := z2.cell 3)
    (refine ord_flo (pick_cons rfl (pick_cons rfl pick_nil)) ?_; (repeat (go_big_quiet_step (fail))); refine wpQuiet_nil ?_; show ordWalk _ _ _ _ _ _ _)
    refine ord_one (pick_cons rfl pick_nil) ?_; intro K_ hK_
    go_wp2
    (refine ord_flo (pick_cons rfl pick_nil) ?_; (repeat (go_big_quiet_step (fail))); refine wpQuiet_nil ?_; show ordWalk _ _ _ _ _ _ _)
    refine ord_fin ?_
    go_wp2
    have q := z2.set4 (.int .u8 rk) (.bool rb) (.int .i64 rn) (.string rs)
    refine bodyPost_ret (v := .tuple #[.agg #[.int .u8 rk, .bool rb, .int .i64 rn, .string rs], .int .i64 re]) (by simp [results, Tryd.results35, go_sem, q.1, q.2.1, q.2.2.1, q.2.2.2]) rfl ⟨rfl, Ext.set4 (E0.trans ((X.alloc (.cells #[.int .u8 (ka), .bool (ba), .int .i64 (na), .string (sa), .int .u8 (kb), .bool (bb), .int .i64 (nb), .string (sb)] 24)).trans (by exact x2))) (by first | omega | simp) _ _ _ _⟩
set_option maxRecDepth 100000 in
set_option maxHeartbeats 1600000 in
theorem rmul_a3 (ka na kb nb : Int) (ba bb : Bool) (sa sb : ByteArray) (c : Int) (w : World) (hs : sa.size ≤ 140737488355328) (hs2 : sb.size ≤ 140737488355328) (q : Int) (hw : wrap64 (na * nb) = c) (hq : wrap64 (c.tdiv na) = q) (f0 : (na == -1) = true) (f1 : (nb == -9223372036854775808) = false) (f2 : (nb == -1) = true) (f3 : (na == -9223372036854775808) = false) (f4 : (na != 0) = true) (f5 : (na != -1) = false) :
    Calls Tryd.prog 35 #[.agg #[.int .u8 (ka), .bool (ba), .int .i64 (na), .string (sa)], .agg #[.int .u8 (kb), .bool (bb), .int .i64 (nb), .string (sb)]] w (RefOut w (applyR 3 [⟨ka, ba, na, sa⟩, ⟨kb, bb, nb, sb⟩] (numR c 0))) := by
  have hw2 : IntKind.i64.wrap (na * nb) = c := by rw [IntKind.wrap_i64]; simpa [wrap64] using hw
  have hq2 : IntKind.i64.wrap (c.tdiv na) = q := by rw [IntKind.wrap_i64]; simpa [wrap64] using hq
  have hn0 : ¬ na = 0 := by simpa using f4
  obtain ⟨⟨⟨rk, rb, rn, rs⟩, re⟩, hr⟩ : ∃ r, applyR 3 [⟨ka, ba, na, sa⟩, ⟨kb, bb, nb, sb⟩] (numR c 0) = r := ⟨_, rfl⟩
  rw [hr]
  have HR := Lib.hid hr
  clear hr
  go_enter Tryd.func35, Tryd.ntmps35
  go_upto_region 2 with fail
  have a0 : Bk (((w.alloc (.cells #[.int .u8 (ka), .bool (ba), .int .i64 (na), .string (sa)] 24)).alloc (.cells #[.int .u8 (kb), .bool (bb), .int .i64 (nb), .string (sb)] 24)).alloc (.cells #[.int .u8 (0), .bool (false), .int .i64 (0), .string (⟨#[]⟩)] 24)) (w.heap.size) 24 #[.int .u8 (ka), .bool (ba), .int .i64 (na), .string (sa)] := ((Bk.at (by simp)).alloc _).alloc _
  have b0 : Bk (((w.alloc (.cells #[.int .u8 (ka), .bool (ba), .int .i64 (na), .string (sa)] 24)).alloc (.cells #[.int .u8 (kb), .bool (bb), .int .i64 (nb), .string (sb)] 24)).alloc (.cells #[.int .u8 (0), .bool (false), .int .i64 (0), .string (⟨#[]⟩)] 24)) (w.heap.size + 1) 24 #[.int .u8 (kb), .bool (bb), .int .i64 (nb), .string (sb)] := (Bk.at (by simp)).alloc _
  have z0 : Bk (((w.alloc (.cells #[.int .u8 (ka), .bool (ba), .int .i64 (na), .string (sa)] 24)).alloc (.cells #[.int .u8 (kb), .bool (bb), .int .i64 (nb), .string (sb)] 24)).alloc (.cells #[.int .u8 (0), .bool (false), .int .i64 (0), .string (⟨#[]⟩)] 24)) (w.heap.size + 1 + 1) 24 #[.int .u8 (0), .bool (false), .int .i64 (0), .string (⟨#[]⟩)] := Bk.at (by simp)
  have E0 : Ext w (((w.alloc (.cells #[.int .u8 (ka), .bool (ba), .int .i64 (na), .string (sa)] 24)).alloc (.cells #[.int .u8 (kb), .bool (bb), .int .i64 (nb), .string (sb)] 24)).alloc (.cells #[.int .u8 (0), .bool (false), .int .i64 (0), .string (⟨#[]⟩)] 24)) := (((Ext.refl w).alloc _).alloc _).alloc _
  obtain ⟨w0, hw0⟩ : ∃ w0, w0 = (((w.alloc (.cells #[.int .u8 (ka), .bool (ba), .int .i64 (na), .string (sa)] 24)).alloc (.cells #[.int .u8 (kb), .bool (bb), .int .i64 (nb), .string (sb)] 24)).alloc (.cells #[.int .u8 (0), .bool (false), .int .i64 (0), .string (⟨#[]⟩)] 24)) := ⟨_, rfl⟩
  rw [← hw0] at a0 b0 z0 E0 ⊢
  clear hw0
  have X : Ext w0 w0.drew := (Ext.refl w0).drew
  have p00 : ∀ y : Xt w0.drew, y.W.cell? ⟨w.heap.size, 0, none⟩ = some (.int .u8 (ka)) := fun y => (a0.ext (X.trans y.x)).cell 0
  have p01 : ∀ y : Xt w0.drew, y.W.cell? ⟨w.heap.size, 1, none⟩ = some (.bool (ba)) := fun y => (a0.ext (X.trans y.x)).cell 1
  have p02 : ∀ y : Xt w0.drew, y.W.cell? ⟨w.heap.size, 2, none⟩ = some (.int .i64 (na)) := fun y => (a0.ext (X.trans y.x)).cell 2
  have p03 : ∀ y : Xt w0.drew, y.W.cell? ⟨w.heap.size, 3, none⟩ = some (.string (sa)) := fun y => (a0.ext (X.trans y.x)).cell 3
  have p10 : ∀ y : Xt w0.drew, y.W.cell? ⟨w.heap.size + 1, 0, none⟩ = some (.int .u8 (kb)) := fun y => (b0.ext (X.trans y.x)).cell 0
  have p11 : ∀ y : Xt w0.drew, y.W.cell? ⟨w.heap.size + 1, 1, none⟩ = some (.bool (bb)) := fun y => (b0.ext (X.trans y.x)).cell 1
  have p12 : ∀ y : Xt w0.drew, y.W.cell? ⟨w.heap.size + 1, 2, none⟩ = some (.int .i64 (nb)) := fun y => (b0.ext (X.trans y.x)).cell 2
  have p13 : ∀ y : Xt w0.drew, y.W.cell? ⟨w.heap.size + 1, 3, none⟩ = some (.string (sb)) := fun y => (b0.ext (X.trans y.x)).cell 3
  refine wp_region_ord [0,1,3,7,15,31,63,127,255,511,1023,2047,4095,8191,16383,32767,65535,131071,262143,524287,1048575,2097151,4194303,8388607,16777215,33554431,67108863,134217727,268435455,268435455,805306367,2147483647,268435455,4563402751,17179869183,34359738367,68719476735,137438953471] (.flo [0,1,2,3,4,5,6,7,8,9,10,11,12,13,14,15,16,17,18,19,20,21,22,23,24,25,26,27,28,29,30,31,32,33,34,35,36,37] (.fin)) (by kernel_rfl) (by kernel_rfl) (by intro _ _ d _ _ h; cases d <;> exact h) ?_
  (refine ord_flo (pick_cons rfl (pick_cons rfl (pick_cons rfl (pick_cons rfl (pick_cons rfl (pick_cons rfl (pick_cons rfl (pick_cons rfl (pick_cons rfl (pick_cons rfl (pick_cons rfl (pick_cons rfl (pick_cons rfl (pick_cons rfl (pick_cons rfl (pick_cons rfl (pick_cons rfl (pick_cons rfl (pick_cons rfl (pick_cons rfl (pick_cons rfl (pick_cons rfl (pick_cons rfl (pick_cons rfl (pick_cons rfl (pick_cons rfl (pick_cons rfl (pick_cons rfl (pick_cons rfl (pick_cons rfl (pick_cons rfl (pick_cons rfl (pick_cons rfl (pick_cons rfl (pick_cons rfl (pick_cons rfl (pick_cons rfl (pick_cons rfl pick_nil)))))))))))))))))))))))))))))))))))))) ?_; (repeat (go_big_quiet_step (fail))); refine wpQuiet_nil ?_; show ordWalk _ _ _ _ _ _ _)
  refine ord_fin ?_
  go_wp2_with fail
  have a1 := a0.drew
  have b1 := b0.drew
  have z1 := z0.drew
  have E1 := E0.drew
  clear p00 p01 p02 p03 p10 p11 p12 p13 X
  obtain ⟨w8, hw8⟩ : ∃ w8, w8 = w0.drew := ⟨_, rfl⟩
  rw [← hw8] at a1 b1 z1 E1 ⊢
  clear hw8 a0 b0 z0 E0
  have z0 := z1
  have E0 := E1
  have X : Ext w8 w8.drew := (Ext.refl w8).drew
  have p00 : ∀ y : Xt w8.drew, y.W.cell? ⟨w.heap.size, 0, none⟩ = some (.int .u8 (ka)) := fun y => (a1.ext (X.trans y.x)).cell 0
  have p01 : ∀ y : Xt w8.drew, y.W.cell? ⟨w.heap.size, 1, none⟩ = some (.bool (ba)) := fun y => (a1.ext (X.trans y.x)).cell 1
  have p02 : ∀ y : Xt w8.drew, y.W.cell? ⟨w.heap.size, 2, none⟩ = some (.int .i64 (na)) := fun y => (a1.ext (X.trans y.x)).cell 2
  have p03 : ∀ y : Xt w8.drew, y.W.cell? ⟨w.heap.size, 3, none⟩ = some (.string (sa)) := fun y => (a1.ext (X.trans y.x)).cell 3
  have p10 : ∀ y : Xt w8.drew, y.W.cell? ⟨w.heap.size + 1, 0, none⟩ = some (.int .u8 (kb)) := fun y => (b1.ext (X.trans y.x)).cell 0
  have p11 : ∀ y : Xt w8.drew, y.W.cell? ⟨w.heap.size + 1, 1, none⟩ = some (.bool (bb)) := fun y => (b1.ext (X.trans y.x)).cell 1
  have p12 : ∀ y : Xt w8.drew, y.W.cell? ⟨w.heap.size + 1, 2, none⟩ = some (.int .i64 (nb)) := fun y => (b1.ext (X.trans y.x)).cell 2
  have p13 : ∀ y : Xt w8.drew, y.W.cell? ⟨w.heap.size + 1, 3, none⟩ = some (.string (sb)) := fun y => (b1.ext (X.trans y.x)).cell 3
  refine wp_region_ord [0,0,2,0,0,24,63,127,127,511,1023] (.flo [0,1,3,4] (.both 2 5 (.ext 5 (.one 6 (.flo [7,8] (.one 9 (.flo [10] (.fin)))))) (.ext 2 (.one 6 (.flo [7,8] (.one 9 (.flo [10] (.fin)))))))) (by kernel_rfl) (by kernel_rfl) (by intro _ _ d _ _ h; cases d <;> exact h) ?_
  (refine ord_flo (pick_cons rfl (pick_cons rfl (pick_cons rfl (pick_cons rfl pick_nil)))) ?_; (repeat (go_big_quiet_step (fail))); refine wpQuiet_nil ?_; show ordWalk _ _ _ _ _ _ _)
  refine ord_both (pick_cons rfl pick_nil) (pick_cons rfl pick_nil) ?_ ?_ <;> intro K_ hK_
  · go_wp2_with (go_at_call 72; refine (over_any _ _).mono ?_; rintro e w9 ⟨rfl, rfl⟩)
    refine ordNext.mk (Ext.refl _) ?_
    refine ord_ext (pick_cons rfl pick_nil) ?_; intro K_ hK_
    go_wp2
    refine ordNext.mk ((Ext.refl _).alloc _) ?_
    refine ord_one (pick_cons rfl pick_nil) ?_; intro K_ hK_
    go_wp2_with (go_at_call 71; refine (numbers_at _ _ _ _ 2 [⟨ka, ba, na, sa⟩, ⟨kb, bb, nb, sb⟩] _ HR rfl (by omega) (Dats.two (by first | exact Bk.at (by simp) | exact (Bk.at (by simp)).drew)) (by simpa using ⟨hs, hs2⟩)).mono ?_; rintro e w2 ⟨rfl, x2⟩; have z2 : Bk w2 (w.heap.size + 1 + 1) 24 #[.int .u8 (0), .bool (false), .int .i64 (0), .string (⟨#[]⟩)] := (z0.ext ((X.alloc (.cells #[.int .u8 (ka), .bool (ba), .int .i64 (na), .string (sa), .int .u8 (kb), .bool (bb), .int .i64 (nb), .string (sb)] 24)).trans (by exact x2))); have z2f0 : w2.frozen? ⟨w.heap.size + 1 + 1, 0, none⟩ = false := z2.free 0; have z2f1 : w2.frozen? ⟨w.heap.size + 1 + 1, 1, none⟩ = false := z2.free 1; have z2f2 : w2.frozen? ⟨w.heap.size + 1 + 1, 2, none⟩ = false := z2.free 2; have z2f3 : w2.frozen? ⟨w.heap.size + 1 + 1, 3, none⟩ = false := z2.free 3; have z2c0 : w2.cell? ⟨w.heap.size + 1 + 1, 0, none⟩ = some (.int .u8 (0)) := z2.cell 0; have z2c1 : w2.cell? ⟨w.heap.size + 1 + 1, 1, none⟩ = some (.bool (false)) := z2.cell 1; have z2c2 : w2.cell? ⟨w.heap.size + 1 + 1, 2, none⟩ = some (.int .i64 (0)) := z2.cell 2; have z2c3 : w2.cell? ⟨w.heap.size + 1 + 1, 3, none⟩ = some (.string (⟨#[]⟩)) := z2.cell 3)
    (refine ord_flo (pick_cons rfl (pick_cons rfl pick_nil)) ?_; (repeat (go_big_quiet_step (fail))); refine wpQuiet_nil ?_; show ordWalk _ _ _ _ _ _ _)
    refine ord_one (pick_cons rfl pick_nil) ?_; intro K_ hK_
    go_wp2
    (refine ord_flo (pick_cons rfl pick_nil) ?_; (repeat (go_big_quiet_step (fail))); refine wpQuiet_nil ?_; show ordWalk _ _ _ _ _ _ _)
    refine ord_fin ?_
    go_wp2
    have q := z2.set4 (.int .u8 rk) (.bool rb) (.int .i64 rn) (.string rs)
    refine bodyPost_ret (v := .tuple #[.agg #[.int .u8 rk, .bool rb, .int .i64 rn, .string rs], .int .i64 re]) (by simp [results, Tryd.results35, go_sem, q.1, q.2.1, q.2.2.1, q.2.2.2]) rfl ⟨rfl, Ext.set4 (E0.trans ((X.alloc (.cells #[.int .u8 (ka), .bool (ba), .int .i64 (na), .string (sa), .int .u8 (kb), .bool (bb), .int .i64 (nb), .string (sb)] 24)).trans (by exact x2))) (by first | omega | simp) _ _ _ _⟩
  · go_wp2
    refine ordNext.mk ((Ext.refl _).alloc _) ?_
    refine ord_ext (pick_cons rfl pick_nil) ?_; intro K_ hK_
    go_wp2_with (go_at_call 72; refine (over_any _ _).mono ?_; rintro e w9 ⟨rfl, rfl⟩)
    refine ordNext.mk (Ext.refl _) ?_
    refine ord_one (pick_cons rfl pick_nil) ?_; intro K_ hK_
    go_wp2_with (go_at_call 71; refine (numbers_at _ _ _ _ 2 [⟨ka, ba, na, sa⟩, ⟨kb, bb, nb, sb⟩] _ HR rfl (by omega) (Dats.two (by first | exact Bk.at (by simp) | exact (Bk.at (by simp)).drew)) (by simpa using ⟨hs, hs2⟩)).mono ?_; rintro e w2 ⟨rfl, x2⟩; have z2 : Bk w2 (w.heap.size + 1 + 1) 24 #[.int .u8 (0), .bool (false), .int .i64 (0), .string (⟨#[]⟩)] := (z0.ext ((X.alloc (.cells #[.int .u8 (ka), .bool (ba), .int .i64 (na), .string (sa), .int .u8 (kb), .bool (bb), .int .i64 (nb), .string (sb)] 24)).trans (by exact x2))); have z2f0 : w2.frozen? ⟨w.heap.size + 1 + 1, 0, none⟩ = false := z2.free 0; have z2f1 : w2.frozen? ⟨w.heap.size + 1 + 1, 1, none⟩ = false := z2.free 1; have z2f2 : w2.frozen? ⟨w.heap.size + 1 + 1, 2, none⟩ = false := z2.free 2; have z2f3 : w2.frozen? ⟨w.heap.size + 1 + 1, 3, none⟩ = false := z2.free 3; have z2c0 : w2.cell? ⟨w.heap.size + 1 + 1, 0, none⟩ = some (.int .u8 (0)) := z2.cell 0; have z2c1 : w2.cell? ⟨w.heap.size + 1 + 1, 1, none⟩ = some (.bool (false)) := z2.cell 1; have z2c2 : w2.cell? ⟨w.heap.size + 1 + 1, 2, none⟩ = some (.int .i64 (0)) := z2.cell 2; have z2c3 : w2.cell? ⟨w.heap.size + 1 + 1, 3, none⟩ = some (.string (⟨#[]⟩)) := z2.cell 3)
    (refine ord_flo (pick_cons rfl (pick_cons rfl pick_nil)) ?_; (repeat (go_big_quiet_step (fail))); refine wpQuiet_nil ?_; show ordWalk _ _ _ _ _ _ _)
    refine ord_one (pick_cons rfl pick_nil) ?_; intro K_ hK_
    go_wp2
    (refine ord_flo (pick_cons rfl pick_nil) ?_; (repeat (go_big_quiet_step (fail))); refine wpQuiet_nil ?_; show ordWalk _ _ _ _ _ _ _)
    refine ord_fin ?_
    go_wp2
    have q := z2.set4 (.int .u8 rk) (.bool rb) (.int .i64 rn) (.string rs)
    refine bodyPost_ret (v := .tuple #[.agg #[.int .u8 rk, .bool rb, .int .i64 rn, .string rs], .int .i64 re]) (by simp [results, Tryd.results35, go_sem, q.1, q.2.1, q.2.2.1, q.2.2.2]) rfl ⟨rfl, Ext.set4 (E0.trans ((X.alloc (.cells #[.int .u8 (ka), .bool (ba), .int .i64 (na), .string (sa), .int .u8 (kb), .bool (bb), .int .i64 (nb), .string (sb)] 24)).trans (by exact x2))) (by first | omega | simp) _ _ _ _⟩
set_option maxRecDepth 100000 in
set_option maxHeartbeats 1600000 in
theorem rmul_b1 (ka na kb nb : Int) (ba bb : Bool) (sa sb : ByteArray) (c : Int) (w : World) (hs : sa.size ≤ 140737488355328) (hs2 : sb.size ≤ 140737488355328) (q : Int) (hw : wrap64 (na * nb) = c) (hq : wrap64 (c.tdiv na) = q) (f0 : (na == -1) = false) (f1 : (nb == -1) = true) (f2 : (na == -9223372036854775808) = true) :
    Calls Tryd.prog 35 #[.agg #[.int .u8 (ka), .bool (ba), .int .i64 (na), .string (sa)], .agg #[.int .u8 (kb), .bool (bb), .int .i64 (nb), .string (sb)]] w (RefOut w (applyR 3 [⟨ka, ba, na, sa⟩, ⟨kb, bb, nb, sb⟩] (numR c 10))) := by
  have hw2 : IntKind.i64.wrap (na * nb) = c := by rw [IntKind.wrap_i64]; simpa [wrap64] using hw
  have hq2 : IntKind.i64.wrap (c.tdiv na) = q := by rw [IntKind.wrap_i64]; simpa [wrap64] using hq
  obtain ⟨⟨⟨rk, rb, rn, rs⟩, re⟩, hr⟩ : ∃ r, applyR 3 [⟨ka, ba, na, sa⟩, ⟨kb, bb, nb, sb⟩] (numR c 10) = r := ⟨_, rfl⟩
  rw [hr]
  have HR := Lib.hid hr
  clear hr
  go_enter Tryd.func35, Tryd.ntmps35
  go_upto_region 2 with fail
  have a0 : Bk (((w.alloc (.cells #[.int .u8 (ka), .bool (ba), .int .i64 (na), .string (sa)] 24)).alloc (.cells #[.int .u8 (kb), .bool (bb), .int .i64 (nb), .string (sb)] 24)).alloc (.cells #[.int .u8 (0), .bool (false), .int .i64 (0), .string (⟨#[]⟩)] 24)) (w.heap.size) 24 #[.int .u8 (ka), .bool (ba), .int .i64 (na), .string (sa)] := ((Bk.at (by simp)).alloc _).alloc _
  have b0 : Bk (((w.alloc (.cells #[.int .u8 (ka), .bool (ba), .int .i64 (na), .string (sa)] 24)).alloc (.cells #[.int .u8 (kb), .bool (bb), .int .i64 (nb), .string (sb)] 24)).alloc (.cells #[.int .u8 (0), .bool (false), .int .i64 (0), .string (⟨#[]⟩)] 24)) (w.heap.size + 1) 24 #[.int .u8 (kb), .bool (bb), .int .i64 (nb), .string (sb)] := (Bk.at (by simp)).alloc _
  have z0 : Bk (((w.alloc (.cells #[.int .u8 (ka), .bool (ba), .int .i64 (na), .string (sa)] 24)).alloc (.cells #[.int .u8 (kb), .bool (bb), .int .i64 (nb), .string (sb)] 24)).alloc (.cells #[.int .u8 (0), .bool (false), .int .i64 (0), .string (⟨#[]⟩)] 24)) (w.heap.size + 1 + 1) 24 #[.int .u8 (0), .bool (false), .int .i64 (0), .string (⟨#[]⟩)] := Bk.at (by simp)
  have E0 : Ext w (((w.alloc (.cells #[.int .u8 (ka), .bool (ba), .int .i64 (na), .string (sa)] 24)).alloc (.cells #[.int .u8 (kb), .bool (bb), .int .i64 (nb), .string (sb)] 24)).alloc (.cells #[.int .u8 (0), .bool (false), .int .i64 (0), .string (⟨#[]⟩)] 24)) := (((Ext.refl w).alloc _).alloc _).alloc _
  obtain ⟨w0, hw0⟩ : ∃ w0, w0 = (((w.alloc (.cells #[.int .u8 (ka), .bool (ba), .int .i64 (na), .string (sa)] 24)).alloc (.cells #[.int .u8 (kb), .bool (bb), .int .i64 (nb), .string (sb)] 24)).alloc (.cells #[.int .u8 (0), .bool (false), .int .i64 (0), .string (⟨#[]⟩)] 24)) := ⟨_, rfl⟩
  rw [← hw0] at a0 b0 z0 E0 ⊢
  clear hw0
  have X : Ext w0 w0.drew := (Ext.refl w0).drew
  have p00 : ∀ y : Xt w0.drew, y.W.cell? ⟨w.heap.size, 0, none⟩ = some (.int .u8 (ka)) := fun y => (a0.ext (X.trans y.x)).cell 0
  have p01 : ∀ y : Xt w0.drew, y.W.cell? ⟨w.heap.size, 1, none⟩ = some (.bool (ba)) := fun y => (a0.ext (X.trans y.x)).cell 1
  have p02 : ∀ y : Xt w0.drew, y.W.cell? ⟨w.heap.size, 2, none⟩ = some (.int .i64 (na)) := fun y => (a0.ext (X.trans y.x)).cell 2
  have p03 : ∀ y : Xt w0.drew, y.W.cell? ⟨w.heap.size, 3, none⟩ = some (.string (sa)) := fun y => (a0.ext (X.trans y.x)).cell 3
  have p10 : ∀ y : Xt w0.drew, y.W.cell? ⟨w.heap.size + 1, 0, none⟩ = some (.int .u8 (kb)) := fun y => (b0.ext (X.trans y.x)).cell 0
  have p11 : ∀ y : Xt w0.drew, y.W.cell? ⟨w.heap.size + 1, 1, none⟩ = some (.bool (bb)) := fun y => (b0.ext (X.trans y.x)).cell 1
  have p12 : ∀ y : Xt w0.drew, y.W.cell? ⟨w.heap.size + 1, 2, none⟩ = some (.int .i64 (nb)) := fun y => (b0.ext (X.trans y.x)).cell 2
  have p13 : ∀ y : Xt w0.drew, y.W.cell? ⟨w.heap.size + 1, 3, none⟩ = some (.string (sb)) := fun y => (b0.ext (X.trans y.x)).cell 3
  refine wp_region_ord [0,1,3,7,15,31,63,127,255,511,1023,2047,4095,8191,16383,32767,65535,131071,262143,524287,1048575,2097151,4194303,8388607,16777215,33554431,67108863,134217727,268435455,268435455,805306367,2147483647,268435455,4563402751,17179869183,34359738367,68719476735,137438953471] (.flo [0,1,2,3,4,5,6,7,8,9,10,11,12,13,14,15,16,17,18,19,20,21,22,23,24,25,26,27,28,29,30,31,32,33,34,35,36,37] (.fin)) (by kernel_rfl) (by kernel_rfl) (by intro _ _ d _ _ h; cases d <;> exact h) ?_
  (refine ord_flo (pick_cons rfl (pick_cons rfl (pick_cons rfl (pick_cons rfl (pick_cons rfl (pick_cons rfl (pick_cons rfl (pick_cons rfl (pick_cons rfl (pick_cons rfl (pick_cons rfl (pick_cons rfl (pick_cons rfl (pick_cons rfl (pick_cons rfl (pick_cons rfl (pick_cons rfl (pick_cons rfl (pick_cons rfl (pick_cons rfl (pick_cons rfl (pick_cons rfl (pick_cons rfl (pick_cons rfl (pick_cons rfl (pick_cons rfl (pick_cons rfl (pick_cons rfl (pick_cons rfl (pick_cons rfl (pick_cons rfl (pick_cons rfl (pick_cons rfl (pick_cons rfl (pick_cons rfl (pick_cons rfl (pick_cons rfl (pick_cons rfl pick_nil)))))))))))))))))))))))))))))))))))))) ?_; (repeat (go_big_quiet_step (fail))); refine wpQuiet_nil ?_; show ordWalk _ _ _ _ _ _ _)
  refine ord_fin ?_
  go_wp2_with fail
  have a1 := a0.drew
  have b1 := b0.drew
  have z1 := z0.drew
  have E1 := E0.drew
  clear p00 p01 p02 p03 p10 p11 p12 p13 X
  obtain ⟨w8, hw8⟩ : ∃ w8, w8 = w0.drew := ⟨_, rfl⟩
  rw [← hw8] at a1 b1 z1 E1 ⊢
  clear hw8 a0 b0 z0 E0
  have z0 := z1
  have E0 := E1
  have X : Ext w8 w8.drew := (Ext.refl w8).drew
  have p00 : ∀ y : Xt w8.drew, y.W.cell? ⟨w.heap.size, 0, none⟩ = some (.int .u8 (ka)) := fun y => (a1.ext (X.trans y.x)).cell 0
  have p01 : ∀ y : Xt w8.drew, y.W.cell? ⟨w.heap.size, 1, none⟩ = some (.bool (ba)) := fun y => (a1.ext (X.trans y.x)).cell 1
  have p02 : ∀ y : Xt w8.drew, y.W.cell? ⟨w.heap.size, 2, none⟩ = some (.int .i64 (na)) := fun y => (a1.ext (X.trans y.x)).cell 2
  have p03 : ∀ y : Xt w8.drew, y.W.cell? ⟨w.heap.size, 3, none⟩ = some (.string (sa)) := fun y => (a1.ext (X.trans y.x)).cell 3
  have p10 : ∀ y : Xt w8.drew, y.W.cell? ⟨w.heap.size + 1, 0, none⟩ = some (.int .u8 (kb)) := fun y => (b1.ext (X.trans y.x)).cell 0
  have p11 : ∀ y : Xt w8.drew, y.W.cell? ⟨w.heap.size + 1, 1, none⟩ = some (.bool (bb)) := fun y => (b1.ext (X.trans y.x)).cell 1
  have p12 : ∀ y : Xt w8.drew, y.W.cell? ⟨w.heap.size + 1, 2, none⟩ = some (.int .i64 (nb)) := fun y => (b1.ext (X.trans y.x)).cell 2
  have p13 : ∀ y : Xt w8.drew, y.W.cell? ⟨w.heap.size + 1, 3, none⟩ = some (.string (sb)) := fun y => (b1.ext (X.trans y.x)).cell 3
  refine wp_region_ord [0,0,2,0,0,24,63,127,127,511,1023] (.flo [0,1,3,4] (.both 2 5 (.ext 5 (.one 6 (.flo [7,8] (.one 9 (.flo [10] (.fin)))))) (.ext 2 (.one 6 (.flo [7,8] (.one 9 (.flo [10] (.fin)))))))) (by kernel_rfl) (by kernel_rfl) (by intro _ _ d _ _ h; cases d <;> exact h) ?_
  (refine ord_flo (pick_cons rfl (pick_cons rfl (pick_cons rfl (pick_cons rfl pick_nil)))) ?_; (repeat (go_big_quiet_step (fail))); refine wpQuiet_nil ?_; show ordWalk _ _ _ _ _ _ _)
  refine ord_both (pick_cons rfl pick_nil) (pick_cons rfl pick_nil) ?_ ?_ <;> intro K_ hK_
  · go_wp2_with (go_at_call 72; refine (over_any _ _).mono ?_; rintro e w9 ⟨rfl, rfl⟩)
    refine ordNext.mk (Ext.refl _) ?_
    refine ord_ext (pick_cons rfl pick_nil) ?_; intro K_ hK_
    go_wp2
    refine ordNext.mk ((Ext.refl _).alloc _) ?_
    refine ord_one (pick_cons rfl pick_nil) ?_; intro K_ hK_
    go_wp2_with (go_at_call 71; refine (numbers_at _ _ _ _ 2 [⟨ka, ba, na, sa⟩, ⟨kb, bb, nb, sb⟩] _ HR rfl (by omega) (Dats.two (by first | exact Bk.at (by simp) | exact (Bk.at (by simp)).drew)) (by simpa using ⟨hs, hs2⟩)).mono ?_; rintro e w2 ⟨rfl, x2⟩; have z2 : Bk w2 (w.heap.size + 1 + 1) 24 #[.int .u8 (0), .bool (false), .int .i64 (0), .string (⟨#[]⟩)] := (z0.ext ((X.alloc (.cells #[.int .u8 (ka), .bool (ba), .int .i64 (na), .string (sa), .int .u8 (kb), .bool (bb), .int .i64 (nb), .string (sb)] 24)).trans (by exact x2))); have z2f0 : w2.frozen? ⟨w.heap.size + 1 + 1, 0, none⟩ = false := z2.free 0; have z2f1 : w2.frozen? ⟨w.heap.size + 1 + 1, 1, none⟩ = false := z2.free 1; have z2f2 : w2.frozen? ⟨w.heap.size + 1 + 1, 2, none⟩ = false := z2.free 2; have z2f3 : w2.frozen? ⟨w.heap.size + 1 + 1, 3, none⟩ = false := z2.free 3; have z2c0 : w2.cell? ⟨w.heap.size + 1 + 1, 0, none⟩ = some (.int .u8 (0)) := z2.cell 0; have z2c1 : w2.cell? ⟨w.heap.size + 1 + 1, 1, none⟩ = some (.bool (false)) := z2.cell 1; have z2c2 : w2.cell? ⟨w.heap.size + 1 + 1, 2, none⟩ = some (.int .i64 (0)) := z2.cell 2; have z2c3 : w2.cell? ⟨w.heap.size + 1 + 1, 3, none⟩ = some (.string (⟨#[]⟩)) := z2.cell 3)
    (refine ord_flo (pick_cons rfl (pick_cons rfl pick_nil)) ?_; (repeat (go_big_quiet_step (fail))); refine wpQuiet_nil ?_; show ordWalk _ _ _ _ _ _ _)
    refine ord_one (pick_cons rfl pick_nil) ?_; intro K_ hK_
    go_wp2
    (refine ord_flo (pick_cons rfl pick_nil) ?_; (repeat (go_big_quiet_step (fail))); refine wpQuiet_nil ?_; show ordWalk _ _ _ _ _ _ _)
    refine ord_fin ?_
    go_wp2
    have q := z2.set4 (.int .u8 rk) (.bool rb) (.int .i64 rn) (.string rs)
    refine bodyPost_ret (v := .tuple #[.agg #[.int .u8 rk, .bool rb, .int .i64 rn, .string rs], .int .i64 re]) (by simp [results, Tryd.results35, go_sem, q.1, q.2.1, q.2.2.1, q.2.2.2]) rfl ⟨rfl, Ext.set4 (E0.trans ((X.alloc (.cells #[.int .u8 (ka), .bool (ba), .int .i64 (na), .string (sa), .int .u8 (kb), .bool (bb), .int .i64 (nb), .string (sb)] 24)).trans (by exact x2))) (by first | omega | simp) _ _ _ _⟩
  · go_wp2
    refine ordNext.mk ((Ext.refl _).alloc _) ?_
    refine ord_ext (pick_cons rfl pick_nil) ?_; intro K_ hK_
    go_wp2_with (go_at_call 72; refine (over_any _ _).mono ?_; rintro e w9 ⟨rfl, rfl⟩)
    refine ordNext.mk (Ext.refl _) ?_
    refine ord_one (pick_cons rfl pick_nil) ?_; intro K_ hK_
    go_wp2_with (go_at_call 71; refine (numbers_at _ _ _ _ 2 [⟨ka, ba, na, sa⟩, ⟨kb, bb, nb, sb⟩] _ HR rfl (by omega) (Dats.two (by first | exact Bk.at (by simp) | exact (Bk.at (by simp)).drew)) (by simpa using ⟨hs, hs2⟩)).mono ?_; rintro e w2 ⟨rfl, x2⟩; have z2 : Bk w2 (w.heap.size + 1 + 1) 24 #[.int .u8 (0), .bool (false), .int .i64 (0), .string (⟨#[]⟩)] := (z0.ext ((X.alloc (.cells #[.int .u8 (ka), .bool (ba), .int .i64 (na), .string (sa), .int .u8 (kb), .bool (bb), .int .i64 (nb), .string (sb)] 24)).trans (by exact x2))); have z2f0 : w2.frozen? ⟨w.heap.size + 1 + 1, 0, none⟩ = false := z2.free 0; have z2f1 : w2.frozen? ⟨w.heap.size + 1 + 1, 1, none⟩ = false := z2.free 1; have z2f2 : w2.frozen? ⟨w.heap.size + 1 + 1, 2, none⟩ = false := z2.free 2; have z2f3 : w2.frozen? ⟨w.heap.size + 1 + 1, 3, none⟩ = false := z2.free 3; have z2c0 : w2.cell? ⟨w.heap.size + 1 + 1, 0, none⟩ = some (.int .u8 (0)) := z2.cell 0; have z2c1 : w2.cell? ⟨w.heap.size + 1 + 1, 1, none⟩ = some (.bool (false)) := z2.cell 1; have z2c2 : w2.cell? ⟨w.heap.size + 1 + 1, 2, none⟩ = some (.int .i64 (0)) := z2.cell 2; have z2c3 : w2.cell? ⟨w.heap.size + 1 + 1, 3, none⟩ = some (.string (⟨#[]⟩)) := z2.cell 3)
    (refine ord_flo (pick_cons rfl (pick_cons rfl pick_nil)) ?_; (repeat (go_big_quiet_step (fail))); refine wpQuiet_nil ?_; show ordWalk _ _ _ _ _ _ _)
    refine ord_one (pick_cons rfl pick_nil) ?_; intro K_ hK_
    go_wp2
    (refine ord_flo (pick_cons rfl pick_nil) ?_; (repeat (go_big_quiet_step (fail))); refine wpQuiet_nil ?_; show ordWalk _ _ _ _ _ _ _)
    refine ord_fin ?_
    go_wp2
    have q := z2.set4 (.int .u8 rk) (.bool rb) (.int .i64 rn) (.string rs)
    refine bodyPost_ret (v := .tuple #[.agg #[.int .u8 rk, .bool rb, .int .i64 rn, .string rs], .int .i64 re]) (by simp [results, Tryd.results35, go_sem, q.1, q.2.1, q.2.2.1, q.2.2.2]) rfl ⟨rfl, Ext.set4 (E0.trans ((X.alloc (.cells #[.int .u8 (ka), .bool (ba), .int .i64 (na), .string (sa), .int .u8 (kb), .bool (bb), .int .i64 (nb), .string (sb)] 24)).trans (by exact x2))) (by first | omega | simp) _ _ _ _⟩
set_option maxRecDepth 100000 in
set_option maxHeartbeats 1600000 in
theorem rmul_b2z (ka na kb nb : Int) (ba bb : Bool) (sa sb : ByteArray) (c : Int) (w : World) (hs : sa.size ≤ 140737488355328) (hs2 : sb.size ≤ 140737488355328) (q : Int) (hw : wrap64 (na * nb) = c) (hq : wrap64 (c.tdiv na) = q) (f0 : (na == -1) = false) (f1 : (nb == -1) = true) (f2 : (na == -9223372036854775808) = false) (f3 : (na != 0) = false) :
    Calls Tryd.prog 35 #[.agg #[.int .u8 (ka), .bool (ba), .int .i64 (na), .string (sa)], .agg #[.int .u8 (kb), .bool (bb), .int .i64 (nb), .string (sb)]] w (RefOut w (applyR 3 [⟨ka, ba, na, sa⟩, ⟨kb, bb, nb, sb⟩] (numR c 0))) := by
  have hw2 : IntKind.i64.wrap (na * nb) = c := by rw [IntKind.wrap_i64]; simpa [wrap64] using hw
  have hq2 : IntKind.i64.wrap (c.tdiv na) = q := by rw [IntKind.wrap_i64]; simpa [wrap64] using hq
  obtain ⟨⟨⟨rk, rb, rn, rs⟩, re⟩, hr⟩ : ∃ r, applyR 3 [⟨ka, ba, na, sa⟩, ⟨kb, bb, nb, sb⟩] (numR c 0) = r := ⟨_, rfl⟩
  rw [hr]
  have HR := Lib.hid hr
  clear hr
  go_enter Tryd.func35, Tryd.ntmps35
  go_upto_region 2 with fail
  have a0 : Bk (((w.alloc (.cells #[.int .u8 (ka), .bool (ba), .int .i64 (na), .string (sa)] 24)).alloc (.cells #[.int .u8 (kb), .bool (bb), .int .i64 (nb), .string (sb)] 24)).alloc (.cells #[.int .u8 (0), .bool (false), .int .i64 (0), .string (⟨#[]⟩)] 24)) (w.heap.size) 24 #[.int .u8 (ka), .bool (ba), .int .i64 (na), .string (sa)] := ((Bk.at (by simp)).alloc _).alloc _
  have b0 : Bk (((w.alloc (.cells #[.int .u8 (ka), .bool (ba), .int .i64 (na), .string (sa)] 24)).alloc (.cells #[.int .u8 (kb), .bool (bb), .int .i64 (nb), .string (sb)] 24)).alloc (.cells #[.int .u8 (0), .bool (false), .int .i64 (0), .string (⟨#[]⟩)] 24)) (w.heap.size + 1) 24 #[.int .u8 (kb), .bool (bb), .int .i64 (nb), .string (sb)] := (Bk.at (by simp)).alloc _
  have z0 : Bk (((w.alloc (.cells #[.int .u8 (ka), .bool (ba), .int .i64 (na), .string (sa)] 24)).alloc (.cells #[.int .u8 (kb), .bool (bb), .int .i64 (nb), .string (sb)] 24)).alloc (.cells #[.int .u8 (0), .bool (false), .int .i64 (0), .string (⟨#[]⟩)] 24)) (w.heap.size + 1 + 1) 24 #[.int .u8 (0), .bool (false), .int .i64 (0), .string (⟨#[]⟩)] := Bk.at (by simp)
  have E0 : Ext w (((w.alloc (.cells #[.int .u8 (ka), .bool (ba), .int .i64 (na), .string (sa)] 24)).alloc (.cells #[.int .u8 (kb), .bool (bb), .int .i64 (nb), .string (sb)] 24)).alloc (.cells #[.int .u8 (0), .bool (false), .int .i64 (0), .string (⟨#[]⟩)] 24)) := (((Ext.refl w).alloc _).alloc _).alloc _
  obtain ⟨w0, hw0⟩ : ∃ w0, w0 = (((w.alloc (.cells #[.int .u8 (ka), .bool (ba), .int .i64 (na), .string (sa)] 24)).alloc (.cells #[.int .u8 (kb), .bool (bb), .int .i64 (nb), .string (sb)] 24)).alloc (.cells #[.int .u8 (0), .bool (false), .int .i64 (0), .string (⟨#[]⟩)] 24)) := ⟨_, rfl⟩
  rw [← hw0] at a0 b0 z0 E0 ⊢
  clear hw0
  have X : Ext w0 w0.drew := (Ext.refl w0).drew
  have p00 : ∀ y : Xt w0.drew, y.W.cell? ⟨w.heap.size, 0, none⟩ = some (.int .u8 (ka)) := fun y => (a0.ext (X.trans y.x)).cell 0
  have p01 : ∀ y : Xt w0.drew, y.W.cell? ⟨w.heap.size, 1, none⟩ = some (.bool (ba)) := fun y => (a0.ext (X.trans y.x)).cell 1
  have p02 : ∀ y : Xt w0.drew, y.W.cell? ⟨w.heap.size, 2, none⟩ = some (.int .i64 (na)) := fun y => (a0.ext (X.trans y.x)).cell 2
  have p03 : ∀ y : Xt w0.drew, y.W.cell? ⟨w.heap.size, 3, none⟩ = some (.string (sa)) := fun y => (a0.ext (X.trans y.x)).cell 3
  have p10 : ∀ y : Xt w0.drew, y.W.cell? ⟨w.heap.size + 1, 0, none⟩ = some (.int .u8 (kb)) := fun y => (b0.ext (X.trans y.x)).cell 0
  have p11 : ∀ y : Xt w0.drew, y.W.cell? ⟨w.heap.size + 1, 1, none⟩ = some (.bool (bb)) := fun y => (b0.ext (X.trans y.x)).cell 1
  have p12 : ∀ y : Xt w0.drew, y.W.cell? ⟨w.heap.size + 1, 2, none⟩ = some (.int .i64 (nb)) := fun y => (b0.ext (X.trans y.x)).cell 2
  have p13 : ∀ y : Xt w0.drew, y.W.cell? ⟨w.heap.size + 1, 3, none⟩ = some (.string (sb)) := fun y => (b0.ext (X.trans y.x)).cell 3
  refine wp_region_ord [0,1,3,7,15,31,63,127,255,511,1023,2047,4095,8191,16383,32767,65535,131071,262143,524287,1048575,2097151,4194303,8388607,16777215,33554431,67108863,134217727,268435455,268435455,805306367,2147483647,268435455,4563402751,17179869183,34359738367,68719476735,137438953471] (.flo [0,1,2,3,4,5,6,7,8,9,10,11,12,13,14,15,16,17,18,19,20,21,22,23,24,25,26,27,28,29,30,31,32,33,34,35,36,37] (.fin)) (by kernel_rfl) (by kernel_rfl) (by intro _ _ d _ _ h; cases d <;> exact h) ?_
  (refine ord_flo (pick_cons rfl (pick_cons rfl (pick_cons rfl (pick_cons rfl (pick_cons rfl (pick_cons rfl (pick_cons rfl (pick_cons rfl (pick_cons rfl (pick_cons rfl (pick_cons rfl (pick_cons rfl (pick_cons rfl (pick_cons rfl (pick_cons rfl (pick_cons rfl (pick_cons rfl (pick_cons rfl (pick_cons rfl (pick_cons rfl (pick_cons rfl (pick_cons rfl (pick_cons rfl (pick_cons rfl (pick_cons rfl (pick_cons rfl (pick_cons rfl (pick_cons rfl (pick_cons rfl (pick_cons rfl (pick_cons rfl (pick_cons rfl (pick_cons rfl (pick_cons rfl (pick_cons rfl (pick_cons rfl (pick_cons rfl (pick_cons rfl pick_nil)))))))))))))))))))))))))))))))))))))) ?_; (repeat (go_big_quiet_step (fail))); refine wpQuiet_nil ?_; show ordWalk _ _ _ _ _ _ _)
  refine ord_fin ?_
  go_wp2_with fail
  have a1 := a0.drew
  have b1 := b0.drew
  have z1 := z0.drew
  have E1 := E0.drew
  clear p00 p01 p02 p03 p10 p11 p12 p13 X
  obtain ⟨w8, hw8⟩ : ∃ w8, w8 = w0.drew := ⟨_, rfl⟩
  rw [← hw8] at a1 b1 z1 E1 ⊢
  clear hw8 a0 b0 z0 E0
  have z0 := z1
  have E0 := E1
  have X : Ext w8 w8.drew := (Ext.refl w8).drew
  have p00 : ∀ y : Xt w8.drew, y.W.cell? ⟨w.heap.size, 0, none⟩ = some (.int .u8 (ka)) := fun y => (a1.ext (X.trans y.x)).cell 0
  have p01 : ∀ y : Xt w8.drew, y.W.cell? ⟨w.heap.size, 1, none⟩ = some (.bool (ba)) := fun y => (a1.ext (X.trans y.x)).cell 1
  have p02 : ∀ y : Xt w8.drew, y.W.cell? ⟨w.heap.size, 2, none⟩ = some (.int .i64 (na)) := fun y => (a1.ext (X.trans y.x)).cell 2
  have p03 : ∀ y : Xt w8.drew, y.W.cell? ⟨w.heap.size, 3, none⟩ = some (.string (sa)) := fun y => (a1.ext (X.trans y.x)).cell 3
  have p10 : ∀ y : Xt w8.drew, y.W.cell? ⟨w.heap.size + 1, 0, none⟩ = some (.int .u8 (kb)) := fun y => (b1.ext (X.trans y.x)).cell 0
  have p11 : ∀ y : Xt w8.drew, y.W.cell? ⟨w.heap.size + 1, 1, none⟩ = some (.bool (bb)) := fun y => (b1.ext (X.trans y.x)).cell 1
  have p12 : ∀ y : Xt w8.drew, y.W.cell? ⟨w.heap.size + 1, 2, none⟩ = some (.int .i64 (nb)) := fun y => (b1.ext (X.trans y.x)).cell 2
  have p13 : ∀ y : Xt w8.drew, y.W.cell? ⟨w.heap.size + 1, 3, none⟩ = some (.string (sb)) := fun y => (b1.ext (X.trans y.x)).cell 3
  refine wp_region_ord [0,0,2,0,0,24,63,127,127,511,1023] (.flo [0,1,3,4] (.both 2 5 (.ext 5 (.one 6 (.flo [7,8] (.one 9 (.flo [10] (.fin)))))) (.ext 2 (.one 6 (.flo [7,8] (.one 9 (.flo [10] (.fin)))))))) (by kernel_rfl) (by kernel_rfl) (by intro _ _ d _ _ h; cases d <;> exact h) ?_
  (refine ord_flo (pick_cons rfl (pick_cons rfl (pick_cons rfl (pick_cons rfl pick_nil)))) ?_; (repeat (go_big_quiet_step (fail))); refine wpQuiet_nil ?_; show ordWalk _ _ _ _ _ _ _)
  refine ord_both (pick_cons rfl pick_nil) (pick_cons rfl pick_nil) ?_ ?_ <;> intro K_ hK_
  · go_wp2_with (go_at_call 72; refine (over_any _ _).mono ?_; rintro e w9 ⟨rfl, rfl⟩)
    refine ordNext.mk (Ext.refl _) ?_
    refine ord_ext (pick_cons rfl pick_nil) ?_; intro K_ hK_
    go_wp2
    refine ordNext.mk ((Ext.refl _).alloc _) ?_
    refine ord_one (pick_cons rfl pick_nil) ?_; intro K_ hK_
    go_wp2_with (go_at_call 71; refine (numbers_at _ _ _ _ 2 [⟨ka, ba, na, sa⟩, ⟨kb, bb, nb, sb⟩] _ HR rfl (by omega) (Dats.two (by first | exact Bk.at (by simp) | exact (Bk.at (by simp)).drew)) (by simpa using ⟨hs, hs2⟩)).mono ?_; rintro e w2 ⟨rfl, x2⟩; have z2 : Bk w2 (w.heap.size + 1 + 1) 24 #[.int .u8 (0), .bool (false), .int .i64 (0), .string (⟨#[]⟩)] := (z0.ext ((X.alloc (.cells #[.int .u8 (ka), .bool (ba), .int .i64 (na), .string (sa), .int .u8 (kb), .bool (bb), .int .i64 (nb), .string (sb)] 24)).trans (by exact x2))); have z2f0 : w2.frozen? ⟨w.heap.size + 1 + 1, 0, none⟩ = false := z2.free 0; have z2f1 : w2.frozen? ⟨w.heap.size + 1 + 1, 1, none⟩ = false := z2.free 1; have z2f2 : w2.frozen? ⟨w.heap.size + 1 + 1, 2, none⟩ = false := z2.free 2; have z2f3 : w2.frozen? ⟨w.heap.size + 1 + 1, 3, none⟩ = false := z2.free 3; have z2c0 : w2.cell? ⟨w.heap.size + 1 + 1, 0, none⟩ = some (.int .u8 (0)) := z2.cell 0; have z2c1 : w2.cell? ⟨w.heap.size + 1 + 1, 1, none⟩ = some (.bool (false)) := z2.cell 1; have z2c2 : w2.cell? ⟨w.heap.size + 1 + 1, 2, none⟩ = some (.int .i64 (0)) := z2.cell 2; have z2c3 : w2.cell? ⟨w.heap.size + 1 + 1, 3, none⟩ = some (.string (⟨#[]⟩)) := z2.cell 3)
    (refine ord_flo (pick_cons rfl (pick_cons rfl pick_nil)) ?_; (repeat (go_big_quiet_step (fail))); refine wpQuiet_nil ?_; show ordWalk _ _ _ _ _ _ _)
    refine ord_one (pick_cons rfl pick_nil) ?_; intro K_ hK_
    go_wp2
    (refine ord_flo (pick_cons rfl pick_nil) ?_; (repeat (go_big_quiet_step (fail))); refine wpQuiet_nil ?_; show ordWalk _ _ _ _ _ _ _)
    refine ord_fin ?_
    go_wp2
    have q := z2.set4 (.int .u8 rk) (.bool rb) (.int .i64 rn) (.string rs)
    refine bodyPost_ret (v := .tuple #[.agg #[.int .u8 rk, .bool rb, .int .i64 rn, .string rs], .int .i64 re]) (by simp [results, Tryd.results35, go_sem, q.1, q.2.1, q.2.2.1, q.2.2.2]) rfl ⟨rfl, Ext.set4 (E0.trans ((X.alloc (.cells #[.int .u8 (ka), .bool (ba), .int .i64 (na), .string (sa), .int .u8 (kb), .bool (bb), .int .i64 (nb), .string (sb)] 24)).trans (by exact x2))) (by first | omega | simp) _ _ _ _⟩
  · go_wp2
    refine ordNext.mk ((Ext.refl _).alloc _) ?_
    refine ord_ext (pick_cons rfl pick_nil) ?_; intro K_ hK_
    go_wp2_with (go_at_call 72; refine (over_any _ _).mono ?_; rintro e w9 ⟨rfl, rfl⟩)
    refine ordNext.mk (Ext.refl _) ?_
    refine ord_one (pick_cons rfl pick_nil) ?_; intro K_ hK_
    go_wp2_with (go_at_call 71; refine (numbers_at _ _ _ _ 2 [⟨ka, ba, na, sa⟩, ⟨kb, bb, nb, sb⟩] _ HR rfl (by omega) (Dats.two (by first | exact Bk.at (by simp) | exact (Bk.at (by simp)).drew)) (by simpa using ⟨hs, hs2⟩)).mono ?_; rintro e w2 ⟨rfl, x2⟩; have z2 : Bk w2 (w.heap.size + 1 + 1) 24 #[.int .u8 (0), .bool (false), .int .i64 (0), .string (⟨#[]⟩)] := (z0.ext ((X.alloc (.cells #[.int .u8 (ka), .bool (ba), .int .i64 (na), .string (sa), .int .u8 (kb), .bool (bb), .int .i64 (nb), .string (sb)] 24)).trans (by exact x2))); have z2f0 : w2.frozen? ⟨w.heap.size + 1 + 1, 0, none⟩ = false := z2.free 0; have z2f1 : w2.frozen? ⟨w.heap.size + 1 + 1, 1, none⟩ = false := z2.free 1; have z2f2 : w2.frozen? ⟨w.heap.size + 1 + 1, 2, none⟩ = false := z2.free 2; have z2f3 : w2.frozen? ⟨w.heap.size + 1 + 1, 3, none⟩ = false := z2.free 3; have z2c0 : w2.cell? ⟨w.heap.size + 1 + 1, 0, none⟩ = some (.int .u8 (0)) := z2.cell 0; have z2c1 : w2.cell? ⟨w.heap.size + 1 + 1, 1, none⟩ = some (.bool (false)) := z2.cell 1; have z2c2 : w2.cell? ⟨w.heap.size + 1 + 1, 2, none⟩ = some (.int .i64 (0)) := z2.cell 2; have z2c3 : w2.cell? ⟨w.heap.size + 1 + 1, 3, none⟩ = some (.string (⟨#[]⟩)) := z2.cell 3)
    (refine ord_flo (pick_cons rfl (pick_cons rfl pick_nil)) ?_; (repeat (go_big_quiet_step (fail))); refine wpQuiet_nil ?_; show ordWalk _ _ _ _ _ _ _)
    refine ord_one (pick_cons rfl pick_nil) ?_; intro K_ hK_
    go_wp2
    (refine ord_flo (pick_cons rfl pick_nil) ?_; (repeat (go_big_quiet_step (fail))); refine wpQuiet_nil ?_; show ordWalk _ _ _ _ _ _ _)
    refine ord_fin ?_
    go_wp2
    have q := z2.set4 (.int .u8 rk) (.bool rb) (.int .i64 rn) (.string rs)
    refine bodyPost_ret (v := .tuple #[.agg #[.int .u8 rk, .bool rb, .int .i64 rn, .string rs], .int .i64 re]) (by simp [results, Tryd.results35, go_sem, q.1, q.2.1, q.2.2.1, q.2.2.2]) rfl ⟨rfl, Ext.set4 (E0.trans ((X.alloc (.cells #[.int .u8 (ka), .bool (ba), .int .i64 (na), .string (sa), .int .u8 (kb), .bool (bb), .int .i64 (nb), .string (sb)] 24)).trans (by exact x2))) (by first | omega | simp) _ _ _ _⟩
set_option maxRecDepth 100000 in
set_option maxHeartbeats 1600000 in
theorem rmul_b2t (ka na kb nb : Int) (ba bb : Bool) (sa sb : ByteArray) (c : Int) (w : World) (hs : sa.size ≤ 140737488355328) (hs2 : sb.size ≤ 140737488355328) (q : Int) (hw : wrap64 (na * nb) = c) (hq : wrap64 (c.tdiv na) = q) (f0 : (na == -1) = false) (f1 : (nb == -1) = true) (f2 : (na == -9223372036854775808) = false) (f3 : (na != 0) = true) (f4 : (na != -1) = true) (f5 : (q != nb) = true) :
    Calls Tryd.prog 35 #[.agg #[.int .u8 (ka), .bool (ba), .int .i64 (na), .string (sa)], .agg #[.int .u8 (kb), .bool (bb), .int .i64 (nb), .string (sb)]] w (RefOut w (applyR 3 [⟨ka, ba, na, sa⟩, ⟨kb, bb, nb, sb⟩] (numR c 10))) := by
  have hw2 : IntKind.i64.wrap (na * nb) = c := by rw [IntKind.wrap_i64]; simpa [wrap64] using hw
  have hq2 : IntKind.i64.wrap (c.tdiv na) = q := by rw [IntKind.wrap_i64]; simpa [wrap64] using hq
  have hn0 : ¬ na = 0 := by simpa using f3
  obtain ⟨⟨⟨rk, rb, rn, rs⟩, re⟩, hr⟩ : ∃ r, applyR 3 [⟨ka, ba, na, sa⟩, ⟨kb, bb, nb, sb⟩] (numR c 10) = r := ⟨_, rfl⟩
  rw [hr]
  have HR := Lib.hid hr
  clear hr
  go_enter Tryd.func35, Tryd.ntmps35
  go_upto_region 2 with fail
  have a0 : Bk (((w.alloc (.cells #[.int .u8 (ka), .bool (ba), .int .i64 (na), .string (sa)] 24)).alloc (.cells #[.int .u8 (kb), .bool (bb), .int .i64 (nb), .string (sb)] 24)).alloc (.cells #[.int .u8 (0), .bool (false), .int .i64 (0), .string (⟨#[]⟩)] 24)) (w.heap.size) 24 #[.int .u8 (ka), .bool (ba), .int .i64 (na), .string (sa)] := ((Bk.at (by simp)).alloc _).alloc _
  have b0 : Bk (((w.alloc (.cells #[.int .u8 (ka), .bool (ba), .int .i64 (na), .string (sa)] 24)).alloc (.cells #[.int .u8 (kb), .bool (bb), .int .i64 (nb), .string (sb)] 24)).alloc (.cells #[.int .u8 (0), .bool (false), .int .i64 (0), .string (⟨#[]⟩)] 24)) (w.heap.size + 1) 24 #[.int .u8 (kb), .bool (bb), .int .i64 (nb), .string (sb)] := (Bk.at (by simp)).alloc _
  have z0 : Bk (((w.alloc (.cells #[.int .u8 (ka), .bool (ba), .int .i64 (na), .string (sa)] 24)).alloc (.cells #[.int .u8 (kb), .bool (bb), .int .i64 (nb), .string (sb)] 24)).alloc (.cells #[.int .u8 (0), .bool (false), .int .i64 (0), .string (⟨#[]⟩)] 24)) (w.heap.size + 1 + 1) 24 #[.int .u8 (0), .bool (false), .int .i64 (0), .string (⟨#[]⟩)] := Bk.at (by simp)
  have E0 : Ext w (((w.alloc (.cells #[.int .u8 (ka), .bool (ba), .int .i64 (na), .string (sa)] 24)).alloc (.cells #[.int .u8 (kb), .bool (bb), .int .i64 (nb), .string (sb)] 24)).alloc (.cells #[.int .u8 (0), .bool (false), .int .i64 (0), .string (⟨#[]⟩)] 24)) := (((Ext.refl w).alloc _).alloc _).alloc _
  obtain ⟨w0, hw0⟩ : ∃ w0, w0 = (((w.alloc (.cells #[.int .u8 (ka), .bool (ba), .int .i64 (na), .string (sa)] 24)).alloc (.cells #[.int .u8 (kb), .bool (bb), .int .i64 (nb), .string (sb)] 24)).alloc (.cells #[.int .u8 (0), .bool (false), .int .i64 (0), .string (⟨#[]⟩)] 24)) := ⟨_, rfl⟩
  rw [← hw0] at a0 b0 z0 E0 ⊢
  clear hw0
  have X : Ext w0 w0.drew := (Ext.refl w0).drew
  have p00 : ∀ y : Xt w0.drew, y.W.cell? ⟨w.heap.size, 0, none⟩ = some (.int .u8 (ka)) := fun y => (a0.ext (X.trans y.x)).cell 0
  have p01 : ∀ y : Xt w0.drew, y.W.cell? ⟨w.heap.size, 1, none⟩ = some (.bool (ba)) := fun y => (a0.ext (X.trans y.x)).cell 1
  have p02 : ∀ y : Xt w0.drew, y.W.cell? ⟨w.heap.size, 2, none⟩ = some (.int .i64 (na)) := fun y => (a0.ext (X.trans y.x)).cell 2
  have p03 : ∀ y : Xt w0.drew, y.W.cell? ⟨w.heap.size, 3, none⟩ = some (.string (sa)) := fun y => (a0.ext (X.trans y.x)).cell 3
  have p10 : ∀ y : Xt w0.drew, y.W.cell? ⟨w.heap.size + 1, 0, none⟩ = some (.int .u8 (kb)) := fun y => (b0.ext (X.trans y.x)).cell 0
  have p11 : ∀ y : Xt w0.drew, y.W.cell? ⟨w.heap.size + 1, 1, none⟩ = some (.bool (bb)) := fun y => (b0.ext (X.trans y.x)).cell 1
  have p12 : ∀ y : Xt w0.drew, y.W.cell? ⟨w.heap.size + 1, 2, none⟩ = some (.int .i64 (nb)) := fun y => (b0.ext (X.trans y.x)).cell 2
  have p13 : ∀ y : Xt w0.drew, y.W.cell? ⟨w.heap.size + 1, 3, none⟩ = some (.string (sb)) := fun y => (b0.ext (X.trans y.x)).cell 3
  refine wp_region_ord [0,1,3,7,15,31,63,127,255,511,1023,2047,4095,8191,16383,32767,65535,131071,262143,524287,1048575,2097151,4194303,8388607,16777215,33554431,67108863,134217727,268435455,268435455,805306367,2147483647,268435455,4563402751,17179869183,34359738367,68719476735,137438953471] (.flo [0,1,2,3,4,5,6,7,8,9,10,11,12,13,14,15,16,17,18,19,20,21,22,23,24,25,26,27,28,29,30,31,32,33,34,35,36,37] (.fin)) (by kernel_rfl) (by kernel_rfl) (by intro _ _ d _ _ h; cases d <;> exact h) ?_
  (refine ord_flo (pick_cons rfl (pick_cons rfl (pick_cons rfl (pick_cons rfl (pick_cons rfl (pick_cons rfl (pick_cons rfl (pick_cons rfl (pick_cons rfl (pick_cons rfl (pick_cons rfl (pick_cons rfl (pick_cons rfl (pick_cons rfl (pick_cons rfl (pick_cons rfl (pick_cons rfl (pick_cons rfl (pick_cons rfl (pick_cons rfl (pick_cons rfl (pick_cons rfl (pick_cons rfl (pick_cons rfl (pick_cons rfl (pick_cons rfl (pick_cons rfl (pick_cons rfl (pick_cons rfl (pick_cons rfl (pick_cons rfl (pick_cons rfl (pick_cons rfl (pick_cons rfl (pick_cons rfl (pick_cons rfl (pick_cons rfl (pick_cons rfl pick_nil)))))))))))))))))))))))))))))))))))))) ?_; (repeat (go_big_quiet_step (fail))); refine wpQuiet_nil ?_; show ordWalk _ _ _ _ _ _ _)
  refine ord_fin ?_
  go_wp2_with fail
  have a1 := a0.drew
  have b1 := b0.drew
  have z1 := z0.drew
  have E1 := E0.drew
  clear p00 p01 p02 p03 p10 p11 p12 p13 X
  obtain ⟨w8, hw8⟩ : ∃ w8, w8 = w0.drew := ⟨_, rfl⟩
  rw [← hw8] at a1 b1 z1 E1 ⊢
  clear hw8 a0 b0 z0 E0
  have z0 := z1
  have E0 := E1
  have X : Ext w8 w8.drew := (Ext.refl w8).drew
  have p00 : ∀ y : Xt w8.drew, y.W.cell? ⟨w.heap.size, 0, none⟩ = some (.int .u8 (ka)) := fun y => (a1.ext (X.trans y.x)).cell 0
  have p01 : ∀ y : Xt w8.drew, y.W.cell? ⟨w.heap.size, 1, none⟩ = some (.bool (ba)) := fun y => (a1.ext (X.trans y.x)).cell 1
  have p02 : ∀ y : Xt w8.drew, y.W.cell? ⟨w.heap.size, 2, none⟩ = some (.int .i64 (na)) := fun y => (a1.ext (X.trans y.x)).cell 2
  have p03 : ∀ y : Xt w8.drew, y.W.cell? ⟨w.heap.size, 3, none⟩ = some (.string (sa)) := fun y => (a1.ext (X.trans y.x)).cell 3
  have p10 : ∀ y : Xt w8.drew, y.W.cell? ⟨w.heap.size + 1, 0, none⟩ = some (.int .u8 (kb)) := fun y => (b1.ext (X.trans y.x)).cell 0
  have p11 : ∀ y : Xt w8.drew, y.W.cell? ⟨w.heap.size + 1, 1, none⟩ = some (.bool (bb)) := fun y => (b1.ext (X.trans y.x)).cell 1
  have p12 : ∀ y : Xt w8.drew, y.W.cell? ⟨w.heap.size + 1, 2, none⟩ = some (.int .i64 (nb)) := fun y => (b1.ext (X.trans y.x)).cell 2
  have p13 : ∀ y : Xt w8.drew, y.W.cell? ⟨w.heap.size + 1, 3, none⟩ = some (.string (sb)) := fun y => (b1.ext (X.trans y.x)).cell 3
  refine wp_region_ord [0,0,2,0,0,24,63,127,127,511,1023] (.flo [0,1,3,4] (.both 2 5 (.ext 5 (.one 6 (.flo [7,8] (.one 9 (.flo [10] (.fin)))))) (.ext 2 (.one 6 (.flo [7,8] (.one 9 (.flo [10] (.fin)))))))) (by kernel_rfl) (by kernel_rfl) (by intro _ _ d _ _ h; cases d <;> exact h) ?_
  (refine ord_flo (pick_cons rfl (pick_cons rfl (pick_cons rfl (pick_cons rfl pick_nil)))) ?_; (repeat (go_big_quiet_step (fail))); refine wpQuiet_nil ?_; show ordWalk _ _ _ _ _ _ _)
  refine ord_both (pick_cons rfl pick_nil) (pick_cons rfl pick_nil) ?_ ?_ <;> intro K_ hK_
  · go_wp2_with (go_at_call 72; refine (over_any _ _).mono ?_; rintro e w9 ⟨rfl, rfl⟩)
    refine ordNext.mk (Ext.refl _) ?_
    refine ord_ext (pick_cons rfl pick_nil) ?_; intro K_ hK_
    go_wp2
    refine ordNext.mk ((Ext.refl _).alloc _) ?_
    refine ord_one (pick_cons rfl pick_nil) ?_; intro K_ hK_
    go_wp2_with (go_at_call 71; refine (numbers_at _ _ _ _ 2 [⟨ka, ba, na, sa⟩, ⟨kb, bb, nb, sb⟩] _ HR rfl (by omega) (Dats.two (by first | exact Bk.at (by simp) | exact (Bk.at (by simp)).drew)) (by simpa using ⟨hs, hs2⟩)).mono ?_; rintro e w2 ⟨rfl, x2⟩; have z2 : Bk w2 (w.heap.size + 1 + 1) 24 #[.int .u8 (0), .bool (false), .int .i64 (0), .string (⟨#[]⟩)] := (z0.ext ((X.alloc (.cells #[.int .u8 (ka), .bool (ba), .int .i64 (na), .string (sa), .int .u8 (kb), .bool (bb), .int .i64 (nb), .string (sb)] 24)).trans (by exact x2))); have z2f0 : w2.frozen? ⟨w.heap.size + 1 + 1, 0, none⟩ = false := z2.free 0; have z2f1 : w2.frozen? ⟨w.heap.size + 1 + 1, 1, none⟩ = false := z2.free 1; have z2f2 : w2.frozen? ⟨w.heap.size + 1 + 1, 2, none⟩ = false := z2.free 2; have z2f3 : w2.frozen? ⟨w.heap.size + 1 + 1, 3, none⟩ = false := z2.free 3; have z2c0 : w2.cell? ⟨w.heap.size + 1 + 1, 0, none⟩ = some (.int .u8 (0)) := z2.cell 0; have z2c1 : w2.cell? ⟨w.heap.size + 1 + 1, 1, none⟩ = some (.bool (false)) := z2.cell 1; have z2c2 : w2.cell? ⟨w.heap.size + 1 + 1, 2, none⟩ = some (.int .i64 (0)) := z2.cell 2; have z2c3 : w2.cell? ⟨w.heap.size + 1 + 1, 3, none⟩ = some (.string (⟨#[]⟩)) := z2.cell 3)
    (refine ord_flo (pick_cons rfl (pick_cons rfl pick_nil)) ?_; (repeat (go_big_quiet_step (fail))); refine wpQuiet_nil ?_; show ordWalk _ _ _ _ _ _ _)
    refine ord_one (pick_cons rfl pick_nil) ?_; intro K_ hK_
    go_wp2
    (refine ord_flo (pick_cons rfl pick_nil) ?_; (repeat (go_big_quiet_step (fail))); refine wpQuiet_nil ?_; show ordWalk _ _ _ _ _ _ _)
    refine ord_fin ?_
    go_wp2
    have q := z2.set4 (.int .u8 rk) (.bool rb) (.int .i64 rn) (.string rs)
    refine bodyPost_ret (v := .tuple #[.agg #[.int .u8 rk, .bool rb, .int .i64 rn, .string rs], .int .i64 re]) (by simp [results, Tryd.results35, go_sem, q.1, q.2.1, q.2.2.1, q.2.2.2]) rfl ⟨rfl, Ext.set4 (E0.trans ((X.alloc (.cells #[.int .u8 (ka), .bool (ba), .int .i64 (na), .string (sa), .int .u8 (kb), .bool (bb), .int .i64 (nb), .string (sb)] 24)).trans (by exact x2))) (by first | omega | simp) _ _ _ _⟩
  · go_wp2
    refine ordNext.mk ((Ext.refl _).alloc _) ?_
    refine ord_ext (pick_cons rfl pick_nil) ?_; intro K_ hK_
    go_wp2_with (go_at_call 72; refine (over_any _ _).mono ?_; rintro e w9 ⟨rfl, rfl⟩)
    refine ordNext.mk (Ext.refl _) ?_
    refine ord_one (pick_cons rfl pick_nil) ?_; intro K_ hK_
    go_wp2_with (go_at_call 71; refine (numbers_at _ _ _ _ 2 [⟨ka, ba, na, sa⟩, ⟨kb, bb, nb, sb⟩] _ HR rfl (by omega) (Dats.two (by first | exact Bk.at (by simp) | exact (Bk.at (by simp)).drew)) (by simpa using ⟨hs, hs2⟩)).mono ?_; rintro e w2 ⟨rfl, x2⟩; have z2 : Bk w2 (w.heap.size + 1 + 1) 24 #[.int .u8 (0), .bool (false), .int .i64 (0), .string (⟨#[]⟩)] := (z0.ext ((X.alloc (.cells #[.int .u8 (ka), .bool (ba), .int .i64 (na), .string (sa), .int .u8 (kb), .bool (bb), .int .i64 (nb), .string (sb)] 24)).trans (by exact x2))); have z2f0 : w2.frozen? ⟨w.heap.size + 1 + 1, 0, none⟩ = false := z2.free 0; have z2f1 : w2.frozen? ⟨w.heap.size + 1 + 1, 1, none⟩ = false := z2.free 1; have z2f2 : w2.frozen? ⟨w.heap.size + 1 + 1, 2, none⟩ = false := z2.free 2; have z2f3 : w2.frozen? ⟨w.heap.size + 1 + 1, 3, none⟩ = false := z2.free 3; have z2c0 : w2.cell? ⟨w.heap.size + 1 + 1, 0, none⟩ = some (.int .u8 (0)) := z2.cell 0; have z2c1 : w2.cell? ⟨w.heap.size + 1 + 1, 1, none⟩ = some (.bool (false)) := z2.cell 1; have z2c2 : w2.cell? ⟨w.heap.size + 1 + 1, 2, none⟩ = some (.int .i64 (0)) := z2.cell 2; have z2c3 : w2.cell? ⟨w.heap.size + 1 + 1, 3, none⟩ = some (.string (⟨#[]⟩)) := z2.cell 3)
    (refine ord_flo (pick_cons rfl (pick_cons rfl pick_nil)) ?_; (repeat (go_big_quiet_step (fail))); refine wpQuiet_nil ?_; show ordWalk _ _ _ _ _ _ _)
    refine ord_one (pick_cons rfl pick_nil) ?_; intro K_ hK_
    go_wp2
    (refine ord_flo (pick_cons rfl pick_nil) ?_; (repeat (go_big_quiet_step (fail))); refine wpQuiet_nil ?_; show ordWalk _ _ _ _ _ _ _)
    refine ord_fin ?_
    go_wp2
    have q := z2.set4 (.int .u8 rk) (.bool rb) (.int .i64 rn) (.string rs)
    refine bodyPost_ret (v := .tuple #[.agg #[.int .u8 rk, .bool rb, .int .i64 rn, .string rs], .int .i64 re]) (by simp [results, Tryd.results35, go_sem, q.1, q.2.1, q.2.2.1, q.2.2.2]) rfl ⟨rfl, Ext.set4 (E0.trans ((X.alloc (.cells #[.int .u8 (ka), .bool (ba), .int .i64 (na), .string (sa), .int .u8 (kb), .bool (bb), .int .i64 (nb), .string (sb)] 24)).trans (by exact x2))) (by first | omega | simp) _ _ _ _⟩
set_option maxRecDepth 100000 in
set_option maxHeartbeats 1600000 in
theorem rmul_b2f (ka na kb nb : Int) (ba bb : Bool) (sa sb : ByteArray) (c : Int) (w : World) (hs : sa.size ≤ 140737488355328) (hs2 : sb.size ≤ 140737488355328) (q : Int) (hw : wrap64 (na * nb) = c) (hq : wrap64 (c.tdiv na) = q) (f0 : (na == -1) = false) (f1 : (nb == -1) = true) (f2 : (na == -9223372036854775808) = false) (f3 : (na != 0) = true) (f4 : (na != -1) = true) (f5 : (q != nb) = false) :
    Calls Tryd.prog 35 #[.agg #[.int .u8 (ka), .bool (ba), .int .i64 (na), .string (sa)], .agg #[.int .u8 (kb), .bool (bb), .int .i64 (nb), .string (sb)]] w (RefOut w (applyR 3 [⟨ka, ba, na, sa⟩, ⟨kb, bb, nb, sb⟩] (numR c 0))) := by
  have hw2 : IntKind.i64.wrap (na * nb) = c := by rw [IntKind.wrap_i64]; simpa [wrap64] using hw
  have hq2 : IntKind.i64.wrap (c.tdiv na) = q := by rw [IntKind.wrap_i64]; simpa [wrap64] using hq
  have hn0 : ¬ na = 0 := by simpa using f3
  obtain ⟨⟨⟨rk, rb, rn, rs⟩, re⟩, hr⟩ : ∃ r, applyR 3 [⟨ka, ba, na, sa⟩, ⟨kb, bb, nb, sb⟩] (numR c 0) = r := ⟨_, rfl⟩
  rw [hr]
  have HR := Lib.hid hr
  clear hr
  go_enter Tryd.func35, Tryd.ntmps35
  go_upto_region 2 with fail
  have a0 : Bk (((w.alloc (.cells #[.int .u8 (ka), .bool (ba), .int .i64 (na), .string (sa)] 24)).alloc (.cells #[.int .u8 (kb), .bool (bb), .int .i64 (nb), .string (sb)] 24)).alloc (.cells #[.int .u8 (0), .bool (false), .int .i64 (0), .string (⟨#[]⟩)] 24)) (w.heap.size) 24 #[.int .u8 (ka), .bool (ba), .int .i64 (na), .string (sa)] := ((Bk.at (by simp)).alloc _).alloc _
  have b0 : Bk (((w.alloc (.cells #[.int .u8 (ka), .bool (ba), .int .i64 (na), .string (sa)] 24)).alloc (.cells #[.int .u8 (kb), .bool (bb), .int .i64 (nb), .string (sb)] 24)).alloc (.cells #[.int .u8 (0), .bool (false), .int .i64 (0), .string (⟨#[]⟩)] 24)) (w.heap.size + 1) 24 #[.int .u8 (kb), .bool (bb), .int .i64 (nb), .string (sb)] := (Bk.at (by simp)).alloc _
  have z0 : Bk (((w.alloc (.cells #[.int .u8 (ka), .bool (ba), .int .i64 (na), .string (sa)] 24)).alloc (.cells #[.int .u8 (kb), .bool (bb), .int .i64 (nb), .string (sb)] 24)).alloc (.cells #[.int .u8 (0), .bool (false), .int .i64 (0), .string (⟨#[]⟩)] 24)) (w.heap.size + 1 + 1) 24 #[.int .u8 (0), .bool (false), .int .i64 (0), .string (⟨#[]⟩)] := Bk.at (by simp)
  have E0 : Ext w (((w.alloc (.cells #[.int .u8 (ka), .bool (ba), .int .i64 (na), .string (sa)] 24)).alloc (.cells #[.int .u8 (kb), .bool (bb), .int .i64 (nb), .string (sb)] 24)).alloc (.cells #[.int .u8 (0), .bool (false), .int .i64 (0), .string (⟨#[]⟩)] 24)) := (((Ext.refl w).alloc _).alloc _).alloc _
  obtain ⟨w0, hw0⟩ : ∃ w0, w0 = (((w.alloc (.cells #[.int .u8 (ka), .bool (ba), .int .i64 (na), .string (sa)] 24)).alloc (.cells #[.int .u8 (kb), .bool (bb), .int .i64 (nb), .string (sb)] 24)).alloc (.cells #[.int .u8 (0), .bool (false), .int .i64 (0), .string (⟨#[]⟩)] 24)) := ⟨_, rfl⟩
  rw [← hw0] at a0 b0 z0 E0 ⊢
  clear hw0
  have X : Ext w0 w0.drew := (Ext.refl w0).drew
  have p00 : ∀ y : Xt w0.drew, y.W.cell? ⟨w.heap.size, 0, none⟩ = some (.int .u8 (ka)) := fun y => (a0.ext (X.trans y.x)).cell 0
  have p01 : ∀ y : Xt w0.drew, y.W.cell? ⟨w.heap.size, 1, none⟩ = some (.bool (ba)) := fun y => (a0.ext (X.trans y.x)).cell 1
  have p02 : ∀ y : Xt w0.drew, y.W.cell? ⟨w.heap.size, 2, none⟩ = some (.int .i64 (na)) := fun y => (a0.ext (X.trans y.x)).cell 2
  have p03 : ∀ y : Xt w0.drew, y.W.cell? ⟨w.heap.size, 3, none⟩ = some (.string (sa)) := fun y => (a0.ext (X.trans y.x)).cell 3
  have p10 : ∀ y : Xt w0.drew, y.W.cell? ⟨w.heap.size + 1, 0, none⟩ = some (.int .u8 (kb)) := fun y => (b0.ext (X.trans y.x)).cell 0
  have p11 : ∀ y : Xt w0.drew, y.W.cell? ⟨w.heap.size + 1, 1, none⟩ = some (.bool (bb)) := fun y => (b0.ext (X.trans y.x)).cell 1
  have p12 : ∀ y : Xt w0.drew, y.W.cell? ⟨w.heap.size + 1, 2, none⟩ = some (.int .i64 (nb)) := fun y => (b0.ext (X.trans y.x)).cell 2
  have p13 : ∀ y : Xt w0.drew, y.W.cell? ⟨w.heap.size + 1, 3, none⟩ = some (.string (sb)) := fun y => (b0.ext (X.trans y.x)).cell 3
  refine wp_region_ord [0,1,3,7,15,31,63,127,255,511,1023,2047,4095,8191,16383,32767,65535,131071,262143,524287,1048575,2097151,4194303,8388607,16777215,33554431,67108863,134217727,268435455,268435455,805306367,2147483647,268435455,4563402751,17179869183,34359738367,68719476735,137438953471] (.flo [0,1,2,3,4,5,6,7,8,9,10,11,12,13,14,15,16,17,18,19,20,21,22,23,24,25,26,27,28,29,30,31,32,33,34,35,36,37] (.fin)) (by kernel_rfl) (by kernel_rfl) (by intro _ _ d _ _ h; cases d <;> exact h) ?_
  (refine ord_flo (pick_cons rfl (pick_cons rfl (pick_cons rfl (pick_cons rfl (pick_cons rfl (pick_cons rfl (pick_cons rfl (pick_cons rfl (pick_cons rfl (pick_cons rfl (pick_cons rfl (pick_cons rfl (pick_cons rfl (pick_cons rfl (pick_cons rfl (pick_cons rfl (pick_cons rfl (pick_cons rfl (pick_cons rfl (pick_cons rfl (pick_cons rfl (pick_cons rfl (pick_cons rfl (pick_cons rfl (pick_cons rfl (pick_cons rfl (pick_cons rfl (pick_cons rfl (pick_cons rfl (pick_cons rfl (pick_cons rfl (pick_cons rfl (pick_cons rfl (pick_cons rfl (pick_cons rfl (pick_cons rfl (pick_cons rfl (pick_cons rfl pick_nil)))))))))))))))))))))))))))))))))))))) ?_; (repeat (go_big_quiet_step (fail))); refine wpQuiet_nil ?_; show ordWalk _ _ _ _ _ _ _)
  refine ord_fin ?_
  go_wp2_with fail
  have a1 := a0.drew
  have b1 := b0.drew
  have z1 := z0.drew
  have E1 := E0.drew
  clear p00 p01 p02 p03 p10 p11 p12 p13 X
  obtain ⟨w8, hw8⟩ : ∃ w8, w8 = w0.drew := ⟨_, rfl⟩
  rw [← hw8] at a1 b1 z1 E1 ⊢
  clear hw8 a0 b0 z0 E0
  have z0 := z1
  have E0 := E1
  have X : Ext w8 w8.drew := (Ext.refl w8).drew
  have p00 : ∀ y : Xt w8.drew, y.W.cell? ⟨w.heap.size, 0, none⟩ = some (.int .u8 (ka)) := fun y => (a1.ext (X.trans y.x)).cell 0
  have p01 : ∀ y : Xt w8.drew, y.W.cell? ⟨w.heap.size, 1, none⟩ = some (.bool (ba)) := fun y => (a1.ext (X.trans y.x)).cell 1
  have p02 : ∀ y : Xt w8.drew, y.W.cell? ⟨w.heap.size, 2, none⟩ = some (.int .i64 (na)) := fun y => (a1.ext (X.trans y.x)).cell 2
  have p03 : ∀ y : Xt w8.drew, y.W.cell? ⟨w.heap.size, 3, none⟩ = some (.string (sa)) := fun y => (a1.ext (X.trans y.x)).cell 3
  have p10 : ∀ y : Xt w8.drew, y.W.cell? ⟨w.heap.size + 1, 0, none⟩ = some (.int .u8 (kb)) := fun y => (b1.ext (X.trans y.x)).cell 0
  have p11 : ∀ y : Xt w8.drew, y.W.cell? ⟨w.heap.size + 1, 1, none⟩ = some (.bool (bb)) := fun y => (b1.ext (X.trans y.x)).cell 1
  have p12 : ∀ y : Xt w8.drew, y.W.cell? ⟨w.heap.size + 1, 2, none⟩ = some (.int .i64 (nb)) := fun y => (b1.ext (X.trans y.x)).cell 2
  have p13 : ∀ y : Xt w8.drew, y.W.cell? ⟨w.heap.size + 1, 3, none⟩ = some (.string (sb)) := fun y => (b1.ext (X.trans y.x)).cell 3
  refine wp_region_ord [0,0,2,0,0,24,63,127,127,511,1023] (.flo [0,1,3,4] (.both 2 5 (.ext 5 (.one 6 (.flo [7,8] (.one 9 (.flo [10] (.fin)))))) (.ext 2 (.one 6 (.flo [7,8] (.one 9 (.flo [10] (.fin)))))))) (by kernel_rfl) (by kernel_rfl) (by intro _ _ d _ _ h; cases d <;> exact h) ?_
  (refine ord_flo (pick_cons rfl (pick_cons rfl (pick_cons rfl (pick_cons rfl pick_nil)))) ?_; (repeat (go_big_quiet_step (fail))); refine wpQuiet_nil ?_; show ordWalk _ _ _ _ _ _ _)
  refine ord_both (pick_cons rfl pick_nil) (pick_cons rfl pick_nil) ?_ ?_ <;> intro K_ hK_
  · go_wp2_with (go_at_call 72; refine (over_any _ _).mono ?_; rintro e w9 ⟨rfl, rfl⟩)
    refine ordNext.mk (Ext.refl _) ?_
    refine ord_ext (pick_cons rfl pick_nil) ?_; intro K_ hK_
    go_wp2
    refine ordNext.mk ((Ext.refl _).alloc _) ?_
    refine ord_one (pick_cons rfl pick_nil) ?_; intro K_ hK_
    go_wp2_with (go_at_call 71; refine (numbers_at _ _ _ _ 2 [⟨ka, ba, na, sa⟩, ⟨kb, bb, nb, sb⟩] _ HR rfl (by omega) (Dats.two (by first | exact Bk.at (by simp) | exact (Bk.at (by simp)).drew)) (by simpa using ⟨hs, hs2⟩)).mono ?_; rintro e w2 ⟨rfl, x2⟩; have z2 : Bk w2 (w.heap.size + 1 + 1) 24 #[.int .u8 (0), .bool (false), .int .i64 (0), .string (⟨#[]⟩)] := (z0.ext ((X.alloc (.cells #[.int .u8 (ka), .bool (ba), .int .i64 (na), .string (sa), .int .u8 (kb), .bool (bb), .int .i64 (nb), .string (sb)] 24)).trans (by exact x2))); have z2f0 : w2.frozen? ⟨w.heap.size + 1 + 1, 0, none⟩ = false := z2.free 0; have z2f1 : w2.frozen? ⟨w.heap.size + 1 + 1, 1, none⟩ = false := z2.free 1; have z2f2 : w2.frozen? ⟨w.heap.size + 1 + 1, 2, none⟩ = false := z2.free 2; have z2f3 : w2.frozen? ⟨w.heap.size + 1 + 1, 3, none⟩ = false := z2.free 3; have z2c0 : w2.cell? ⟨w.heap.size + 1 + 1, 0, none⟩ = some (.int .u8 (0)) := z2.cell 0; have z2c1 : w2.cell? ⟨w.heap.size + 1 + 1, 1, none⟩ = some (.bool (false)) := z2.cell 1; have z2c2 : w2.cell? ⟨w.heap.size + 1 + 1, 2, none⟩ = some (.int .i64 (0)) := z2.cell 2; have z2c3 : w2.cell? ⟨w.heap.size + 1 + 1, 3, none⟩ = some (.string (⟨#[]⟩)) := z2.cell 3)
    (refine ord_flo (pick_cons rfl (pick_cons rfl pick_nil)) ?_; (repeat (go_big_quiet_step (fail))); refine wpQuiet_nil ?_; show ordWalk _ _ _ _ _ _ _)
    refine ord_one (pick_cons rfl pick_nil) ?_; intro K_ hK_
    go_wp2
    (refine ord_flo (pick_cons rfl pick_nil) ?_; (repeat (go_big_quiet_step (fail))); refine wpQuiet_nil ?_; show ordWalk _ _ _ _ _ _ _)
    refine ord_fin ?_
    go_wp2
    have q := z2.set4 (.int .u8 rk) (.bool rb) (.int .i64 rn) (.string rs)
    refine bodyPost_ret (v := .tuple #[.agg #[.int .u8 rk, .bool rb, .int .i64 rn, .string rs], .int .i64 re]) (by simp [results, Tryd.results35, go_sem, q.1, q.2.1, q.2.2.1, q.2.2.2]) rfl ⟨rfl, Ext.set4 (E0.trans ((X.alloc (.cells #[.int .u8 (ka), .bool (ba), .int .i64 (na), .string (sa), .int .u8 (kb), .bool (bb), .int .i64 (nb), .string (sb)] 24)).trans (by exact x2))) (by first | omega | simp) _ _ _ _⟩
  · go_wp2
    refine ordNext.mk ((Ext.refl _).alloc _) ?_
    refine ord_ext (pick_cons rfl pick_nil) ?_; intro K_ hK_
    go_wp2_with (go_at_call 72; refine (over_any _ _).mono ?_; rintro e w9 ⟨rfl, rfl⟩)
    refine ordNext.mk (Ext.refl _) ?_
    refine ord_one (pick_cons rfl pick_nil) ?_; intro K_ hK_
    go_wp2_with (go_at_call 71; refine (numbers_at _ _ _ _ 2 [⟨ka, ba, na, sa⟩, ⟨kb, bb, nb, sb⟩] _ HR rfl (by omega) (Dats.two (by first | exact Bk.at (by simp) | exact (Bk.at (by simp)).drew)) (by simpa using ⟨hs, hs2⟩)).mono ?_; rintro e w2 ⟨rfl, x2⟩; have z2 : Bk w2 (w.heap.size + 1 + 1) 24 #[.int .u8 (0), .bool (false), .int .i64 (0), .string (⟨#[]⟩)] := (z0.ext ((X.alloc (.cells #[.int .u8 (ka), .bool (ba), .int .i64 (na), .string (sa), .int .u8 (kb), .bool (bb), .int .i64 (nb), .string (sb)] 24)).trans (by exact x2))); have z2f0 : w2.frozen? ⟨w.heap.size + 1 + 1, 0, none⟩ = false := z2.free 0; have z2f1 : w2.frozen? ⟨w.heap.size + 1 + 1, 1, none⟩ = false := z2.free 1; have z2f2 : w2.frozen? ⟨w.heap.size + 1 + 1, 2, none⟩ = false := z2.free 2; have z2f3 : w2.frozen? ⟨w.heap.size + 1 + 1, 3, none⟩ = false := z2.free 3; have z2c0 : w2.cell? ⟨w.heap.size + 1 + 1, 0, none⟩ = some (.int .u8 (0)) := z2.cell 0; have z2c1 : w2.cell? ⟨w.heap.size + 1 + 1, 1, none⟩ = some (.bool (false)) := z2.cell 1; have z2c2 : w2.cell? ⟨w.heap.size + 1 + 1, 2, none⟩ = some (.int .i64 (0)) := z2.cell 2; have z2c3 : w2.cell? ⟨w.heap.size + 1 + 1, 3, none⟩ = some (.string (⟨#[]⟩)) := z2.cell 3)
    (refine ord_flo (pick_cons rfl (pick_cons rfl pick_nil)) ?_; (repeat (go_big_quiet_step (fail))); refine wpQuiet_nil ?_; show ordWalk _ _ _ _ _ _ _)
    refine ord_one (pick_cons rfl pick_nil) ?_; intro K_ hK_
    go_wp2
    (refine ord_flo (pick_cons rfl pick_nil) ?_; (repeat (go_big_quiet_step (fail))); refine wpQuiet_nil ?_; show ordWalk _ _ _ _ _ _ _)
    refine ord_fin ?_
    go_wp2
    have q := z2.set4 (.int .u8 rk) (.bool rb) (.int .i64 rn) (.string rs)
    refine bodyPost_ret (v := .tuple #[.agg #[.int .u8 rk, .bool rb, .int .i64 rn, .string rs], .int .i64 re]) (by simp [results, Tryd.results35, go_sem, q.1, q.2.1, q.2.2.1, q.2.2.2]) rfl ⟨rfl, Ext.set4 (E0.trans ((X.alloc (.cells #[.int .u8 (ka), .bool (ba), .int .i64 (na), .string (sa), .int .u8 (kb), .bool (bb), .int .i64 (nb), .string (sb)] 24)).trans (by exact x2))) (by first | omega | simp) _ _ _ _⟩
set_option maxRecDepth 100000 in
set_option maxHeartbeats 1600000 in
theorem rmul_b3z (ka na kb nb : Int) (ba bb : Bool) (sa sb : ByteArray) (c : Int) (w : World) (hs : sa.size ≤ 140737488355328) (hs2 : sb.size ≤ 140737488355328) (q : Int) (hw : wrap64 (na * nb) = c) (hq : wrap64 (c.tdiv na) = q) (f0 : (na == -1) = false) (f1 : (nb == -1) = false) (f2 : (na != 0) = false) :
    Calls Tryd.prog 35 #[.agg #[.int .u8 (ka), .bool (ba), .int .i64 (na), .string (sa)], .agg #[.int .u8 (kb), .bool (bb), .int .i64 (nb), .string (sb)]] w (RefOut w (applyR 3 [⟨ka, ba, na, sa⟩, ⟨kb, bb, nb, sb⟩] (numR c 0))) := by
  have hw2 : IntKind.i64.wrap (na * nb) = c := by rw [IntKind.wrap_i64]; simpa [wrap64] using hw
  have hq2 : IntKind.i64.wrap (c.tdiv na) = q := by rw [IntKind.wrap_i64]; simpa [wrap64] using hq
  obtain ⟨⟨⟨rk, rb, rn, rs⟩, re⟩, hr⟩ : ∃ r, applyR 3 [⟨ka, ba, na, sa⟩, ⟨kb, bb, nb, sb⟩] (numR c 0) = r := ⟨_, rfl⟩
  rw [hr]
  have HR := Lib.hid hr
  clear hr
  go_enter Tryd.func35, Tryd.ntmps35
  go_upto_region 2 with fail
  have a0 : Bk (((w.alloc (.cells #[.int .u8 (ka), .bool (ba), .int .i64 (na), .string (sa)] 24)).alloc (.cells #[.int .u8 (kb), .bool (bb), .int .i64 (nb), .string (sb)] 24)).alloc (.cells #[.int .u8 (0), .bool (false), .int .i64 (0), .string (⟨#[]⟩)] 24)) (w.heap.size) 24 #[.int .u8 (ka), .bool (ba), .int .i64 (na), .string (sa)] := ((Bk.at (by simp)).alloc _).alloc _
  have b0 : Bk (((w.alloc (.cells #[.int .u8 (ka), .bool (ba), .int .i64 (na), .string (sa)] 24)).alloc (.cells #[.int .u8 (kb), .bool (bb), .int .i64 (nb), .string (sb)] 24)).alloc (.cells #[.int .u8 (0), .bool (false), .int .i64 (0), .string (⟨#[]⟩)] 24)) (w.heap.size + 1) 24 #[.int .u8 (kb), .bool (bb), .int .i64 (nb), .string (sb)] := (Bk.at (by simp)).alloc _
  have z0 : Bk (((w.alloc (.cells #[.int .u8 (ka), .bool (ba), .int .i64 (na), .string (sa)] 24)).alloc (.cells #[.int .u8 (kb), .bool (bb), .int .i64 (nb), .string (sb)] 24)).alloc (.cells #[.int .u8 (0), .bool (false), .int .i64 (0), .string (⟨#[]⟩)] 24)) (w.heap.size + 1 + 1) 24 #[.int .u8 (0), .bool (false), .int .i64 (0), .string (⟨#[]⟩)] := Bk.at (by simp)
  have E0 : Ext w (((w.alloc (.cells #[.int .u8 (ka), .bool (ba), .int .i64 (na), .string (sa)] 24)).alloc (.cells #[.int .u8 (kb), .bool (bb), .int .i64 (nb), .string (sb)] 24)).alloc (.cells #[.int .u8 (0), .bool (false), .int .i64 (0), .string (⟨#[]⟩)] 24)) := (((Ext.refl w).alloc _).alloc _).alloc _
  obtain ⟨w0, hw0⟩ : ∃ w0, w0 = (((w.alloc (.cells #[.int .u8 (ka), .bool (ba), .int .i64 (na), .string (sa)] 24)).alloc (.cells #[.int .u8 (kb), .bool (bb), .int .i64 (nb), .string (sb)] 24)).alloc (.cells #[.int .u8 (0), .bool (false), .int .i64 (0), .string (⟨#[]⟩)] 24)) := ⟨_, rfl⟩
  rw [← hw0] at a0 b0 z0 E0 ⊢
  clear hw0
  have X : Ext w0 w0.drew := (Ext.refl w0).drew
  have p00 : ∀ y : Xt w0.drew, y.W.cell? ⟨w.heap.size, 0, none⟩ = some (.int .u8 (ka)) := fun y => (a0.ext (X.trans y.x)).cell 0
  have p01 : ∀ y : Xt w0.drew, y.W.cell? ⟨w.heap.size, 1, none⟩ = some (.bool (ba)) := fun y => (a0.ext (X.trans y.x)).cell 1
  have p02 : ∀ y : Xt w0.drew, y.W.cell? ⟨w.heap.size, 2, none⟩ = some (.int .i64 (na)) := fun y => (a0.ext (X.trans y.x)).cell 2
  have p03 : ∀ y : Xt w0.drew, y.W.cell? ⟨w.heap.size, 3, none⟩ = some (.string (sa)) := fun y => (a0.ext (X.trans y.x)).cell 3
  have p10 : ∀ y : Xt w0.drew, y.W.cell? ⟨w.heap.size + 1, 0, none⟩ = some (.int .u8 (kb)) := fun y => (b0.ext (X.trans y.x)).cell 0
  have p11 : ∀ y : Xt w0.drew, y.W.cell? ⟨w.heap.size + 1, 1, none⟩ = some (.bool (bb)) := fun y => (b0.ext (X.trans y.x)).cell 1
  have p12 : ∀ y : Xt w0.drew, y.W.cell? ⟨w.heap.size + 1, 2, none⟩ = some (.int .i64 (nb)) := fun y => (b0.ext (X.trans y.x)).cell 2
  have p13 : ∀ y : Xt w0.drew, y.W.cell? ⟨w.heap.size + 1, 3, none⟩ = some (.string (sb)) := fun y => (b0.ext (X.trans y.x)).cell 3
  refine wp_region_ord [0,1,3,7,15,31,63,127,255,511,1023,2047,4095,8191,16383,32767,65535,131071,262143,524287,1048575,2097151,4194303,8388607,16777215,33554431,67108863,134217727,268435455,268435455,805306367,2147483647,268435455,4563402751,17179869183,34359738367,68719476735,137438953471] (.flo [0,1,2,3,4,5,6,7,8,9,10,11,12,13,14,15,16,17,18,19,20,21,22,23,24,25,26,27,28,29,30,31,32,33,34,35,36,37] (.fin)) (by kernel_rfl) (by kernel_rfl) (by intro _ _ d _ _ h; cases d <;> exact h) ?_
  (refine ord_flo (pick_cons rfl (pick_cons rfl (pick_cons rfl (pick_cons rfl (pick_cons rfl (pick_cons rfl (pick_cons rfl (pick_cons rfl (pick_cons rfl (pick_cons rfl (pick_cons rfl (pick_cons rfl (pick_cons rfl (pick_cons rfl (pick_cons rfl (pick_cons rfl (pick_cons rfl (pick_cons rfl (pick_cons rfl (pick_cons rfl (pick_cons rfl (pick_cons rfl (pick_cons rfl (pick_cons rfl (pick_cons rfl (pick_cons rfl (pick_cons rfl (pick_cons rfl (pick_cons rfl (pick_cons rfl (pick_cons rfl (pick_cons rfl (pick_cons rfl (pick_cons rfl (pick_cons rfl (pick_cons rfl (pick_cons rfl (pick_cons rfl pick_nil)))))))))))))))))))))))))))))))))))))) ?_; (repeat (go_big_quiet_step (fail))); refine wpQuiet_nil ?_; show ordWalk _ _ _ _ _ _ _)
  refine ord_fin ?_
  go_wp2_with fail
  have a1 := a0.drew
  have b1 := b0.drew
  have z1 := z0.drew
  have E1 := E0.drew
  clear p00 p01 p02 p03 p10 p11 p12 p13 X
  obtain ⟨w8, hw8⟩ : ∃ w8, w8 = w0.drew := ⟨_, rfl⟩
  rw [← hw8] at a1 b1 z1 E1 ⊢
  clear hw8 a0 b0 z0 E0
  have z0 := z1
  have E0 := E1
  have X : Ext w8 w8.drew := (Ext.refl w8).drew
  have p00 : ∀ y : Xt w8.drew, y.W.cell? ⟨w.heap.size, 0, none⟩ = some (.int .u8 (ka)) := fun y => (a1.ext (X.trans y.x)).cell 0
  have p01 : ∀ y : Xt w8.drew, y.W.cell? ⟨w.heap.size, 1, none⟩ = some (.bool (ba)) := fun y => (a1.ext (X.trans y.x)).cell 1
  have p02 : ∀ y : Xt w8.drew, y.W.cell? ⟨w.heap.size, 2, none⟩ = some (.int .i64 (na)) := fun y => (a1.ext (X.trans y.x)).cell 2
  have p03 : ∀ y : Xt w8.drew, y.W.cell? ⟨w.heap.size, 3, none⟩ = some (.string (sa)) := fun y => (a1.ext (X.trans y.x)).cell 3
  have p10 : ∀ y : Xt w8.drew, y.W.cell? ⟨w.heap.size + 1, 0, none⟩ = some (.int .u8 (kb)) := fun y => (b1.ext (X.trans y.x)).cell 0
  have p11 : ∀ y : Xt w8.drew, y.W.cell? ⟨w.heap.size + 1, 1, none⟩ = some (.bool (bb)) := fun y => (b1.ext (X.trans y.x)).cell 1
  have p12 : ∀ y : Xt w8.drew, y.W.cell? ⟨w.heap.size + 1, 2, none⟩ = some (.int .i64 (nb)) := fun y => (b1.ext (X.trans y.x)).cell 2
  have p13 : ∀ y : Xt w8.drew, y.W.cell? ⟨w.heap.size + 1, 3, none⟩ = some (.string (sb)) := fun y => (b1.ext (X.trans y.x)).cell 3
  refine wp_region_ord [0,0,2,0,0,24,63,127,127,511,1023] (.flo [0,1,3,4] (.both 2 5 (.ext 5 (.one 6 (.flo [7,8] (.one 9 (.flo [10] (.fin)))))) (.ext 2 (.one 6 (.flo [7,8] (.one 9 (.flo [10] (.fin)))))))) (by kernel_rfl) (by kernel_rfl) (by intro _ _ d _ _ h; cases d <;> exact h) ?_
  (refine ord_flo (pick_cons rfl (pick_cons rfl (pick_cons rfl (pick_cons rfl pick_nil)))) ?_; (repeat (go_big_quiet_step (fail))); refine wpQuiet_nil ?_; show ordWalk _ _ _ _ _ _ _)
  refine ord_both (pick_cons rfl pick_nil) (pick_cons rfl pick_nil) ?_ ?_ <;> intro K_ hK_
  · go_wp2_with (go_at_call 72; refine (over_any _ _).mono ?_; rintro e w9 ⟨rfl, rfl⟩)
    refine ordNext.mk (Ext.refl _) ?_
    refine ord_ext (pick_cons rfl pick_nil) ?_; intro K_ hK_
    go_wp2
    refine ordNext.mk ((Ext.refl _).alloc _) ?_
    refine ord_one (pick_cons rfl pick_nil) ?_; intro K_ hK_
    go_wp2_with (go_at_call 71; refine (numbers_at _ _ _ _ 2 [⟨ka, ba, na, sa⟩, ⟨kb, bb, nb, sb⟩] _ HR rfl (by omega) (Dats.two (by first | exact Bk.at (by simp) | exact (Bk.at (by simp)).drew)) (by simpa using ⟨hs, hs2⟩)).mono ?_; rintro e w2 ⟨rfl, x2⟩; have z2 : Bk w2 (w.heap.size + 1 + 1) 24 #[.int .u8 (0), .bool (false), .int .i64 (0), .string (⟨#[]⟩)] := (z0.ext ((X.alloc (.cells #[.int .u8 (ka), .bool (ba), .int .i64 (na), .string (sa), .int .u8 (kb), .bool (bb), .int .i64 (nb), .string (sb)] 24)).trans (by exact x2))); have z2f0 : w2.frozen? ⟨w.heap.size + 1 + 1, 0, none⟩ = false := z2.free 0; have z2f1 : w2.frozen? ⟨w.heap.size + 1 + 1, 1, none⟩ = false := z2.free 1; have z2f2 : w2.frozen? ⟨w.heap.size + 1 + 1, 2, none⟩ = false := z2.free 2; have z2f3 : w2.frozen? ⟨w.heap.size + 1 + 1, 3, none⟩ = false := z2.free 3; have z2c0 : w2.cell? ⟨w.heap.size + 1 + 1, 0, none⟩ = some (.int .u8 (0)) := z2.cell 0; have z2c1 : w2.cell? ⟨w.heap.size + 1 + 1, 1, none⟩ = some (.bool (false)) := z2.cell 1; have z2c2 : w2.cell? ⟨w.heap.size + 1 + 1, 2, none⟩ = some (.int .i64 (0)) := z2.cell 2; have z2c3 : w2.cell? ⟨w.heap.size + 1 + 1, 3, none⟩ = some (.string (⟨#[]⟩)) := z2.cell 3)
    (refine ord_flo (pick_cons rfl (pick_cons rfl pick_nil)) ?_; (repeat (go_big_quiet_step (fail))); refine wpQuiet_nil ?_; show ordWalk _ _ _ _ _ _ _)
    refine ord_one (pick_cons rfl pick_nil) ?_; intro K_ hK_
    go_wp2
    (refine ord_flo (pick_cons rfl pick_nil) ?_; (repeat (go_big_quiet_step (fail))); refine wpQuiet_nil ?_; show ordWalk _ _ _ _ _ _ _)
    refine ord_fin ?_
    go_wp2
    have q := z2.set4 (.int .u8 rk) (.bool rb) (.int .i64 rn) (.string rs)
    refine bodyPost_ret (v := .tuple #[.agg #[.int .u8 rk, .bool rb, .int .i64 rn, .string rs], .int .i64 re]) (by simp [results, Tryd.results35, go_sem, q.1, q.2.1, q.2.2.1, q.2.2.2]) rfl ⟨rfl, Ext.set4 (E0.trans ((X.alloc (.cells #[.int .u8 (ka), .bool (ba), .int .i64 (na), .string (sa), .int .u8 (kb), .bool (bb), .int .i64 (nb), .string (sb)] 24)).trans (by exact x2))) (by first | omega | simp) _ _ _ _⟩
  · go_wp2
    refine ordNext.mk ((Ext.refl _).alloc _) ?_
    refine ord_ext (pick_cons rfl pick_nil) ?_; intro K_ hK_
    go_wp2_with (go_at_call 72; refine (over_any _ _).mono ?_; rintro e w9 ⟨rfl, rfl⟩)
    refine ordNext.mk (Ext.refl _) ?_
    refine ord_one (pick_cons rfl pick_nil) ?_; intro K_ hK_
    go_wp2_with (go_at_call 71; refine (numbers_at _ _ _ _ 2 [⟨ka, ba, na, sa⟩, ⟨kb, bb, nb, sb⟩] _ HR rfl (by omega) (Dats.two (by first | exact Bk.at (by simp) | exact (Bk.at (by simp)).drew)) (by simpa using ⟨hs, hs2⟩)).mono ?_; rintro e w2 ⟨rfl, x2⟩; have z2 : Bk w2 (w.heap.size + 1 + 1) 24 #[.int .u8 (0), .bool (false), .int .i64 (0), .string (⟨#[]⟩)] := (z0.ext ((X.alloc (.cells #[.int .u8 (ka), .bool (ba), .int .i64 (na), .string (sa), .int .u8 (kb), .bool (bb), .int .i64 (nb), .string (sb)] 24)).trans (by exact x2))); have z2f0 : w2.frozen? ⟨w.heap.size + 1 + 1, 0, none⟩ = false := z2.free 0; have z2f1 : w2.frozen? ⟨w.heap.size + 1 + 1, 1, none⟩ = false := z2.free 1; have z2f2 : w2.frozen? ⟨w.heap.size + 1 + 1, 2, none⟩ = false := z2.free 2; have z2f3 : w2.frozen? ⟨w.heap.size + 1 + 1, 3, none⟩ = false := z2.free 3; have z2c0 : w2.cell? ⟨w.heap.size + 1 + 1, 0, none⟩ = some (.int .u8 (0)) := z2.cell 0; have z2c1 : w2.cell? ⟨w.heap.size + 1 + 1, 1, none⟩ = some (.bool (false)) := z2.cell 1; have z2c2 : w2.cell? ⟨w.heap.size + 1 + 1, 2, none⟩ = some (.int .i64 (0)) := z2.cell 2; have z2c3 : w2.cell? ⟨w.heap.size + 1 + 1, 3, none⟩ = some (.string (⟨#[]⟩)) := z2.cell 3)
    (refine ord_flo (pick_cons rfl (pick_cons rfl pick_nil)) ?_; (repeat (go_big_quiet_step (fail))); refine wpQuiet_nil ?_; show ordWalk _ _ _ _ _ _ _)
    refine ord_one (pick_cons rfl pick_nil) ?_; intro K_ hK_
    go_wp2
    (refine ord_flo (pick_cons rfl pick_nil) ?_; (repeat (go_big_quiet_step (fail))); refine wpQuiet_nil ?_; show ordWalk _ _ _ _ _ _ _)
    refine ord_fin ?_
    go_wp2
    have q := z2.set4 (.int .u8 rk) (.bool rb) (.int .i64 rn) (.string rs)
    refine bodyPost_ret (v := .tuple #[.agg #[.int .u8 rk, .bool rb, .int .i64 rn, .string rs], .int .i64 re]) (by simp [results, Tryd.results35, go_sem, q.1, q.2.1, q.2.2.1, q.2.2.2]) rfl ⟨rfl, Ext.set4 (E0.trans ((X.alloc (.cells #[.int .u8 (ka), .bool (ba), .int .i64 (na), .string (sa), .int .u8 (kb), .bool (bb), .int .i64 (nb), .string (sb)] 24)).trans (by exact x2))) (by first | omega | simp) _ _ _ _⟩
set_option maxRecDepth 100000 in
set_option maxHeartbeats 1600000 in
theorem rmul_b3t (ka na kb nb : Int) (ba bb : Bool) (sa sb : ByteArray) (c : Int) (w : World) (hs : sa.size ≤ 140737488355328) (hs2 : sb.size ≤ 140737488355328) (q : Int) (hw : wrap64 (na * nb) = c) (hq : wrap64 (c.tdiv na) = q) (f0 : (na == -1) = false) (f1 : (nb == -1) = false) (f2 : (na != 0) = true) (f3 : (na != -1) = true) (f4 : (q != nb) = true) :
    Calls Tryd.prog 35 #[.agg #[.int .u8 (ka), .bool (ba), .int .i64 (na), .string (sa)], .agg #[.int .u8 (kb), .bool (bb), .int .i64 (nb), .string (sb)]] w (RefOut w (applyR 3 [⟨ka, ba, na, sa⟩, ⟨kb, bb, nb, sb⟩] (numR c 10))) := by
  have hw2 : IntKind.i64.wrap (na * nb) = c := by rw [IntKind.wrap_i64]; simpa [wrap64] using hw
  have hq2 : IntKind.i64.wrap (c.tdiv na) = q := by rw [IntKind.wrap_i64]; simpa [wrap64] using hq
  have hn0 : ¬ na = 0 := by simpa using f2
  obtain ⟨⟨⟨rk, rb, rn, rs⟩, re⟩, hr⟩ : ∃ r, applyR 3 [⟨ka, ba, na, sa⟩, ⟨kb, bb, nb, sb⟩] (numR c 10) = r := ⟨_, rfl⟩
  rw [hr]
  have HR := Lib.hid hr
  clear hr
  go_enter Tryd.func35, Tryd.ntmps35
  go_upto_region 2 with fail
  have a0 : Bk (((w.alloc (.cells #[.int .u8 (ka), .bool (ba), .int .i64 (na), .string (sa)] 24)).alloc (.cells #[.int .u8 (kb), .bool (bb), .int .i64 (nb), .string (sb)] 24)).alloc (.cells #[.int .u8 (0), .bool (false), .int .i64 (0), .string (⟨#[]⟩)] 24)) (w.heap.size) 24 #[.int .u8 (ka), .bool (ba), .int .i64 (na), .string (sa)] := ((Bk.at (by simp)).alloc _).alloc _
  have b0 : Bk (((w.alloc (.cells #[.int .u8 (ka), .bool (ba), .int .i64 (na), .string (sa)] 24)).alloc (.cells #[.int .u8 (kb), .bool (bb), .int .i64 (nb), .string (sb)] 24)).alloc (.cells #[.int .u8 (0), .bool (false), .int .i64 (0), .string (⟨#[]⟩)] 24)) (w.heap.size + 1) 24 #[.int .u8 (kb), .bool (bb), .int .i64 (nb), .string (sb)] := (Bk.at (by simp)).alloc _
  have z0 : Bk (((w.alloc (.cells #[.int .u8 (ka), .bool (ba), .int .i64 (na), .string (sa)] 24)).alloc (.cells #[.int .u8 (kb), .bool (bb), .int .i64 (nb), .string (sb)] 24)).alloc (.cells #[.int .u8 (0), .bool (false), .int .i64 (0), .string (⟨#[]⟩)] 24)) (w.heap.size + 1 + 1) 24 #[.int .u8 (0), .bool (false), .int .i64 (0), .string (⟨#[]⟩)] := Bk.at (by simp)
  have E0 : Ext w (((w.alloc (.cells #[.int .u8 (ka), .bool (ba), .int .i64 (na), .string (sa)] 24)).alloc (.cells #[.int .u8 (kb), .bool (bb), .int .i64 (nb), .string (sb)] 24)).alloc (.cells #[.int .u8 (0), .bool (false), .int .i64 (0), .string (⟨#[]⟩)] 24)) := (((Ext.refl w).alloc _).alloc _).alloc _
  obtain ⟨w0, hw0⟩ : ∃ w0, w0 = (((w.alloc (.cells #[.int .u8 (ka), .bool (ba), .int .i64 (na), .string (sa)] 24)).alloc (.cells #[.int .u8 (kb), .bool (bb), .int .i64 (nb), .string (sb)] 24)).alloc (.cells #[.int .u8 (0), .bool (false), .int .i64 (0), .string (⟨#[]⟩)] 24)) := ⟨_, rfl⟩
  rw [← hw0] at a0 b0 z0 E0 ⊢
  clear hw0
  have X : Ext w0 w0.drew := (Ext.refl w0).drew
  have p00 : ∀ y : Xt w0.drew, y.W.cell? ⟨w.heap.size, 0, none⟩ = some (.int .u8 (ka)) := fun y => (a0.ext (X.trans y.x)).cell 0
  have p01 : ∀ y : Xt w0.drew, y.W.cell? ⟨w.heap.size, 1, none⟩ = some (.bool (ba)) := fun y => (a0.ext (X.trans y.x)).cell 1
  have p02 : ∀ y : Xt w0.drew, y.W.cell? ⟨w.heap.size, 2, none⟩ = some (.int .i64 (na)) := fun y => (a0.ext (X.trans y.x)).cell 2
  have p03 : ∀ y : Xt w0.drew, y.W.cell? ⟨w.heap.size, 3, none⟩ = some (.string (sa)) := fun y => (a0.ext (X.trans y.x)).cell 3
  have p10 : ∀ y : Xt w0.drew, y.W.cell? ⟨w.heap.size + 1, 0, none⟩ = some (.int .u8 (kb)) := fun y => (b0.ext (X.trans y.x)).cell 0
  have p11 : ∀ y : Xt w0.drew, y.W.cell? ⟨w.heap.size + 1, 1, none⟩ = some (.bool (bb)) := fun y => (b0.ext (X.trans y.x)).cell 1
  have p12 : ∀ y : Xt w0.drew, y.W.cell? ⟨w.heap.size + 1, 2, none⟩ = some (.int .i64 (nb)) := fun y => (b0.ext (X.trans y.x)).cell 2
  have p13 : ∀ y : Xt w0.drew, y.W.cell? ⟨w.heap.size + 1, 3, none⟩ = some (.string (sb)) := fun y => (b0.ext (X.trans y.x)).cell 3
  refine wp_region_ord [0,1,3,7,15,31,63,127,255,511,1023,2047,4095,8191,16383,32767,65535,131071,262143,524287,1048575,2097151,4194303,8388607,16777215,33554431,67108863,134217727,268435455,268435455,805306367,2147483647,268435455,4563402751,17179869183,34359738367,68719476735,137438953471] (.flo [0,1,2,3,4,5,6,7,8,9,10,11,12,13,14,15,16,17,18,19,20,21,22,23,24,25,26,27,28,29,30,31,32,33,34,35,36,37] (.fin)) (by kernel_rfl) (by kernel_rfl) (by intro _ _ d _ _ h; cases d <;> exact h) ?_
  (refine ord_flo (pick_cons rfl (pick_cons rfl (pick_cons rfl (pick_cons rfl (pick_cons rfl (pick_cons rfl (pick_cons rfl (pick_cons rfl (pick_cons rfl (pick_cons rfl (pick_cons rfl (pick_cons rfl (pick_cons rfl (pick_cons rfl (pick_cons rfl (pick_cons rfl (pick_cons rfl (pick_cons rfl (pick_cons rfl (pick_cons rfl (pick_cons rfl (pick_cons rfl (pick_cons rfl (pick_cons rfl (pick_cons rfl (pick_cons rfl (pick_cons rfl (pick_cons rfl (pick_cons rfl (pick_cons rfl (pick_cons rfl (pick_cons rfl (pick_cons rfl (pick_cons rfl (pick_cons rfl (pick_cons rfl (pick_cons rfl (pick_cons rfl pick_nil)))))))))))))))))))))))))))))))))))))) ?_; (repeat (go_big_quiet_step (fail))); refine wpQuiet_nil ?_; show ordWalk _ _ _ _ _ _ _)
  refine ord_fin ?_
  go_wp2_with fail
  have a1 := a0.drew
  have b1 := b0.drew
  have z1 := z0.drew
  have E1 := E0.drew
  clear p00 p01 p02 p03 p10 p11 p12 p13 X
  obtain ⟨w8, hw8⟩ : ∃ w8, w8 = w0.drew := ⟨_, rfl⟩
  rw [← hw8] at a1 b1 z1 E1 ⊢
  clear hw8 a0 b0 z0 E0
  have z0 := z1
  have E0 := E1
  have X : Ext w8 w8.drew := (Ext.refl w8).drew
  have p00 : ∀ y : Xt w8.drew, y.W.cell? ⟨w.heap.size, 0, none⟩ = some (.int .u8 (ka)) := fun y => (a1.ext (X.trans y.x)).cell 0
  have p01 : ∀ y : Xt w8.drew, y.W.cell? ⟨w.heap.size, 1, none⟩ = some (.bool (ba)) := fun y => (a1.ext (X.trans y.x)).cell 1
  have p02 : ∀ y : Xt w8.drew, y.W.cell? ⟨w.heap.size, 2, none⟩ = some (.int .i64 (na)) := fun y => (a1.ext (X.trans y.x)).cell 2
  have p03 : ∀ y : Xt w8.drew, y.W.cell? ⟨w.heap.size, 3, none⟩ = some (.string (sa)) := fun y => (a1.ext (X.trans y.x)).cell 3
  have p10 : ∀ y : Xt w8.drew, y.W.cell? ⟨w.heap.size + 1, 0, none⟩ = some (.int .u8 (kb)) := fun y => (b1.ext (X.trans y.x)).cell 0
  have p11 : ∀ y : Xt w8.drew, y.W.cell? ⟨w.heap.size + 1, 1, none⟩ = some (.bool (bb)) := fun y => (b1.ext (X.trans y.x)).cell 1
  have p12 : ∀ y : Xt w8.drew, y.W.cell? ⟨w.heap.size + 1, 2, none⟩ = some (.int .i64 (nb)) := fun y => (b1.ext (X.trans y.x)).cell 2
  have p13 : ∀ y : Xt w8.drew, y.W.cell? ⟨w.heap.size + 1, 3, none⟩ = some (.string (sb)) := fun y => (b1.ext (X.trans y.x)).cell 3
  refine wp_region_ord [0,0,2,0,0,24,63,127,127,511,1023] (.flo [0,1,3,4] (.both 2 5 (.ext 5 (.one 6 (.flo [7,8] (.one 9 (.flo [10] (.fin)))))) (.ext 2 (.one 6 (.flo [7,8] (.one 9 (.flo [10] (.fin)))))))) (by kernel_rfl) (by kernel_rfl) (by intro _ _ d _ _ h; cases d <;> exact h) ?_
  (refine ord_flo (pick_cons rfl (pick_cons rfl (pick_cons rfl (pick_cons rfl pick_nil)))) ?_; (repeat (go_big_quiet_step (fail))); refine wpQuiet_nil ?_; show ordWalk _ _ _ _ _ _ _)
  refine ord_both (pick_cons rfl pick_nil) (pick_cons rfl pick_nil) ?_ ?_ <;> intro K_ hK_
  · go_wp2_with (go_at_call 72; refine (over_any _ _).mono ?_; rintro e w9 ⟨rfl, rfl⟩)
    refine ordNext.mk (Ext.refl _) ?_
    refine ord_ext (pick_cons rfl pick_nil) ?_; intro K_ hK_
    go_wp2
    refine ordNext.mk ((Ext.refl _).alloc _) ?_
    refine ord_one (pick_cons rfl pick_nil) ?_; intro K_ hK_
    go_wp2_with (go_at_call 71; refine (numbers_at _ _ _ _ 2 [⟨ka, ba, na, sa⟩, ⟨kb, bb, nb, sb⟩] _ HR rfl (by omega) (Dats.two (by first | exact Bk.at (by simp) | exact (Bk.at (by simp)).drew)) (by simpa using ⟨hs, hs2⟩)).mono ?_; rintro e w2 ⟨rfl, x2⟩; have z2 : Bk w2 (w.heap.size + 1 + 1) 24 #[.int .u8 (0), .bool (false), .int .i64 (0), .string (⟨#[]⟩)] := (z0.ext ((X.alloc (.cells #[.int .u8 (ka), .bool (ba), .int .i64 (na), .string (sa), .int .u8 (kb), .bool (bb), .int .i64 (nb), .string (sb)] 24)).trans (by exact x2))); have z2f0 : w2.frozen? ⟨w.heap.size + 1 + 1, 0, none⟩ = false := z2.free 0; have z2f1 : w2.frozen? ⟨w.heap.size + 1 + 1, 1, none⟩ = false := z2.free 1; have z2f2 : w2.frozen? ⟨w.heap.size + 1 + 1, 2, none⟩ = false := z2.free 2; have z2f3 : w2.frozen? ⟨w.heap.size + 1 + 1, 3, none⟩ = false := z2.free 3; have z2c0 : w2.cell? ⟨w.heap.size + 1 + 1, 0, none⟩ = some (.int .u8 (0)) := z2.cell 0; have z2c1 : w2.cell? ⟨w.heap.size + 1 + 1, 1, none⟩ = some (.bool (false)) := z2.cell 1; have z2c2 : w2.cell? ⟨w.heap.size + 1 + 1, 2, none⟩ = some (.int .i64 (0)) := z2.cell 2; have z2c3 : w2.cell? ⟨w.heap.size + 1 + 1, 3, none⟩ = some (.string (⟨#[]⟩)) := z2.cell 3)
    (refine ord_flo (pick_cons rfl (pick_cons rfl pick_nil)) ?_; (repeat (go_big_quiet_step (fail))); refine wpQuiet_nil ?_; show ordWalk _ _ _ _ _ _ _)
    refine ord_one (pick_cons rfl pick_nil) ?_; intro K_ hK_
    go_wp2
    (refine ord_flo (pick_cons rfl pick_nil) ?_; (repeat (go_big_quiet_step (fail))); refine wpQuiet_nil ?_; show ordWalk _ _ _ _ _ _ _)
    refine ord_fin ?_
    go_wp2
    have q := z2.set4 (.int .u8 rk) (.bool rb) (.int .i64 rn) (.string rs)
    refine bodyPost_ret (v := .tuple #[.agg #[.int .u8 rk, .bool rb, .int .i64 rn, .string rs], .int .i64 re]) (by simp [results, Tryd.results35, go_sem, q.1, q.2.1, q.2.2.1, q.2.2.2]) rfl ⟨rfl, Ext.set4 (E0.trans ((X.alloc (.cells #[.int .u8 (ka), .bool (ba), .int .i64 (na), .string (sa), .int .u8 (kb), .bool (bb), .int .i64 (nb), .string (sb)] 24)).trans (by exact x2))) (by first | omega | simp) _ _ _ _⟩
  · go_wp2
    refine ordNext.mk ((Ext.refl _).alloc _) ?_
    refine ord_ext (pick_cons rfl pick_nil) ?_; intro K_ hK_
    go_wp2_with (go_at_call 72; refine (over_any _ _).mono ?_; rintro e w9 ⟨rfl, rfl⟩)
    refine ordNext.mk (Ext.refl _) ?_
    refine ord_one (pick_cons rfl pick_nil) ?_; intro K_ hK_
    go_wp2_with (go_at_call 71; refine (numbers_at _ _ _ _ 2 [⟨ka, ba, na, sa⟩, ⟨kb, bb, nb, sb⟩] _ HR rfl (by omega) (Dats.two (by first | exact Bk.at (by simp) | exact (Bk.at (by simp)).drew)) (by simpa using ⟨hs, hs2⟩)).mono ?_; rintro e w2 ⟨rfl, x2⟩; have z2 : Bk w2 (w.heap.size + 1 + 1) 24 #[.int .u8 (0), .bool (false), .int .i64 (0), .string (⟨#[]⟩)] := (z0.ext ((X.alloc (.cells #[.int .u8 (ka), .bool (ba), .int .i64 (na), .string (sa), .int .u8 (kb), .bool (bb), .int .i64 (nb), .string (sb)] 24)).trans (by exact x2))); have z2f0 : w2.frozen? ⟨w.heap.size + 1 + 1, 0, none⟩ = false := z2.free 0; have z2f1 : w2.frozen? ⟨w.heap.size + 1 + 1, 1, none⟩ = false := z2.free 1; have z2f2 : w2.frozen? ⟨w.heap.size + 1 + 1, 2, none⟩ = false := z2.free 2; have z2f3 : w2.frozen? ⟨w.heap.size + 1 + 1, 3, none⟩ = false := z2.free 3; have z2c0 : w2.cell? ⟨w.heap.size + 1 + 1, 0, none⟩ = some (.int .u8 (0)) := z2.cell 0; have z2c1 : w2.cell? ⟨w.heap.size + 1 + 1, 1, none⟩ = some (.bool (false)) := z2.cell 1; have z2c2 : w2.cell? ⟨w.heap.size + 1 + 1, 2, none⟩ = some (.int .i64 (0)) := z2.cell 2; have z2c3 : w2.cell? ⟨w.heap.size + 1 + 1, 3, none⟩ = some (.string (⟨#[]⟩)) := z2.cell 3)
    (refine ord_flo (pick_cons rfl (pick_cons rfl pick_nil)) ?_; (repeat (go_big_quiet_step (fail))); refine wpQuiet_nil ?_; show ordWalk _ _ _ _ _ _ _)
    refine ord_one (pick_cons rfl pick_nil) ?_; intro K_ hK_
    go_wp2
    (refine ord_flo (pick_cons rfl pick_nil) ?_; (repeat (go_big_quiet_step (fail))); refine wpQuiet_nil ?_; show ordWalk _ _ _ _ _ _ _)
    refine ord_fin ?_
    go_wp2
    have q := z2.set4 (.int .u8 rk) (.bool rb) (.int .i64 rn) (.string rs)
    refine bodyPost_ret (v := .tuple #[.agg #[.int .u8 rk, .bool rb, .int .i64 rn, .string rs], .int .i64 re]) (by simp [results, Tryd.results35, go_sem, q.1, q.2.1, q.2.2.1, q.2.2.2]) rfl ⟨rfl, Ext.set4 (E0.trans ((X.alloc (.cells #[.int .u8 (ka), .bool (ba), .int .i64 (na), .string (sa), .int .u8 (kb), .bool (bb), .int .i64 (nb), .string (sb)] 24)).trans (by exact x2))) (by first | omega | simp) _ _ _ _⟩
set_option maxRecDepth 100000 in
set_option maxHeartbeats 1600000 in
theorem rmul_b3f (ka na kb nb : Int) (ba bb : Bool) (sa sb : ByteArray) (c : Int) (w : World) (hs : sa.size ≤ 140737488355328) (hs2 : sb.size ≤ 140737488355328) (q : Int) (hw : wrap64 (na * nb) = c) (hq : wrap64 (c.tdiv na) = q) (f0 : (na == -1) = false) (f1 : (nb == -1) = false) (f2 : (na != 0) = true) (f3 : (na != -1) = true) (f4 : (q != nb) = false) :
    Calls Tryd.prog 35 #[.agg #[.int .u8 (ka), .bool (ba), .int .i64 (na), .string (sa)], .agg #[.int .u8 (kb), .bool (bb), .int .i64 (nb), .string (sb)]] w (RefOut w (applyR 3 [⟨ka, ba, na, sa⟩, ⟨kb, bb, nb, sb⟩] (numR c 0))) := by
  have hw2 : IntKind.i64.wrap (na * nb) = c := by rw [IntKind.wrap_i64]; simpa [wrap64] using hw
  have hq2 : IntKind.i64.wrap (c.tdiv na) = q := by rw [IntKind.wrap_i64]; simpa [wrap64] using hq
  have hn0 : ¬ na = 0 := by simpa using f2
  obtain ⟨⟨⟨rk, rb, rn, rs⟩, re⟩, hr⟩ : ∃ r, applyR 3 [⟨ka, ba, na, sa⟩, ⟨kb, bb, nb, sb⟩] (numR c 0) = r := ⟨_, rfl⟩
  rw [hr]
  have HR := Lib.hid hr
  clear hr
  go_enter Tryd.func35, Tryd.ntmps35
  go_upto_region 2 with fail
  have a0 : Bk (((w.alloc (.cells #[.int .u8 (ka), .bool (ba), .int .i64 (na), .string (sa)] 24)).alloc (.cells #[.int .u8 (kb), .bool (bb), .int .i64 (nb), .string (sb)] 24)).alloc (.cells #[.int .u8 (0), .bool (false), .int .i64 (0), .string (⟨#[]⟩)] 24)) (w.heap.size) 24 #[.int .u8 (ka), .bool (ba), .int .i64 (na), .string (sa)] := ((Bk.at (by simp)).alloc _).alloc _
  have b0 : Bk (((w.alloc (.cells #[.int .u8 (ka), .bool (ba), .int .i64 (na), .string (sa)] 24)).alloc (.cells #[.int .u8 (kb), .bool (bb), .int .i64 (nb), .string (sb)] 24)).alloc (.cells #[.int .u8 (0), .bool (false), .int .i64 (0), .string (⟨#[]⟩)] 24)) (w.heap.size + 1) 24 #[.int .u8 (kb), .bool (bb), .int .i64 (nb), .string (sb)] := (Bk.at (by simp)).alloc _
  have z0 : Bk (((w.alloc (.cells #[.int .u8 (ka), .bool (ba), .int .i64 (na), .string (sa)] 24)).alloc (.cells #[.int .u8 (kb), .bool (bb), .int .i64 (nb), .string (sb)] 24)).alloc (.cells #[.int .u8 (0), .bool (false), .int .i64 (0), .string (⟨#[]⟩)] 24)) (w.heap.size + 1 + 1) 24 #[.int .u8 (0), .bool (false), .int .i64 (0), .string (⟨#[]⟩)] := Bk.at (by simp)
  have E0 : Ext w (((w.alloc (.cells #[.int .u8 (ka), .bool (ba), .int .i64 (na), .string (sa)] 24)).alloc (.cells #[.int .u8 (kb), .bool (bb), .int .i64 (nb), .string (sb)] 24)).alloc (.cells #[.int .u8 (0), .bool (false), .int .i64 (0), .string (⟨#[]⟩)] 24)) := (((Ext.refl w).alloc _).alloc _).alloc _
  obtain ⟨w0, hw0⟩ : ∃ w0, w0 = (((w.alloc (.cells #[.int .u8 (ka), .bool (ba), .int .i64 (na), .string (sa)] 24)).alloc (.cells #[.int .u8 (kb), .bool (bb), .int .i64 (nb), .string (sb)] 24)).alloc (.cells #[.int .u8 (0), .bool (false), .int .i64 (0), .string (⟨#[]⟩)] 24)) := ⟨_, rfl⟩
  rw [← hw0] at a0 b0 z0 E0 ⊢
  clear hw0
  have X : Ext w0 w0.drew := (Ext.refl w0).drew
  have p00 : ∀ y : Xt w0.drew, y.W.cell? ⟨w.heap.size, 0, none⟩ = some (.int .u8 (ka)) := fun y => (a0.ext (X.trans y.x)).cell 0
  have p01 : ∀ y : Xt w0.drew, y.W.cell? ⟨w.heap.size, 1, none⟩ = some (.bool (ba)) := fun y => (a0.ext (X.trans y.x)).cell 1
  have p02 : ∀ y : Xt w0.drew, y.W.cell? ⟨w.heap.size, 2, none⟩ = some (.int .i64 (na)) := fun y => (a0.ext (X.trans y.x)).cell 2
  have p03 : ∀ y : Xt w0.drew, y.W.cell? ⟨w.heap.size, 3, none⟩ = some (.string (sa)) := fun y => (a0.ext (X.trans y.x)).cell 3
  have p10 : ∀ y : Xt w0.drew, y.W.cell? ⟨w.heap.size + 1, 0, none⟩ = some (.int .u8 (kb)) := fun y => (b0.ext (X.trans y.x)).cell 0
  have p11 : ∀ y : Xt w0.drew, y.W.cell? ⟨w.heap.size + 1, 1, none⟩ = some (.bool (bb)) := fun y => (b0.ext (X.trans y.x)).cell 1
  have p12 : ∀ y : Xt w0.drew, y.W.cell? ⟨w.heap.size + 1, 2, none⟩ = some (.int .i64 (nb)) := fun y => (b0.ext (X.trans y.x)).cell 2
  have p13 : ∀ y : Xt w0.drew, y.W.cell? ⟨w.heap.size + 1, 3, none⟩ = some (.string (sb)) := fun y => (b0.ext (X.trans y.x)).cell 3
  refine wp_region_ord [0,1,3,7,15,31,63,127,255,511,1023,2047,4095,8191,16383,32767,65535,131071,262143,524287,1048575,2097151,4194303,8388607,16777215,33554431,67108863,134217727,268435455,268435455,805306367,2147483647,268435455,4563402751,17179869183,34359738367,68719476735,137438953471] (.flo [0,1,2,3,4,5,6,7,8,9,10,11,12,13,14,15,16,17,18,19,20,21,22,23,24,25,26,27,28,29,30,31,32,33,34,35,36,37] (.fin)) (by kernel_rfl) (by kernel_rfl) (by intro _ _ d _ _ h; cases d <;> exact h) ?_
  (refine ord_flo (pick_cons rfl (pick_cons rfl (pick_cons rfl (pick_cons rfl (pick_cons rfl (pick_cons rfl (pick_cons rfl (pick_cons rfl (pick_cons rfl (pick_cons rfl (pick_cons rfl (pick_cons rfl (pick_cons rfl (pick_cons rfl (pick_cons rfl (pick_cons rfl (pick_cons rfl (pick_cons rfl (pick_cons rfl (pick_cons rfl (pick_cons rfl (pick_cons rfl (pick_cons rfl (pick_cons rfl (pick_cons rfl (pick_cons rfl (pick_cons rfl (pick_cons rfl (pick_cons rfl (pick_cons rfl (pick_cons rfl (pick_cons rfl (pick_cons rfl (pick_cons rfl (pick_cons rfl (pick_cons rfl (pick_cons rfl (pick_cons rfl pick_nil)))))))))))))))))))))))))))))))))))))) ?_; (repeat (go_big_quiet_step (fail))); refine wpQuiet_nil ?_; show ordWalk _ _ _ _ _ _ _)
  refine ord_fin ?_
  go_wp2_with fail
  have a1 := a0.drew
  have b1 := b0.drew
  have z1 := z0.drew
  have E1 := E0.drew
  clear p00 p01 p02 p03 p10 p11 p12 p13 X
  obtain ⟨w8, hw8⟩ : ∃ w8, w8 = w0.drew := ⟨_, rfl⟩
  rw [← hw8] at a1 b1 z1 E1 ⊢
  clear hw8 a0 b0 z0 E0
  have z0 := z1
  have E0 := E1
  have X : Ext w8 w8.drew := (Ext.refl w8).drew
  have p00 : ∀ y : Xt w8.drew, y.W.cell? ⟨w.heap.size, 0, none⟩ = some (.int .u8 (ka)) := fun y => (a1.ext (X.trans y.x)).cell 0
  have p01 : ∀ y : Xt w8.drew, y.W.cell? ⟨w.heap.size, 1, none⟩ = some (.bool (ba)) := fun y => (a1.ext (X.trans y.x)).cell 1
  have p02 : ∀ y : Xt w8.drew, y.W.cell? ⟨w.heap.size, 2, none⟩ = some (.int .i64 (na)) := fun y => (a1.ext (X.trans y.x)).cell 2
  have p03 : ∀ y : Xt w8.drew, y.W.cell? ⟨w.heap.size, 3, none⟩ = some (.string (sa)) := fun y => (a1.ext (X.trans y.x)).cell 3
  have p10 : ∀ y : Xt w8.drew, y.W.cell? ⟨w.heap.size + 1, 0, none⟩ = some (.int .u8 (kb)) := fun y => (b1.ext (X.trans y.x)).cell 0
  have p11 : ∀ y : Xt w8.drew, y.W.cell? ⟨w.heap.size + 1, 1, none⟩ = some (.bool (bb)) := fun y => (b1.ext (X.trans y.x)).cell 1
  have p12 : ∀ y : Xt w8.drew, y.W.cell? ⟨w.heap.size + 1, 2, none⟩ = some (.int .i64 (nb)) := fun y => (b1.ext (X.trans y.x)).cell 2
  have p13 : ∀ y : Xt w8.drew, y.W.cell? ⟨w.heap.size + 1, 3, none⟩ = some (.string (sb)) := fun y => (b1.ext (X.trans y.x)).cell 3
  refine wp_region_ord [0,0,2,0,0,24,63,127,127,511,1023] (.flo [0,1,3,4] (.both 2 5 (.ext 5 (.one 6 (.flo [7,8] (.one 9 (.flo [10] (.fin)))))) (.ext 2 (.one 6 (.flo [7,8] (.one 9 (.flo [10] (.fin)))))))) (by kernel_rfl) (by kernel_rfl) (by intro _ _ d _ _ h; cases d <;> exact h) ?_
  (refine ord_flo (pick_cons rfl (pick_cons rfl (pick_cons rfl (pick_cons rfl pick_nil)))) ?_; (repeat (go_big_quiet_step (fail))); refine wpQuiet_nil ?_; show ordWalk _ _ _ _ _ _ _)
  refine ord_both (pick_cons rfl pick_nil) (pick_cons rfl pick_nil) ?_ ?_ <;> intro K_ hK_
  · go_wp2_with (go_at_call 72; refine (over_any _ _).mono ?_; rintro e w9 ⟨rfl, rfl⟩)
    refine ordNext.mk (Ext.refl _) ?_
    refine ord_ext (pick_cons rfl pick_nil) ?_; intro K_ hK_
    go_wp2
    refine ordNext.mk ((Ext.refl _).alloc _) ?_
    refine ord_one (pick_cons rfl pick_nil) ?_; intro K_ hK_
    go_wp2_with (go_at_call 71; refine (numbers_at _ _ _ _ 2 [⟨ka, ba, na, sa⟩, ⟨kb, bb, nb, sb⟩] _ HR rfl (by omega) (Dats.two (by first | exact Bk.at (by simp) | exact (Bk.at (by simp)).drew)) (by simpa using ⟨hs, hs2⟩)).mono ?_; rintro e w2 ⟨rfl, x2⟩; have z2 : Bk w2 (w.heap.size + 1 + 1) 24 #[.int .u8 (0), .bool (false), .int .i64 (0), .string (⟨#[]⟩)] := (z0.ext ((X.alloc (.cells #[.int .u8 (ka), .bool (ba), .int .i64 (na), .string (sa), .int .u8 (kb), .bool (bb), .int .i64 (nb), .string (sb)] 24)).trans (by exact x2))); have z2f0 : w2.frozen? ⟨w.heap.size + 1 + 1, 0, none⟩ = false := z2.free 0; have z2f1 : w2.frozen? ⟨w.heap.size + 1 + 1, 1, none⟩ = false := z2.free 1; have z2f2 : w2.frozen? ⟨w.heap.size + 1 + 1, 2, none⟩ = false := z2.free 2; have z2f3 : w2.frozen? ⟨w.heap.size + 1 + 1, 3, none⟩ = false := z2.free 3; have z2c0 : w2.cell? ⟨w.heap.size + 1 + 1, 0, none⟩ = some (.int .u8 (0)) := z2.cell 0; have z2c1 : w2.cell? ⟨w.heap.size + 1 + 1, 1, none⟩ = some (.bool (false)) := z2.cell 1; have z2c2 : w2.cell? ⟨w.heap.size + 1 + 1, 2, none⟩ = some (.int .i64 (0)) := z2.cell 2; have z2c3 : w2.cell? ⟨w.heap.size + 1 + 1, 3, none⟩ = some (.string (⟨#[]⟩)) := z2.cell 3)
    (refine ord_flo (pick_cons rfl (pick_cons rfl pick_nil)) ?_; (repeat (go_big_quiet_step (fail))); refine wpQuiet_nil ?_; show ordWalk _ _ _ _ _ _ _)
    refine ord_one (pick_cons rfl pick_nil) ?_; intro K_ hK_
    go_wp2
    (refine ord_flo (pick_cons rfl pick_nil) ?_; (repeat (go_big_quiet_step (fail))); refine wpQuiet_nil ?_; show ordWalk _ _ _ _ _ _ _)
    refine ord_fin ?_
    go_wp2
    have q := z2.set4 (.int .u8 rk) (.bool rb) (.int .i64 rn) (.string rs)
    refine bodyPost_ret (v := .tuple #[.agg #[.int .u8 rk, .bool rb, .int .i64 rn, .string rs], .int .i64 re]) (by simp [results, Tryd.results35, go_sem, q.1, q.2.1, q.2.2.1, q.2.2.2]) rfl ⟨rfl, Ext.set4 (E0.trans ((X.alloc (.cells #[.int .u8 (ka), .bool (ba), .int .i64 (na), .string (sa), .int .u8 (kb), .bool (bb), .int .i64 (nb), .string (sb)] 24)).trans (by exact x2))) (by first | omega | simp) _ _ _ _⟩
  · go_wp2
    refine ordNext.mk ((Ext.refl _).alloc _) ?_
    refine ord_ext (pick_cons rfl pick_nil) ?_; intro K_ hK_
    go_wp2_with (go_at_call 72; refine (over_any _ _).mono ?_; rintro e w9 ⟨rfl, rfl⟩)
    refine ordNext.mk (Ext.refl _) ?_
    refine ord_one (pick_cons rfl pick_nil) ?_; intro K_ hK_
    go_wp2_with (go_at_call 71; refine (numbers_at _ _ _ _ 2 [⟨ka, ba, na, sa⟩, ⟨kb, bb, nb, sb⟩] _ HR rfl (by omega) (Dats.two (by first | exact Bk.at (by simp) | exact (Bk.at (by simp)).drew)) (by simpa using ⟨hs, hs2⟩)).mono ?_; rintro e w2 ⟨rfl, x2⟩; have z2 : Bk w2 (w.heap.size + 1 + 1) 24 #[.int .u8 (0), .bool (false), .int .i64 (0), .string (⟨#[]⟩)] := (z0.ext ((X.alloc (.cells #[.int .u8 (ka), .bool (ba), .int .i64 (na), .string (sa), .int .u8 (kb), .bool (bb), .int .i64 (nb), .string (sb)] 24)).trans (by exact x2))); have z2f0 : w2.frozen? ⟨w.heap.size + 1 + 1, 0, none⟩ = false := z2.free 0; have z2f1 : w2.frozen? ⟨w.heap.size + 1 + 1, 1, none⟩ = false := z2.free 1; have z2f2 : w2.frozen? ⟨w.heap.size + 1 + 1, 2, none⟩ = false := z2.free 2; have z2f3 : w2.frozen? ⟨w.heap.size + 1 + 1, 3, none⟩ = false := z2.free 3; have z2c0 : w2.cell? ⟨w.heap.size + 1 + 1, 0, none⟩ = some (.int .u8 (0)) := z2.cell 0; have z2c1 : w2.cell? ⟨w.heap.size + 1 + 1, 1, none⟩ = some (.bool (false)) := z2.cell 1; have z2c2 : w2.cell? ⟨w.heap.size + 1 + 1, 2, none⟩ = some (.int .i64 (0)) := z2.cell 2; have z2c3 : w2.cell? ⟨w.heap.size + 1 + 1, 3, none⟩ = some (.string (⟨#[]⟩)) := z2.cell 3)
    (refine ord_flo (pick_cons rfl (pick_cons rfl pick_nil)) ?_; (repeat (go_big_quiet_step (fail))); refine wpQuiet_nil ?_; show ordWalk _ _ _ _ _ _ _)
    refine ord_one (pick_cons rfl pick_nil) ?_; intro K_ hK_
    go_wp2
    (refine ord_flo (pick_cons rfl pick_nil) ?_; (repeat (go_big_quiet_step (fail))); refine wpQuiet_nil ?_; show ordWalk _ _ _ _ _ _ _)
    refine ord_fin ?_
    go_wp2
    have q := z2.set4 (.int .u8 rk) (.bool rb) (.int .i64 rn) (.string rs)
    refine bodyPost_ret (v := .tuple #[.agg #[.int .u8 rk, .bool rb, .int .i64 rn, .string rs], .int .i64 re]) (by simp [results, Tryd.results35, go_sem, q.1, q.2.1, q.2.2.1, q.2.2.2]) rfl ⟨rfl, Ext.set4 (E0.trans ((X.alloc (.cells #[.int .u8 (ka), .bool (ba), .int .i64 (na), .string (sa), .int .u8 (kb), .bool (bb), .int .i64 (nb), .string (sb)] 24)).trans (by exact x2))) (by first | omega | simp) _ _ _ _⟩
end Go.Proofs.YtobgfegdfcpgfaaDoor
