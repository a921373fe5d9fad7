/- DatumJoins: the walk. Conditions: the library's tables stand; texts that lie in memory. -/
import Derived.Test.YtobgfegdfcpgfaaDoorRunesApp
import Derived.Test.YtobgfegdfcpgfaaDoorDKnown
namespace Go.Proofs.YtobgfegdfcpgfaaDoor
open Go.RowKit

set_option maxRecDepth 100000 in
set_option maxHeartbeats 400000 in
theorem textL_any (s : ByteArray) (w : World) : Calls Tryd.prog 42 #[.string s] w fun e w' => e = .returned (.agg #[.int .u8 (4), .bool (false), .int .i64 (0), .string (s)]) ∧ Ext w w' := by
  go_enter Tryd.func42, Tryd.ntmps42
  go_wp2
  go_returns
  exact ⟨rfl, (Ext.refl w).alloc _⟩
theorem con_at {r : Dat × Int} (s t : ByteArray) (w : World) (h : Hid (conR (Dat.text s) (Dat.text t) = r)) (hs : s.size ≤ 9223372036854775807) (hs2 : t.size ≤ 9223372036854775807) (G : Good w) : Calls Tryd.prog 43 #[.agg #[.int .u8 (4), .bool (false), .int .i64 (0), .string (s)], .agg #[.int .u8 (4), .bool (false), .int .i64 (0), .string (t)]] w (Out w r) := h.out ▸ con_any (Dat.text s) (Dat.text t) w hs hs2 G
theorem len_at {r : Dat × Int} (s : ByteArray) (w : World) (h : Hid (lenR (Dat.text s) = r)) (hs : s.size ≤ 9223372036854775807) (G : Good w) : Calls Tryd.prog 44 #[.agg #[.int .u8 (4), .bool (false), .int .i64 (0), .string (s)]] w (Out w r) := h.out ▸ len_any (Dat.text s) w hs G
theorem cmp_texts {c : Int} (s t : ByteArray) (w : World) (h : Hid (cmpS s t = c)) : Calls Tryd.prog 39 #[.agg #[.int .u8 (4), .bool (false), .int .i64 (0), .string (s)], .agg #[.int .u8 (4), .bool (false), .int .i64 (0), .string (t)]] w fun e w' => e = .returned (.int .i64 c) ∧ Ext w w' := h.out ▸ cmp_any (Dat.text s) (Dat.text t) w
set_option maxRecDepth 100000 in
set_option maxHeartbeats 1000000 in
theorem joins_over (sa sb sc : ByteArray) (w : World) (ga : sa.size ≤ 140737488355328) (gb : sb.size ≤ 140737488355328) (gc : sc.size ≤ 140737488355328) (G : Good w) (h : 1000 < sa.size + sb.size + sc.size) : Calls Tryd.prog 10 #[.string sa, .string sb, .string sc] w fun e w' => e = .returned (.bool true) ∧ Ext w w' := by
  have ga2 : sa.size ≤ 9223372036854775807 := by omega
  have gb2 : sb.size ≤ 9223372036854775807 := by omega
  have gc2 : sc.size ≤ 9223372036854775807 := by omega
  have m1 : True := trivial
  go_enter Tryd.func10, Tryd.ntmps10
  go_wp2_with (first
    | (have z := m1; clear z m1; go_at_call 16; refine (known_true _ (G.ext (Ext.refl w))).mono ?_; rintro e w1 ⟨rfl, x1⟩; have F1 : Ext w w1 := ((Ext.refl w).trans x1); clear x1; have m2 : True := trivial)
    | fail)
  go_ret
  exact ⟨rfl, F1⟩
set_option maxRecDepth 100000 in
set_option maxHeartbeats 1000000 in
theorem joins_a (sa sb sc : ByteArray) (ca : Int) (w : World) (ga : sa.size ≤ 140737488355328) (gb : sb.size ≤ 140737488355328) (gc : sc.size ≤ 140737488355328) (G : Good w) (h : sa.size + sb.size + sc.size ≤ 1000) (hca : checkT 4 false 0 sa = ca) (la : (ca != 0) = true) : Calls Tryd.prog 10 #[.string sa, .string sb, .string sc] w fun e w' => e = .returned (.bool true) ∧ Ext w w' := by
  have ga2 : sa.size ≤ 9223372036854775807 := by omega
  have gb2 : sb.size ≤ 9223372036854775807 := by omega
  have gc2 : sc.size ≤ 9223372036854775807 := by omega
  have HCA := Lib.hid hca
  clear hca
  have m1 : True := trivial
  go_enter Tryd.func10, Tryd.ntmps10
  go_wp2_with (first
    | (have z := m1; clear z m1; go_at_call 42; refine (textL_any _ _).mono ?_; rintro e w1 ⟨rfl, x1⟩; have F1 : Ext w w1 := ((Ext.refl w).trans x1); clear x1; have m2 : True := trivial)
    | (have z := m2; clear z m2; go_at_call 15; refine (check_at 4 false 0 sa _ HCA ga2 (G.ext F1)).mono ?_; rintro e w2 ⟨rfl, x2⟩; have F2 : Ext w w2 := (F1.trans x2); clear x2; have m3 : True := trivial)
    | (have z := m3; clear z m3; go_at_call 16; refine (known_true _ (G.ext F2)).mono ?_; rintro e w3 ⟨rfl, x3⟩; have F3 : Ext w w3 := (F2.trans x3); clear x3; have m4 : True := trivial)
    | fail)
  go_ret
  exact ⟨rfl, F3⟩
set_option maxRecDepth 100000 in
set_option maxHeartbeats 1000000 in
theorem joins_b (sa sb sc : ByteArray) (ca : Int) (w : World) (ga : sa.size ≤ 140737488355328) (gb : sb.size ≤ 140737488355328) (gc : sc.size ≤ 140737488355328) (G : Good w) (h : sa.size + sb.size + sc.size ≤ 1000) (hca : checkT 4 false 0 sa = 0) (hcb : checkT 4 false 0 sb = ca) (la : (ca != 0) = true) : Calls Tryd.prog 10 #[.string sa, .string sb, .string sc] w fun e w' => e = .returned (.bool true) ∧ Ext w w' := by
  have ga2 : sa.size ≤ 9223372036854775807 := by omega
  have gb2 : sb.size ≤ 9223372036854775807 := by omega
  have gc2 : sc.size ≤ 9223372036854775807 := by omega
  have HCA := Lib.hid hca
  clear hca
  have HCB := Lib.hid hcb
  clear hcb
  have m1 : True := trivial
  go_enter Tryd.func10, Tryd.ntmps10
  go_wp2_with (first
    | (have z := m1; clear z m1; go_at_call 42; refine (textL_any _ _).mono ?_; rintro e w1 ⟨rfl, x1⟩; have F1 : Ext w w1 := ((Ext.refl w).trans x1); clear x1; have m2 : True := trivial)
    | (have z := m2; clear z m2; go_at_call 15; refine (check_at 4 false 0 sa _ HCA ga2 (G.ext F1)).mono ?_; rintro e w2 ⟨rfl, x2⟩; have F2 : Ext w w2 := (F1.trans x2); clear x2; have m3 : True := trivial)
    | (have z := m3; clear z m3; go_at_call 42; refine (textL_any _ _).mono ?_; rintro e w3 ⟨rfl, x3⟩; have F3 : Ext w w3 := (F2.trans x3); clear x3; have m4 : True := trivial)
    | (have z := m4; clear z m4; go_at_call 15; refine (check_at 4 false 0 sb _ HCB gb2 (G.ext F3)).mono ?_; rintro e w4 ⟨rfl, x4⟩; have F4 : Ext w w4 := (F3.trans x4); clear x4; have m5 : True := trivial)
    | (have z := m5; clear z m5; go_at_call 16; refine (known_true _ (G.ext F4)).mono ?_; rintro e w5 ⟨rfl, x5⟩; have F5 : Ext w w5 := (F4.trans x5); clear x5; have m6 : True := trivial)
    | fail)
  go_ret
  exact ⟨rfl, F5⟩
set_option maxRecDepth 100000 in
set_option maxHeartbeats 1000000 in
theorem joins_c (sa sb sc : ByteArray) (ca : Int) (w : World) (ga : sa.size ≤ 140737488355328) (gb : sb.size ≤ 140737488355328) (gc : sc.size ≤ 140737488355328) (G : Good w) (h : sa.size + sb.size + sc.size ≤ 1000) (hca : checkT 4 false 0 sa = 0) (hcb : checkT 4 false 0 sb = 0) (hcc : checkT 4 false 0 sc = ca) (la : (ca != 0) = true) : Calls Tryd.prog 10 #[.string sa, .string sb, .string sc] w fun e w' => e = .returned (.bool true) ∧ Ext w w' := by
  have ga2 : sa.size ≤ 9223372036854775807 := by omega
  have gb2 : sb.size ≤ 9223372036854775807 := by omega
  have gc2 : sc.size ≤ 9223372036854775807 := by omega
  have HCA := Lib.hid hca
  clear hca
  have HCB := Lib.hid hcb
  clear hcb
  have HCC := Lib.hid hcc
  clear hcc
  have m1 : True := trivial
  go_enter Tryd.func10, Tryd.ntmps10
  go_wp2_with (first
    | (have z := m1; clear z m1; go_at_call 42; refine (textL_any _ _).mono ?_; rintro e w1 ⟨rfl, x1⟩; have F1 : Ext w w1 := ((Ext.refl w).trans x1); clear x1; have m2 : True := trivial)
    | (have z := m2; clear z m2; go_at_call 15; refine (check_at 4 false 0 sa _ HCA ga2 (G.ext F1)).mono ?_; rintro e w2 ⟨rfl, x2⟩; have F2 : Ext w w2 := (F1.trans x2); clear x2; have m3 : True := trivial)
    | (have z := m3; clear z m3; go_at_call 42; refine (textL_any _ _).mono ?_; rintro e w3 ⟨rfl, x3⟩; have F3 : Ext w w3 := (F2.trans x3); clear x3; have m4 : True := trivial)
    | (have z := m4; clear z m4; go_at_call 15; refine (check_at 4 false 0 sb _ HCB gb2 (G.ext F3)).mono ?_; rintro e w4 ⟨rfl, x4⟩; have F4 : Ext w w4 := (F3.trans x4); clear x4; have m5 : True := trivial)
    | (have z := m5; clear z m5; go_at_call 42; refine (textL_any _ _).mono ?_; rintro e w5 ⟨rfl, x5⟩; have F5 : Ext w w5 := (F4.trans x5); clear x5; have m6 : True := trivial)
    | (have z := m6; clear z m6; go_at_call 15; refine (check_at 4 false 0 sc _ HCC gc2 (G.ext F5)).mono ?_; rintro e w6 ⟨rfl, x6⟩; have F6 : Ext w w6 := (F5.trans x6); clear x6; have m7 : True := trivial)
    | (have z := m7; clear z m7; go_at_call 16; refine (known_true _ (G.ext F6)).mono ?_; rintro e w7 ⟨rfl, x7⟩; have F7 : Ext w w7 := (F6.trans x7); clear x7; have m8 : True := trivial)
    | fail)
  go_ret
  exact ⟨rfl, F7⟩
set_option maxRecDepth 100000 in
set_option maxHeartbeats 4000000 in
theorem joins_same (sa sc sab sbc sx : ByteArray) (na nb nm : Nat) (w : World) (ga : sa.size ≤ 1000) (gb : (⟨#[]⟩ : ByteArray).size ≤ 1000) (gc : sc.size ≤ 1000) (G : Good w) (h : sa.size + (⟨#[]⟩ : ByteArray).size + sc.size ≤ 1000)
    (hca : checkT 4 false 0 sa = 0) (hcb : checkT 4 false 0 (⟨#[]⟩ : ByteArray) = 0) (hcc : checkT 4 false 0 sc = 0) (gab : sab.size ≤ 1000) (gbc : sbc.size ≤ 1000)
    (h1 : conR (Dat.text sa) (Dat.text (⟨#[]⟩ : ByteArray)) = ((⟨4, false, 0, sab⟩ : Dat), 0)) (h2 : conR (Dat.text (⟨#[]⟩ : ByteArray)) (Dat.text sc) = ((⟨4, false, 0, sbc⟩ : Dat), 0)) (h3 : conR (Dat.text sab) (Dat.text sc) = ((⟨4, false, 0, sx⟩ : Dat), 0)) (h4 : conR (Dat.text sa) (Dat.text sbc) = ((⟨4, false, 0, sx⟩ : Dat), 0))
    (h5 : lenR (Dat.text sa) = ((⟨3, false, na, ⟨#[]⟩⟩ : Dat), 0)) (h6 : lenR (Dat.text (⟨#[]⟩ : ByteArray)) = ((⟨3, false, nb, ⟨#[]⟩⟩ : Dat), 0)) (h7 : lenR (Dat.text sab) = ((⟨3, false, nm, ⟨#[]⟩⟩ : Dat), 0)) (hw : (na : Int) + (nb : Int) = (nm : Int)) (hm : nm ≤ 1000) (h8 : cmpS sa sab = 0) :
    Calls Tryd.prog 10 #[.string sa, .string (⟨#[]⟩ : ByteArray), .string sc] w fun e w' => e = .returned (.bool true) ∧ Ext w w' := by
  have ga2 : sa.size ≤ 9223372036854775807 := by omega
  have gb2 : (⟨#[]⟩ : ByteArray).size ≤ 9223372036854775807 := by omega
  have gc2 : sc.size ≤ 9223372036854775807 := by omega
  have gab2 : sab.size ≤ 9223372036854775807 := by omega
  have gbc2 : sbc.size ≤ 9223372036854775807 := by omega
  have hw2 : IntKind.i64.wrap ((na : Int) + (nb : Int)) = (nm : Int) := by rw [hw]; exact IntWalk.i64_in _ (by omega)
  have hw3 : wrap64 ((na : Int) + (nb : Int)) = (nm : Int) := by rw [hw]; unfold wrap64; omega
  clear hw
  have HCA := Lib.hid hca
  clear hca
  have HCB := Lib.hid hcb
  clear hcb
  have HCC := Lib.hid hcc
  clear hcc
  have H1 := Lib.hid h1
  clear h1
  have H2 := Lib.hid h2
  clear h2
  have H3 := Lib.hid h3
  clear h3
  have H4 := Lib.hid h4
  clear h4
  have H5 := Lib.hid h5
  clear h5
  have H6 := Lib.hid h6
  clear h6
  have H7 := Lib.hid h7
  clear h7
  have H8 := Lib.hid h8
  clear h8
  have HM := Lib.hid hm
  clear hm
  have m1 : True := trivial
  go_enter Tryd.func10, Tryd.ntmps10
  go_upto_region 5 with (first
    | (have z := m1; clear z m1; go_at_call 42; refine (textL_any _ _).mono ?_; rintro e w1 ⟨rfl, x1⟩; have F1 : Ext w w1 := ((Ext.refl w).trans x1); clear x1; have m2 : True := trivial)
    | (have z := m2; clear z m2; go_at_call 15; refine (check_at 4 false 0 sa _ HCA ga2 (G.ext F1)).mono ?_; rintro e w2 ⟨rfl, x2⟩; have F2 : Ext w w2 := (F1.trans x2); clear x2; have m3 : True := trivial)
    | (have z := m3; clear z m3; go_at_call 42; refine (textL_any _ _).mono ?_; rintro e w3 ⟨rfl, x3⟩; have F3 : Ext w w3 := (F2.trans x3); clear x3; have m4 : True := trivial)
    | (have z := m4; clear z m4; go_at_call 15; refine (check_at 4 false 0 (⟨#[]⟩ : ByteArray) _ HCB gb2 (G.ext F3)).mono ?_; rintro e w4 ⟨rfl, x4⟩; have F4 : Ext w w4 := (F3.trans x4); clear x4; have m5 : True := trivial)
    | (have z := m5; clear z m5; go_at_call 42; refine (textL_any _ _).mono ?_; rintro e w5 ⟨rfl, x5⟩; have F5 : Ext w w5 := (F4.trans x5); clear x5; have m6 : True := trivial)
    | (have z := m6; clear z m6; go_at_call 15; refine (check_at 4 false 0 sc _ HCC gc2 (G.ext F5)).mono ?_; rintro e w6 ⟨rfl, x6⟩; have F6 : Ext w w6 := (F5.trans x6); clear x6; have m7 : True := trivial)
    | (have z := m7; clear z m7; go_at_call 42; refine (textL_any _ _).mono ?_; rintro e w7 ⟨rfl, x7⟩; have F7 : Ext w w7 := (F6.trans x7); clear x7; have m8 : True := trivial)
    | (have z := m8; clear z m8; go_at_call 42; refine (textL_any _ _).mono ?_; rintro e w8 ⟨rfl, x8⟩; have F8 : Ext w w8 := (F7.trans x8); clear x8; have m9 : True := trivial)
    | (have z := m9; clear z m9; go_at_call 43; refine (con_at sa (⟨#[]⟩ : ByteArray) _ H1 ga2 gb2 (G.ext F8)).mono ?_; rintro e w9 ⟨rfl, x9⟩; have F9 : Ext w (w9.alloc (.cells #[.int .u8 (4), .bool (false), .int .i64 (0), .string (sab)] 24)) := (F8.trans x9).alloc _; have ab_9 := Bk.new w9 24 #[.int .u8 (4), .bool (false), .int .i64 (0), .string (sab)]; clear x9; have m10 : True := trivial)
    | (have z := m10; clear z m10; go_at_call 42; refine (textL_any _ _).mono ?_; rintro e w10 ⟨rfl, x10⟩; have ab_10 := ab_9.ext x10; have F10 : Ext w w10 := (F9.trans x10); clear x10; have m11 : True := trivial)
    | (have z := m11; clear z m11; go_at_call 42; refine (textL_any _ _).mono ?_; rintro e w11 ⟨rfl, x11⟩; have ab_11 := ab_10.ext x11; have F11 : Ext w w11 := (F10.trans x11); clear x11; have m12 : True := trivial)
    | (have z := m12; clear z m12; go_at_call 43; refine (con_at (⟨#[]⟩ : ByteArray) sc _ H2 gb2 gc2 (G.ext F11)).mono ?_; rintro e w12 ⟨rfl, x12⟩; have ab_12 := (ab_11.ext x12).alloc (.cells #[.int .u8 (4), .bool (false), .int .i64 (0), .string (sbc)] 24); have F12 : Ext w (w12.alloc (.cells #[.int .u8 (4), .bool (false), .int .i64 (0), .string (sbc)] 24)) := (F11.trans x12).alloc _; have bc_12 := Bk.new w12 24 #[.int .u8 (4), .bool (false), .int .i64 (0), .string (sbc)]; clear x12; have m13 : True := trivial)
    | fail)
  obtain ⟨w0, hw0⟩ : ∃ w0, w0 = w12.alloc (.cells #[.int .u8 (4), .bool (false), .int .i64 (0), .string (sbc)] 24) := ⟨_, rfl⟩
  rw [← hw0] at ab_12 bc_12 F12 ⊢
  clear hw0
  go_cut [11, 12] (fun sp se wx => ∃ g : Nat, sp = .pointer (some ⟨g, 0, none⟩) ∧ se = .int .u16 0 ∧ Ext w0 wx ∧ Bk wx g 24 #[.int .u8 (4), .bool (false), .int .i64 (0), .string (sx)])
  case first =>
    have X : Ext w0 w0.drew := (Ext.refl w0).drew
    have pl0 : ∀ y : Xt w0.drew, y.W.cell? ⟨w9.heap.size, 0, none⟩ = some (.int .u8 (4)) := fun y => (ab_12.ext (X.trans y.x)).cell 0
    have pl1 : ∀ y : Xt w0.drew, y.W.cell? ⟨w9.heap.size, 1, none⟩ = some (.bool (false)) := fun y => (ab_12.ext (X.trans y.x)).cell 1
    have pl2 : ∀ y : Xt w0.drew, y.W.cell? ⟨w9.heap.size, 2, none⟩ = some (.int .i64 (0)) := fun y => (ab_12.ext (X.trans y.x)).cell 2
    have pl3 : ∀ y : Xt w0.drew, y.W.cell? ⟨w9.heap.size, 3, none⟩ = some (.string (sab)) := fun y => (ab_12.ext (X.trans y.x)).cell 3
    refine wp_region_ord [0,0,2,7,15,31,31,0,191,511] (.flo [0,1] (.both 2 7 (.both 3 7 (.flo [4,5] (.pur [6] (.ext 7 (.one 8 (.flo [9] (.fin)))))) (.ext 3 (.flo [4,5] (.pur [6] (.one 8 (.flo [9] (.fin))))))) (.ext 2 (.ext 3 (.flo [4,5] (.pur [6] (.one 8 (.flo [9] (.fin))))))))) (by kernel_rfl) (by kernel_rfl) (by intro _ _ d _ _ h; cases d <;> exact h) ?_
    (refine ord_flo (pick_cons rfl (pick_cons rfl pick_nil)) ?_; (repeat (go_big_quiet_step (fail))); refine wpQuiet_nil ?_; show ordWalk _ _ _ _ _ _ _)
    refine ord_both (pick_cons rfl pick_nil) (pick_cons rfl pick_nil) ?_ ?_ <;> intro K_ hK_
    · go_wp2_with (go_at_call 42; refine (textL_any _ _).mono ?_; rintro e w1 ⟨rfl, x1⟩)
      refine ordNext.mk x1 ?_
      refine ord_both (pick_cons rfl pick_nil) (pick_cons rfl pick_nil) ?_ ?_ <;> intro K_ hK_
      · go_wp2_with (go_at_call 43; refine (con_at sab sc _ H3 gab2 gc2 (G.ext ((F12.trans X).trans x1))).mono ?_; rintro e w2 ⟨rfl, x2⟩)
        refine ordNext.mk x2 ?_
        (refine ord_flo (pick_cons rfl (pick_cons rfl pick_nil)) ?_; (repeat (go_big_quiet_step (fail))); refine wpQuiet_nil ?_; show ordWalk _ _ _ _ _ _ _)
        (refine ord_pur (pick_cons rfl pick_nil) ?_; (repeat (go_big_quiet_step (fail))); refine wpQuiet_nil ?_; show ordWalk _ _ _ _ _ _ _)
        refine ord_ext (pick_cons rfl pick_nil) ?_; intro K_ hK_
        go_wp2
        refine ordNext.mk ((Ext.refl _).alloc _) ?_
        refine ord_one (pick_cons rfl pick_nil) ?_; intro K_ hK_
        go_wp2
        (refine ord_flo (pick_cons rfl pick_nil) ?_; (repeat (go_big_quiet_step (fail))); refine wpQuiet_nil ?_; show ordWalk _ _ _ _ _ _ _)
        refine ord_fin ?_
        go_wp2_with fail
        go_meet
        case rel => exact ⟨_, rfl, rfl, ((X.trans x1).trans x2).alloc _, Bk.new _ _ _⟩
      · go_wp2
        refine ordNext.mk ((Ext.refl _).alloc _) ?_
        refine ord_ext (pick_cons rfl pick_nil) ?_; intro K_ hK_
        go_wp2_with (go_at_call 43; refine (con_at sab sc _ H3 gab2 gc2 (G.ext (((F12.trans X).trans x1).alloc (.cells #[.int .u8 (0), .bool (false), .int .i64 (0), .string (⟨#[]⟩)] 24)))).mono ?_; rintro e w2 ⟨rfl, x2⟩)
        have bz : Bk w2 (w1.heap.size) 24 #[.int .u8 (0), .bool (false), .int .i64 (0), .string (⟨#[]⟩)] := Bk.ext (Bk.new w1 _ _) x2
        have bzf0 : w2.frozen? ⟨w1.heap.size, 0, none⟩ = false := bz.free 0; have bzf1 : w2.frozen? ⟨w1.heap.size, 1, none⟩ = false := bz.free 1; have bzf2 : w2.frozen? ⟨w1.heap.size, 2, none⟩ = false := bz.free 2; have bzf3 : w2.frozen? ⟨w1.heap.size, 3, none⟩ = false := bz.free 3
        have bz0 : w2.cell? ⟨w1.heap.size, 0, none⟩ = some (.int .u8 (0)) := bz.cell 0; have bz1 : w2.cell? ⟨w1.heap.size, 1, none⟩ = some (.bool (false)) := bz.cell 1; have bz2 : w2.cell? ⟨w1.heap.size, 2, none⟩ = some (.int .i64 (0)) := bz.cell 2; have bz3 : w2.cell? ⟨w1.heap.size, 3, none⟩ = some (.string (⟨#[]⟩)) := bz.cell 3
        refine ordNext.mk x2 ?_
        (refine ord_flo (pick_cons rfl (pick_cons rfl pick_nil)) ?_; (repeat (go_big_quiet_step (fail))); refine wpQuiet_nil ?_; show ordWalk _ _ _ _ _ _ _)
        (refine ord_pur (pick_cons rfl pick_nil) ?_; (repeat (go_big_quiet_step (fail))); refine wpQuiet_nil ?_; show ordWalk _ _ _ _ _ _ _)
        refine ord_one (pick_cons rfl pick_nil) ?_; intro K_ hK_
        go_wp2
        (refine ord_flo (pick_cons rfl pick_nil) ?_; (repeat (go_big_quiet_step (fail))); refine wpQuiet_nil ?_; show ordWalk _ _ _ _ _ _ _)
        refine ord_fin ?_
        go_wp2_with fail
        go_meet
        case rel => exact ⟨w1.heap.size, rfl, rfl, Ext.set4 (((X.trans x1).alloc (.cells #[.int .u8 (0), .bool (false), .int .i64 (0), .string (⟨#[]⟩)] 24)).trans x2) (X.trans x1).size _ _ _ _, (((bz.set 0 _).set 1 _).set 2 _).set 3 _⟩
    · go_wp2
      refine ordNext.mk ((Ext.refl _).alloc _) ?_
      refine ord_ext (pick_cons rfl pick_nil) ?_; intro K_ hK_
      go_wp2_with (go_at_call 42; refine (textL_any _ _).mono ?_; rintro e w1 ⟨rfl, x1⟩)
      refine ordNext.mk x1 ?_
      refine ord_ext (pick_cons rfl pick_nil) ?_; intro K_ hK_
      go_wp2_with (go_at_call 43; refine (con_at sab sc _ H3 gab2 gc2 (G.ext (((F12.trans X).alloc (.cells #[.int .u8 (0), .bool (false), .int .i64 (0), .string (⟨#[]⟩)] 24)).trans (by exact x1)))).mono ?_; rintro e w2 ⟨rfl, x2⟩)
      have bz : Bk w2 (w0.heap.size) 24 #[.int .u8 (0), .bool (false), .int .i64 (0), .string (⟨#[]⟩)] := Bk.ext (Bk.ext (w := (w0.alloc (.cells #[.int .u8 (0), .bool (false), .int .i64 (0), .string (⟨#[]⟩)] 24)).drew) (Bk.new w0 _ _) (by exact x1)) x2
      have bzf0 : w2.frozen? ⟨w0.heap.size, 0, none⟩ = false := bz.free 0; have bzf1 : w2.frozen? ⟨w0.heap.size, 1, none⟩ = false := bz.free 1; have bzf2 : w2.frozen? ⟨w0.heap.size, 2, none⟩ = false := bz.free 2; have bzf3 : w2.frozen? ⟨w0.heap.size, 3, none⟩ = false := bz.free 3
      have bz0 : w2.cell? ⟨w0.heap.size, 0, none⟩ = some (.int .u8 (0)) := bz.cell 0; have bz1 : w2.cell? ⟨w0.heap.size, 1, none⟩ = some (.bool (false)) := bz.cell 1; have bz2 : w2.cell? ⟨w0.heap.size, 2, none⟩ = some (.int .i64 (0)) := bz.cell 2; have bz3 : w2.cell? ⟨w0.heap.size, 3, none⟩ = some (.string (⟨#[]⟩)) := bz.cell 3
      refine ordNext.mk x2 ?_
      (refine ord_flo (pick_cons rfl (pick_cons rfl pick_nil)) ?_; (repeat (go_big_quiet_step (fail))); refine wpQuiet_nil ?_; show ordWalk _ _ _ _ _ _ _)
      (refine ord_pur (pick_cons rfl pick_nil) ?_; (repeat (go_big_quiet_step (fail))); refine wpQuiet_nil ?_; show ordWalk _ _ _ _ _ _ _)
      refine ord_one (pick_cons rfl pick_nil) ?_; intro K_ hK_
      go_wp2
      (refine ord_flo (pick_cons rfl pick_nil) ?_; (repeat (go_big_quiet_step (fail))); refine wpQuiet_nil ?_; show ordWalk _ _ _ _ _ _ _)
      refine ord_fin ?_
      go_wp2_with fail
      go_meet
      case rel => exact ⟨w0.heap.size, rfl, rfl, Ext.set4 (((X.alloc (.cells #[.int .u8 (0), .bool (false), .int .i64 (0), .string (⟨#[]⟩)] 24)).trans (by exact x1)).trans x2) (Nat.le_refl _) _ _ _ _, (((bz.set 0 _).set 1 _).set 2 _).set 3 _⟩
  case rest =>
    obtain ⟨gx, rfl, rfl, xc, bx⟩ := hcut
    obtain ⟨wA, hwA⟩ : ∃ x, x = wc := ⟨_, rfl⟩
    subst hwA
    have abA := ab_12.ext xc
    have bcA := bc_12.ext xc
    have FA := F12.trans xc
    go_upto_region 6 with fail
    go_cut [13, 14] (fun sp se wx => ∃ g : Nat, sp = .pointer (some ⟨g, 0, none⟩) ∧ se = .int .u16 0 ∧ Ext wA wx ∧ Bk wx g 24 #[.int .u8 (4), .bool (false), .int .i64 (0), .string (sx)])
    case first =>
      have X : Ext wA wA.drew := (Ext.refl wA).drew
      have pl0 : ∀ y : Xt wA.drew, y.W.cell? ⟨w12.heap.size, 0, none⟩ = some (.int .u8 (4)) := fun y => (bcA.ext (X.trans y.x)).cell 0
      have pl1 : ∀ y : Xt wA.drew, y.W.cell? ⟨w12.heap.size, 1, none⟩ = some (.bool (false)) := fun y => (bcA.ext (X.trans y.x)).cell 1
      have pl2 : ∀ y : Xt wA.drew, y.W.cell? ⟨w12.heap.size, 2, none⟩ = some (.int .i64 (0)) := fun y => (bcA.ext (X.trans y.x)).cell 2
      have pl3 : ∀ y : Xt wA.drew, y.W.cell? ⟨w12.heap.size, 3, none⟩ = some (.string (sbc)) := fun y => (bcA.ext (X.trans y.x)).cell 3
      refine wp_region_ord [0,1,0,7,15,31,31,0,191,511] (.flo [0,2] (.both 1 7 (.both 3 7 (.flo [4,5] (.pur [6] (.ext 7 (.one 8 (.flo [9] (.fin)))))) (.ext 3 (.flo [4,5] (.pur [6] (.one 8 (.flo [9] (.fin))))))) (.ext 1 (.ext 3 (.flo [4,5] (.pur [6] (.one 8 (.flo [9] (.fin))))))))) (by kernel_rfl) (by kernel_rfl) (by intro _ _ d _ _ h; cases d <;> exact h) ?_
      (refine ord_flo (pick_cons rfl (pick_cons rfl pick_nil)) ?_; (repeat (go_big_quiet_step (fail))); refine wpQuiet_nil ?_; show ordWalk _ _ _ _ _ _ _)
      refine ord_both (pick_cons rfl pick_nil) (pick_cons rfl pick_nil) ?_ ?_ <;> intro K_ hK_
      · go_wp2_with (go_at_call 42; refine (textL_any _ _).mono ?_; rintro e w1 ⟨rfl, x1⟩)
        refine ordNext.mk x1 ?_
        refine ord_both (pick_cons rfl pick_nil) (pick_cons rfl pick_nil) ?_ ?_ <;> intro K_ hK_
        · go_wp2_with (go_at_call 43; refine (con_at sa sbc _ H4 ga2 gbc2 (G.ext ((FA.trans X).trans x1))).mono ?_; rintro e w2 ⟨rfl, x2⟩)
          refine ordNext.mk x2 ?_
          (refine ord_flo (pick_cons rfl (pick_cons rfl pick_nil)) ?_; (repeat (go_big_quiet_step (fail))); refine wpQuiet_nil ?_; show ordWalk _ _ _ _ _ _ _)
          (refine ord_pur (pick_cons rfl pick_nil) ?_; (repeat (go_big_quiet_step (fail))); refine wpQuiet_nil ?_; show ordWalk _ _ _ _ _ _ _)
          refine ord_ext (pick_cons rfl pick_nil) ?_; intro K_ hK_
          go_wp2
          refine ordNext.mk ((Ext.refl _).alloc _) ?_
          refine ord_one (pick_cons rfl pick_nil) ?_; intro K_ hK_
          go_wp2
          (refine ord_flo (pick_cons rfl pick_nil) ?_; (repeat (go_big_quiet_step (fail))); refine wpQuiet_nil ?_; show ordWalk _ _ _ _ _ _ _)
          refine ord_fin ?_
          go_wp2_with fail
          go_meet
          case rel => exact ⟨_, rfl, rfl, ((X.trans x1).trans x2).alloc _, Bk.new _ _ _⟩
        · go_wp2
          refine ordNext.mk ((Ext.refl _).alloc _) ?_
          refine ord_ext (pick_cons rfl pick_nil) ?_; intro K_ hK_
          go_wp2_with (go_at_call 43; refine (con_at sa sbc _ H4 ga2 gbc2 (G.ext (((FA.trans X).trans x1).alloc (.cells #[.int .u8 (0), .bool (false), .int .i64 (0), .string (⟨#[]⟩)] 24)))).mono ?_; rintro e w2 ⟨rfl, x2⟩)
          have bz : Bk w2 (w1.heap.size) 24 #[.int .u8 (0), .bool (false), .int .i64 (0), .string (⟨#[]⟩)] := Bk.ext (Bk.new w1 _ _) x2
          have bzf0 : w2.frozen? ⟨w1.heap.size, 0, none⟩ = false := bz.free 0; have bzf1 : w2.frozen? ⟨w1.heap.size, 1, none⟩ = false := bz.free 1; have bzf2 : w2.frozen? ⟨w1.heap.size, 2, none⟩ = false := bz.free 2; have bzf3 : w2.frozen? ⟨w1.heap.size, 3, none⟩ = false := bz.free 3
          have bz0 : w2.cell? ⟨w1.heap.size, 0, none⟩ = some (.int .u8 (0)) := bz.cell 0; have bz1 : w2.cell? ⟨w1.heap.size, 1, none⟩ = some (.bool (false)) := bz.cell 1; have bz2 : w2.cell? ⟨w1.heap.size, 2, none⟩ = some (.int .i64 (0)) := bz.cell 2; have bz3 : w2.cell? ⟨w1.heap.size, 3, none⟩ = some (.string (⟨#[]⟩)) := bz.cell 3
          refine ordNext.mk x2 ?_
          (refine ord_flo (pick_cons rfl (pick_cons rfl pick_nil)) ?_; (repeat (go_big_quiet_step (fail))); refine wpQuiet_nil ?_; show ordWalk _ _ _ _ _ _ _)
          (refine ord_pur (pick_cons rfl pick_nil) ?_; (repeat (go_big_quiet_step (fail))); refine wpQuiet_nil ?_; show ordWalk _ _ _ _ _ _ _)
          refine ord_one (pick_cons rfl pick_nil) ?_; intro K_ hK_
          go_wp2
          (refine ord_flo (pick_cons rfl pick_nil) ?_; (repeat (go_big_quiet_step (fail))); refine wpQuiet_nil ?_; show ordWalk _ _ _ _ _ _ _)
          refine ord_fin ?_
          go_wp2_with fail
          go_meet
          case rel => exact ⟨w1.heap.size, rfl, rfl, Ext.set4 (((X.trans x1).alloc (.cells #[.int .u8 (0), .bool (false), .int .i64 (0), .string (⟨#[]⟩)] 24)).trans x2) (X.trans x1).size _ _ _ _, (((bz.set 0 _).set 1 _).set 2 _).set 3 _⟩
      · go_wp2
        refine ordNext.mk ((Ext.refl _).alloc _) ?_
        refine ord_ext (pick_cons rfl pick_nil) ?_; intro K_ hK_
        go_wp2_with (go_at_call 42; refine (textL_any _ _).mono ?_; rintro e w1 ⟨rfl, x1⟩)
        refine ordNext.mk x1 ?_
        refine ord_ext (pick_cons rfl pick_nil) ?_; intro K_ hK_
        go_wp2_with (go_at_call 43; refine (con_at sa sbc _ H4 ga2 gbc2 (G.ext (((FA.trans X).alloc (.cells #[.int .u8 (0), .bool (false), .int .i64 (0), .string (⟨#[]⟩)] 24)).trans (by exact x1)))).mono ?_; rintro e w2 ⟨rfl, x2⟩)
        have bz : Bk w2 (wA.heap.size) 24 #[.int .u8 (0), .bool (false), .int .i64 (0), .string (⟨#[]⟩)] := Bk.ext (Bk.ext (w := (wA.alloc (.cells #[.int .u8 (0), .bool (false), .int .i64 (0), .string (⟨#[]⟩)] 24)).drew) (Bk.new wA _ _) (by exact x1)) x2
        have bzf0 : w2.frozen? ⟨wA.heap.size, 0, none⟩ = false := bz.free 0; have bzf1 : w2.frozen? ⟨wA.heap.size, 1, none⟩ = false := bz.free 1; have bzf2 : w2.frozen? ⟨wA.heap.size, 2, none⟩ = false := bz.free 2; have bzf3 : w2.frozen? ⟨wA.heap.size, 3, none⟩ = false := bz.free 3
        have bz0 : w2.cell? ⟨wA.heap.size, 0, none⟩ = some (.int .u8 (0)) := bz.cell 0; have bz1 : w2.cell? ⟨wA.heap.size, 1, none⟩ = some (.bool (false)) := bz.cell 1; have bz2 : w2.cell? ⟨wA.heap.size, 2, none⟩ = some (.int .i64 (0)) := bz.cell 2; have bz3 : w2.cell? ⟨wA.heap.size, 3, none⟩ = some (.string (⟨#[]⟩)) := bz.cell 3
        refine ordNext.mk x2 ?_
        (refine ord_flo (pick_cons rfl (pick_cons rfl pick_nil)) ?_; (repeat (go_big_quiet_step (fail))); refine wpQuiet_nil ?_; show ordWalk _ _ _ _ _ _ _)
        (refine ord_pur (pick_cons rfl pick_nil) ?_; (repeat (go_big_quiet_step (fail))); refine wpQuiet_nil ?_; show ordWalk _ _ _ _ _ _ _)
        refine ord_one (pick_cons rfl pick_nil) ?_; intro K_ hK_
        go_wp2
        (refine ord_flo (pick_cons rfl pick_nil) ?_; (repeat (go_big_quiet_step (fail))); refine wpQuiet_nil ?_; show ordWalk _ _ _ _ _ _ _)
        refine ord_fin ?_
        go_wp2_with fail
        go_meet
        case rel => exact ⟨wA.heap.size, rfl, rfl, Ext.set4 (((X.alloc (.cells #[.int .u8 (0), .bool (false), .int .i64 (0), .string (⟨#[]⟩)] 24)).trans (by exact x1)).trans x2) (Nat.le_refl _) _ _ _ _, (((bz.set 0 _).set 1 _).set 2 _).set 3 _⟩
    case rest =>
      obtain ⟨gy, rfl, rfl, xd, bY⟩ := hcut
      obtain ⟨wB, hwB⟩ : ∃ x, x = wc := ⟨_, rfl⟩
      subst hwB
      have ab_B := abA.ext xd
      have x_B := bx.ext xd
      have FB := FA.trans xd
      have n31 : True := trivial
      go_upto_region 11 with (first
        | (have z := n31; clear z n31; go_at_call 42; refine (textL_any _ _).mono ?_; rintro e w31 ⟨rfl, x31⟩; have ab_31 := ab_B.ext x31; have x_31 := x_B.ext x31; have y_31 := bY.ext x31; have F31 : Ext w w31 := (FB.trans x31); clear x31; have n32 : True := trivial)
        | (have z := n32; clear z n32; go_at_call 44; refine (len_at sa _ H5 ga2 (G.ext F31)).mono ?_; rintro e w32 ⟨rfl, x32⟩; have ab_32 := (ab_31.ext x32).alloc (.cells #[.int .u8 (3), .bool (false), .int .i64 ((na : Int)), .string (⟨#[]⟩)] 24); have x_32 := (x_31.ext x32).alloc (.cells #[.int .u8 (3), .bool (false), .int .i64 ((na : Int)), .string (⟨#[]⟩)] 24); have y_32 := (y_31.ext x32).alloc (.cells #[.int .u8 (3), .bool (false), .int .i64 ((na : Int)), .string (⟨#[]⟩)] 24); have F32 : Ext w (w32.alloc (.cells #[.int .u8 (3), .bool (false), .int .i64 ((na : Int)), .string (⟨#[]⟩)] 24)) := (F31.trans x32).alloc _; have k_32 := Bk.new w32 24 #[.int .u8 (3), .bool (false), .int .i64 ((na : Int)), .string (⟨#[]⟩)]; clear x32; have n33 : True := trivial)
        | (have z := n33; clear z n33; go_at_call 42; refine (textL_any _ _).mono ?_; rintro e w33 ⟨rfl, x33⟩; have ab_33 := ab_32.ext x33; have x_33 := x_32.ext x33; have y_33 := y_32.ext x33; have k_33 := k_32.ext x33; have F33 : Ext w w33 := (F32.trans x33); clear x33; have n34 : True := trivial)
        | (have z := n34; clear z n34; go_at_call 44; refine (len_at (⟨#[]⟩ : ByteArray) _ H6 gb2 (G.ext F33)).mono ?_; rintro e w34 ⟨rfl, x34⟩; have ab_34 := (ab_33.ext x34).alloc (.cells #[.int .u8 (3), .bool (false), .int .i64 ((nb : Int)), .string (⟨#[]⟩)] 24); have x_34 := (x_33.ext x34).alloc (.cells #[.int .u8 (3), .bool (false), .int .i64 ((nb : Int)), .string (⟨#[]⟩)] 24); have y_34 := (y_33.ext x34).alloc (.cells #[.int .u8 (3), .bool (false), .int .i64 ((nb : Int)), .string (⟨#[]⟩)] 24); have k_34 := (k_33.ext x34).alloc (.cells #[.int .u8 (3), .bool (false), .int .i64 ((nb : Int)), .string (⟨#[]⟩)] 24); have F34 : Ext w (w34.alloc (.cells #[.int .u8 (3), .bool (false), .int .i64 ((nb : Int)), .string (⟨#[]⟩)] 24)) := (F33.trans x34).alloc _; have l_34 := Bk.new w34 24 #[.int .u8 (3), .bool (false), .int .i64 ((nb : Int)), .string (⟨#[]⟩)]; clear x34; have ab_340 : (w34.alloc (.cells #[.int .u8 (3), .bool (false), .int .i64 ((nb : Int)), .string (⟨#[]⟩)] 24)).cell? ⟨w9.heap.size, 0, none⟩ = some (.int .u8 (4)) := ab_34.cell 0; have ab_341 : (w34.alloc (.cells #[.int .u8 (3), .bool (false), .int .i64 ((nb : Int)), .string (⟨#[]⟩)] 24)).cell? ⟨w9.heap.size, 1, none⟩ = some (.bool (false)) := ab_34.cell 1; have ab_342 : (w34.alloc (.cells #[.int .u8 (3), .bool (false), .int .i64 ((nb : Int)), .string (⟨#[]⟩)] 24)).cell? ⟨w9.heap.size, 2, none⟩ = some (.int .i64 (0)) := ab_34.cell 2; have ab_343 : (w34.alloc (.cells #[.int .u8 (3), .bool (false), .int .i64 ((nb : Int)), .string (⟨#[]⟩)] 24)).cell? ⟨w9.heap.size, 3, none⟩ = some (.string (sab)) := ab_34.cell 3; have n35 : True := trivial)
        | (have z := n35; clear z n35; go_at_call 44; refine (len_at sab _ H7 gab2 (G.ext F34)).mono ?_; rintro e w35 ⟨rfl, x35⟩; have ab_35 := (ab_34.ext x35).alloc (.cells #[.int .u8 (3), .bool (false), .int .i64 ((nm : Int)), .string (⟨#[]⟩)] 24); have x_35 := (x_34.ext x35).alloc (.cells #[.int .u8 (3), .bool (false), .int .i64 ((nm : Int)), .string (⟨#[]⟩)] 24); have y_35 := (y_34.ext x35).alloc (.cells #[.int .u8 (3), .bool (false), .int .i64 ((nm : Int)), .string (⟨#[]⟩)] 24); have k_35 := (k_34.ext x35).alloc (.cells #[.int .u8 (3), .bool (false), .int .i64 ((nm : Int)), .string (⟨#[]⟩)] 24); have l_35 := (l_34.ext x35).alloc (.cells #[.int .u8 (3), .bool (false), .int .i64 ((nm : Int)), .string (⟨#[]⟩)] 24); have F35 : Ext w (w35.alloc (.cells #[.int .u8 (3), .bool (false), .int .i64 ((nm : Int)), .string (⟨#[]⟩)] 24)) := (F34.trans x35).alloc _; have m_35 := Bk.new w35 24 #[.int .u8 (3), .bool (false), .int .i64 ((nm : Int)), .string (⟨#[]⟩)]; clear x35; have n36 : True := trivial)
        | fail)
      obtain ⟨wC, hwC⟩ : ∃ x, x = w35.alloc (.cells #[.int .u8 (3), .bool (false), .int .i64 ((nm : Int)), .string (⟨#[]⟩)] 24) := ⟨_, rfl⟩
      rw [← hwC] at ab_35 x_35 y_35 k_35 l_35 m_35 F35 ⊢
      clear hwC
      have X : Ext wC wC.drew := (Ext.refl wC).drew
      refine wp_region_ord [0,1,3,7,15,31,31,127,255,511,1023,2047,1023,5119,1023,17407,62463,131071,262143,524287,1048575,2097151,1048575,8388607,16777215,33554431,67108863,134217727,268435455,134217727,1073741823,2147483647,134217727,4429185023,17179869183,34359738367,68719476735] (.one 0 (.flo [1,2,3,4,5,6,7,8,9,10,11,12,13,14,15,16,17,18,19,20,22] (.ext 21 (.one 23 (.flo [24,25,26,27,29] (.pur [32,33] (.ext 28 (.one 30 (.flo [31,34,35,36] (.fin)))))))))) (by kernel_rfl) (by kernel_rfl) (by intro _ _ d _ _ h; cases d <;> exact h) ?_
      refine ord_one (pick_cons rfl pick_nil) ?_; intro K_ hK_
      go_wp2_with (go_at_call 16; refine (known_true _ (G.ext (F35.trans X))).mono ?_; rintro e wK ⟨rfl, xK⟩)
      have XK := X.trans xK
      have qab0 : ∀ y : Xt wK, y.W.cell? ⟨w9.heap.size, 0, none⟩ = some (.int .u8 (4)) := fun y => (ab_35.ext (XK.trans y.x)).cell 0
      have qab1 : ∀ y : Xt wK, y.W.cell? ⟨w9.heap.size, 1, none⟩ = some (.bool (false)) := fun y => (ab_35.ext (XK.trans y.x)).cell 1
      have qab2 : ∀ y : Xt wK, y.W.cell? ⟨w9.heap.size, 2, none⟩ = some (.int .i64 (0)) := fun y => (ab_35.ext (XK.trans y.x)).cell 2
      have qab3 : ∀ y : Xt wK, y.W.cell? ⟨w9.heap.size, 3, none⟩ = some (.string (sab)) := fun y => (ab_35.ext (XK.trans y.x)).cell 3
      have qx0 : ∀ y : Xt wK, y.W.cell? ⟨gx, 0, none⟩ = some (.int .u8 (4)) := fun y => (x_35.ext (XK.trans y.x)).cell 0
      have qx1 : ∀ y : Xt wK, y.W.cell? ⟨gx, 1, none⟩ = some (.bool (false)) := fun y => (x_35.ext (XK.trans y.x)).cell 1
      have qx2 : ∀ y : Xt wK, y.W.cell? ⟨gx, 2, none⟩ = some (.int .i64 (0)) := fun y => (x_35.ext (XK.trans y.x)).cell 2
      have qx3 : ∀ y : Xt wK, y.W.cell? ⟨gx, 3, none⟩ = some (.string (sx)) := fun y => (x_35.ext (XK.trans y.x)).cell 3
      have qy0 : ∀ y : Xt wK, y.W.cell? ⟨gy, 0, none⟩ = some (.int .u8 (4)) := fun y => (y_35.ext (XK.trans y.x)).cell 0
      have qy1 : ∀ y : Xt wK, y.W.cell? ⟨gy, 1, none⟩ = some (.bool (false)) := fun y => (y_35.ext (XK.trans y.x)).cell 1
      have qy2 : ∀ y : Xt wK, y.W.cell? ⟨gy, 2, none⟩ = some (.int .i64 (0)) := fun y => (y_35.ext (XK.trans y.x)).cell 2
      have qy3 : ∀ y : Xt wK, y.W.cell? ⟨gy, 3, none⟩ = some (.string (sx)) := fun y => (y_35.ext (XK.trans y.x)).cell 3
      have qk2 : ∀ y : Xt wK, y.W.cell? ⟨w32.heap.size, 2, none⟩ = some (.int .i64 ((na : Int))) := fun y => (k_35.ext (XK.trans y.x)).cell 2
      have ql2 : ∀ y : Xt wK, y.W.cell? ⟨w34.heap.size, 2, none⟩ = some (.int .i64 ((nb : Int))) := fun y => (l_35.ext (XK.trans y.x)).cell 2
      have qm2 : ∀ y : Xt wK, y.W.cell? ⟨w35.heap.size, 2, none⟩ = some (.int .i64 ((nm : Int))) := fun y => (m_35.ext (XK.trans y.x)).cell 2
      (refine ord_flo (pick_cons rfl (pick_cons rfl (pick_cons rfl (pick_cons rfl (pick_cons rfl (pick_cons rfl (pick_cons rfl (pick_cons rfl (pick_cons rfl (pick_cons rfl (pick_cons rfl (pick_cons rfl (pick_cons rfl (pick_cons rfl (pick_cons rfl (pick_cons rfl (pick_cons rfl (pick_cons rfl (pick_cons rfl (pick_cons rfl (pick_cons rfl pick_nil))))))))))))))))))))) ?_; (repeat (go_big_quiet_step (fail))); refine wpQuiet_nil ?_; show ordWalk _ _ _ _ _ _ _)
      refine ord_ext (pick_cons rfl pick_nil) ?_; intro K_ hK_
      go_wp2_with (go_at_call 42; refine (textL_any _ _).mono ?_; rintro e wT ⟨rfl, xT⟩)
      refine ordNext.mk xT ?_
      refine ord_one (pick_cons rfl pick_nil) ?_; intro K_ hK_
      go_wp2_with (go_at_call 39; refine (cmp_texts sa sab _ H8).mono ?_; rintro e wM ⟨rfl, xM⟩)
      have XM := (XK.trans xT).trans xM
      have r0 : ∀ y : Xt wM, y.W.cell? ⟨w9.heap.size, 0, none⟩ = some (.int .u8 (4)) := fun y => (ab_35.ext (XM.trans y.x)).cell 0
      have r1 : ∀ y : Xt wM, y.W.cell? ⟨w9.heap.size, 1, none⟩ = some (.bool (false)) := fun y => (ab_35.ext (XM.trans y.x)).cell 1
      have r2 : ∀ y : Xt wM, y.W.cell? ⟨w9.heap.size, 2, none⟩ = some (.int .i64 (0)) := fun y => (ab_35.ext (XM.trans y.x)).cell 2
      have r3 : ∀ y : Xt wM, y.W.cell? ⟨w9.heap.size, 3, none⟩ = some (.string (sab)) := fun y => (ab_35.ext (XM.trans y.x)).cell 3
      (refine ord_flo (pick_cons rfl (pick_cons rfl (pick_cons rfl (pick_cons rfl (pick_cons rfl pick_nil))))) ?_; (repeat (go_big_quiet_step (fail))); refine wpQuiet_nil ?_; show ordWalk _ _ _ _ _ _ _)
      (refine ord_pur (pick_cons rfl (pick_cons rfl pick_nil)) ?_; (repeat (go_big_quiet_step (fail))); refine wpQuiet_nil ?_; show ordWalk _ _ _ _ _ _ _)
      refine ord_ext (pick_cons rfl pick_nil) ?_; intro K_ hK_
      go_wp2_with (go_at_call 42; refine (textL_any _ _).mono ?_; rintro e wU ⟨rfl, xU⟩)
      refine ordNext.mk xU ?_
      refine ord_one (pick_cons rfl pick_nil) ?_; intro K_ hK_
      go_wp2_with (go_at_call 39; refine (cmp_texts sa sab _ H8).mono ?_; rintro e wV ⟨rfl, xV⟩)
      (refine ord_flo (pick_cons rfl (pick_cons rfl (pick_cons rfl (pick_cons rfl pick_nil)))) ?_; (repeat (go_big_quiet_step (fail))); refine wpQuiet_nil ?_; show ordWalk _ _ _ _ _ _ _)
      refine ord_fin ?_
      go_wp2
      go_ret
      exact ⟨rfl, ((F35.trans XM).trans xU).trans xV⟩
set_option maxRecDepth 100000 in
set_option maxHeartbeats 4000000 in
theorem joins_less (sa sb sc sab sbc sx : ByteArray) (na nb nm : Nat) (w : World) (ga : sa.size ≤ 1000) (gb : sb.size ≤ 1000) (gc : sc.size ≤ 1000) (G : Good w) (h : sa.size + sb.size + sc.size ≤ 1000)
    (hca : checkT 4 false 0 sa = 0) (hcb : checkT 4 false 0 sb = 0) (hcc : checkT 4 false 0 sc = 0) (gab : sab.size ≤ 1000) (gbc : sbc.size ≤ 1000)
    (h1 : conR (Dat.text sa) (Dat.text sb) = ((⟨4, false, 0, sab⟩ : Dat), 0)) (h2 : conR (Dat.text sb) (Dat.text sc) = ((⟨4, false, 0, sbc⟩ : Dat), 0)) (h3 : conR (Dat.text sab) (Dat.text sc) = ((⟨4, false, 0, sx⟩ : Dat), 0)) (h4 : conR (Dat.text sa) (Dat.text sbc) = ((⟨4, false, 0, sx⟩ : Dat), 0))
    (h5 : lenR (Dat.text sa) = ((⟨3, false, na, ⟨#[]⟩⟩ : Dat), 0)) (h6 : lenR (Dat.text sb) = ((⟨3, false, nb, ⟨#[]⟩⟩ : Dat), 0)) (h7 : lenR (Dat.text sab) = ((⟨3, false, nm, ⟨#[]⟩⟩ : Dat), 0)) (hw : (na : Int) + (nb : Int) = (nm : Int)) (hm : nm ≤ 1000) (h8 : cmpS sa sab = -1) (hz : ¬ sb.toList = []) :
    Calls Tryd.prog 10 #[.string sa, .string sb, .string sc] w fun e w' => e = .returned (.bool true) ∧ Ext w w' := by
  have ga2 : sa.size ≤ 9223372036854775807 := by omega
  have gb2 : sb.size ≤ 9223372036854775807 := by omega
  have gc2 : sc.size ≤ 9223372036854775807 := by omega
  have gab2 : sab.size ≤ 9223372036854775807 := by omega
  have gbc2 : sbc.size ≤ 9223372036854775807 := by omega
  have hw2 : IntKind.i64.wrap ((na : Int) + (nb : Int)) = (nm : Int) := by rw [hw]; exact IntWalk.i64_in _ (by omega)
  have hw3 : wrap64 ((na : Int) + (nb : Int)) = (nm : Int) := by rw [hw]; unfold wrap64; omega
  clear hw
  have hz2 : sb.toList.isEmpty = false := by simpa using hz
  have HCA := Lib.hid hca
  clear hca
  have HCB := Lib.hid hcb
  clear hcb
  have HCC := Lib.hid hcc
  clear hcc
  have H1 := Lib.hid h1
  clear h1
  have H2 := Lib.hid h2
  clear h2
  have H3 := Lib.hid h3
  clear h3
  have H4 := Lib.hid h4
  clear h4
  have H5 := Lib.hid h5
  clear h5
  have H6 := Lib.hid h6
  clear h6
  have H7 := Lib.hid h7
  clear h7
  have H8 := Lib.hid h8
  clear h8
  have HM := Lib.hid hm
  clear hm
  have m1 : True := trivial
  go_enter Tryd.func10, Tryd.ntmps10
  go_upto_region 5 with (first
    | (have z := m1; clear z m1; go_at_call 42; refine (textL_any _ _).mono ?_; rintro e w1 ⟨rfl, x1⟩; have F1 : Ext w w1 := ((Ext.refl w).trans x1); clear x1; have m2 : True := trivial)
    | (have z := m2; clear z m2; go_at_call 15; refine (check_at 4 false 0 sa _ HCA ga2 (G.ext F1)).mono ?_; rintro e w2 ⟨rfl, x2⟩; have F2 : Ext w w2 := (F1.trans x2); clear x2; have m3 : True := trivial)
    | (have z := m3; clear z m3; go_at_call 42; refine (textL_any _ _).mono ?_; rintro e w3 ⟨rfl, x3⟩; have F3 : Ext w w3 := (F2.trans x3); clear x3; have m4 : True := trivial)
    | (have z := m4; clear z m4; go_at_call 15; refine (check_at 4 false 0 sb _ HCB gb2 (G.ext F3)).mono ?_; rintro e w4 ⟨rfl, x4⟩; have F4 : Ext w w4 := (F3.trans x4); clear x4; have m5 : True := trivial)
    | (have z := m5; clear z m5; go_at_call 42; refine (textL_any _ _).mono ?_; rintro e w5 ⟨rfl, x5⟩; have F5 : Ext w w5 := (F4.trans x5); clear x5; have m6 : True := trivial)
    | (have z := m6; clear z m6; go_at_call 15; refine (check_at 4 false 0 sc _ HCC gc2 (G.ext F5)).mono ?_; rintro e w6 ⟨rfl, x6⟩; have F6 : Ext w w6 := (F5.trans x6); clear x6; have m7 : True := trivial)
    | (have z := m7; clear z m7; go_at_call 42; refine (textL_any _ _).mono ?_; rintro e w7 ⟨rfl, x7⟩; have F7 : Ext w w7 := (F6.trans x7); clear x7; have m8 : True := trivial)
    | (have z := m8; clear z m8; go_at_call 42; refine (textL_any _ _).mono ?_; rintro e w8 ⟨rfl, x8⟩; have F8 : Ext w w8 := (F7.trans x8); clear x8; have m9 : True := trivial)
    | (have z := m9; clear z m9; go_at_call 43; refine (con_at sa sb _ H1 ga2 gb2 (G.ext F8)).mono ?_; rintro e w9 ⟨rfl, x9⟩; have F9 : Ext w (w9.alloc (.cells #[.int .u8 (4), .bool (false), .int .i64 (0), .string (sab)] 24)) := (F8.trans x9).alloc _; have ab_9 := Bk.new w9 24 #[.int .u8 (4), .bool (false), .int .i64 (0), .string (sab)]; clear x9; have m10 : True := trivial)
    | (have z := m10; clear z m10; go_at_call 42; refine (textL_any _ _).mono ?_; rintro e w10 ⟨rfl, x10⟩; have ab_10 := ab_9.ext x10; have F10 : Ext w w10 := (F9.trans x10); clear x10; have m11 : True := trivial)
    | (have z := m11; clear z m11; go_at_call 42; refine (textL_any _ _).mono ?_; rintro e w11 ⟨rfl, x11⟩; have ab_11 := ab_10.ext x11; have F11 : Ext w w11 := (F10.trans x11); clear x11; have m12 : True := trivial)
    | (have z := m12; clear z m12; go_at_call 43; refine (con_at sb sc _ H2 gb2 gc2 (G.ext F11)).mono ?_; rintro e w12 ⟨rfl, x12⟩; have ab_12 := (ab_11.ext x12).alloc (.cells #[.int .u8 (4), .bool (false), .int .i64 (0), .string (sbc)] 24); have F12 : Ext w (w12.alloc (.cells #[.int .u8 (4), .bool (false), .int .i64 (0), .string (sbc)] 24)) := (F11.trans x12).alloc _; have bc_12 := Bk.new w12 24 #[.int .u8 (4), .bool (false), .int .i64 (0), .string (sbc)]; clear x12; have m13 : True := trivial)
    | fail)
  obtain ⟨w0, hw0⟩ : ∃ w0, w0 = w12.alloc (.cells #[.int .u8 (4), .bool (false), .int .i64 (0), .string (sbc)] 24) := ⟨_, rfl⟩
  rw [← hw0] at ab_12 bc_12 F12 ⊢
  clear hw0
  go_cut [11, 12] (fun sp se wx => ∃ g : Nat, sp = .pointer (some ⟨g, 0, none⟩) ∧ se = .int .u16 0 ∧ Ext w0 wx ∧ Bk wx g 24 #[.int .u8 (4), .bool (false), .int .i64 (0), .string (sx)])
  case first =>
    have X : Ext w0 w0.drew := (Ext.refl w0).drew
    have pl0 : ∀ y : Xt w0.drew, y.W.cell? ⟨w9.heap.size, 0, none⟩ = some (.int .u8 (4)) := fun y => (ab_12.ext (X.trans y.x)).cell 0
    have pl1 : ∀ y : Xt w0.drew, y.W.cell? ⟨w9.heap.size, 1, none⟩ = some (.bool (false)) := fun y => (ab_12.ext (X.trans y.x)).cell 1
    have pl2 : ∀ y : Xt w0.drew, y.W.cell? ⟨w9.heap.size, 2, none⟩ = some (.int .i64 (0)) := fun y => (ab_12.ext (X.trans y.x)).cell 2
    have pl3 : ∀ y : Xt w0.drew, y.W.cell? ⟨w9.heap.size, 3, none⟩ = some (.string (sab)) := fun y => (ab_12.ext (X.trans y.x)).cell 3
    refine wp_region_ord [0,0,2,7,15,31,31,0,191,511] (.flo [0,1] (.both 2 7 (.both 3 7 (.flo [4,5] (.pur [6] (.ext 7 (.one 8 (.flo [9] (.fin)))))) (.ext 3 (.flo [4,5] (.pur [6] (.one 8 (.flo [9] (.fin))))))) (.ext 2 (.ext 3 (.flo [4,5] (.pur [6] (.one 8 (.flo [9] (.fin))))))))) (by kernel_rfl) (by kernel_rfl) (by intro _ _ d _ _ h; cases d <;> exact h) ?_
    (refine ord_flo (pick_cons rfl (pick_cons rfl pick_nil)) ?_; (repeat (go_big_quiet_step (fail))); refine wpQuiet_nil ?_; show ordWalk _ _ _ _ _ _ _)
    refine ord_both (pick_cons rfl pick_nil) (pick_cons rfl pick_nil) ?_ ?_ <;> intro K_ hK_
    · go_wp2_with (go_at_call 42; refine (textL_any _ _).mono ?_; rintro e w1 ⟨rfl, x1⟩)
      refine ordNext.mk x1 ?_
      refine ord_both (pick_cons rfl pick_nil) (pick_cons rfl pick_nil) ?_ ?_ <;> intro K_ hK_
      · go_wp2_with (go_at_call 43; refine (con_at sab sc _ H3 gab2 gc2 (G.ext ((F12.trans X).trans x1))).mono ?_; rintro e w2 ⟨rfl, x2⟩)
        refine ordNext.mk x2 ?_
        (refine ord_flo (pick_cons rfl (pick_cons rfl pick_nil)) ?_; (repeat (go_big_quiet_step (fail))); refine wpQuiet_nil ?_; show ordWalk _ _ _ _ _ _ _)
        (refine ord_pur (pick_cons rfl pick_nil) ?_; (repeat (go_big_quiet_step (fail))); refine wpQuiet_nil ?_; show ordWalk _ _ _ _ _ _ _)
        refine ord_ext (pick_cons rfl pick_nil) ?_; intro K_ hK_
        go_wp2
        refine ordNext.mk ((Ext.refl _).alloc _) ?_
        refine ord_one (pick_cons rfl pick_nil) ?_; intro K_ hK_
        go_wp2
        (refine ord_flo (pick_cons rfl pick_nil) ?_; (repeat (go_big_quiet_step (fail))); refine wpQuiet_nil ?_; show ordWalk _ _ _ _ _ _ _)
        refine ord_fin ?_
        go_wp2_with fail
        go_meet
        case rel => exact ⟨_, rfl, rfl, ((X.trans x1).trans x2).alloc _, Bk.new _ _ _⟩
      · go_wp2
        refine ordNext.mk ((Ext.refl _).alloc _) ?_
        refine ord_ext (pick_cons rfl pick_nil) ?_; intro K_ hK_
        go_wp2_with (go_at_call 43; refine (con_at sab sc _ H3 gab2 gc2 (G.ext (((F12.trans X).trans x1).alloc (.cells #[.int .u8 (0), .bool (false), .int .i64 (0), .string (⟨#[]⟩)] 24)))).mono ?_; rintro e w2 ⟨rfl, x2⟩)
        have bz : Bk w2 (w1.heap.size) 24 #[.int .u8 (0), .bool (false), .int .i64 (0), .string (⟨#[]⟩)] := Bk.ext (Bk.new w1 _ _) x2
        have bzf0 : w2.frozen? ⟨w1.heap.size, 0, none⟩ = false := bz.free 0; have bzf1 : w2.frozen? ⟨w1.heap.size, 1, none⟩ = false := bz.free 1; have bzf2 : w2.frozen? ⟨w1.heap.size, 2, none⟩ = false := bz.free 2; have bzf3 : w2.frozen? ⟨w1.heap.size, 3, none⟩ = false := bz.free 3
        have bz0 : w2.cell? ⟨w1.heap.size, 0, none⟩ = some (.int .u8 (0)) := bz.cell 0; have bz1 : w2.cell? ⟨w1.heap.size, 1, none⟩ = some (.bool (false)) := bz.cell 1; have bz2 : w2.cell? ⟨w1.heap.size, 2, none⟩ = some (.int .i64 (0)) := bz.cell 2; have bz3 : w2.cell? ⟨w1.heap.size, 3, none⟩ = some (.string (⟨#[]⟩)) := bz.cell 3
        refine ordNext.mk x2 ?_
        (refine ord_flo (pick_cons rfl (pick_cons rfl pick_nil)) ?_; (repeat (go_big_quiet_step (fail))); refine wpQuiet_nil ?_; show ordWalk _ _ _ _ _ _ _)
        (refine ord_pur (pick_cons rfl pick_nil) ?_; (repeat (go_big_quiet_step (fail))); refine wpQuiet_nil ?_; show ordWalk _ _ _ _ _ _ _)
        refine ord_one (pick_cons rfl pick_nil) ?_; intro K_ hK_
        go_wp2
        (refine ord_flo (pick_cons rfl pick_nil) ?_; (repeat (go_big_quiet_step (fail))); refine wpQuiet_nil ?_; show ordWalk _ _ _ _ _ _ _)
        refine ord_fin ?_
        go_wp2_with fail
        go_meet
        case rel => exact ⟨w1.heap.size, rfl, rfl, Ext.set4 (((X.trans x1).alloc (.cells #[.int .u8 (0), .bool (false), .int .i64 (0), .string (⟨#[]⟩)] 24)).trans x2) (X.trans x1).size _ _ _ _, (((bz.set 0 _).set 1 _).set 2 _).set 3 _⟩
    · go_wp2
      refine ordNext.mk ((Ext.refl _).alloc _) ?_
      refine ord_ext (pick_cons rfl pick_nil) ?_; intro K_ hK_
      go_wp2_with (go_at_call 42; refine (textL_any _ _).mono ?_; rintro e w1 ⟨rfl, x1⟩)
      refine ordNext.mk x1 ?_
      refine ord_ext (pick_cons rfl pick_nil) ?_; intro K_ hK_
      go_wp2_with (go_at_call 43; refine (con_at sab sc _ H3 gab2 gc2 (G.ext (((F12.trans X).alloc (.cells #[.int .u8 (0), .bool (false), .int .i64 (0), .string (⟨#[]⟩)] 24)).trans (by exact x1)))).mono ?_; rintro e w2 ⟨rfl, x2⟩)
      have bz : Bk w2 (w0.heap.size) 24 #[.int .u8 (0), .bool (false), .int .i64 (0), .string (⟨#[]⟩)] := Bk.ext (Bk.ext (w := (w0.alloc (.cells #[.int .u8 (0), .bool (false), .int .i64 (0), .string (⟨#[]⟩)] 24)).drew) (Bk.new w0 _ _) (by exact x1)) x2
      have bzf0 : w2.frozen? ⟨w0.heap.size, 0, none⟩ = false := bz.free 0; have bzf1 : w2.frozen? ⟨w0.heap.size, 1, none⟩ = false := bz.free 1; have bzf2 : w2.frozen? ⟨w0.heap.size, 2, none⟩ = false := bz.free 2; have bzf3 : w2.frozen? ⟨w0.heap.size, 3, none⟩ = false := bz.free 3
      have bz0 : w2.cell? ⟨w0.heap.size, 0, none⟩ = some (.int .u8 (0)) := bz.cell 0; have bz1 : w2.cell? ⟨w0.heap.size, 1, none⟩ = some (.bool (false)) := bz.cell 1; have bz2 : w2.cell? ⟨w0.heap.size, 2, none⟩ = some (.int .i64 (0)) := bz.cell 2; have bz3 : w2.cell? ⟨w0.heap.size, 3, none⟩ = some (.string (⟨#[]⟩)) := bz.cell 3
      refine ordNext.mk x2 ?_
      (refine ord_flo (pick_cons rfl (pick_cons rfl pick_nil)) ?_; (repeat (go_big_quiet_step (fail))); refine wpQuiet_nil ?_; show ordWalk _ _ _ _ _ _ _)
      (refine ord_pur (pick_cons rfl pick_nil) ?_; (repeat (go_big_quiet_step (fail))); refine wpQuiet_nil ?_; show ordWalk _ _ _ _ _ _ _)
      refine ord_one (pick_cons rfl pick_nil) ?_; intro K_ hK_
      go_wp2
      (refine ord_flo (pick_cons rfl pick_nil) ?_; (repeat (go_big_quiet_step (fail))); refine wpQuiet_nil ?_; show ordWalk _ _ _ _ _ _ _)
      refine ord_fin ?_
      go_wp2_with fail
      go_meet
      case rel => exact ⟨w0.heap.size, rfl, rfl, Ext.set4 (((X.alloc (.cells #[.int .u8 (0), .bool (false), .int .i64 (0), .string (⟨#[]⟩)] 24)).trans (by exact x1)).trans x2) (Nat.le_refl _) _ _ _ _, (((bz.set 0 _).set 1 _).set 2 _).set 3 _⟩
  case rest =>
    obtain ⟨gx, rfl, rfl, xc, bx⟩ := hcut
    obtain ⟨wA, hwA⟩ : ∃ x, x = wc := ⟨_, rfl⟩
    subst hwA
    have abA := ab_12.ext xc
    have bcA := bc_12.ext xc
    have FA := F12.trans xc
    go_upto_region 6 with fail
    go_cut [13, 14] (fun sp se wx => ∃ g : Nat, sp = .pointer (some ⟨g, 0, none⟩) ∧ se = .int .u16 0 ∧ Ext wA wx ∧ Bk wx g 24 #[.int .u8 (4), .bool (false), .int .i64 (0), .string (sx)])
    case first =>
      have X : Ext wA wA.drew := (Ext.refl wA).drew
      have pl0 : ∀ y : Xt wA.drew, y.W.cell? ⟨w12.heap.size, 0, none⟩ = some (.int .u8 (4)) := fun y => (bcA.ext (X.trans y.x)).cell 0
      have pl1 : ∀ y : Xt wA.drew, y.W.cell? ⟨w12.heap.size, 1, none⟩ = some (.bool (false)) := fun y => (bcA.ext (X.trans y.x)).cell 1
      have pl2 : ∀ y : Xt wA.drew, y.W.cell? ⟨w12.heap.size, 2, none⟩ = some (.int .i64 (0)) := fun y => (bcA.ext (X.trans y.x)).cell 2
      have pl3 : ∀ y : Xt wA.drew, y.W.cell? ⟨w12.heap.size, 3, none⟩ = some (.string (sbc)) := fun y => (bcA.ext (X.trans y.x)).cell 3
      refine wp_region_ord [0,1,0,7,15,31,31,0,191,511] (.flo [0,2] (.both 1 7 (.both 3 7 (.flo [4,5] (.pur [6] (.ext 7 (.one 8 (.flo [9] (.fin)))))) (.ext 3 (.flo [4,5] (.pur [6] (.one 8 (.flo [9] (.fin))))))) (.ext 1 (.ext 3 (.flo [4,5] (.pur [6] (.one 8 (.flo [9] (.fin))))))))) (by kernel_rfl) (by kernel_rfl) (by intro _ _ d _ _ h; cases d <;> exact h) ?_
      (refine ord_flo (pick_cons rfl (pick_cons rfl pick_nil)) ?_; (repeat (go_big_quiet_step (fail))); refine wpQuiet_nil ?_; show ordWalk _ _ _ _ _ _ _)
      refine ord_both (pick_cons rfl pick_nil) (pick_cons rfl pick_nil) ?_ ?_ <;> intro K_ hK_
      · go_wp2_with (go_at_call 42; refine (textL_any _ _).mono ?_; rintro e w1 ⟨rfl, x1⟩)
        refine ordNext.mk x1 ?_
        refine ord_both (pick_cons rfl pick_nil) (pick_cons rfl pick_nil) ?_ ?_ <;> intro K_ hK_
        · go_wp2_with (go_at_call 43; refine (con_at sa sbc _ H4 ga2 gbc2 (G.ext ((FA.trans X).trans x1))).mono ?_; rintro e w2 ⟨rfl, x2⟩)
          refine ordNext.mk x2 ?_
          (refine ord_flo (pick_cons rfl (pick_cons rfl pick_nil)) ?_; (repeat (go_big_quiet_step (fail))); refine wpQuiet_nil ?_; show ordWalk _ _ _ _ _ _ _)
          (refine ord_pur (pick_cons rfl pick_nil) ?_; (repeat (go_big_quiet_step (fail))); refine wpQuiet_nil ?_; show ordWalk _ _ _ _ _ _ _)
          refine ord_ext (pick_cons rfl pick_nil) ?_; intro K_ hK_
          go_wp2
          refine ordNext.mk ((Ext.refl _).alloc _) ?_
          refine ord_one (pick_cons rfl pick_nil) ?_; intro K_ hK_
          go_wp2
          (refine ord_flo (pick_cons rfl pick_nil) ?_; (repeat (go_big_quiet_step (fail))); refine wpQuiet_nil ?_; show ordWalk _ _ _ _ _ _ _)
          refine ord_fin ?_
          go_wp2_with fail
          go_meet
          case rel => exact ⟨_, rfl, rfl, ((X.trans x1).trans x2).alloc _, Bk.new _ _ _⟩
        · go_wp2
          refine ordNext.mk ((Ext.refl _).alloc _) ?_
          refine ord_ext (pick_cons rfl pick_nil) ?_; intro K_ hK_
          go_wp2_with (go_at_call 43; refine (con_at sa sbc _ H4 ga2 gbc2 (G.ext (((FA.trans X).trans x1).alloc (.cells #[.int .u8 (0), .bool (false), .int .i64 (0), .string (⟨#[]⟩)] 24)))).mono ?_; rintro e w2 ⟨rfl, x2⟩)
          have bz : Bk w2 (w1.heap.size) 24 #[.int .u8 (0), .bool (false), .int .i64 (0), .string (⟨#[]⟩)] := Bk.ext (Bk.new w1 _ _) x2
          have bzf0 : w2.frozen? ⟨w1.heap.size, 0, none⟩ = false := bz.free 0; have bzf1 : w2.frozen? ⟨w1.heap.size, 1, none⟩ = false := bz.free 1; have bzf2 : w2.frozen? ⟨w1.heap.size, 2, none⟩ = false := bz.free 2; have bzf3 : w2.frozen? ⟨w1.heap.size, 3, none⟩ = false := bz.free 3
          have bz0 : w2.cell? ⟨w1.heap.size, 0, none⟩ = some (.int .u8 (0)) := bz.cell 0; have bz1 : w2.cell? ⟨w1.heap.size, 1, none⟩ = some (.bool (false)) := bz.cell 1; have bz2 : w2.cell? ⟨w1.heap.size, 2, none⟩ = some (.int .i64 (0)) := bz.cell 2; have bz3 : w2.cell? ⟨w1.heap.size, 3, none⟩ = some (.string (⟨#[]⟩)) := bz.cell 3
          refine ordNext.mk x2 ?_
          (refine ord_flo (pick_cons rfl (pick_cons rfl pick_nil)) ?_; (repeat (go_big_quiet_step (fail))); refine wpQuiet_nil ?_; show ordWalk _ _ _ _ _ _ _)
          (refine ord_pur (pick_cons rfl pick_nil) ?_; (repeat (go_big_quiet_step (fail))); refine wpQuiet_nil ?_; show ordWalk _ _ _ _ _ _ _)
          refine ord_one (pick_cons rfl pick_nil) ?_; intro K_ hK_
          go_wp2
          (refine ord_flo (pick_cons rfl pick_nil) ?_; (repeat (go_big_quiet_step (fail))); refine wpQuiet_nil ?_; show ordWalk _ _ _ _ _ _ _)
          refine ord_fin ?_
          go_wp2_with fail
          go_meet
          case rel => exact ⟨w1.heap.size, rfl, rfl, Ext.set4 (((X.trans x1).alloc (.cells #[.int .u8 (0), .bool (false), .int .i64 (0), .string (⟨#[]⟩)] 24)).trans x2) (X.trans x1).size _ _ _ _, (((bz.set 0 _).set 1 _).set 2 _).set 3 _⟩
      · go_wp2
        refine ordNext.mk ((Ext.refl _).alloc _) ?_
        refine ord_ext (pick_cons rfl pick_nil) ?_; intro K_ hK_
        go_wp2_with (go_at_call 42; refine (textL_any _ _).mono ?_; rintro e w1 ⟨rfl, x1⟩)
        refine ordNext.mk x1 ?_
        refine ord_ext (pick_cons rfl pick_nil) ?_; intro K_ hK_
        go_wp2_with (go_at_call 43; refine (con_at sa sbc _ H4 ga2 gbc2 (G.ext (((FA.trans X).alloc (.cells #[.int .u8 (0), .bool (false), .int .i64 (0), .string (⟨#[]⟩)] 24)).trans (by exact x1)))).mono ?_; rintro e w2 ⟨rfl, x2⟩)
        have bz : Bk w2 (wA.heap.size) 24 #[.int .u8 (0), .bool (false), .int .i64 (0), .string (⟨#[]⟩)] := Bk.ext (Bk.ext (w := (wA.alloc (.cells #[.int .u8 (0), .bool (false), .int .i64 (0), .string (⟨#[]⟩)] 24)).drew) (Bk.new wA _ _) (by exact x1)) x2
        have bzf0 : w2.frozen? ⟨wA.heap.size, 0, none⟩ = false := bz.free 0; have bzf1 : w2.frozen? ⟨wA.heap.size, 1, none⟩ = false := bz.free 1; have bzf2 : w2.frozen? ⟨wA.heap.size, 2, none⟩ = false := bz.free 2; have bzf3 : w2.frozen? ⟨wA.heap.size, 3, none⟩ = false := bz.free 3
        have bz0 : w2.cell? ⟨wA.heap.size, 0, none⟩ = some (.int .u8 (0)) := bz.cell 0; have bz1 : w2.cell? ⟨wA.heap.size, 1, none⟩ = some (.bool (false)) := bz.cell 1; have bz2 : w2.cell? ⟨wA.heap.size, 2, none⟩ = some (.int .i64 (0)) := bz.cell 2; have bz3 : w2.cell? ⟨wA.heap.size, 3, none⟩ = some (.string (⟨#[]⟩)) := bz.cell 3
        refine ordNext.mk x2 ?_
        (refine ord_flo (pick_cons rfl (pick_cons rfl pick_nil)) ?_; (repeat (go_big_quiet_step (fail))); refine wpQuiet_nil ?_; show ordWalk _ _ _ _ _ _ _)
        (refine ord_pur (pick_cons rfl pick_nil) ?_; (repeat (go_big_quiet_step (fail))); refine wpQuiet_nil ?_; show ordWalk _ _ _ _ _ _ _)
        refine ord_one (pick_cons rfl pick_nil) ?_; intro K_ hK_
        go_wp2
        (refine ord_flo (pick_cons rfl pick_nil) ?_; (repeat (go_big_quiet_step (fail))); refine wpQuiet_nil ?_; show ordWalk _ _ _ _ _ _ _)
        refine ord_fin ?_
        go_wp2_with fail
        go_meet
        case rel => exact ⟨wA.heap.size, rfl, rfl, Ext.set4 (((X.alloc (.cells #[.int .u8 (0), .bool (false), .int .i64 (0), .string (⟨#[]⟩)] 24)).trans (by exact x1)).trans x2) (Nat.le_refl _) _ _ _ _, (((bz.set 0 _).set 1 _).set 2 _).set 3 _⟩
    case rest =>
      obtain ⟨gy, rfl, rfl, xd, bY⟩ := hcut
      obtain ⟨wB, hwB⟩ : ∃ x, x = wc := ⟨_, rfl⟩
      subst hwB
      have ab_B := abA.ext xd
      have x_B := bx.ext xd
      have FB := FA.trans xd
      have n31 : True := trivial
      go_upto_region 11 with (first
        | (have z := n31; clear z n31; go_at_call 42; refine (textL_any _ _).mono ?_; rintro e w31 ⟨rfl, x31⟩; have ab_31 := ab_B.ext x31; have x_31 := x_B.ext x31; have y_31 := bY.ext x31; have F31 : Ext w w31 := (FB.trans x31); clear x31; have n32 : True := trivial)
        | (have z := n32; clear z n32; go_at_call 44; refine (len_at sa _ H5 ga2 (G.ext F31)).mono ?_; rintro e w32 ⟨rfl, x32⟩; have ab_32 := (ab_31.ext x32).alloc (.cells #[.int .u8 (3), .bool (false), .int .i64 ((na : Int)), .string (⟨#[]⟩)] 24); have x_32 := (x_31.ext x32).alloc (.cells #[.int .u8 (3), .bool (false), .int .i64 ((na : Int)), .string (⟨#[]⟩)] 24); have y_32 := (y_31.ext x32).alloc (.cells #[.int .u8 (3), .bool (false), .int .i64 ((na : Int)), .string (⟨#[]⟩)] 24); have F32 : Ext w (w32.alloc (.cells #[.int .u8 (3), .bool (false), .int .i64 ((na : Int)), .string (⟨#[]⟩)] 24)) := (F31.trans x32).alloc _; have k_32 := Bk.new w32 24 #[.int .u8 (3), .bool (false), .int .i64 ((na : Int)), .string (⟨#[]⟩)]; clear x32; have n33 : True := trivial)
        | (have z := n33; clear z n33; go_at_call 42; refine (textL_any _ _).mono ?_; rintro e w33 ⟨rfl, x33⟩; have ab_33 := ab_32.ext x33; have x_33 := x_32.ext x33; have y_33 := y_32.ext x33; have k_33 := k_32.ext x33; have F33 : Ext w w33 := (F32.trans x33); clear x33; have n34 : True := trivial)
        | (have z := n34; clear z n34; go_at_call 44; refine (len_at sb _ H6 gb2 (G.ext F33)).mono ?_; rintro e w34 ⟨rfl, x34⟩; have ab_34 := (ab_33.ext x34).alloc (.cells #[.int .u8 (3), .bool (false), .int .i64 ((nb : Int)), .string (⟨#[]⟩)] 24); have x_34 := (x_33.ext x34).alloc (.cells #[.int .u8 (3), .bool (false), .int .i64 ((nb : Int)), .string (⟨#[]⟩)] 24); have y_34 := (y_33.ext x34).alloc (.cells #[.int .u8 (3), .bool (false), .int .i64 ((nb : Int)), .string (⟨#[]⟩)] 24); have k_34 := (k_33.ext x34).alloc (.cells #[.int .u8 (3), .bool (false), .int .i64 ((nb : Int)), .string (⟨#[]⟩)] 24); have F34 : Ext w (w34.alloc (.cells #[.int .u8 (3), .bool (false), .int .i64 ((nb : Int)), .string (⟨#[]⟩)] 24)) := (F33.trans x34).alloc _; have l_34 := Bk.new w34 24 #[.int .u8 (3), .bool (false), .int .i64 ((nb : Int)), .string (⟨#[]⟩)]; clear x34; have ab_340 : (w34.alloc (.cells #[.int .u8 (3), .bool (false), .int .i64 ((nb : Int)), .string (⟨#[]⟩)] 24)).cell? ⟨w9.heap.size, 0, none⟩ = some (.int .u8 (4)) := ab_34.cell 0; have ab_341 : (w34.alloc (.cells #[.int .u8 (3), .bool (false), .int .i64 ((nb : Int)), .string (⟨#[]⟩)] 24)).cell? ⟨w9.heap.size, 1, none⟩ = some (.bool (false)) := ab_34.cell 1; have ab_342 : (w34.alloc (.cells #[.int .u8 (3), .bool (false), .int .i64 ((nb : Int)), .string (⟨#[]⟩)] 24)).cell? ⟨w9.heap.size, 2, none⟩ = some (.int .i64 (0)) := ab_34.cell 2; have ab_343 : (w34.alloc (.cells #[.int .u8 (3), .bool (false), .int .i64 ((nb : Int)), .string (⟨#[]⟩)] 24)).cell? ⟨w9.heap.size, 3, none⟩ = some (.string (sab)) := ab_34.cell 3; have n35 : True := trivial)
        | (have z := n35; clear z n35; go_at_call 44; refine (len_at sab _ H7 gab2 (G.ext F34)).mono ?_; rintro e w35 ⟨rfl, x35⟩; have ab_35 := (ab_34.ext x35).alloc (.cells #[.int .u8 (3), .bool (false), .int .i64 ((nm : Int)), .string (⟨#[]⟩)] 24); have x_35 := (x_34.ext x35).alloc (.cells #[.int .u8 (3), .bool (false), .int .i64 ((nm : Int)), .string (⟨#[]⟩)] 24); have y_35 := (y_34.ext x35).alloc (.cells #[.int .u8 (3), .bool (false), .int .i64 ((nm : Int)), .string (⟨#[]⟩)] 24); have k_35 := (k_34.ext x35).alloc (.cells #[.int .u8 (3), .bool (false), .int .i64 ((nm : Int)), .string (⟨#[]⟩)] 24); have l_35 := (l_34.ext x35).alloc (.cells #[.int .u8 (3), .bool (false), .int .i64 ((nm : Int)), .string (⟨#[]⟩)] 24); have F35 : Ext w (w35.alloc (.cells #[.int .u8 (3), .bool (false), .int .i64 ((nm : Int)), .string (⟨#[]⟩)] 24)) := (F34.trans x35).alloc _; have m_35 := Bk.new w35 24 #[.int .u8 (3), .bool (false), .int .i64 ((nm : Int)), .string (⟨#[]⟩)]; clear x35; have n36 : True := trivial)
        | fail)
      obtain ⟨wC, hwC⟩ : ∃ x, x = w35.alloc (.cells #[.int .u8 (3), .bool (false), .int .i64 ((nm : Int)), .string (⟨#[]⟩)] 24) := ⟨_, rfl⟩
      rw [← hwC] at ab_35 x_35 y_35 k_35 l_35 m_35 F35 ⊢
      clear hwC
      have X : Ext wC wC.drew := (Ext.refl wC).drew
      refine wp_region_ord [0,1,3,7,15,31,31,127,255,511,1023,2047,1023,5119,1023,17407,62463,131071,262143,524287,1048575,2097151,1048575,8388607,16777215,33554431,67108863,134217727,268435455,134217727,1073741823,2147483647,134217727,4429185023,17179869183,34359738367,68719476735] (.one 0 (.flo [1,2,3,4,5,6,7,8,9,10,11,12,13,14,15,16,17,18,19,20,22] (.ext 21 (.one 23 (.flo [24,25,26,27,29] (.pur [32,33] (.ext 28 (.one 30 (.flo [31,34,35,36] (.fin)))))))))) (by kernel_rfl) (by kernel_rfl) (by intro _ _ d _ _ h; cases d <;> exact h) ?_
      refine ord_one (pick_cons rfl pick_nil) ?_; intro K_ hK_
      go_wp2_with (go_at_call 16; refine (known_true _ (G.ext (F35.trans X))).mono ?_; rintro e wK ⟨rfl, xK⟩)
      have XK := X.trans xK
      have qab0 : ∀ y : Xt wK, y.W.cell? ⟨w9.heap.size, 0, none⟩ = some (.int .u8 (4)) := fun y => (ab_35.ext (XK.trans y.x)).cell 0
      have qab1 : ∀ y : Xt wK, y.W.cell? ⟨w9.heap.size, 1, none⟩ = some (.bool (false)) := fun y => (ab_35.ext (XK.trans y.x)).cell 1
      have qab2 : ∀ y : Xt wK, y.W.cell? ⟨w9.heap.size, 2, none⟩ = some (.int .i64 (0)) := fun y => (ab_35.ext (XK.trans y.x)).cell 2
      have qab3 : ∀ y : Xt wK, y.W.cell? ⟨w9.heap.size, 3, none⟩ = some (.string (sab)) := fun y => (ab_35.ext (XK.trans y.x)).cell 3
      have qx0 : ∀ y : Xt wK, y.W.cell? ⟨gx, 0, none⟩ = some (.int .u8 (4)) := fun y => (x_35.ext (XK.trans y.x)).cell 0
      have qx1 : ∀ y : Xt wK, y.W.cell? ⟨gx, 1, none⟩ = some (.bool (false)) := fun y => (x_35.ext (XK.trans y.x)).cell 1
      have qx2 : ∀ y : Xt wK, y.W.cell? ⟨gx, 2, none⟩ = some (.int .i64 (0)) := fun y => (x_35.ext (XK.trans y.x)).cell 2
      have qx3 : ∀ y : Xt wK, y.W.cell? ⟨gx, 3, none⟩ = some (.string (sx)) := fun y => (x_35.ext (XK.trans y.x)).cell 3
      have qy0 : ∀ y : Xt wK, y.W.cell? ⟨gy, 0, none⟩ = some (.int .u8 (4)) := fun y => (y_35.ext (XK.trans y.x)).cell 0
      have qy1 : ∀ y : Xt wK, y.W.cell? ⟨gy, 1, none⟩ = some (.bool (false)) := fun y => (y_35.ext (XK.trans y.x)).cell 1
      have qy2 : ∀ y : Xt wK, y.W.cell? ⟨gy, 2, none⟩ = some (.int .i64 (0)) := fun y => (y_35.ext (XK.trans y.x)).cell 2
      have qy3 : ∀ y : Xt wK, y.W.cell? ⟨gy, 3, none⟩ = some (.string (sx)) := fun y => (y_35.ext (XK.trans y.x)).cell 3
      have qk2 : ∀ y : Xt wK, y.W.cell? ⟨w32.heap.size, 2, none⟩ = some (.int .i64 ((na : Int))) := fun y => (k_35.ext (XK.trans y.x)).cell 2
      have ql2 : ∀ y : Xt wK, y.W.cell? ⟨w34.heap.size, 2, none⟩ = some (.int .i64 ((nb : Int))) := fun y => (l_35.ext (XK.trans y.x)).cell 2
      have qm2 : ∀ y : Xt wK, y.W.cell? ⟨w35.heap.size, 2, none⟩ = some (.int .i64 ((nm : Int))) := fun y => (m_35.ext (XK.trans y.x)).cell 2
      (refine ord_flo (pick_cons rfl (pick_cons rfl (pick_cons rfl (pick_cons rfl (pick_cons rfl (pick_cons rfl (pick_cons rfl (pick_cons rfl (pick_cons rfl (pick_cons rfl (pick_cons rfl (pick_cons rfl (pick_cons rfl (pick_cons rfl (pick_cons rfl (pick_cons rfl (pick_cons rfl (pick_cons rfl (pick_cons rfl (pick_cons rfl (pick_cons rfl pick_nil))))))))))))))))))))) ?_; (repeat (go_big_quiet_step (fail))); refine wpQuiet_nil ?_; show ordWalk _ _ _ _ _ _ _)
      refine ord_ext (pick_cons rfl pick_nil) ?_; intro K_ hK_
      go_wp2_with (go_at_call 42; refine (textL_any _ _).mono ?_; rintro e wT ⟨rfl, xT⟩)
      refine ordNext.mk xT ?_
      refine ord_one (pick_cons rfl pick_nil) ?_; intro K_ hK_
      go_wp2_with (go_at_call 39; refine (cmp_texts sa sab _ H8).mono ?_; rintro e wM ⟨rfl, xM⟩)
      have XM := (XK.trans xT).trans xM
      have r0 : ∀ y : Xt wM, y.W.cell? ⟨w9.heap.size, 0, none⟩ = some (.int .u8 (4)) := fun y => (ab_35.ext (XM.trans y.x)).cell 0
      have r1 : ∀ y : Xt wM, y.W.cell? ⟨w9.heap.size, 1, none⟩ = some (.bool (false)) := fun y => (ab_35.ext (XM.trans y.x)).cell 1
      have r2 : ∀ y : Xt wM, y.W.cell? ⟨w9.heap.size, 2, none⟩ = some (.int .i64 (0)) := fun y => (ab_35.ext (XM.trans y.x)).cell 2
      have r3 : ∀ y : Xt wM, y.W.cell? ⟨w9.heap.size, 3, none⟩ = some (.string (sab)) := fun y => (ab_35.ext (XM.trans y.x)).cell 3
      (refine ord_flo (pick_cons rfl (pick_cons rfl (pick_cons rfl (pick_cons rfl (pick_cons rfl pick_nil))))) ?_; (repeat (go_big_quiet_step (fail))); refine wpQuiet_nil ?_; show ordWalk _ _ _ _ _ _ _)
      (refine ord_pur (pick_cons rfl (pick_cons rfl pick_nil)) ?_; (repeat (go_big_quiet_step (fail))); refine wpQuiet_nil ?_; show ordWalk _ _ _ _ _ _ _)
      refine ord_ext (pick_cons rfl pick_nil) ?_; intro K_ hK_
      go_wp2_with (go_at_call 42; refine (textL_any _ _).mono ?_; rintro e wU ⟨rfl, xU⟩)
      refine ordNext.mk xU ?_
      refine ord_one (pick_cons rfl pick_nil) ?_; intro K_ hK_
      go_wp2_with (go_at_call 39; refine (cmp_texts sa sab _ H8).mono ?_; rintro e wV ⟨rfl, xV⟩)
      (refine ord_flo (pick_cons rfl (pick_cons rfl (pick_cons rfl (pick_cons rfl pick_nil)))) ?_; (repeat (go_big_quiet_step (fail))); refine wpQuiet_nil ?_; show ordWalk _ _ _ _ _ _ _)
      refine ord_fin ?_
      go_wp2
      go_ret
      exact ⟨rfl, ((F35.trans XM).trans xU).trans xV⟩
theorem joins_any (sa sb sc : ByteArray) (w : World) (ga : sa.size ≤ 140737488355328) (gb : sb.size ≤ 140737488355328) (gc : sc.size ≤ 140737488355328) (G : Good w) : Calls Tryd.prog 10 #[.string sa, .string sb, .string sc] w fun e w' => e = .returned (.bool true) ∧ Ext w w' := by
  by_cases h : 1000 < sa.size + sb.size + sc.size
  · exact joins_over sa sb sc w ga gb gc G h
  by_cases hca : ¬ checkT 4 false 0 sa = 0
  · exact joins_a sa sb sc _ w ga gb gc G (by omega) rfl (by simpa using hca)
  replace hca := Decidable.not_not.mp hca
  by_cases hcb : ¬ checkT 4 false 0 sb = 0
  · exact joins_b sa sb sc _ w ga gb gc G (by omega) hca rfl (by simpa using hcb)
  replace hcb := Decidable.not_not.mp hcb
  by_cases hcc : ¬ checkT 4 false 0 sc = 0
  · exact joins_c sa sb sc _ w ga gb gc G (by omega) hca hcb rfl (by simpa using hcc)
  replace hcc := Decidable.not_not.mp hcc
  obtain ⟨na, ha⟩ := runes_some (valid_of_check hca)
  obtain ⟨nb, hb⟩ := runes_some (valid_of_check hcb)
  obtain ⟨nc, hc⟩ := runes_some (valid_of_check hcc)
  have hab := runes_append ha hb
  have hbc := runes_append hb hc
  have cab := check_text (valid_of_runes hab) (by rw [size_add]; omega)
  have cbc := check_text (valid_of_runes hbc) (by rw [size_add]; omega)
  have hx : sa ++ (sb ++ sc) = sa ++ sb ++ sc := by rw [ByteArray.append_assoc]
  have h4 := con_texts hca cbc (by rw [size_add]; omega)
  rw [hx] at h4
  have hle := runes_le hab
  rw [size_add] at hle
  rcases cmpS_prefix sa sb with ⟨rfl, h8⟩ | ⟨hz, h8⟩
  · exact joins_same sa sc _ _ _ na nb _ w (by omega) (by omega) (by omega) G (by omega) hca hcb hcc (by rw [size_add]; omega) (by rw [size_add]; omega) (con_texts hca hcb (by omega)) (con_texts hcb hcc (by omega)) (con_texts cab hcc (by rw [size_add]; omega)) h4 (len_text hca ha) (len_text hcb hb) (len_text cab hab) (by omega) (by omega) h8
  · exact joins_less sa sb sc _ _ _ na nb _ w (by omega) (by omega) (by omega) G (by omega) hca hcb hcc (by rw [size_add]; omega) (by rw [size_add]; omega) (con_texts hca hcb (by omega)) (con_texts hcb hcc (by omega)) (con_texts cab hcc (by rw [size_add]; omega)) h4 (len_text hca ha) (len_text hcb hb) (len_text cab hab) (by omega) (by omega) h8 hz
end Go.Proofs.YtobgfegdfcpgfaaDoor
