/- penstocklaw05.known: the chapter's examples answer as they stand there. penstocklaw05.much: are there more times than are looked at? What the laws on antichains lean on. Plain. Conditions: each theorem states its own. -/
import Derived.Test.YtmdakaflmheidaaGreatDoorChKit
namespace Go.Proofs.YtmdakaflmheidaaGreatDoor
open Go.RowKit

set_option maxRecDepth 100000 in
set_option maxHeartbeats 16000000 in
theorem known_true (w : World) (G : Pow w) : Calls Tryz.prog 6 #[] w fun e w' => e = .returned (.bool true) ∧ Ext w w' := by
  have XX : Hid (Ext w w) := Lib.hid (Ext.refl w)
  have y1 : Ext (w) ((w).alloc (.cells #[.int .u32 1] 74)) := (Ext.refl _).alloc _
  have XX := Lib.hid (XX.out.trans y1)
  clear y1
  have b0_1 : Hid (Bk ((w).alloc (.cells #[.int .u32 1] 74)) (w.heap.size) 74 #[.int .u32 1]) := Lib.hid (Bk.at (by simp))
  have m1 : True := trivial
  go_enter Tryz.func6, Tryz.ntmps6
  go_wp2_with (first
    | (go_at_call 34; have mk := m1; clear m1 mk; go_loud (refine (at5_any _ _ _ _ _).mono ?_); rintro e w1 ⟨rfl, x1⟩; go_loud (have x1 := x1; have y2 : Ext ((w).alloc (.cells #[.int .u32 1] 74)) (w1) := x1; have b0_1 := Lib.hid (b0_1.out.ext y2); have XX := Lib.hid (XX.out.trans y2); clear y2; have y3 : Ext (w1) ((w1).alloc (.cells #[.int .u32 5] 74)) := (Ext.refl _).alloc _; have b0_1 := Lib.hid (b0_1.out.ext y3); have XX := Lib.hid (XX.out.trans y3); clear y3; have b1_5 : Hid (Bk ((w1).alloc (.cells #[.int .u32 5] 74)) (w1.heap.size) 74 #[.int .u32 5]) := Lib.hid (Bk.at (by simp)); have m2 : True := trivial))
    | (go_at_call 34; have mk := m2; clear m2 mk; go_loud (refine (at5_any _ _ _ _ _).mono ?_); rintro e w2 ⟨rfl, x2⟩; go_loud (have x2 := x2; have y4 : Ext ((w1).alloc (.cells #[.int .u32 5] 74)) (w2) := x2; have b0_1 := Lib.hid (b0_1.out.ext y4); have b1_5 := Lib.hid (b1_5.out.ext y4); have XX := Lib.hid (XX.out.trans y4); clear y4; have y5 : Ext (w2) ((w2).alloc (.cells #[.int .u32 2] 74)) := (Ext.refl _).alloc _; have b0_1 := Lib.hid (b0_1.out.ext y5); have b1_5 := Lib.hid (b1_5.out.ext y5); have XX := Lib.hid (XX.out.trans y5); clear y5; have b2_2 : Hid (Bk ((w2).alloc (.cells #[.int .u32 2] 74)) (w2.heap.size) 74 #[.int .u32 2]) := Lib.hid (Bk.at (by simp)); have m3 : True := trivial))
    | (go_at_call 34; have mk := m3; clear m3 mk; go_loud (refine (at5_any _ _ _ _ _).mono ?_); rintro e w3 ⟨rfl, x3⟩; go_loud (have x3 := x3; have y6 : Ext ((w2).alloc (.cells #[.int .u32 2] 74)) (w3) := x3; have b0_1 := Lib.hid (b0_1.out.ext y6); have b1_5 := Lib.hid (b1_5.out.ext y6); have b2_2 := Lib.hid (b2_2.out.ext y6); have XX := Lib.hid (XX.out.trans y6); clear y6; have y7 : Ext (w3) ((w3).alloc (.cells #[.int .u32 1] 74)) := (Ext.refl _).alloc _; have b0_1 := Lib.hid (b0_1.out.ext y7); have b1_5 := Lib.hid (b1_5.out.ext y7); have b2_2 := Lib.hid (b2_2.out.ext y7); have XX := Lib.hid (XX.out.trans y7); clear y7; have b3_1 : Hid (Bk ((w3).alloc (.cells #[.int .u32 1] 74)) (w3.heap.size) 74 #[.int .u32 1]) := Lib.hid (Bk.at (by simp)); have m4 : True := trivial))
    | (go_at_call 34; have mk := m4; clear m4 mk; go_loud (refine (at5_any _ _ _ _ _).mono ?_); rintro e w4 ⟨rfl, x4⟩; go_loud (have x4 := x4; have y8 : Ext ((w3).alloc (.cells #[.int .u32 1] 74)) (w4) := x4; have b0_1 := Lib.hid (b0_1.out.ext y8); have b1_5 := Lib.hid (b1_5.out.ext y8); have b2_2 := Lib.hid (b2_2.out.ext y8); have b3_1 := Lib.hid (b3_1.out.ext y8); have XX := Lib.hid (XX.out.trans y8); clear y8; have y9 : Ext (w4) ((w4).alloc (.cells #[.int .u64 3, .slice (some ⟨w.heap.size, 0, none⟩) 1 1, .int .u64 2, .slice (some ⟨w1.heap.size, 0, none⟩) 1 1, .int .u64 3, .slice (some ⟨w2.heap.size, 0, none⟩) 1 1, .int .u64 3, .slice (some ⟨w3.heap.size, 0, none⟩) 1 1] 26)) := (Ext.refl _).alloc _; have b0_1 := Lib.hid (b0_1.out.ext y9); have b1_5 := Lib.hid (b1_5.out.ext y9); have b2_2 := Lib.hid (b2_2.out.ext y9); have b3_1 := Lib.hid (b3_1.out.ext y9); have XX := Lib.hid (XX.out.trans y9); clear y9; have bt : Hid (Bk ((w4).alloc (.cells #[.int .u64 3, .slice (some ⟨w.heap.size, 0, none⟩) 1 1, .int .u64 2, .slice (some ⟨w1.heap.size, 0, none⟩) 1 1, .int .u64 3, .slice (some ⟨w2.heap.size, 0, none⟩) 1 1, .int .u64 3, .slice (some ⟨w3.heap.size, 0, none⟩) 1 1] 26)) (w4.heap.size) 26 #[.int .u64 3, .slice (some ⟨w.heap.size, 0, none⟩) 1 1, .int .u64 2, .slice (some ⟨w1.heap.size, 0, none⟩) 1 1, .int .u64 3, .slice (some ⟨w2.heap.size, 0, none⟩) 1 1, .int .u64 3, .slice (some ⟨w3.heap.size, 0, none⟩) 1 1]) := Lib.hid (Bk.at (by simp)); have m5 : True := trivial))
    | (go_at_call 19; have mk := m5; clear m5 mk; go_loud (refine (of_at (V := [(2, [5]), (3, [1])]) (some ⟨w4.heap.size, 0, none⟩) 4 4 [⟨3, some ⟨w.heap.size, 0, none⟩, 1, [1]⟩, ⟨2, some ⟨w1.heap.size, 0, none⟩, 1, [5]⟩, ⟨3, some ⟨w2.heap.size, 0, none⟩, 1, [2]⟩, ⟨3, some ⟨w3.heap.size, 0, none⟩, 1, [1]⟩] _ (Lib.hid (show ofV [(3, [1]), (2, [5]), (3, [2]), (3, [1])] = [(2, [5]), (3, [1])] by decide +kernel)) (Lib.hid rfl) (Lib.hid (tin_of bt.out rfl rfl (by omega) (fun x hx => by simp only [List.mem_cons, List.not_mem_nil, or_false] at hx; rcases hx with rfl | rfl | rfl | rfl <;> (first | exact word_of b0_1.out | exact word_of b1_5.out | exact word_of b2_2.out | exact word_of b3_1.out)))) (Lib.hid (fun x hx => by simp only [List.mem_cons, List.not_mem_nil, or_false] at hx; rcases hx with rfl | rfl | rfl | rfl <;> simp)) (by omega)).mono ?_); rintro e w5 ⟨Aa, ca, na, Ma, rfl, ha, ta, va, x5⟩; go_loud (have y10 : Ext ((w4).alloc (.cells #[.int .u64 3, .slice (some ⟨w.heap.size, 0, none⟩) 1 1, .int .u64 2, .slice (some ⟨w1.heap.size, 0, none⟩) 1 1, .int .u64 3, .slice (some ⟨w2.heap.size, 0, none⟩) 1 1, .int .u64 3, .slice (some ⟨w3.heap.size, 0, none⟩) 1 1] 26)) (w5) := x5; have XX := Lib.hid (XX.out.trans y10); clear y10; have TA := Lib.hid (ta.tin); have HNA := Lib.hid (ha); have HVA := Lib.hid (va); have FA : Hid (Fine Ma) := Lib.hid (fun x hx => by have q : x.v ∈ Ma.map Tm.v := List.mem_map.2 ⟨x, hx, rfl⟩; rw [va] at q; simp only [List.mem_cons, List.not_mem_nil, or_false] at q; rcases q with q | q <;> (have q2 : x.l = _ := congrArg Prod.snd q; rw [q2]; exact ⟨by intro u hu; simp at hu <;> omega, by simp⟩)); clear ta ha va; have HBm : Hid (w.heap.size ≤ w5.heap.size) := Lib.hid XX.out.size; have m6 : True := trivial))
    | (go_at_call 5; have mk := m6; clear m6 mk; go_loud (refine (new_any _).mono ?_); rintro e w6 ⟨rfl, bk, mp0, x6⟩; go_loud (have y11 : Ext (w5) (w6) := x6; have TA := Lib.hid (TA.out.ext y11); have XX := Lib.hid (XX.out.trans y11); clear y11; have GC := Lib.hid (bk); have MP := Lib.hid (mp0); clear bk mp0; have m7 : True := trivial))
    | (go_at_call 34; have mk := m7; clear m7 mk; go_loud (refine (at5_any _ _ _ _ _).mono ?_); rintro e w7 ⟨rfl, x7⟩; go_loud (have x7 := x7; have y12 : Ext (w6) (w7) := x7; have TA := Lib.hid (TA.out.ext y12); have GC := Lib.hid (GC.out.ext y12); have MP := Lib.hid (MP.out.ext y12); have XX := Lib.hid (XX.out.trans y12); clear y12; have y13 : Ext (w7) ((w7).alloc (.cells #[.int .u64 2, .slice none 0 0, .int .i64 1] 29)) := (Ext.refl _).alloc _; have TA := Lib.hid (TA.out.ext y13); have GC := Lib.hid (GC.out.ext y13); have MP := Lib.hid (MP.out.ext y13); have XX := Lib.hid (XX.out.trans y13); clear y13; have chp : Hid (Bk ((w7).alloc (.cells #[.int .u64 2, .slice none 0 0, .int .i64 1] 29)) (w7.heap.size) 29 #[.int .u64 2, .slice none 0 0, .int .i64 1]) := Lib.hid (Bk.at (by simp)); have m8 : True := trivial))
    | (go_at_call 7; have mk := m8; clear m8 mk; go_loud (refine (update_any w (w5.heap.size + 1) (w5.heap.size) _ _ _ (some ⟨w7.heap.size, 0, none⟩) 1 1 [⟨⟨2, none, 0, []⟩, 1⟩] _ G XX HBm GC MP (Lib.hid rfl) (Lib.hid (cin_of chp.out rfl rfl (by omega) (fun x hx => by rw [List.mem_singleton] at hx; subst hx; exact Sl.nil _ 1))) (Lib.hid (fun x hx => by rw [List.mem_singleton] at hx; subst hx; exact ⟨by show (0 : Int) ≤ 2 ∧ (2 : Int) ≤ _; omega, fun u hu => (nomatch hu), by show (0 : Nat) ≤ _; omega⟩)) (by omega) (by omega)).mono ?_); rintro e w8 ⟨Ap, cp, qp, Rp, Dp, Lp, rfl, UO⟩; go_loud (have ep : Rp.map Cg.cv = [((2, []), 1)] := UO.is.trans (by show movedV (ofV (liveV [])) (ofV (liveV (addAll [] [((2, []), 1)]))) = [((2, []), 1)]; decide +kernel); have lp : Lp.map Cg.cv = [((2, []), 1)] := UO.now.trans (by show addAll [] [((2, []), 1)] = [((2, []), 1)]; decide +kernel); obtain rfl := len_of UO.len ep; obtain ⟨ap, rfl, qp⟩ := UO.out.diff ep (i := 0) rfl; clear qp; have y14 : Upd (fun k => k = w5.heap.size) ((w7).alloc (.cells #[.int .u64 2, .slice none 0 0, .int .i64 1] 29)) w8 := UO.upd; have HMp := owns_map MP.out.own; have TA := Lib.hid (TA.out.turned y14 HMp); have GC := Lib.hid (bk_upd GC.out y14 (by omega)); have XX := Lib.hid (ext_upd XX.out y14 (fun k hk => by rw [hk]; exact HBm.out)); clear y14 HMp; have MP := Lib.hid UO.map; have Cp := Lib.hid UO.out; have Ep := Lib.hid ep; have LLp := Lib.hid lp; clear UO ep lp; have m9 : True := trivial))
    | (go_at_call 34; have mk := m9; clear m9 mk; go_loud (refine (at5_any _ _ _ _ _).mono ?_); rintro e w9 ⟨rfl, x9⟩; go_loud (have x9 := x9; have y15 : Ext (w8) (w9) := x9; have TA := Lib.hid (TA.out.ext y15); have GC := Lib.hid (GC.out.ext y15); have MP := Lib.hid (MP.out.ext y15); have Cp := Lib.hid (Cp.out.ext y15); have XX := Lib.hid (XX.out.trans y15); clear y15; have y16 : Ext (w9) ((w9).alloc (.cells #[.int .u64 3, .slice none 0 0, .int .i64 1] 29)) := (Ext.refl _).alloc _; have TA := Lib.hid (TA.out.ext y16); have GC := Lib.hid (GC.out.ext y16); have MP := Lib.hid (MP.out.ext y16); have Cp := Lib.hid (Cp.out.ext y16); have XX := Lib.hid (XX.out.trans y16); clear y16; have chq : Hid (Bk ((w9).alloc (.cells #[.int .u64 3, .slice none 0 0, .int .i64 1] 29)) (w9.heap.size) 29 #[.int .u64 3, .slice none 0 0, .int .i64 1]) := Lib.hid (Bk.at (by simp)); have m10 : True := trivial))
    | (go_at_call 7; have mk := m10; clear m10 mk; go_loud (refine (update_any w (w5.heap.size + 1) (w5.heap.size) _ _ _ (some ⟨w9.heap.size, 0, none⟩) 1 1 [⟨⟨3, none, 0, []⟩, 1⟩] _ G XX HBm GC MP (Lib.hid rfl) (Lib.hid (cin_of chq.out rfl rfl (by omega) (fun x hx => by rw [List.mem_singleton] at hx; subst hx; exact Sl.nil _ 1))) (Lib.hid (fun x hx => by rw [List.mem_singleton] at hx; subst hx; exact ⟨by show (0 : Int) ≤ 3 ∧ (3 : Int) ≤ _; omega, fun u hu => (nomatch hu), by show (0 : Nat) ≤ _; omega⟩)) (by omega) (by omega)).mono ?_); rintro e w10 ⟨Aq, cq, qq, Rq, Dq, Lq, rfl, UO⟩; go_loud (have eq : Rq.map Cg.cv = [] := UO.is.trans (by rw [LLp.out]; show movedV (ofV (liveV [((2, []), 1)])) (ofV (liveV (addAll [((2, []), 1)] [((3, []), 1)]))) = []; decide +kernel); have lq : Lq.map Cg.cv = [((2, []), 1), ((3, []), 1)] := UO.now.trans (by rw [LLp.out]; show addAll [((2, []), 1)] [((3, []), 1)] = [((2, []), 1), ((3, []), 1)]; decide +kernel); obtain rfl := len_of UO.len eq; have y17 : Upd (fun k => k = w5.heap.size) ((w9).alloc (.cells #[.int .u64 3, .slice none 0 0, .int .i64 1] 29)) w10 := UO.upd; have HMp := owns_map MP.out.own; have TA := Lib.hid (TA.out.turned y17 HMp); have GC := Lib.hid (bk_upd GC.out y17 (by omega)); have Cp := Lib.hid (Cp.out.turned y17 HMp); have XX := Lib.hid (ext_upd XX.out y17 (fun k hk => by rw [hk]; exact HBm.out)); clear y17 HMp; have MP := Lib.hid UO.map; have Cq := Lib.hid UO.out; have Eq := Lib.hid eq; have LLq := Lib.hid lq; clear UO eq lq; have m11 : True := trivial))
    | (go_at_call 34; have mk := m11; clear m11 mk; go_loud (refine (at5_any _ _ _ _ _).mono ?_); rintro e w11 ⟨rfl, x11⟩; go_loud (have x11 := x11; have y18 : Ext (w10) (w11) := x11; have TA := Lib.hid (TA.out.ext y18); have GC := Lib.hid (GC.out.ext y18); have MP := Lib.hid (MP.out.ext y18); have Cp := Lib.hid (Cp.out.ext y18); have Cq := Lib.hid (Cq.out.ext y18); have XX := Lib.hid (XX.out.trans y18); clear y18; have y19 : Ext (w11) ((w11).alloc (.cells #[.int .u64 2, .slice none 0 0, .int .i64 (-1)] 29)) := (Ext.refl _).alloc _; have TA := Lib.hid (TA.out.ext y19); have GC := Lib.hid (GC.out.ext y19); have MP := Lib.hid (MP.out.ext y19); have Cp := Lib.hid (Cp.out.ext y19); have Cq := Lib.hid (Cq.out.ext y19); have XX := Lib.hid (XX.out.trans y19); clear y19; have chr : Hid (Bk ((w11).alloc (.cells #[.int .u64 2, .slice none 0 0, .int .i64 (-1)] 29)) (w11.heap.size) 29 #[.int .u64 2, .slice none 0 0, .int .i64 (-1)]) := Lib.hid (Bk.at (by simp)); have m12 : True := trivial))
    | (go_at_call 7; have mk := m12; clear m12 mk; go_loud (refine (update_any w (w5.heap.size + 1) (w5.heap.size) _ _ _ (some ⟨w11.heap.size, 0, none⟩) 1 1 [⟨⟨2, none, 0, []⟩, (-1)⟩] _ G XX HBm GC MP (Lib.hid rfl) (Lib.hid (cin_of chr.out rfl rfl (by omega) (fun x hx => by rw [List.mem_singleton] at hx; subst hx; exact Sl.nil _ 1))) (Lib.hid (fun x hx => by rw [List.mem_singleton] at hx; subst hx; exact ⟨by show (0 : Int) ≤ 2 ∧ (2 : Int) ≤ _; omega, fun u hu => (nomatch hu), by show (0 : Nat) ≤ _; omega⟩)) (by omega) (by omega)).mono ?_); rintro e w12 ⟨Ar, cr, qr, Rr, Dr, Lr, rfl, UO⟩; go_loud (have er : Rr.map Cg.cv = [((2, []), -1), ((3, []), 1)] := UO.is.trans (by rw [LLq.out]; show movedV (ofV (liveV [((2, []), 1), ((3, []), 1)])) (ofV (liveV (addAll [((2, []), 1), ((3, []), 1)] [((2, []), -1)]))) = [((2, []), -1), ((3, []), 1)]; decide +kernel); have lr : Lr.map Cg.cv = [((3, []), 1)] := UO.now.trans (by rw [LLq.out]; show addAll [((2, []), 1), ((3, []), 1)] [((2, []), -1)] = [((3, []), 1)]; decide +kernel); obtain rfl := len_of UO.len er; obtain ⟨ar, rfl, qr⟩ := UO.out.diff er (i := 0) rfl; clear qr; have y20 : Upd (fun k => k = w5.heap.size) ((w11).alloc (.cells #[.int .u64 2, .slice none 0 0, .int .i64 (-1)] 29)) w12 := UO.upd; have HMp := owns_map MP.out.own; have TA := Lib.hid (TA.out.turned y20 HMp); have GC := Lib.hid (bk_upd GC.out y20 (by omega)); have Cp := Lib.hid (Cp.out.turned y20 HMp); have Cq := Lib.hid (Cq.out.turned y20 HMp); have XX := Lib.hid (ext_upd XX.out y20 (fun k hk => by rw [hk]; exact HBm.out)); clear y20 HMp; have MP := Lib.hid UO.map; have Cr := Lib.hid UO.out; have Er := Lib.hid er; have LLr := Lib.hid lr; clear UO er lr; obtain ⟨z, hz, vp0⟩ := Cp.out.diff Ep.out (i := 0) rfl; injection hz with hz; subst hz; replace vp0 : w12.cell? ⟨ap.block, ap.off + 2, none⟩ = some (.int .i64 (1)) := vp0; obtain ⟨z, hz, vr0⟩ := Cr.out.diff Er.out (i := 0) rfl; injection hz with hz; subst hz; replace vr0 : w12.cell? ⟨ar.block, ar.off + 2, none⟩ = some (.int .i64 (-1)) := vr0; obtain ⟨z, hz, vr1⟩ := Cr.out.diff Er.out (i := 1) rfl; injection hz with hz; subst hz; replace vr1 : w12.cell? ⟨ar.block, ar.off + 3 + 2, none⟩ = some (.int .i64 (1)) := vr1; have y21 : Ext (w12) ((w12).alloc (.cells #[.int .u32 5] 74)) := (Ext.refl _).alloc _; have TA := Lib.hid (TA.out.ext y21); have XX := Lib.hid (XX.out.trans y21); clear y21; have b12_5 : Hid (Bk ((w12).alloc (.cells #[.int .u32 5] 74)) (w12.heap.size) 74 #[.int .u32 5]) := Lib.hid (Bk.at (by simp)); have m13 : True := trivial))
    | (go_at_call 34; have mk := m13; clear m13 mk; go_loud (refine (at5_any _ _ _ _ _).mono ?_); rintro e w13 ⟨rfl, x13⟩; go_loud (have x13 := x13; have y22 : Ext ((w12).alloc (.cells #[.int .u32 5] 74)) (w13) := x13; have TA := Lib.hid (TA.out.ext y22); have b12_5 := Lib.hid (b12_5.out.ext y22); have XX := Lib.hid (XX.out.trans y22); clear y22; have y23 : Ext (w13) ((w13).alloc (.cells #[.int .u32 1] 74)) := (Ext.refl _).alloc _; have TA := Lib.hid (TA.out.ext y23); have b12_5 := Lib.hid (b12_5.out.ext y23); have XX := Lib.hid (XX.out.trans y23); clear y23; have b13_1 : Hid (Bk ((w13).alloc (.cells #[.int .u32 1] 74)) (w13.heap.size) 74 #[.int .u32 1]) := Lib.hid (Bk.at (by simp)); have m14 : True := trivial))
    | (go_at_call 34; have mk := m14; clear m14 mk; go_loud (refine (at5_any _ _ _ _ _).mono ?_); rintro e w14 ⟨rfl, x14⟩; go_loud (have x14 := x14; have y24 : Ext ((w13).alloc (.cells #[.int .u32 1] 74)) (w14) := x14; have TA := Lib.hid (TA.out.ext y24); have b12_5 := Lib.hid (b12_5.out.ext y24); have b13_1 := Lib.hid (b13_1.out.ext y24); have XX := Lib.hid (XX.out.trans y24); clear y24; have y25 : Ext (w14) ((w14).alloc (.cells #[.int .u64 2, .slice (some ⟨w12.heap.size, 0, none⟩) 1 1, .int .u64 3, .slice (some ⟨w13.heap.size, 0, none⟩) 1 1] 26)) := (Ext.refl _).alloc _; have TA := Lib.hid (TA.out.ext y25); have b12_5 := Lib.hid (b12_5.out.ext y25); have b13_1 := Lib.hid (b13_1.out.ext y25); have XX := Lib.hid (XX.out.trans y25); clear y25; have bs : Hid (Bk ((w14).alloc (.cells #[.int .u64 2, .slice (some ⟨w12.heap.size, 0, none⟩) 1 1, .int .u64 3, .slice (some ⟨w13.heap.size, 0, none⟩) 1 1] 26)) (w14.heap.size) 26 #[.int .u64 2, .slice (some ⟨w12.heap.size, 0, none⟩) 1 1, .int .u64 3, .slice (some ⟨w13.heap.size, 0, none⟩) 1 1]) := Lib.hid (Bk.at (by simp)); have m15 : True := trivial))
    | (go_at_call 12; have mk := m15; clear m15 mk; go_loud (refine (sameTimes_yes Aa (some ⟨w14.heap.size, 0, none⟩) na 2 ca 2 Ma [⟨2, some ⟨w12.heap.size, 0, none⟩, 1, [5]⟩, ⟨3, some ⟨w13.heap.size, 0, none⟩, 1, [1]⟩] _ HNA (Lib.hid rfl) TA (Lib.hid (tin_of bs.out rfl rfl (by omega) (fun x hx => by simp only [List.mem_cons, List.not_mem_nil, or_false] at hx; rcases hx with rfl | rfl <;> (first | exact word_of b12_5.out | exact word_of b13_1.out)))) (Lib.hid HVA.out)).mono ?_); rintro e w15 ⟨rfl, xs1⟩; go_loud (have y26 : Ext ((w14).alloc (.cells #[.int .u64 2, .slice (some ⟨w12.heap.size, 0, none⟩) 1 1, .int .u64 3, .slice (some ⟨w13.heap.size, 0, none⟩) 1 1] 26)) (w15) := xs1; have TA := Lib.hid (TA.out.ext y26); have XX := Lib.hid (XX.out.trans y26); clear y26; have y27 : Ext (w15) ((w15).alloc (.cells #[.int .u32 0] 74)) := (Ext.refl _).alloc _; have TA := Lib.hid (TA.out.ext y27); have XX := Lib.hid (XX.out.trans y27); clear y27; have b15_0 : Hid (Bk ((w15).alloc (.cells #[.int .u32 0] 74)) (w15.heap.size) 74 #[.int .u32 0]) := Lib.hid (Bk.at (by simp)); have m16 : True := trivial))
    | (go_at_call 34; have mk := m16; clear m16 mk; go_loud (refine (at5_any _ _ _ _ _).mono ?_); rintro e w16 ⟨rfl, x16⟩; go_loud (have x16 := x16; have y28 : Ext ((w15).alloc (.cells #[.int .u32 0] 74)) (w16) := x16; have TA := Lib.hid (TA.out.ext y28); have b15_0 := Lib.hid (b15_0.out.ext y28); have XX := Lib.hid (XX.out.trans y28); clear y28; have y29 : Ext (w16) ((w16).alloc (.cells #[.int .u64 3, .slice (some ⟨w15.heap.size, 0, none⟩) 1 1] 26)) := (Ext.refl _).alloc _; have TA := Lib.hid (TA.out.ext y29); have b15_0 := Lib.hid (b15_0.out.ext y29); have XX := Lib.hid (XX.out.trans y29); clear y29; have bj : Hid (Bk ((w16).alloc (.cells #[.int .u64 3, .slice (some ⟨w15.heap.size, 0, none⟩) 1 1] 26)) (w16.heap.size) 26 #[.int .u64 3, .slice (some ⟨w15.heap.size, 0, none⟩) 1 1]) := Lib.hid (Bk.at (by simp)); have m17 : True := trivial))
    | (go_at_call 20; have mk := m17; clear m17 mk; go_loud (refine (chjoin_at (V := [(3, [1])]) Aa (some ⟨w16.heap.size, 0, none⟩) ca 1 na 1 Ma [⟨3, some ⟨w15.heap.size, 0, none⟩, 1, [0]⟩] _ (Lib.hid (by rw [HVA.out]; show joinV [(2, [5]), (3, [1])] [(3, [0])] = _; decide +kernel)) HNA (Lib.hid rfl) TA (Lib.hid (tin_of bj.out rfl rfl (by omega) (fun x hx => by rw [List.mem_singleton] at hx; subst hx; exact word_of b15_0.out))) FA (Lib.hid (fun x hx => by simp only [List.mem_cons, List.not_mem_nil, or_false] at hx; rcases hx with rfl <;> (first | exact ⟨fun u hu => (nomatch hu), Nat.zero_le _⟩ | exact ⟨by intro u hu; simp at hu; omega, by simp⟩))) (by have q := HNA.out; have q2 := congrArg List.length HVA.out; rw [List.length_map] at q2; simp at q2; omega) (by omega)).mono ?_); rintro e w17 ⟨Aj, cj, nj, Mj, rfl, hj, tj, vj, xj⟩; go_loud (have y30 : Ext ((w16).alloc (.cells #[.int .u64 3, .slice (some ⟨w15.heap.size, 0, none⟩) 1 1] 26)) (w17) := xj; have TA := Lib.hid (TA.out.ext y30); have XX := Lib.hid (XX.out.trans y30); clear y30; have TJ := Lib.hid (tj.tin); have HNJ := Lib.hid (hj); have HVJ := Lib.hid (vj); clear tj hj vj; have y31 : Ext (w17) ((w17).alloc (.cells #[.int .u32 1] 74)) := (Ext.refl _).alloc _; have TA := Lib.hid (TA.out.ext y31); have TJ := Lib.hid (TJ.out.ext y31); have XX := Lib.hid (XX.out.trans y31); clear y31; have b17_1 : Hid (Bk ((w17).alloc (.cells #[.int .u32 1] 74)) (w17.heap.size) 74 #[.int .u32 1]) := Lib.hid (Bk.at (by simp)); have m18 : True := trivial))
    | (go_at_call 34; have mk := m18; clear m18 mk; go_loud (refine (at5_any _ _ _ _ _).mono ?_); rintro e w18 ⟨rfl, x18⟩; go_loud (have x18 := x18; have y32 : Ext ((w17).alloc (.cells #[.int .u32 1] 74)) (w18) := x18; have TA := Lib.hid (TA.out.ext y32); have TJ := Lib.hid (TJ.out.ext y32); have b17_1 := Lib.hid (b17_1.out.ext y32); have XX := Lib.hid (XX.out.trans y32); clear y32; have y33 : Ext (w18) ((w18).alloc (.cells #[.int .u64 3, .slice (some ⟨w17.heap.size, 0, none⟩) 1 1] 26)) := (Ext.refl _).alloc _; have TA := Lib.hid (TA.out.ext y33); have TJ := Lib.hid (TJ.out.ext y33); have b17_1 := Lib.hid (b17_1.out.ext y33); have XX := Lib.hid (XX.out.trans y33); clear y33; have bk2 : Hid (Bk ((w18).alloc (.cells #[.int .u64 3, .slice (some ⟨w17.heap.size, 0, none⟩) 1 1] 26)) (w18.heap.size) 26 #[.int .u64 3, .slice (some ⟨w17.heap.size, 0, none⟩) 1 1]) := Lib.hid (Bk.at (by simp)); have m19 : True := trivial))
    | (go_at_call 12; have mk := m19; clear m19 mk; go_loud (refine (sameTimes_yes Aj (some ⟨w18.heap.size, 0, none⟩) nj 1 cj 1 Mj [⟨3, some ⟨w17.heap.size, 0, none⟩, 1, [1]⟩] _ HNJ (Lib.hid rfl) TJ (Lib.hid (tin_of bk2.out rfl rfl (by omega) (fun x hx => by rw [List.mem_singleton] at hx; subst hx; exact word_of b17_1.out))) (Lib.hid HVJ.out)).mono ?_); rintro e w19 ⟨rfl, xs2⟩; go_loud (have y34 : Ext ((w18).alloc (.cells #[.int .u64 3, .slice (some ⟨w17.heap.size, 0, none⟩) 1 1] 26)) (w19) := xs2; have TA := Lib.hid (TA.out.ext y34); have XX := Lib.hid (XX.out.trans y34); clear y34; have y35 : Ext (w19) ((w19).alloc (.cells #[.int .u32 6] 74)) := (Ext.refl _).alloc _; have TA := Lib.hid (TA.out.ext y35); have XX := Lib.hid (XX.out.trans y35); clear y35; have b19_6 : Hid (Bk ((w19).alloc (.cells #[.int .u32 6] 74)) (w19.heap.size) 74 #[.int .u32 6]) := Lib.hid (Bk.at (by simp)); have m20 : True := trivial))
    | (go_at_call 34; have mk := m20; clear m20 mk; go_loud (refine (at5_any _ _ _ _ _).mono ?_); rintro e w20 ⟨rfl, x20⟩; go_loud (have x20 := x20; have y36 : Ext ((w19).alloc (.cells #[.int .u32 6] 74)) (w20) := x20; have TA := Lib.hid (TA.out.ext y36); have b19_6 := Lib.hid (b19_6.out.ext y36); have XX := Lib.hid (XX.out.trans y36); clear y36; have m21 : True := trivial))
    | (go_at_call 24; have mk := m21; clear m21 mk; go_loud (refine (beyond_at (v := true) Aa ca na Ma 2 (some ⟨w19.heap.size, 0, none⟩) 1 1 [6] _ (Lib.hid (by rw [HVA.out]; decide +kernel)) HNA TA (Lib.hid (word_of b19_6.out))).mono ?_); rintro e w21 ⟨rfl, xb6⟩; go_loud (have y37 : Ext (w20) (w21) := xb6; have TA := Lib.hid (TA.out.ext y37); have XX := Lib.hid (XX.out.trans y37); clear y37; have y38 : Ext (w21) ((w21).alloc (.cells #[.int .u32 4] 74)) := (Ext.refl _).alloc _; have TA := Lib.hid (TA.out.ext y38); have XX := Lib.hid (XX.out.trans y38); clear y38; have b21_4 : Hid (Bk ((w21).alloc (.cells #[.int .u32 4] 74)) (w21.heap.size) 74 #[.int .u32 4]) := Lib.hid (Bk.at (by simp)); have m22 : True := trivial))
    | (go_at_call 34; have mk := m22; clear m22 mk; go_loud (refine (at5_any _ _ _ _ _).mono ?_); rintro e w22 ⟨rfl, x22⟩; go_loud (have x22 := x22; have y39 : Ext ((w21).alloc (.cells #[.int .u32 4] 74)) (w22) := x22; have TA := Lib.hid (TA.out.ext y39); have b21_4 := Lib.hid (b21_4.out.ext y39); have XX := Lib.hid (XX.out.trans y39); clear y39; have m23 : True := trivial))
    | (go_at_call 24; have mk := m23; clear m23 mk; go_loud (refine (beyond_at (v := false) Aa ca na Ma 2 (some ⟨w21.heap.size, 0, none⟩) 1 1 [4] _ (Lib.hid (by rw [HVA.out]; decide +kernel)) HNA TA (Lib.hid (word_of b21_4.out))).mono ?_); rintro e w23 ⟨rfl, xb4⟩; go_loud (have y40 : Ext (w22) (w23) := xb4; have TA := Lib.hid (TA.out.ext y40); have XX := Lib.hid (XX.out.trans y40); clear y40; have m24 : True := trivial))
    | (go_at_call 34; have mk := m24; clear m24 mk; go_loud (refine (at5_any _ _ _ _ _).mono ?_); rintro e w24 ⟨rfl, x24⟩; go_loud (have x24 := x24; have y41 : Ext (w23) (w24) := x24; have TA := Lib.hid (TA.out.ext y41); have XX := Lib.hid (XX.out.trans y41); clear y41; have y42 : Ext (w24) ((w24).alloc (.cells #[.int .u64 3, .slice none 0 0] 26)) := (Ext.refl _).alloc _; have TA := Lib.hid (TA.out.ext y42); have XX := Lib.hid (XX.out.trans y42); clear y42; have bA : Hid (Bk ((w24).alloc (.cells #[.int .u64 3, .slice none 0 0] 26)) (w24.heap.size) 26 #[.int .u64 3, .slice none 0 0]) := Lib.hid (Bk.at (by simp)); have m25 : True := trivial))
    | (go_at_call 34; have mk := m25; clear m25 mk; go_loud (refine (at5_any _ _ _ _ _).mono ?_); rintro e w25 ⟨rfl, x25⟩; go_loud (have x25 := x25; have y43 : Ext ((w24).alloc (.cells #[.int .u64 3, .slice none 0 0] 26)) (w25) := x25; have TA := Lib.hid (TA.out.ext y43); have bA := Lib.hid (bA.out.ext y43); have XX := Lib.hid (XX.out.trans y43); clear y43; have m26 : True := trivial))
    | (go_at_call 22; have mk := m26; clear m26 mk; go_loud (refine (advance_at (v := (3, [])) (some ⟨w24.heap.size, 0, none⟩) 1 1 [⟨3, none, 0, []⟩] 2 none 0 0 [] _ (Lib.hid (show advV [(3, [])] (2, []) = _ by decide +kernel)) (Lib.hid rfl) (Lib.hid (tin_of bA.out rfl rfl (by omega) (fun x hx => by rw [List.mem_singleton] at hx; subst hx; exact Sl.nil _ 1))) (Lib.hid (fun x hx => by simp only [List.mem_cons, List.not_mem_nil, or_false] at hx; rcases hx with rfl <;> (first | exact ⟨fun u hu => (nomatch hu), Nat.zero_le _⟩ | exact ⟨by intro u hu; simp at hu; omega, by simp⟩))) (Lib.hid (Sl.nil _ 1)) (fun u hu => (nomatch hu)) (by omega) (by omega)).mono ?_); rintro e w26 ⟨Av, nv, cv, rfl, hv, ov, xv⟩; go_loud (have y44 : Ext (w25) (w26) := xv; have XX := Lib.hid (XX.out.trans y44); clear y44; have hfd : ∀ w : World, (Instr.field 26 (.agg #[.int .u64 3, .slice Av 0 cv]) 0).run Tryz.prog w = .ok (.int .u64 3) w := fun _ => (by kernel_rfl); have m27 : True := trivial))
    | fail)
  go_ret
  exact ⟨rfl, XX.out⟩
end Go.Proofs.YtmdakaflmheidaaGreatDoor
namespace Go.Proofs.YtmdakaflmheidaaGreatDoor
open Go.RowKit

def sumN (V : List TV) : Nat := (V.map fun v => v.2.length / 8).sum
def muchV (V : List TV) : Bool := decide (60 < V.length + sumN V)
theorem sumN_take {V : List TV} {k : Nat} (h : k < V.length) : sumN (V.take (k + 1)) = sumN (V.take k) + V[k].2.length / 8 := by
  unfold sumN
  rw [List.take_succ_eq_append_getElem h, List.map_append, List.sum_append]
  simp
theorem sumN_le (V : List TV) (k : Nat) : sumN (V.take k) ≤ sumN V := by
  have h : sumN V = sumN (V.take k) + sumN (V.drop k) := by
    unfold sumN
    rw [← List.sum_append, ← List.map_append, List.take_append_drop]
  omega
theorem sumN_mem {V : List TV} {v : TV} (h : v ∈ V) : v.2.length / 8 ≤ sumN V := by
  unfold sumN
  induction V with
  | nil => cases h
  | cons x V ih =>
    rw [List.map_cons, List.sum_cons]
    rcases List.mem_cons.1 h with rfl | h
    · omega
    · have := ih h
      omega
theorem much_small {L : List Tm} (h : muchV (L.map Tm.v) = false) : L.length ≤ 60 ∧ ∀ x ∈ L, x.l.length ≤ 487 := by
  unfold muchV at h
  rw [decide_eq_false_iff_not, List.length_map] at h
  refine ⟨by omega, fun x hx => ?_⟩
  have := sumN_mem (List.mem_map.2 ⟨x, hx, rfl⟩ : x.v ∈ L.map Tm.v)
  replace this : x.l.length / 8 ≤ _ := this
  omega
set_option maxRecDepth 100000 in
set_option maxHeartbeats 2000000 in
theorem much5_any (AL : Option Addr) (cL m : Nat) (L : List Tm) (w : World) (hm : Hid (m = L.length)) (hL : Hid (Tin w AL cL L)) :
    Calls Tryz.prog 17 #[.slice AL m cL] w fun e w' => e = .returned (.bool (muchV (L.map Tm.v))) ∧ Ext w w' := by
  have hmax : m ≤ 9223372036854775807 := by rw [hm.out]; exact hL.out.sl.le
  obtain ⟨b, hb⟩ : ∃ b, muchV (L.map Tm.v) = b := ⟨_, rfl⟩
  rw [hb]
  have HB := Lib.hid hb
  clear hb
  go_enter Tryz.func17, Tryz.ntmps17
  go_wp2
  go_loopg [3, 4] m (fun z v3 v4 wr => ∃ (k s : Nat), z = m - k ∧ k ≤ m ∧ v4 = .int .i64 k ∧ v3 = .int .i64 s ∧ Hid (s = m + sumN ((L.map Tm.v).take k)) ∧ Hid (Ext w wr) ∧ s ≤ 9223372036854775807)
  case atStart => exact ⟨0, m, rfl, Nat.zero_le _, rfl, rfl, Lib.hid (by simp [sumN]), Lib.hid (Ext.refl _), by omega⟩
  case round =>
    obtain ⟨k, s, rfl, hk, rfl, rfl, HS, HE, hs⟩ := hrel
    by_cases hlt : k < m
    · by_cases h60 : s ≤ 60
      · have hkL : k < L.length := by rw [← hm.out]; exact hlt
        obtain ⟨ad, rfl, q0, q1⟩ := (hL.out.ext HE.out).at (i := k) hkL
        have hlen := (hL.out.ls _ (getT_mem hkL)).cap
        have hkv := map_at hkL
        obtain ⟨x, hx⟩ : ∃ x, L.getD k Tm.zero = x := ⟨_, rfl⟩
        rw [hx] at q0 q1 hkv hlen
        have HKV := Lib.hid hkv
        clear hx hkv hkL
        obtain ⟨e, Ax, cx, l⟩ := x
        obtain ⟨nx, hnx⟩ : ∃ nx, l.length = nx := ⟨_, rfl⟩
        have HNX := Lib.hid hnx
        replace q1 : wr.cell? ⟨(ad.add (k * 2)).block, (ad.add (k * 2)).off + 1, none⟩ = some (.slice Ax l.length cx) := q1
        replace hlen : l.length ≤ cx ∧ cx ≤ 9223372036854775807 := hlen
        rw [hnx] at q1 hlen
        clear hnx q0
        go_wp2
        go_roundg (m - (k + 1))
        case measure => omega
        case rel =>
          obtain ⟨h1, h2⟩ := HKV.out
          have h3 := sumN_take h1
          rw [h2] at h3
          replace h3 : _ = _ + l.length / 8 := h3
          have h4 := HNX.out
          have h5 := HS.out
          exact ⟨k + 1, s + nx / 8, by omega, by omega, by go_num, by go_num, Lib.hid (by rw [h3, h4]; omega), HE, by omega⟩
      · have hgt : ((s : Int) ≤ 60) = False := by simp; omega
        have HG := Lib.hid h60
        clear h60
        go_wp2
        go_ret
        have hle := sumN_le (L.map Tm.v) k
        refine ⟨ret_bool ?_, HE.out⟩
        rw [← HB.out]
        unfold muchV
        have a := HG.out
        have c := HS.out
        have d := hm.out
        rw [eq_comm, decide_eq_decide, List.length_map]
        constructor <;> intro <;> omega
    · obtain rfl : k = m := by omega
      have HF : Hid (s = k + sumN (L.map Tm.v)) := Lib.hid (by have := HS.out; rwa [show (L.map Tm.v).take k = L.map Tm.v from List.take_of_length_le (by rw [List.length_map, hm.out]; exact Nat.le_refl _)] at this)
      go_wp2
      go_ret
      refine ⟨ret_bool ?_, HE.out⟩
      rw [← HB.out]
      unfold muchV
      have c := HF.out
      have d := hm.out
      rw [eq_comm, decide_eq_decide, List.length_map]
      constructor <;> intro <;> omega
theorem much5_at {v : Bool} (AL : Option Addr) (cL m : Nat) (L : List Tm) (w : World) (hv : Hid (muchV (L.map Tm.v) = v)) (hm : Hid (m = L.length)) (hL : Hid (Tin w AL cL L)) :
    Calls Tryz.prog 17 #[.slice AL m cL] w fun e w' => e = .returned (.bool v) ∧ Ext w w' := hv.out ▸ much5_any AL cL m L w hm hL
end Go.Proofs.YtmdakaflmheidaaGreatDoor
namespace Go.Proofs.YtmdakaflmheidaaGreatDoor
open Go.RowKit

def FineV (V : List TV) : Prop := ∀ v ∈ V, U32 v.2 ∧ v.2.length ≤ 100000
theorem fine_map {L : List Tm} {V : List TV} (h : FineV V) (e : L.map Tm.v = V) : Fine L := fun x hx => h x.v (e ▸ List.mem_map.2 ⟨x, hx, rfl⟩)
theorem fineV_map {L : List Tm} (h : Fine L) : FineV (L.map Tm.v) := fun v hv => by
  obtain ⟨x, hx, rfl⟩ := List.mem_map.1 hv
  exact h x hx
theorem fineV_of {V : List TV} (h : FineV V) : FineV (ofV V) := fun v hv => h v (((ofV_is V).mem v).1 hv).1
theorem fineV_join {A B : List TV} (hA : FineV A) (hB : FineV B) : FineV (joinV A B) := by
  refine fineV_of fun v hv => ?_
  obtain ⟨x, hx, y, hy, _, rfl⟩ := pairs_mem.1 hv
  refine ⟨u32_max (hA x hx).1 (hB y hy).1, ?_⟩
  have := (hA x hx).2
  show (List.zipWith max x.2 y.2).length ≤ _
  rw [List.length_zipWith]
  omega
theorem pairs_len (A B : List TV) : (pairsV A B).length ≤ A.length * B.length := by
  unfold pairsV
  induction A with
  | nil => simp
  | cons x A ih =>
    rw [List.flatMap_cons, List.length_append, List.length_map, List.length_cons, Nat.add_mul]
    have := List.length_filter_le (same x) B
    omega
theorem join_len (A B : List TV) : (joinV A B).length ≤ A.length * B.length := Nat.le_trans (ofV_len _) (pairs_len A B)
theorem join_few {A B V : List TV} {m n k a b : Nat} {L : List Tm} (e : L.map Tm.v = V) (hV : V = joinV A B) (hk : k = L.length) (hA : A.length ≤ a) (hB : B.length ≤ b) (hab : a * b ≤ m) : k ≤ m := by
  have h1 : L.length = (joinV A B).length := by rw [← hV, ← e, List.length_map]
  have h2 := join_len A B
  have h3 : A.length * B.length ≤ a * b := Nat.mul_le_mul hA hB
  omega
theorem of_few {A : List TV} {k a : Nat} {L : List Tm} (e : L.map Tm.v = ofV A) (hk : k = L.length) (hA : A.length ≤ a) : k ≤ a := by
  have h1 : L.length = (ofV A).length := by rw [← e, List.length_map]
  have h2 := ofV_len A
  omega
theorem insert_self (A : List TV) (t : TV) : beyondV (ofV (A ++ [t])) t = true := by
  rw [beyond_ofV, beyond_append, tleq_refl, Bool.or_true]
theorem insert_leq (A : List TV) (t : TV) : leqV (ofV (A ++ [t])) A = true := leqV_iff.2 fun x hx => by
  rw [beyond_ofV, beyond_append, beyond_iff.2 ⟨x, hx, tleq_refl x⟩, Bool.true_or]
theorem fine_of_much {L : List Tm} (h : muchV (L.map Tm.v) = false) (hi : ∀ x ∈ L, U32 x.l) : Fine L := fun x hx => ⟨hi x hx, by have := (much_small h).2 x hx; omega⟩
end Go.Proofs.YtmdakaflmheidaaGreatDoor
