/- penstocklaw01.known is true, always. Conditions: the library's tables stand. -/
import Derived.Test.YtobgfegdfcpgfaaDoorDLogic
import Derived.Test.YtobgfegdfcpgfaaDoorOrd
import Derived.Test.YtobgfegdfcpgfaaDoorQuote
namespace Go.Proofs.YtobgfegdfcpgfaaDoor
open Go.RowKit

set_option maxRecDepth 100000 in
set_option maxHeartbeats 400000 in
theorem refInt_any (n : Int) (w : World) : Calls Tryd.prog 52 #[.int .i64 n] w fun e w' => e = .returned (.agg #[.int .u8 3, .bool false, .int .i64 n, .string ⟨#[]⟩]) ∧ Ext w w' := by
  go_enter Tryd.func52, Tryd.ntmps52
  go_wp2
  go_returns
  exact ⟨rfl, (Ext.refl w).alloc _⟩
set_option maxRecDepth 100000 in
set_option maxHeartbeats 400000 in
theorem refText_any (s : ByteArray) (w : World) : Calls Tryd.prog 53 #[.string s] w fun e w' => e = .returned (.agg #[.int .u8 4, .bool false, .int .i64 0, .string s]) ∧ Ext w w' := by
  go_enter Tryd.func53, Tryd.ntmps53
  go_wp2
  go_returns
  exact ⟨rfl, (Ext.refl w).alloc _⟩

theorem check_at {c : Int} (k : Int) (b : Bool) (n : Int) (s : ByteArray) (w : World) (h : Hid (checkT k b n s = c)) (hs : s.size ≤ 9223372036854775807) (g : Good w) :
    Calls Tryd.prog 15 #[.agg #[.int .u8 k, .bool b, .int .i64 n, .string s]] w fun e w' => e = .returned (.int .u16 c) ∧ Ext w w' := h.out ▸ check_any k b n s w hs g
set_option maxRecDepth 100000 in
set_option maxHeartbeats 600000 in
theorem print_plain (s : ByteArray) (w : World) (hs : s.size ≤ 1000) (hv : validB s = true) (hp : ∀ k (h : k < s.size), 32 ≤ s[k].toNat ∧ ¬ s[k].toNat = 127) (G : Good w) :
    Calls Tryd.prog 17 #[.agg #[.int .u8 4, .bool false, .int .i64 0, .string s]] w fun e w' => e = .returned (.string ⟨(quotedT s.data.toList).toArray⟩) ∧ Ext w w' := by
  have hc : checkT 4 false 0 s = 0 := by rw [checkT_on (by simp), hv, if_pos rfl, if_neg (by omega)]
  have HC := Lib.hid hc
  have HP := Lib.hid hp
  clear hc hp hv
  go_enter Tryd.func17, Tryd.ntmps17
  go_wp2_with (first
    | (go_at_call 15; refine (check_at 4 false 0 s _ HC (by omega) (G.ext ((Ext.refl w).alloc _))).mono ?_; rintro e w1 ⟨rfl, x1⟩; have b0 := (Bk.new w 24 #[.int .u8 4, .bool false, .int .i64 0, .string s]).ext x1; have b00 : w1.cell? ⟨w.heap.size, 0, none⟩ = some (.int .u8 (4)) := b0.cell 0; have b01 : w1.cell? ⟨w.heap.size, 1, none⟩ = some (.bool (false)) := b0.cell 1; have b02 : w1.cell? ⟨w.heap.size, 2, none⟩ = some (.int .i64 (0)) := b0.cell 2; have b03 : w1.cell? ⟨w.heap.size, 3, none⟩ = some (.string (s)) := b0.cell 3)
    | (go_at_call 56; refine (quoted_plain s _ (by omega) HP.out).mono ?_; rintro e w2 ⟨rfl, x2⟩))
  go_ret
  exact ⟨rfl, (((Ext.refl w).alloc _).trans x1).trans x2⟩

theorem add_at {r : Dat × Int} (a b : Dat) (w : World) (h : Hid (addR a b = r)) (hs : a.s.size ≤ 9223372036854775807) (hs2 : b.s.size ≤ 9223372036854775807) (G : Good w) :
    Calls Tryd.prog 26 #[.agg #[.int .u8 a.k, .bool a.b, .int .i64 a.n, .string a.s], .agg #[.int .u8 b.k, .bool b.b, .int .i64 b.n, .string b.s]] w (Out w r) := h.out ▸ add_any a b w hs hs2 G
theorem add_23 : addR (Dat.int 2) (Dat.int 3) = (Dat.int 5, 0) := by
  have h1 : ofT 3 [Dat.int 2, Dat.int 3] = (false, 0) := by rfl
  have h2 : add1R 2 3 = (Dat.int 5, 0) := by simp [add1R, wrap64, wholeR]
  unfold addR applyR
  rw [h1, show add1R (Dat.int 2).n (Dat.int 3).n = add1R 2 3 from rfl, h2]
  rfl
theorem add_ex (w : World) (G : Good w) : Calls Tryd.prog 26 #[.agg #[.int .u8 3, .bool false, .int .i64 2, .string ⟨#[]⟩], .agg #[.int .u8 3, .bool false, .int .i64 3, .string ⟨#[]⟩]] w
    fun e w' => e = .returned (.tuple #[.agg #[.int .u8 3, .bool false, .int .i64 5, .string ⟨#[]⟩], .int .u16 0]) ∧ Ext w w' := add_at (Dat.int 2) (Dat.int 3) w add_23 (by simp [Dat.int, ByteArray.size]) (by simp [Dat.int, ByteArray.size]) G
theorem print_ex (w : World) (G : Good w) : Calls Tryd.prog 17 #[.agg #[.int .u8 4, .bool false, .int .i64 0, .string ⟨#[97, 39, 98]⟩]] w fun e w' => e = .returned (.string ⟨#[39, 97, 39, 39, 98, 39]⟩) ∧ Ext w w' :=
  print_plain ⟨#[97, 39, 98]⟩ w (by simp [ByteArray.size]) (by rfl) (fun k h => by
    match k, h with
    | 0, _ => exact (show 32 ≤ (97 : UInt8).toNat ∧ ¬ (97 : UInt8).toNat = 127 by decide)
    | 1, _ => exact (show 32 ≤ (39 : UInt8).toNat ∧ ¬ (39 : UInt8).toNat = 127 by decide)
    | 2, _ => exact (show 32 ≤ (98 : UInt8).toNat ∧ ¬ (98 : UInt8).toNat = 127 by decide)
    | n + 3, h => exact absurd h (by simp [ByteArray.size])) G

set_option maxRecDepth 100000 in
set_option maxHeartbeats 800000 in
theorem known_true (w : World) (G : Good w) : Calls Tryd.prog 16 #[] w fun e w' => e = .returned (.bool true) ∧ Ext w w' := by
  have m1 : True := trivial
  go_enter Tryd.func16, Tryd.ntmps16
  go_upto_region 2 with (first
    | (have z := m1; clear z m1; go_at_call 52; refine (refInt_any _ _).mono ?_; rintro e w1 ⟨rfl, x1⟩; have m2 : True := trivial)
    | (have z := m2; clear z m2; go_at_call 52; refine (refInt_any _ _).mono ?_; rintro e w2 ⟨rfl, x2⟩; have E2 := x1.trans x2; clear x1 x2)
    | (go_at_call 26; refine (add_ex _ (G.ext E2)).mono ?_; rintro e w3 ⟨rfl, x3⟩; have E3 := E2.trans x3; clear x3)
    | fail)
  have b0 := Bk.new w3 24 #[.int .u8 3, .bool false, .int .i64 5, .string ⟨#[]⟩]
  have E4 := E3.alloc (.cells #[.int .u8 3, .bool false, .int .i64 5, .string ⟨#[]⟩] 24)
  obtain ⟨w4, hw4⟩ : ∃ w4, w4 = w3.alloc (.cells #[.int .u8 3, .bool false, .int .i64 5, .string ⟨#[]⟩] 24) := ⟨_, rfl⟩
  rw [← hw4] at b0 E4 ⊢
  clear hw4
  have X : Ext w4 w4.drew := (Ext.refl w4).drew
  have q0 : ∀ y : Xt w4.drew, y.W.cell? ⟨w3.heap.size, 0, none⟩ = some (.int .u8 3) := fun y => (b0.ext (X.trans y.x)).cell 0
  have q1 : ∀ y : Xt w4.drew, y.W.cell? ⟨w3.heap.size, 1, none⟩ = some (.bool false) := fun y => (b0.ext (X.trans y.x)).cell 1
  have q2 : ∀ y : Xt w4.drew, y.W.cell? ⟨w3.heap.size, 2, none⟩ = some (.int .i64 5) := fun y => (b0.ext (X.trans y.x)).cell 2
  have q3 : ∀ y : Xt w4.drew, y.W.cell? ⟨w3.heap.size, 3, none⟩ = some (.string ⟨#[]⟩) := fun y => (b0.ext (X.trans y.x)).cell 3
  refine wp_region_ord [0,1,3,7,7,31,63,127,255,511,1023,2047,4095] (.flo [0,1,2,3] (.ext 4 (.flo [5,6,7] (.one 8 (.one 9 (.flo [10,11,12] (.fin))))))) (by kernel_rfl) (by kernel_rfl) (by intro _ _ d _ _ h; cases d <;> exact h) ?_
  (refine ord_flo (pick_cons rfl (pick_cons rfl (pick_cons rfl (pick_cons rfl pick_nil)))) ?_; (repeat (go_big_quiet_step (fail))); refine wpQuiet_nil ?_; show ordWalk _ _ _ _ _ _ _)
  refine ord_ext (pick_cons rfl pick_nil) ?_; intro K_ hK_
  go_wp2_with (go_at_call 52; refine (refInt_any _ _).mono ?_; rintro e w5 ⟨rfl, x5⟩)
  refine ordNext.mk x5 ?_
  (refine ord_flo (pick_cons rfl (pick_cons rfl (pick_cons rfl pick_nil))) ?_; (repeat (go_big_quiet_step (fail))); refine wpQuiet_nil ?_; show ordWalk _ _ _ _ _ _ _)
  refine ord_one (pick_cons rfl pick_nil) ?_; intro K_ hK_
  go_wp2_with (go_at_call 53; refine (refText_any _ _).mono ?_; rintro e w6 ⟨rfl, x6⟩)
  refine ord_one (pick_cons rfl pick_nil) ?_; intro K_ hK_
  go_wp2_with (go_at_call 17; refine (print_ex _ (G.ext (((E4.trans X).trans x5).trans x6))).mono ?_; rintro e w7 ⟨rfl, x7⟩)
  (refine ord_flo (pick_cons rfl (pick_cons rfl (pick_cons rfl pick_nil))) ?_; (repeat (go_big_quiet_step (fail))); refine wpQuiet_nil ?_; show ordWalk _ _ _ _ _ _ _)
  refine ord_fin ?_
  go_wp2
  go_ret
  exact ⟨rfl, (((E4.trans X).trans x5).trans x6).trans x7⟩
end Go.Proofs.YtobgfegdfcpgfaaDoor
