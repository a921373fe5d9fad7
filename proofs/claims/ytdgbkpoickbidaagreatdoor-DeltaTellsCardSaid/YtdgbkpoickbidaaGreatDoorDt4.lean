/- slices.symMergeCmpFunc at rows with counts: two sorted lists, side by side, are merged; those that are alike stay in their order. slices.insertionSortCmpFunc at rows with counts: the walk. slices.SortStableFunc at fewer than 20 rows with counts. slices.SortStableFunc at rows with counts. row.Sum: what its steps do to memory. row.Sum: the loop's relation. row.Sum of rows that all may be: the walk, up to the sort. row.Sum of rows that all may be: the walk. Conditions: each theorem states its own. -/
import Derived.Test.YtdgbkpoickbidaaGreatDoorDt3
import Derived.Test.YtdgbkpoickbidaaGreatDoorDt1
import Derived.Test.YtdgbkpoickbidaaGreatDoorDt2
import Derived.Maps.OwnSet
import Derived.Maps.OwnOps
import Derived.Laws.MakeOwn
namespace Go.Proofs.YtdgbkpoickbidaaGreatDoor
open Go.RowKit

def GenIn (L : List Ct) (nn p lo hi s r : Nat) : Prop := (lo < s → ¬ cmpC (L.getD (nn - s) Ct.zero) (L.getD (s - 1) Ct.zero) < 0) ∧ (r < hi → cmpC (L.getD (p - r) Ct.zero) (L.getD r Ct.zero) < 0)
set_option maxRecDepth 100000 in
set_option maxHeartbeats 16000000 in
theorem symGen_any (N : Nat) (IH : Hid (SymIH N)) (B g c n a m b : Nat) (P X Y Q : List Ct) (w : World) (hlen : X.length + Y.length ≤ N + 1) (h2X : 2 ≤ X.length) (h2Y : 2 ≤ Y.length) (ha : a = P.length) (hm : m = a + X.length) (hb : b = m + Y.length) (hn : n = (P ++ (X ++ (Y ++ Q))).length) (hX : SortedC X) (hY : SortedC Y)
    (h : Arr w B g c (P ++ (X ++ (Y ++ Q)))) (hr : Rws w g (X ++ Y)) (hbig : n ≤ 1000000000) :
    Calls Tryz.prog 257 #[.slice (some ⟨g, 0, none⟩) n c, .int .i64 a, .int .i64 m, .int .i64 b, .func (.func 188) #[] #[]] w (SymRes B g c P (X ++ Y) Q w) := by
  obtain ⟨L, hL⟩ : ∃ L, L = P ++ (X ++ (Y ++ Q)) := ⟨_, rfl⟩
  have hbn : b ≤ n := by rw [hb, hm, ha, hn]; simp only [List.length_append]; omega
  obtain ⟨mid, hmid⟩ : ∃ q, q = (a + b) / 2 := ⟨_, rfl⟩
  obtain ⟨nn, hnn⟩ : ∃ q, q = mid + m := ⟨_, rfl⟩
  obtain ⟨p, hp⟩ : ∃ p, nn = p + 1 := ⟨nn - 1, by omega⟩
  have HA := Lib.hid ha
  have HB := Lib.hid hb
  have HM := Lib.hid hm
  have HL := Lib.hid hL
  have HX := Lib.hid hX
  have HY := Lib.hid hY
  have HR := Lib.hid hr
  have HMID := Lib.hid hmid
  have HNN := Lib.hid hnn
  have HPP := Lib.hid hp
  have HLEN := Lib.hid hlen
  have HN0 := Lib.hid hn
  have HN : Hid (n = L.length) := Lib.hid (by rw [hL]; exact hn)
  have H : Hid (Arr w B g c L) := Lib.hid (by rw [hL]; exact h)
  have e1 : ((m : Int) - (a : Int) == 1) = false := by rw [beq_eq_false_iff_ne]; omega
  have e2 : ((b : Int) - (m : Int) == 1) = false := by rw [beq_eq_false_iff_ne]; omega
  have e3 : ((a : Int) + (b : Int)) / 2 = (mid : Int) := by omega
  have e4 : (mid : Int) + (m : Int) = (nn : Int) := by omega
  have e5 : (nn : Int) - 1 = (p : Int) := by omega
  have ham : a + 2 ≤ m := by omega
  have hmb : m + 2 ≤ b := by omega
  have ha1 : 2 * mid ≤ a + b := by omega
  have ha2 : a + b ≤ 2 * mid + 1 := by omega
  have hp1 : mid + m ≤ p + 1 := by omega
  have hp2 : p + 1 ≤ mid + m := by omega
  have hnp : nn ≤ p + 1 := by omega
  have hpn : p + 1 ≤ nn := by omega
  clear hlen h2X h2Y ha hm hb hn hX hY h hr hL hmid hnn hp
  go_enter Tryz.func257, Tryz.ntmps257
  by_cases hc : mid < m
  · obtain ⟨lo, hlo⟩ : ∃ lo, lo = nn - b := ⟨_, rfl⟩
    have e6 : (nn : Int) - (b : Int) = (lo : Int) := by omega
    have HC : Hid (mid < m ∧ lo = nn - b) := Lib.hid ⟨hc, hlo⟩
    have hl1 : nn ≤ lo + b := by omega
    have hl2 : lo + b ≤ nn := by omega
    clear hlo
    go_wp2
    go_loopg [20, 21] (mid - lo) (fun z u v wr => ∃ s r : Nat, z = r - s ∧ u = .int .i64 s ∧ v = .int .i64 r ∧ lo ≤ s ∧ s ≤ r ∧ r ≤ mid ∧ Hid (GenIn L nn p lo mid s r) ∧ Ext w wr)
    case atStart => exact ⟨lo, mid, rfl, rfl, rfl, Nat.le_refl _, by omega, Nat.le_refl _, Lib.hid ⟨fun h => absurd h (Nat.lt_irrefl _), fun h => absurd h (Nat.lt_irrefl _)⟩, Ext.refl _⟩
    case round =>
      obtain ⟨s, r, rfl, rfl, rfl, h1, h2, h3, HO, er⟩ := hrel
      by_cases hlt : s < r
      · obtain ⟨q, hq⟩ : ∃ q, q = (s + r) / 2 := ⟨_, rfl⟩
        have hqi : s ≤ q := by omega
        have hqj : q < r := by omega
        have hqq : ((s : Int) + (r : Int)) / 2 = (q : Int) := by omega
        obtain ⟨t, ht⟩ : ∃ t, t = p - q := ⟨_, rfl⟩
        have hpq : (p : Int) - (q : Int) = (t : Int) := by omega
        have hqm : a ≤ q ∧ q < m := by omega
        have htm : m ≤ t ∧ t < b := by omega
        have hqn : q < n := by omega
        have htn : t < n := by omega
        have hA := H.out.ext er
        obtain ⟨px0, px1⟩ := hA.at (i := q) (by rw [← HN.out]; exact hqn)
        obtain ⟨py0, py1⟩ := hA.at (i := t) (by rw [← HN.out]; exact htn)
        have hmx : L.getD q Ct.zero ∈ X ++ Y := List.mem_append_left _ (by
          rw [HL.out]
          exact mem_mid (by rw [← HA.out]; exact hqm.1) (by rw [← HA.out, ← HM.out]; exact hqm.2))
        have hmy : L.getD t Ct.zero ∈ X ++ Y := List.mem_append_right _ (by
          rw [HL.out]
          have := mem_mid (P := P ++ X) (X := Y) (R := Q) (i := t) (by rw [List.length_append, ← HA.out, ← HM.out]; exact htm.1) (by rw [List.length_append, ← HA.out, ← HM.out, ← HB.out]; exact htm.2)
          rwa [List.append_assoc] at this)
        obtain ⟨x, hx⟩ : ∃ x, x = L.getD q Ct.zero := ⟨_, rfl⟩
        obtain ⟨y, hy⟩ : ∃ y, y = L.getD t Ct.zero := ⟨_, rfl⟩
        rw [← hx] at px0 px1 hmx
        rw [← hy] at py0 py1 hmy
        have HXQ := Lib.hid hx
        have HYQ := Lib.hid hy
        have HT := Lib.hid ht
        obtain ⟨nx, hnx⟩ : ∃ nx, nx = x.l.length := ⟨_, rfl⟩
        obtain ⟨ny, hny⟩ : ∃ ny, ny = y.l.length := ⟨_, rfl⟩
        rw [← hnx] at px0
        rw [← hny] at py0
        have HNX := Lib.hid hnx
        have HNY := Lib.hid hny
        have XE : Ext wr wr.drew := (Ext.refl wr).drew
        have HRX := Lib.hid (((HR.out x hmx).1.ext er).ext XE)
        have HRY := Lib.hid (((HR.out y hmy).1.ext er).ext XE)
        obtain ⟨v, hv⟩ : ∃ v, cmpR y.l x.l = v := ⟨_, rfl⟩
        have HV := Lib.hid hv
        have PY0 : ∀ z : Xt wr.drew, z.W.cell? ⟨g, t * 2, none⟩ = some (.slice y.A ny y.c) := fun z => (XE.trans z.x).cell py0
        have PY1 : ∀ z : Xt wr.drew, z.W.cell? ⟨g, t * 2 + 1, none⟩ = some (.int .i64 y.k) := fun z => (XE.trans z.x).cell py1
        have PX0 : ∀ z : Xt wr.drew, z.W.cell? ⟨g, q * 2, none⟩ = some (.slice x.A nx x.c) := fun z => (XE.trans z.x).cell px0
        have PX1 : ∀ z : Xt wr.drew, z.W.cell? ⟨g, q * 2 + 1, none⟩ = some (.int .i64 x.k) := fun z => (XE.trans z.x).cell px1
        clear hA hx hy hmx hmy hnx hny hv hq ht
        by_cases hv0 : v < 0
        · have zv : decide (v < 0) = true := by simpa using hv0
          go_upto_region 35 with fail
          refine wp_region_ord [0,0,0,0,12,30,62,0,0,384,896,2047,4095,8191] (.flo [0,1,2,3,4,5,6,7,8,9,10] (.one 11 (.flo [12,13] (.fin)))) (by kernel_rfl) (by kernel_rfl) (by intro _ _ d _ _ h; cases d <;> exact h) ?_
          (refine ord_flo (pick_cons rfl (pick_cons rfl (pick_cons rfl (pick_cons rfl (pick_cons rfl (pick_cons rfl (pick_cons rfl (pick_cons rfl (pick_cons rfl (pick_cons rfl (pick_cons rfl pick_nil))))))))))) ?_; (repeat (go_big_quiet_step (fail))); refine wpQuiet_nil ?_; show ordWalk _ _ _ _ _ _ _)
          refine ord_one (pick_cons rfl pick_nil) ?_; intro K_ hK_
          go_wp2_with (go_at_call 188; refine (sum1_any y.A x.A y.c x.c ny nx y.k x.k v y.l x.l _ HV HNY HNX HRY HRX).mono ?_; rintro e w1 ⟨rfl, x1⟩)
          (refine ord_flo (pick_cons rfl (pick_cons rfl pick_nil)) ?_; (repeat (go_big_quiet_step (fail))); refine wpQuiet_nil ?_; show ordWalk _ _ _ _ _ _ _)
          refine ord_fin ?_
          go_wp2
          go_roundg (q - s)
          case measure => omega
          case rel => exact ⟨s, q, rfl, rfl, rfl, h1, hqi, by omega, Lib.hid ⟨HO.out.1, fun _ => by rw [← HT.out, ← HYQ.out, ← HXQ.out]; show cmpR y.l x.l < 0; rw [HV.out]; exact hv0⟩, er.trans (XE.trans x1)⟩
        · have zv : decide (v < 0) = false := by simpa using hv0
          go_upto_region 35 with fail
          refine wp_region_ord [0,0,0,0,12,30,62,0,0,384,896,2047,4095,8191] (.flo [0,1,2,3,4,5,6,7,8,9,10] (.one 11 (.flo [12,13] (.fin)))) (by kernel_rfl) (by kernel_rfl) (by intro _ _ d _ _ h; cases d <;> exact h) ?_
          (refine ord_flo (pick_cons rfl (pick_cons rfl (pick_cons rfl (pick_cons rfl (pick_cons rfl (pick_cons rfl (pick_cons rfl (pick_cons rfl (pick_cons rfl (pick_cons rfl (pick_cons rfl pick_nil))))))))))) ?_; (repeat (go_big_quiet_step (fail))); refine wpQuiet_nil ?_; show ordWalk _ _ _ _ _ _ _)
          refine ord_one (pick_cons rfl pick_nil) ?_; intro K_ hK_
          go_wp2_with (go_at_call 188; refine (sum1_any y.A x.A y.c x.c ny nx y.k x.k v y.l x.l _ HV HNY HNX HRY HRX).mono ?_; rintro e w1 ⟨rfl, x1⟩)
          (refine ord_flo (pick_cons rfl (pick_cons rfl pick_nil)) ?_; (repeat (go_big_quiet_step (fail))); refine wpQuiet_nil ?_; show ordWalk _ _ _ _ _ _ _)
          refine ord_fin ?_
          go_wp2
          go_roundg (r - (q + 1))
          case measure => omega
          case rel => exact ⟨q + 1, r, rfl, by go_num, rfl, by omega, by omega, h3, Lib.hid ⟨fun _ => by rw [show nn - (q + 1) = t by have := HT.out; omega, Nat.add_sub_cancel, ← HYQ.out, ← HXQ.out]; show ¬ cmpR y.l x.l < 0; rw [HV.out]; omega, HO.out.2⟩, er.trans (XE.trans x1)⟩
      · obtain rfl : s = r := by omega
        obtain ⟨X1, X2, Y1, Y2, k1, k2, k3, k4, k5, k6, k7⟩ := sym_split HL.out HA.out HM.out HB.out HMID.out HNN.out HPP.out (.inl ⟨HC.out.1, HC.out.2, rfl⟩) h1 h3 HO.out.1 HO.out.2
        obtain ⟨en, hen⟩ : ∃ en, en = nn - s := ⟨_, rfl⟩
        have e7 : (nn : Int) - (s : Int) = (en : Int) := by omega
        have hsb : s ≤ b := by omega
        have henb : en ≤ b := by omega
        have HF : Hid (SymF N g n a m b mid en s P X X1 X2 Y Y1 Y2 Q w) := Lib.hid ⟨k1, k2, HA.out, k3, HM.out, HB.out, by rw [hen]; exact k4, k5, HMID.out, HN0.out, HX.out, HY.out, HR.out, k6, k7, hbig, HLEN.out, by have := HM.out; have := HB.out; omega⟩
        have HA1 : Hid (Arr wr B g c (P ++ (X ++ (Y ++ Q)))) := Lib.hid (by have := H.out.ext er; rwa [HL.out] at this)
        have HUP : Hid (w.grownBy wr (some g)) := Lib.hid (upd_ext er g)
        clear k1 k2 k3 k4 k5 k6 k7 hen HO
        obtain ⟨f1, f2, f3, f4, f5, f6⟩ := HF.out.flags
        rw [show (0 < X2.length) = (0 < X2.length ∧ True) by simp] at f1 f5
        rw [show (0 < Y1.length) = (0 < Y1.length ∧ True) by simp] at f2 f4
        rw [show (0 < X1.length) = (0 < X1.length ∧ True) by simp] at f3
        rw [show (0 < Y2.length) = (0 < Y2.length ∧ True) by simp] at f6
        by_cases b1 : 0 < X1.length ∧ True
        · have B1 := Lib.hid b1
          clear b1
          by_cases b2 : 0 < X2.length ∧ True
          · have B2 := Lib.hid b2
            clear b2
            by_cases b3 : 0 < Y1.length ∧ True
            · have B3 := Lib.hid b3
              clear b3
              by_cases b4 : 0 < Y2.length ∧ True
              · have B4 := Lib.hid b4
                clear b4
                have s1 := f1.2 B2.out
                have s2 := f2.2 B3.out
                have s3 := f3.2 B1.out
                have s4 := f4.2 B3.out
                have s5 := f5.2 B2.out
                have s6 := f6.2 B4.out
                clear f1 f2 f3 f4 f5 f6
                go_wp2_with (first | (go_at_call 284; refine (HF.out.rot HA1.out HUP.out B2.out.1 B3.out.1).mono ?_; rintro e w2 ⟨rfl, q2⟩; have HS := Lib.hid q2; clear q2) | (go_at_call 257; refine (HF.out.right IH.out HMD.out B2.out.1 B4.out.1).mono ?_; rintro e w4 ⟨rfl, q4⟩; have HE := Lib.hid q4; clear q4) | (go_at_call 257; refine (HF.out.left IH.out HS.out B1.out.1 B3.out.1).mono ?_; rintro e w3 ⟨rfl, q3⟩; have HMD := Lib.hid q3; clear q3))
                all_goals go_end0
                all_goals exact ⟨rfl, HE.out⟩
              · have B4 := Lib.hid b4
                clear b4
                have s1 := f1.2 B2.out
                have s2 := f2.2 B3.out
                have s3 := f3.2 B1.out
                have s4 := f4.2 B3.out
                have s5 := f5.2 B2.out
                have s6 := fun q => B4.out (f6.1 q)
                clear f1 f2 f3 f4 f5 f6
                go_wp2_with (first | (go_at_call 284; refine (HF.out.rot HA1.out HUP.out B2.out.1 B3.out.1).mono ?_; rintro e w2 ⟨rfl, q2⟩; have HS := Lib.hid q2; clear q2) | (go_at_call 257; refine (HF.out.left IH.out HS.out B1.out.1 B3.out.1).mono ?_; rintro e w3 ⟨rfl, q3⟩; have HMD := Lib.hid q3; clear q3))
                all_goals go_end0
                all_goals exact HF.out.right0 HMD.out (.inr fun q => B4.out ⟨q, trivial⟩)
            · have B3 := Lib.hid b3
              clear b3
              by_cases b4 : 0 < Y2.length ∧ True
              · have B4 := Lib.hid b4
                clear b4
                have s1 := f1.2 B2.out
                have s2 := fun q => B3.out (f2.1 q)
                have s3 := f3.2 B1.out
                have s4 := fun q => B3.out (f4.1 q)
                have s5 := f5.2 B2.out
                have s6 := f6.2 B4.out
                clear f1 f2 f3 f4 f5 f6
                have HS : Hid (SymAt B g c P X1 Y1 X2 Y2 Q w wr) := Lib.hid (HF.out.still HA1.out HUP.out (.inr fun q => B3.out ⟨q, trivial⟩))
                go_wp2_with (go_at_call 257; refine (HF.out.right IH.out (HF.out.left0 HS.out (.inr fun q => B3.out ⟨q, trivial⟩)) B2.out.1 B4.out.1).mono ?_; rintro e w4 ⟨rfl, q4⟩; have HE := Lib.hid q4; clear q4)
                all_goals go_end0
                all_goals exact ⟨rfl, HE.out⟩
              · have B4 := Lib.hid b4
                clear b4
                exfalso
                have h1 : ¬ 0 < Y1.length := fun q => B3.out ⟨q, trivial⟩
                have h2 : ¬ 0 < Y2.length := fun q => B4.out ⟨q, trivial⟩
                have h3 := HF.out.lens
                have h4 := HM.out
                have h5 := HB.out
                omega
          · have B2 := Lib.hid b2
            clear b2
            by_cases b3 : 0 < Y1.length ∧ True
            · have B3 := Lib.hid b3
              clear b3
              by_cases b4 : 0 < Y2.length ∧ True
              · have B4 := Lib.hid b4
                clear b4
                have s1 := fun q => B2.out (f1.1 q)
                have s2 := f2.2 B3.out
                have s3 := f3.2 B1.out
                have s4 := f4.2 B3.out
                have s5 := fun q => B2.out (f5.1 q)
                have s6 := f6.2 B4.out
                clear f1 f2 f3 f4 f5 f6
                have HS : Hid (SymAt B g c P X1 Y1 X2 Y2 Q w wr) := Lib.hid (HF.out.still HA1.out HUP.out (.inl fun q => B2.out ⟨q, trivial⟩))
                go_wp2_with (go_at_call 257; refine (HF.out.left IH.out HS.out B1.out.1 B3.out.1).mono ?_; rintro e w3 ⟨rfl, q3⟩; have HMD := Lib.hid q3; clear q3)
                all_goals go_end0
                all_goals exact HF.out.right0 HMD.out (.inl fun q => B2.out ⟨q, trivial⟩)
              · have B4 := Lib.hid b4
                clear b4
                have s1 := fun q => B2.out (f1.1 q)
                have s2 := f2.2 B3.out
                have s3 := f3.2 B1.out
                have s4 := f4.2 B3.out
                have s5 := fun q => B2.out (f5.1 q)
                have s6 := fun q => B4.out (f6.1 q)
                clear f1 f2 f3 f4 f5 f6
                have HS : Hid (SymAt B g c P X1 Y1 X2 Y2 Q w wr) := Lib.hid (HF.out.still HA1.out HUP.out (.inl fun q => B2.out ⟨q, trivial⟩))
                go_wp2_with (go_at_call 257; refine (HF.out.left IH.out HS.out B1.out.1 B3.out.1).mono ?_; rintro e w3 ⟨rfl, q3⟩; have HMD := Lib.hid q3; clear q3)
                all_goals go_end0
                all_goals exact HF.out.right0 HMD.out (.inl fun q => B2.out ⟨q, trivial⟩)
            · have B3 := Lib.hid b3
              clear b3
              by_cases b4 : 0 < Y2.length ∧ True
              · have B4 := Lib.hid b4
                clear b4
                have s1 := fun q => B2.out (f1.1 q)
                have s2 := fun q => B3.out (f2.1 q)
                have s3 := f3.2 B1.out
                have s4 := fun q => B3.out (f4.1 q)
                have s5 := fun q => B2.out (f5.1 q)
                have s6 := f6.2 B4.out
                clear f1 f2 f3 f4 f5 f6
                have HS : Hid (SymAt B g c P X1 Y1 X2 Y2 Q w wr) := Lib.hid (HF.out.still HA1.out HUP.out (.inl fun q => B2.out ⟨q, trivial⟩))
                go_wp2
                all_goals go_end0
                all_goals exact HF.out.right0 (HF.out.left0 HS.out (.inr fun q => B3.out ⟨q, trivial⟩)) (.inl fun q => B2.out ⟨q, trivial⟩)
              · have B4 := Lib.hid b4
                clear b4
                exfalso
                have h1 : ¬ 0 < Y1.length := fun q => B3.out ⟨q, trivial⟩
                have h2 : ¬ 0 < Y2.length := fun q => B4.out ⟨q, trivial⟩
                have h3 := HF.out.lens
                have h4 := HM.out
                have h5 := HB.out
                omega
        · have B1 := Lib.hid b1
          clear b1
          by_cases b2 : 0 < X2.length ∧ True
          · have B2 := Lib.hid b2
            clear b2
            by_cases b3 : 0 < Y1.length ∧ True
            · have B3 := Lib.hid b3
              clear b3
              by_cases b4 : 0 < Y2.length ∧ True
              · have B4 := Lib.hid b4
                clear b4
                have s1 := f1.2 B2.out
                have s2 := f2.2 B3.out
                have s3 := fun q => B1.out (f3.1 q)
                have s4 := f4.2 B3.out
                have s5 := f5.2 B2.out
                have s6 := f6.2 B4.out
                clear f1 f2 f3 f4 f5 f6
                go_wp2_with (first | (go_at_call 284; refine (HF.out.rot HA1.out HUP.out B2.out.1 B3.out.1).mono ?_; rintro e w2 ⟨rfl, q2⟩; have HS := Lib.hid q2; clear q2) | (go_at_call 257; refine (HF.out.right IH.out (HF.out.left0 HS.out (.inl fun q => B1.out ⟨q, trivial⟩)) B2.out.1 B4.out.1).mono ?_; rintro e w4 ⟨rfl, q4⟩; have HE := Lib.hid q4; clear q4))
                all_goals go_end0
                all_goals exact ⟨rfl, HE.out⟩
              · have B4 := Lib.hid b4
                clear b4
                have s1 := f1.2 B2.out
                have s2 := f2.2 B3.out
                have s3 := fun q => B1.out (f3.1 q)
                have s4 := f4.2 B3.out
                have s5 := f5.2 B2.out
                have s6 := fun q => B4.out (f6.1 q)
                clear f1 f2 f3 f4 f5 f6
                go_wp2_with (go_at_call 284; refine (HF.out.rot HA1.out HUP.out B2.out.1 B3.out.1).mono ?_; rintro e w2 ⟨rfl, q2⟩; have HS := Lib.hid q2; clear q2)
                all_goals go_end0
                all_goals exact HF.out.right0 (HF.out.left0 HS.out (.inl fun q => B1.out ⟨q, trivial⟩)) (.inr fun q => B4.out ⟨q, trivial⟩)
            · have B3 := Lib.hid b3
              clear b3
              by_cases b4 : 0 < Y2.length ∧ True
              · have B4 := Lib.hid b4
                clear b4
                have s1 := f1.2 B2.out
                have s2 := fun q => B3.out (f2.1 q)
                have s3 := fun q => B1.out (f3.1 q)
                have s4 := fun q => B3.out (f4.1 q)
                have s5 := f5.2 B2.out
                have s6 := f6.2 B4.out
                clear f1 f2 f3 f4 f5 f6
                have HS : Hid (SymAt B g c P X1 Y1 X2 Y2 Q w wr) := Lib.hid (HF.out.still HA1.out HUP.out (.inr fun q => B3.out ⟨q, trivial⟩))
                go_wp2_with (go_at_call 257; refine (HF.out.right IH.out (HF.out.left0 HS.out (.inl fun q => B1.out ⟨q, trivial⟩)) B2.out.1 B4.out.1).mono ?_; rintro e w4 ⟨rfl, q4⟩; have HE := Lib.hid q4; clear q4)
                all_goals go_end0
                all_goals exact ⟨rfl, HE.out⟩
              · have B4 := Lib.hid b4
                clear b4
                exfalso
                have h1 : ¬ 0 < Y1.length := fun q => B3.out ⟨q, trivial⟩
                have h2 : ¬ 0 < Y2.length := fun q => B4.out ⟨q, trivial⟩
                have h3 := HF.out.lens
                have h4 := HM.out
                have h5 := HB.out
                omega
          · have B2 := Lib.hid b2
            clear b2
            by_cases b3 : 0 < Y1.length ∧ True
            · have B3 := Lib.hid b3
              clear b3
              by_cases b4 : 0 < Y2.length ∧ True
              · have B4 := Lib.hid b4
                clear b4
                exfalso
                have h1 : ¬ 0 < X1.length := fun q => B1.out ⟨q, trivial⟩
                have h2 : ¬ 0 < X2.length := fun q => B2.out ⟨q, trivial⟩
                have h3 := HF.out.lens
                have h4 := HM.out
                have h5 := HB.out
                omega
              · have B4 := Lib.hid b4
                clear b4
                exfalso
                have h1 : ¬ 0 < X1.length := fun q => B1.out ⟨q, trivial⟩
                have h2 : ¬ 0 < X2.length := fun q => B2.out ⟨q, trivial⟩
                have h3 := HF.out.lens
                have h4 := HM.out
                have h5 := HB.out
                omega
            · have B3 := Lib.hid b3
              clear b3
              by_cases b4 : 0 < Y2.length ∧ True
              · have B4 := Lib.hid b4
                clear b4
                exfalso
                have h1 : ¬ 0 < X1.length := fun q => B1.out ⟨q, trivial⟩
                have h2 : ¬ 0 < X2.length := fun q => B2.out ⟨q, trivial⟩
                have h3 := HF.out.lens
                have h4 := HM.out
                have h5 := HB.out
                omega
              · have B4 := Lib.hid b4
                clear b4
                exfalso
                have h1 : ¬ 0 < X1.length := fun q => B1.out ⟨q, trivial⟩
                have h2 : ¬ 0 < X2.length := fun q => B2.out ⟨q, trivial⟩
                have h3 := HF.out.lens
                have h4 := HM.out
                have h5 := HB.out
                omega
  · have HC : Hid (m ≤ mid) := Lib.hid (by omega)
    go_wp2
    go_loopg [20, 21] (m - a) (fun z u v wr => ∃ s r : Nat, z = r - s ∧ u = .int .i64 s ∧ v = .int .i64 r ∧ a ≤ s ∧ s ≤ r ∧ r ≤ m ∧ Hid (GenIn L nn p a m s r) ∧ Ext w wr)
    case atStart => exact ⟨a, m, rfl, rfl, rfl, Nat.le_refl _, by omega, Nat.le_refl _, Lib.hid ⟨fun h => absurd h (Nat.lt_irrefl _), fun h => absurd h (Nat.lt_irrefl _)⟩, Ext.refl _⟩
    case round =>
      obtain ⟨s, r, rfl, rfl, rfl, h1, h2, h3, HO, er⟩ := hrel
      by_cases hlt : s < r
      · obtain ⟨q, hq⟩ : ∃ q, q = (s + r) / 2 := ⟨_, rfl⟩
        have hqi : s ≤ q := by omega
        have hqj : q < r := by omega
        have hqq : ((s : Int) + (r : Int)) / 2 = (q : Int) := by omega
        obtain ⟨t, ht⟩ : ∃ t, t = p - q := ⟨_, rfl⟩
        have hpq : (p : Int) - (q : Int) = (t : Int) := by omega
        have hqm : a ≤ q ∧ q < m := by omega
        have htm : m ≤ t ∧ t < b := by omega
        have hqn : q < n := by omega
        have htn : t < n := by omega
        have hA := H.out.ext er
        obtain ⟨px0, px1⟩ := hA.at (i := q) (by rw [← HN.out]; exact hqn)
        obtain ⟨py0, py1⟩ := hA.at (i := t) (by rw [← HN.out]; exact htn)
        have hmx : L.getD q Ct.zero ∈ X ++ Y := List.mem_append_left _ (by
          rw [HL.out]
          exact mem_mid (by rw [← HA.out]; exact hqm.1) (by rw [← HA.out, ← HM.out]; exact hqm.2))
        have hmy : L.getD t Ct.zero ∈ X ++ Y := List.mem_append_right _ (by
          rw [HL.out]
          have := mem_mid (P := P ++ X) (X := Y) (R := Q) (i := t) (by rw [List.length_append, ← HA.out, ← HM.out]; exact htm.1) (by rw [List.length_append, ← HA.out, ← HM.out, ← HB.out]; exact htm.2)
          rwa [List.append_assoc] at this)
        obtain ⟨x, hx⟩ : ∃ x, x = L.getD q Ct.zero := ⟨_, rfl⟩
        obtain ⟨y, hy⟩ : ∃ y, y = L.getD t Ct.zero := ⟨_, rfl⟩
        rw [← hx] at px0 px1 hmx
        rw [← hy] at py0 py1 hmy
        have HXQ := Lib.hid hx
        have HYQ := Lib.hid hy
        have HT := Lib.hid ht
        obtain ⟨nx, hnx⟩ : ∃ nx, nx = x.l.length := ⟨_, rfl⟩
        obtain ⟨ny, hny⟩ : ∃ ny, ny = y.l.length := ⟨_, rfl⟩
        rw [← hnx] at px0
        rw [← hny] at py0
        have HNX := Lib.hid hnx
        have HNY := Lib.hid hny
        have XE : Ext wr wr.drew := (Ext.refl wr).drew
        have HRX := Lib.hid (((HR.out x hmx).1.ext er).ext XE)
        have HRY := Lib.hid (((HR.out y hmy).1.ext er).ext XE)
        obtain ⟨v, hv⟩ : ∃ v, cmpR y.l x.l = v := ⟨_, rfl⟩
        have HV := Lib.hid hv
        have PY0 : ∀ z : Xt wr.drew, z.W.cell? ⟨g, t * 2, none⟩ = some (.slice y.A ny y.c) := fun z => (XE.trans z.x).cell py0
        have PY1 : ∀ z : Xt wr.drew, z.W.cell? ⟨g, t * 2 + 1, none⟩ = some (.int .i64 y.k) := fun z => (XE.trans z.x).cell py1
        have PX0 : ∀ z : Xt wr.drew, z.W.cell? ⟨g, q * 2, none⟩ = some (.slice x.A nx x.c) := fun z => (XE.trans z.x).cell px0
        have PX1 : ∀ z : Xt wr.drew, z.W.cell? ⟨g, q * 2 + 1, none⟩ = some (.int .i64 x.k) := fun z => (XE.trans z.x).cell px1
        clear hA hx hy hmx hmy hnx hny hv hq ht
        by_cases hv0 : v < 0
        · have zv : decide (v < 0) = true := by simpa using hv0
          go_upto_region 35 with fail
          refine wp_region_ord [0,0,0,0,12,30,62,0,0,384,896,2047,4095,8191] (.flo [0,1,2,3,4,5,6,7,8,9,10] (.one 11 (.flo [12,13] (.fin)))) (by kernel_rfl) (by kernel_rfl) (by intro _ _ d _ _ h; cases d <;> exact h) ?_
          (refine ord_flo (pick_cons rfl (pick_cons rfl (pick_cons rfl (pick_cons rfl (pick_cons rfl (pick_cons rfl (pick_cons rfl (pick_cons rfl (pick_cons rfl (pick_cons rfl (pick_cons rfl pick_nil))))))))))) ?_; (repeat (go_big_quiet_step (fail))); refine wpQuiet_nil ?_; show ordWalk _ _ _ _ _ _ _)
          refine ord_one (pick_cons rfl pick_nil) ?_; intro K_ hK_
          go_wp2_with (go_at_call 188; refine (sum1_any y.A x.A y.c x.c ny nx y.k x.k v y.l x.l _ HV HNY HNX HRY HRX).mono ?_; rintro e w1 ⟨rfl, x1⟩)
          (refine ord_flo (pick_cons rfl (pick_cons rfl pick_nil)) ?_; (repeat (go_big_quiet_step (fail))); refine wpQuiet_nil ?_; show ordWalk _ _ _ _ _ _ _)
          refine ord_fin ?_
          go_wp2
          go_roundg (q - s)
          case measure => omega
          case rel => exact ⟨s, q, rfl, rfl, rfl, h1, hqi, by omega, Lib.hid ⟨HO.out.1, fun _ => by rw [← HT.out, ← HYQ.out, ← HXQ.out]; show cmpR y.l x.l < 0; rw [HV.out]; exact hv0⟩, er.trans (XE.trans x1)⟩
        · have zv : decide (v < 0) = false := by simpa using hv0
          go_upto_region 35 with fail
          refine wp_region_ord [0,0,0,0,12,30,62,0,0,384,896,2047,4095,8191] (.flo [0,1,2,3,4,5,6,7,8,9,10] (.one 11 (.flo [12,13] (.fin)))) (by kernel_rfl) (by kernel_rfl) (by intro _ _ d _ _ h; cases d <;> exact h) ?_
          (refine ord_flo (pick_cons rfl (pick_cons rfl (pick_cons rfl (pick_cons rfl (pick_cons rfl (pick_cons rfl (pick_cons rfl (pick_cons rfl (pick_cons rfl (pick_cons rfl (pick_cons rfl pick_nil))))))))))) ?_; (repeat (go_big_quiet_step (fail))); refine wpQuiet_nil ?_; show ordWalk _ _ _ _ _ _ _)
          refine ord_one (pick_cons rfl pick_nil) ?_; intro K_ hK_
          go_wp2_with (go_at_call 188; refine (sum1_any y.A x.A y.c x.c ny nx y.k x.k v y.l x.l _ HV HNY HNX HRY HRX).mono ?_; rintro e w1 ⟨rfl, x1⟩)
          (refine ord_flo (pick_cons rfl (pick_cons rfl pick_nil)) ?_; (repeat (go_big_quiet_step (fail))); refine wpQuiet_nil ?_; show ordWalk _ _ _ _ _ _ _)
          refine ord_fin ?_
          go_wp2
          go_roundg (r - (q + 1))
          case measure => omega
          case rel => exact ⟨q + 1, r, rfl, by go_num, rfl, by omega, by omega, h3, Lib.hid ⟨fun _ => by rw [show nn - (q + 1) = t by have := HT.out; omega, Nat.add_sub_cancel, ← HYQ.out, ← HXQ.out]; show ¬ cmpR y.l x.l < 0; rw [HV.out]; omega, HO.out.2⟩, er.trans (XE.trans x1)⟩
      · obtain rfl : s = r := by omega
        obtain ⟨X1, X2, Y1, Y2, k1, k2, k3, k4, k5, k6, k7⟩ := sym_split HL.out HA.out HM.out HB.out HMID.out HNN.out HPP.out (.inr ⟨HC.out, rfl, rfl⟩) h1 h3 HO.out.1 HO.out.2
        obtain ⟨en, hen⟩ : ∃ en, en = nn - s := ⟨_, rfl⟩
        have e7 : (nn : Int) - (s : Int) = (en : Int) := by omega
        have hsb : s ≤ b := by omega
        have henb : en ≤ b := by omega
        have HF : Hid (SymF N g n a m b mid en s P X X1 X2 Y Y1 Y2 Q w) := Lib.hid ⟨k1, k2, HA.out, k3, HM.out, HB.out, by rw [hen]; exact k4, k5, HMID.out, HN0.out, HX.out, HY.out, HR.out, k6, k7, hbig, HLEN.out, by have := HM.out; have := HB.out; omega⟩
        have HA1 : Hid (Arr wr B g c (P ++ (X ++ (Y ++ Q)))) := Lib.hid (by have := H.out.ext er; rwa [HL.out] at this)
        have HUP : Hid (w.grownBy wr (some g)) := Lib.hid (upd_ext er g)
        clear k1 k2 k3 k4 k5 k6 k7 hen HO
        obtain ⟨f1, f2, f3, f4, f5, f6⟩ := HF.out.flags
        rw [show (0 < X2.length) = (0 < X2.length ∧ True) by simp] at f1 f5
        rw [show (0 < Y1.length) = (0 < Y1.length ∧ True) by simp] at f2 f4
        rw [show (0 < X1.length) = (0 < X1.length ∧ True) by simp] at f3
        rw [show (0 < Y2.length) = (0 < Y2.length ∧ True) by simp] at f6
        by_cases b1 : 0 < X1.length ∧ True
        · have B1 := Lib.hid b1
          clear b1
          by_cases b2 : 0 < X2.length ∧ True
          · have B2 := Lib.hid b2
            clear b2
            by_cases b3 : 0 < Y1.length ∧ True
            · have B3 := Lib.hid b3
              clear b3
              by_cases b4 : 0 < Y2.length ∧ True
              · have B4 := Lib.hid b4
                clear b4
                have s1 := f1.2 B2.out
                have s2 := f2.2 B3.out
                have s3 := f3.2 B1.out
                have s4 := f4.2 B3.out
                have s5 := f5.2 B2.out
                have s6 := f6.2 B4.out
                clear f1 f2 f3 f4 f5 f6
                go_wp2_with (first | (go_at_call 284; refine (HF.out.rot HA1.out HUP.out B2.out.1 B3.out.1).mono ?_; rintro e w2 ⟨rfl, q2⟩; have HS := Lib.hid q2; clear q2) | (go_at_call 257; refine (HF.out.right IH.out HMD.out B2.out.1 B4.out.1).mono ?_; rintro e w4 ⟨rfl, q4⟩; have HE := Lib.hid q4; clear q4) | (go_at_call 257; refine (HF.out.left IH.out HS.out B1.out.1 B3.out.1).mono ?_; rintro e w3 ⟨rfl, q3⟩; have HMD := Lib.hid q3; clear q3))
                all_goals go_end0
                all_goals exact ⟨rfl, HE.out⟩
              · have B4 := Lib.hid b4
                clear b4
                have s1 := f1.2 B2.out
                have s2 := f2.2 B3.out
                have s3 := f3.2 B1.out
                have s4 := f4.2 B3.out
                have s5 := f5.2 B2.out
                have s6 := fun q => B4.out (f6.1 q)
                clear f1 f2 f3 f4 f5 f6
                go_wp2_with (first | (go_at_call 284; refine (HF.out.rot HA1.out HUP.out B2.out.1 B3.out.1).mono ?_; rintro e w2 ⟨rfl, q2⟩; have HS := Lib.hid q2; clear q2) | (go_at_call 257; refine (HF.out.left IH.out HS.out B1.out.1 B3.out.1).mono ?_; rintro e w3 ⟨rfl, q3⟩; have HMD := Lib.hid q3; clear q3))
                all_goals go_end0
                all_goals exact HF.out.right0 HMD.out (.inr fun q => B4.out ⟨q, trivial⟩)
            · have B3 := Lib.hid b3
              clear b3
              by_cases b4 : 0 < Y2.length ∧ True
              · have B4 := Lib.hid b4
                clear b4
                have s1 := f1.2 B2.out
                have s2 := fun q => B3.out (f2.1 q)
                have s3 := f3.2 B1.out
                have s4 := fun q => B3.out (f4.1 q)
                have s5 := f5.2 B2.out
                have s6 := f6.2 B4.out
                clear f1 f2 f3 f4 f5 f6
                have HS : Hid (SymAt B g c P X1 Y1 X2 Y2 Q w wr) := Lib.hid (HF.out.still HA1.out HUP.out (.inr fun q => B3.out ⟨q, trivial⟩))
                go_wp2_with (go_at_call 257; refine (HF.out.right IH.out (HF.out.left0 HS.out (.inr fun q => B3.out ⟨q, trivial⟩)) B2.out.1 B4.out.1).mono ?_; rintro e w4 ⟨rfl, q4⟩; have HE := Lib.hid q4; clear q4)
                all_goals go_end0
                all_goals exact ⟨rfl, HE.out⟩
              · have B4 := Lib.hid b4
                clear b4
                exfalso
                have h1 : ¬ 0 < Y1.length := fun q => B3.out ⟨q, trivial⟩
                have h2 : ¬ 0 < Y2.length := fun q => B4.out ⟨q, trivial⟩
                have h3 := HF.out.lens
                have h4 := HM.out
                have h5 := HB.out
                omega
          · have B2 := Lib.hid b2
            clear b2
            by_cases b3 : 0 < Y1.length ∧ True
            · have B3 := Lib.hid b3
              clear b3
              by_cases b4 : 0 < Y2.length ∧ True
              · have B4 := Lib.hid b4
                clear b4
                have s1 := fun q => B2.out (f1.1 q)
                have s2 := f2.2 B3.out
                have s3 := f3.2 B1.out
                have s4 := f4.2 B3.out
                have s5 := fun q => B2.out (f5.1 q)
                have s6 := f6.2 B4.out
                clear f1 f2 f3 f4 f5 f6
                have HS : Hid (SymAt B g c P X1 Y1 X2 Y2 Q w wr) := Lib.hid (HF.out.still HA1.out HUP.out (.inl fun q => B2.out ⟨q, trivial⟩))
                go_wp2_with (go_at_call 257; refine (HF.out.left IH.out HS.out B1.out.1 B3.out.1).mono ?_; rintro e w3 ⟨rfl, q3⟩; have HMD := Lib.hid q3; clear q3)
                all_goals go_end0
                all_goals exact HF.out.right0 HMD.out (.inl fun q => B2.out ⟨q, trivial⟩)
              · have B4 := Lib.hid b4
                clear b4
                have s1 := fun q => B2.out (f1.1 q)
                have s2 := f2.2 B3.out
                have s3 := f3.2 B1.out
                have s4 := f4.2 B3.out
                have s5 := fun q => B2.out (f5.1 q)
                have s6 := fun q => B4.out (f6.1 q)
                clear f1 f2 f3 f4 f5 f6
                have HS : Hid (SymAt B g c P X1 Y1 X2 Y2 Q w wr) := Lib.hid (HF.out.still HA1.out HUP.out (.inl fun q => B2.out ⟨q, trivial⟩))
                go_wp2_with (go_at_call 257; refine (HF.out.left IH.out HS.out B1.out.1 B3.out.1).mono ?_; rintro e w3 ⟨rfl, q3⟩; have HMD := Lib.hid q3; clear q3)
                all_goals go_end0
                all_goals exact HF.out.right0 HMD.out (.inl fun q => B2.out ⟨q, trivial⟩)
            · have B3 := Lib.hid b3
              clear b3
              by_cases b4 : 0 < Y2.length ∧ True
              · have B4 := Lib.hid b4
                clear b4
                have s1 := fun q => B2.out (f1.1 q)
                have s2 := fun q => B3.out (f2.1 q)
                have s3 := f3.2 B1.out
                have s4 := fun q => B3.out (f4.1 q)
                have s5 := fun q => B2.out (f5.1 q)
                have s6 := f6.2 B4.out
                clear f1 f2 f3 f4 f5 f6
                have HS : Hid (SymAt B g c P X1 Y1 X2 Y2 Q w wr) := Lib.hid (HF.out.still HA1.out HUP.out (.inl fun q => B2.out ⟨q, trivial⟩))
                go_wp2
                all_goals go_end0
                all_goals exact HF.out.right0 (HF.out.left0 HS.out (.inr fun q => B3.out ⟨q, trivial⟩)) (.inl fun q => B2.out ⟨q, trivial⟩)
              · have B4 := Lib.hid b4
                clear b4
                exfalso
                have h1 : ¬ 0 < Y1.length := fun q => B3.out ⟨q, trivial⟩
                have h2 : ¬ 0 < Y2.length := fun q => B4.out ⟨q, trivial⟩
                have h3 := HF.out.lens
                have h4 := HM.out
                have h5 := HB.out
                omega
        · have B1 := Lib.hid b1
          clear b1
          by_cases b2 : 0 < X2.length ∧ True
          · have B2 := Lib.hid b2
            clear b2
            by_cases b3 : 0 < Y1.length ∧ True
            · have B3 := Lib.hid b3
              clear b3
              by_cases b4 : 0 < Y2.length ∧ True
              · have B4 := Lib.hid b4
                clear b4
                have s1 := f1.2 B2.out
                have s2 := f2.2 B3.out
                have s3 := fun q => B1.out (f3.1 q)
                have s4 := f4.2 B3.out
                have s5 := f5.2 B2.out
                have s6 := f6.2 B4.out
                clear f1 f2 f3 f4 f5 f6
                go_wp2_with (first | (go_at_call 284; refine (HF.out.rot HA1.out HUP.out B2.out.1 B3.out.1).mono ?_; rintro e w2 ⟨rfl, q2⟩; have HS := Lib.hid q2; clear q2) | (go_at_call 257; refine (HF.out.right IH.out (HF.out.left0 HS.out (.inl fun q => B1.out ⟨q, trivial⟩)) B2.out.1 B4.out.1).mono ?_; rintro e w4 ⟨rfl, q4⟩; have HE := Lib.hid q4; clear q4))
                all_goals go_end0
                all_goals exact ⟨rfl, HE.out⟩
              · have B4 := Lib.hid b4
                clear b4
                have s1 := f1.2 B2.out
                have s2 := f2.2 B3.out
                have s3 := fun q => B1.out (f3.1 q)
                have s4 := f4.2 B3.out
                have s5 := f5.2 B2.out
                have s6 := fun q => B4.out (f6.1 q)
                clear f1 f2 f3 f4 f5 f6
                go_wp2_with (go_at_call 284; refine (HF.out.rot HA1.out HUP.out B2.out.1 B3.out.1).mono ?_; rintro e w2 ⟨rfl, q2⟩; have HS := Lib.hid q2; clear q2)
                all_goals go_end0
                all_goals exact HF.out.right0 (HF.out.left0 HS.out (.inl fun q => B1.out ⟨q, trivial⟩)) (.inr fun q => B4.out ⟨q, trivial⟩)
            · have B3 := Lib.hid b3
              clear b3
              by_cases b4 : 0 < Y2.length ∧ True
              · have B4 := Lib.hid b4
                clear b4
                have s1 := f1.2 B2.out
                have s2 := fun q => B3.out (f2.1 q)
                have s3 := fun q => B1.out (f3.1 q)
                have s4 := fun q => B3.out (f4.1 q)
                have s5 := f5.2 B2.out
                have s6 := f6.2 B4.out
                clear f1 f2 f3 f4 f5 f6
                have HS : Hid (SymAt B g c P X1 Y1 X2 Y2 Q w wr) := Lib.hid (HF.out.still HA1.out HUP.out (.inr fun q => B3.out ⟨q, trivial⟩))
                go_wp2_with (go_at_call 257; refine (HF.out.right IH.out (HF.out.left0 HS.out (.inl fun q => B1.out ⟨q, trivial⟩)) B2.out.1 B4.out.1).mono ?_; rintro e w4 ⟨rfl, q4⟩; have HE := Lib.hid q4; clear q4)
                all_goals go_end0
                all_goals exact ⟨rfl, HE.out⟩
              · have B4 := Lib.hid b4
                clear b4
                exfalso
                have h1 : ¬ 0 < Y1.length := fun q => B3.out ⟨q, trivial⟩
                have h2 : ¬ 0 < Y2.length := fun q => B4.out ⟨q, trivial⟩
                have h3 := HF.out.lens
                have h4 := HM.out
                have h5 := HB.out
                omega
          · have B2 := Lib.hid b2
            clear b2
            by_cases b3 : 0 < Y1.length ∧ True
            · have B3 := Lib.hid b3
              clear b3
              by_cases b4 : 0 < Y2.length ∧ True
              · have B4 := Lib.hid b4
                clear b4
                exfalso
                have h1 : ¬ 0 < X1.length := fun q => B1.out ⟨q, trivial⟩
                have h2 : ¬ 0 < X2.length := fun q => B2.out ⟨q, trivial⟩
                have h3 := HF.out.lens
                have h4 := HM.out
                have h5 := HB.out
                omega
              · have B4 := Lib.hid b4
                clear b4
                exfalso
                have h1 : ¬ 0 < X1.length := fun q => B1.out ⟨q, trivial⟩
                have h2 : ¬ 0 < X2.length := fun q => B2.out ⟨q, trivial⟩
                have h3 := HF.out.lens
                have h4 := HM.out
                have h5 := HB.out
                omega
            · have B3 := Lib.hid b3
              clear b3
              by_cases b4 : 0 < Y2.length ∧ True
              · have B4 := Lib.hid b4
                clear b4
                exfalso
                have h1 : ¬ 0 < X1.length := fun q => B1.out ⟨q, trivial⟩
                have h2 : ¬ 0 < X2.length := fun q => B2.out ⟨q, trivial⟩
                have h3 := HF.out.lens
                have h4 := HM.out
                have h5 := HB.out
                omega
              · have B4 := Lib.hid b4
                clear b4
                exfalso
                have h1 : ¬ 0 < X1.length := fun q => B1.out ⟨q, trivial⟩
                have h2 : ¬ 0 < X2.length := fun q => B2.out ⟨q, trivial⟩
                have h3 := HF.out.lens
                have h4 := HM.out
                have h5 := HB.out
                omega
theorem symM_all (N : Nat) : SymIH N := by
  induction N with
  | zero => exact fun B g c n a m b P X Y Q w h hx hy => absurd h (by omega)
  | succ N ih =>
    intro B g c n a m b P X Y Q w hl hx hy ha hm hb hn sX sY h hr hbig
    by_cases h1 : X.length = 1
    · obtain ⟨x, t, rfl⟩ := cons_of hx
      have ht : t = [] := List.eq_nil_of_length_eq_zero (by rw [List.length_cons] at h1; omega)
      subst ht
      exact symOne_any B g c n a m b P Y Q x w ha (by rw [hm]; rfl) hb hn sY h hr hbig
    · by_cases h2 : Y.length = 1
      · obtain ⟨y, t, rfl⟩ := cons_of hy
        have ht : t = [] := List.eq_nil_of_length_eq_zero (by rw [List.length_cons] at h2; omega)
        subst ht
        exact symLast_any B g c n a m b P X Q y w ha hm (by rw [hb]; rfl) hn sX (by omega) h hr hbig
      · exact symGen_any N (Lib.hid ih) B g c n a m b P X Y Q w hl (by omega) (by omega) ha hm hb hn sX sY h hr hbig
end Go.Proofs.YtdgbkpoickbidaaGreatDoor
namespace Go.Proofs.YtdgbkpoickbidaaGreatDoor
open Go.RowKit

theorem snoc_cases {α : Type} (s : List α) : s = [] ∨ ∃ t y, s = t ++ [y] := by
  rcases List.eq_nil_or_concat s with h | ⟨t, y, h⟩
  · exact .inl h
  · exact .inr ⟨t, y, by rw [h, List.concat_eq_append]⟩
theorem InsIn.ext {B g c a : Nat} {P S T Q D' : List Ct} {x : Ct} {w wi wz : World} {j : Nat} {s1 s2 : List Ct} (h : InsIn B g c a P S T Q D' x w wi j s1 s2) (hz : Ext wi wz) : InsIn B g c a P S T Q D' x w wz j s1 s2 :=
  ⟨h.1, h.2.1, h.2.2.1, h.2.2.2.1.ext hz, h.2.2.2.2.1.trans (upd_ext hz g), h.2.2.2.2.2.ext hz⟩
theorem ins_step {B g c a q : Nat} {P S T Q D' : List Ct} {x : Ct} {w wi : World} {j : Nat} {t s2 : List Ct} {y : Ct} (h : InsIn B g c a P S T Q D' x w wi j (t ++ [y]) s2) (hv : cmpC x y < 0) (ha : a = P.length) (hq : q = a + t.length) {nx ny : Nat} (hx : nx = x.l.length) (hy : ny = y.l.length) :
    InsIn B g c a P S T Q D' x w ((((wi.setCell ⟨g, (q + 1) * 2, none⟩ (.slice y.A ny y.c)).setCell ⟨g, (q + 1) * 2 + 1, none⟩ (.int .i64 y.k)).setCell ⟨g, q * 2, none⟩ (.slice x.A nx x.c)).setCell ⟨g, q * 2 + 1, none⟩ (.int .i64 x.k)) q t (y :: s2) := by
  subst hx hy
  obtain ⟨h1, h2, h3, h4, h5, h6⟩ := h
  have e : P ++ (t ++ [y] ++ x :: (s2 ++ (T ++ Q))) = (P ++ t) ++ y :: x :: (s2 ++ (T ++ Q)) := by simp
  rw [e] at h4
  have h7 := h4.swap (q := q) (by rw [List.length_append]; omega)
  have hu := upd_swap wi g ((q + 1) * 2) ((q + 1) * 2 + 1) (q * 2) (q * 2 + 1) (.slice y.A y.l.length y.c) (.int .i64 y.k) (.slice x.A x.l.length x.c) (.int .i64 x.k)
  refine ⟨hq, by rw [h2]; simp, fun z hz => ?_, ?_, h5.trans hu, h6.upd hu⟩
  · rcases List.mem_cons.1 hz with rfl | hz
    · exact hv
    · exact h3 z hz
  · have e2 : P ++ (t ++ x :: (y :: s2 ++ (T ++ Q))) = (P ++ t) ++ x :: y :: (s2 ++ (T ++ Q)) := by simp
    rw [e2]
    exact h7
theorem ins_exit {B g c a : Nat} {P S T Q D D' : List Ct} {x : Ct} {w wo wi : World} {i j : Nat} {s1 s2 : List Ct} (ho : InsOut B g c a P S Q w wo i D D' (x :: T)) (h : InsIn B g c a P S T Q D' x wo wi j s1 s2) (hl : ∀ y, s1.getLast? = some y → ¬ cmpC x y < 0) {wz : World} (hz : Ext wi wz) :
    InsOut B g c a P S Q w wz (i + 1) (D ++ [x]) (s1 ++ x :: s2) T := by
  obtain ⟨o1, o2, o3, o4, o5, o6⟩ := ho
  obtain ⟨h1, h2, h3, h4, h5, h6⟩ := h
  subst h2
  refine ⟨by rw [o1]; simp, by rw [List.length_append, List.length_singleton]; omega, o3.insert cmpC_tot h3 hl, ?_, (o5.trans h5).trans (upd_ext hz g), (h6.sub (fun z hz => List.mem_cons_of_mem _ hz)).ext hz⟩
  have e : P ++ (s1 ++ x :: s2 ++ (T ++ Q)) = P ++ (s1 ++ x :: (s2 ++ (T ++ Q))) := by simp
  rw [e]
  exact h4.ext hz
set_option maxRecDepth 100000 in
set_option maxHeartbeats 8000000 in
theorem insSort_some (B g c n a b : Nat) (P S0 Q : List Ct) (x0 : Ct) (w : World) (ha : a = P.length) (hb : b = P.length + (S0.length + 1)) (hn : n = (P ++ (x0 :: S0 ++ Q)).length) (h : Arr w B g c (P ++ (x0 :: S0 ++ Q))) (hr : Rws w g (x0 :: S0)) :
    Calls Tryz.prog 256 #[.slice (some ⟨g, 0, none⟩) n c, .int .i64 a, .int .i64 b, .func (.func 188) #[] #[]] w fun e w' => e = .returned (.tuple #[]) ∧ ∃ S', Stable cmpC (x0 :: S0) S' ∧ Arr w' B g c (P ++ (S' ++ Q)) ∧ w.grownBy w' (some g) := by
  obtain ⟨S, hS⟩ : ∃ S, S = x0 :: S0 := ⟨_, rfl⟩
  have hnm := h.le
  rw [← hn] at hnm
  have hbn : b ≤ n := by
    rw [hb, hn]
    simp only [List.length_append, List.length_cons]
    omega
  have HA := Lib.hid ha
  have HB := Lib.hid hb
  have HN := Lib.hid hn
  have hab : a + 1 ≤ b := by omega
  have HO : Hid (InsOut B g c a P S Q w w (a + 1) [x0] [x0] S0) := Lib.hid ⟨hS, rfl, Stable.one x0, by rw [List.singleton_append, ← List.cons_append]; exact h, World.grownBy.refl w _, by rw [hS]; exact hr⟩
  have HSL : Hid (b = a + S.length) := Lib.hid (by rw [hS, List.length_cons]; omega)
  rw [← hS]
  clear ha hb hn h hr hS
  go_enter Tryz.func256, Tryz.ntmps256
  go_wp2
  go_loopg [8] (b - (a + 1)) (fun z v wo => ∃ (i : Nat) (D D' T : List Ct), z = b - i ∧ i ≤ b ∧ v = .int .i64 i ∧ Hid (InsOut B g c a P S Q w wo i D D' T))
  case atStart => exact ⟨a + 1, [x0], [x0], S0, rfl, hab, by simp, HO⟩
  case round =>
    obtain ⟨i, D, D', T, rfl, hi, rfl, HI⟩ := hrel
    clear HO
    obtain ⟨wo, hwo⟩ : ∃ wo : World, wo = wr := ⟨_, rfl⟩
    rw [← hwo] at HI ⊢
    clear hwo
    by_cases hlt : i < b
    · obtain ⟨x, T, rfl⟩ : ∃ x T', T = x :: T' := by
        cases T with
        | nil =>
          obtain ⟨q1, q2, _⟩ := HI.out
          have := HSL.out
          rw [q1, List.append_nil] at this
          omega
        | cons x T => exact ⟨x, T, rfl⟩
      have HII : Hid (InsIn B g c a P S T Q D' x wo wo i D' []) := Lib.hid (by
        obtain ⟨q1, q2, q3, q4, q5, q6⟩ := HI.out
        refine ⟨by rw [stable_len q3]; exact q2, (List.append_nil _).symm, fun y hy => (nomatch hy), by rw [List.nil_append]; exact q4, World.grownBy.refl wo _, fun z hz => ?_⟩
        rcases List.mem_cons.1 hz with rfl | hz
        · exact q6 z (by rw [q1]; simp)
        · exact q6 z hz)
      go_wp2
      go_loopg [9] D'.length (fun z v wi => ∃ (j : Nat) (s1 s2 : List Ct), z = s1.length ∧ v = .int .i64 j ∧ j ≤ i ∧ Hid (InsIn B g c a P S T Q D' x wo wi j s1 s2))
      case atStart => exact ⟨i, D', [], rfl, rfl, Nat.le_refl _, HII⟩
      case round =>
        obtain ⟨j, s1, s2, rfl, rfl, hj, HJ⟩ := hrel
        clear HII
        obtain ⟨wi, hwi⟩ : ∃ wi : World, wi = wr := ⟨_, rfl⟩
        rw [← hwi] at HJ ⊢
        clear hwi
        rcases snoc_cases s1 with rfl | ⟨t, y, rfl⟩
        · have hja : j = a := by have := HJ.out.1; simpa using this
          subst hja
          go_upto_region 4 with fail
          refine wp_region_ord [0,0,3,7,15,15,15,111,239,15,15,1039,3599,7695,16383,32767,65535] (.flo [0,1,2,3,4,5,6,7,8,9,10,11,12,13] (.one 14 (.flo [15,16] (.fin)))) (by kernel_rfl) (by kernel_rfl) (by intro _ _ d _ _ h; cases d <;> exact h) ?_
          (refine ord_flo (pick_cons rfl (pick_cons rfl (pick_cons rfl (pick_cons rfl (pick_cons rfl (pick_cons rfl (pick_cons rfl (pick_cons rfl (pick_cons rfl (pick_cons rfl (pick_cons rfl (pick_cons rfl (pick_cons rfl (pick_cons rfl pick_nil)))))))))))))) ?_; (repeat (go_big_quiet_step (fail))); refine wpQuiet_nil ?_; show ordWalk _ _ _ _ _ _ _)
          refine ord_one (pick_cons rfl pick_nil) ?_; intro K_ hK_
          go_wp2
          (refine ord_flo (pick_cons rfl (pick_cons rfl pick_nil)) ?_; (repeat (go_big_quiet_step (fail))); refine wpQuiet_nil ?_; show ordWalk _ _ _ _ _ _ _)
          refine ord_fin ?_
          go_wp2
          go_roundg (b - (i + 1))
          case measure => omega
          case rel => exact ⟨i + 1, D ++ [x], _, T, rfl, by omega, by go_num, Lib.hid (ins_exit HI.out HJ.out (fun y hy => (nomatch hy)) ((Ext.refl wi).drew))⟩
        · obtain ⟨q, hq⟩ : ∃ q, q = a + t.length := ⟨_, rfl⟩
          have hjq : j = q + 1 := by have := HJ.out.1; rw [List.length_append, List.length_singleton] at this; omega
          subst hjq
          have hqP : q = (P ++ t).length := by rw [List.length_append, ← HA.out]; exact hq
          have e : P ++ (t ++ [y] ++ x :: (s2 ++ (T ++ Q))) = (P ++ t) ++ y :: x :: (s2 ++ (T ++ Q)) := by simp
          have hArr := HJ.out.2.2.2.1
          rw [e] at hArr
          obtain ⟨⟨py0, py1⟩, px0, px1⟩ := Arr.two (_s2 := []) hArr hqP
          have f0 := hArr.free ((q + 1) * 2)
          have f1 := hArr.free ((q + 1) * 2 + 1)
          have f2 := hArr.free (q * 2)
          have f3 := hArr.free (q * 2 + 1)
          have hrx := HJ.out.2.2.2.2.2 x (List.mem_cons_self ..)
          have hry := HJ.out.2.2.2.2.2 y (List.mem_cons_of_mem _ (by
            obtain ⟨o1, o2, o3, _⟩ := HI.out
            have hd : y ∈ D' := by rw [HJ.out.2.1]; simp
            rw [o1]
            exact List.mem_append_left _ ((o3.mem cmpC_tot y).1 hd)))
          have za : decide ((a : Int) < (q : Int) + 1) = true := by simp; omega
          have hqa2 : a ≤ q := by omega
          have hqn : q + 1 < n := by omega
          have hjb : q + 1 ≤ i := hj
          obtain ⟨v, hv⟩ : ∃ v, cmpC x y = v := ⟨_, rfl⟩
          obtain ⟨nx, hnx⟩ : ∃ nx, nx = x.l.length := ⟨_, rfl⟩
          obtain ⟨ny, hny⟩ : ∃ ny, ny = y.l.length := ⟨_, rfl⟩
          rw [← hnx] at px0
          rw [← hny] at py0
          have X : Ext wi wi.drew := (Ext.refl wi).drew
          have HRX := Lib.hid hrx.1
          have HRY := Lib.hid hry.1
          have HNX := Lib.hid hnx
          have HNY := Lib.hid hny
          have HQ := Lib.hid hq
          have HQP := Lib.hid hqP
          have hArr0 := Lib.hid hArr
          have HV : Hid (cmpR x.l y.l = v) := Lib.hid hv
          have PY0 : ∀ z : Xt wi.drew, z.W.cell? ⟨g, q * 2, none⟩ = some (.slice y.A ny y.c) := fun z => (X.trans z.x).cell py0
          have PY1 : ∀ z : Xt wi.drew, z.W.cell? ⟨g, q * 2 + 1, none⟩ = some (.int .i64 y.k) := fun z => (X.trans z.x).cell py1
          have PX0 : ∀ z : Xt wi.drew, z.W.cell? ⟨g, (q + 1) * 2, none⟩ = some (.slice x.A nx x.c) := fun z => (X.trans z.x).cell px0
          have PX1 : ∀ z : Xt wi.drew, z.W.cell? ⟨g, (q + 1) * 2 + 1, none⟩ = some (.int .i64 x.k) := fun z => (X.trans z.x).cell px1
          clear hrx hry hnx hny hv hArr e hqP py0 py1 px0 px1 hq hj
          by_cases hv0 : v < 0
          · have zv : decide (v < 0) = true := by simpa using hv0
            have HV0 : Hid (cmpC x y < 0) := Lib.hid (by show cmpR x.l y.l < 0; rw [HV.out]; exact hv0)
            go_upto_region 4 with fail
            refine wp_region_ord [0,0,3,7,15,15,15,111,239,15,15,1039,3599,7695,16383,32767,65535] (.flo [0,1,2,3,4,5,6,7,8,9,10,11,12,13] (.one 14 (.flo [15,16] (.fin)))) (by kernel_rfl) (by kernel_rfl) (by intro _ _ d _ _ h; cases d <;> exact h) ?_
            (refine ord_flo (pick_cons rfl (pick_cons rfl (pick_cons rfl (pick_cons rfl (pick_cons rfl (pick_cons rfl (pick_cons rfl (pick_cons rfl (pick_cons rfl (pick_cons rfl (pick_cons rfl (pick_cons rfl (pick_cons rfl (pick_cons rfl pick_nil)))))))))))))) ?_; (repeat (go_big_quiet_step (fail))); refine wpQuiet_nil ?_; show ordWalk _ _ _ _ _ _ _)
            refine ord_one (pick_cons rfl pick_nil) ?_; intro K_ hK_
            go_wp2_with (go_at_call 188; refine (sum1_any x.A y.A x.c y.c nx ny x.k y.k v x.l y.l _ HV HNX HNY (Lib.hid (HRX.out.ext X)) (Lib.hid (HRY.out.ext X))).mono ?_; rintro e w1 ⟨rfl, x1⟩)
            (refine ord_flo (pick_cons rfl (pick_cons rfl pick_nil)) ?_; (repeat (go_big_quiet_step (fail))); refine wpQuiet_nil ?_; show ordWalk _ _ _ _ _ _ _)
            refine ord_fin ?_
            have HA1 := Lib.hid (hArr0.out.ext (X.trans x1))
            obtain ⟨⟨py0, py1⟩, px0, px1⟩ := Arr.two (_s2 := []) HA1.out HQP.out
            rw [← HNX.out] at px0
            rw [← HNY.out] at py0
            have f0 := HA1.out.free ((q + 1) * 2)
            have f1 := HA1.out.free ((q + 1) * 2 + 1)
            have f2 := HA1.out.free (q * 2)
            have f3 := HA1.out.free (q * 2 + 1)
            have X1 : Ext w1 w1.drew := (Ext.refl w1).drew
            have PY0 : ∀ z : Xt w1.drew, z.W.cell? ⟨g, q * 2, none⟩ = some (.slice y.A ny y.c) := fun z => (X1.trans z.x).cell py0
            have PY1 : ∀ z : Xt w1.drew, z.W.cell? ⟨g, q * 2 + 1, none⟩ = some (.int .i64 y.k) := fun z => (X1.trans z.x).cell py1
            have PX0 : ∀ z : Xt w1.drew, z.W.cell? ⟨g, (q + 1) * 2, none⟩ = some (.slice x.A nx x.c) := fun z => (X1.trans z.x).cell px0
            have PX1 : ∀ z : Xt w1.drew, z.W.cell? ⟨g, (q + 1) * 2 + 1, none⟩ = some (.int .i64 x.k) := fun z => (X1.trans z.x).cell px1
            go_upto_region 6 with fail
            refine wp_region_ord [0,0,0,0,8,0,0,64,224,480,0,0,3072,7168,16355,32739,65535,131071] (.flo [0,1,5,6,7,8,9,10,11,12,13,14] (.pur [2,3,4] (.one 15 (.flo [16] (.one 17 (.fin)))))) (by kernel_rfl) (by kernel_rfl) (by intro _ _ d _ _ h; cases d <;> exact h) ?_
            (refine ord_flo (pick_cons rfl (pick_cons rfl (pick_cons rfl (pick_cons rfl (pick_cons rfl (pick_cons rfl (pick_cons rfl (pick_cons rfl (pick_cons rfl (pick_cons rfl (pick_cons rfl (pick_cons rfl pick_nil)))))))))))) ?_; (repeat (go_big_quiet_step (fail))); refine wpQuiet_nil ?_; show ordWalk _ _ _ _ _ _ _)
            (refine ord_pur (pick_cons rfl (pick_cons rfl (pick_cons rfl pick_nil))) ?_; (repeat (go_big_quiet_step (fail))); refine wpQuiet_nil ?_; show ordWalk _ _ _ _ _ _ _)
            refine ord_one (pick_cons rfl pick_nil) ?_; intro K_ hK_
            go_wp2
            (refine ord_flo (pick_cons rfl pick_nil) ?_; (repeat (go_big_quiet_step (fail))); refine wpQuiet_nil ?_; show ordWalk _ _ _ _ _ _ _)
            refine ord_one (pick_cons rfl pick_nil) ?_; intro K_ hK_
            go_wp2
            refine ord_fin ?_
            go_wp2
            go_roundg t.length
            case measure => simp
            case rel => exact ⟨q, t, y :: s2, rfl, by go_num, by omega, Lib.hid (ins_step ((HJ.out.ext (X.trans x1)).ext X1) HV0.out HA.out HQ.out HNX.out HNY.out)⟩
          · have zv : decide (v < 0) = false := by simpa using hv0
            have HV0 : Hid (¬ cmpC x y < 0) := Lib.hid (by show ¬ cmpR x.l y.l < 0; rw [HV.out]; exact hv0)
            go_upto_region 4 with fail
            refine wp_region_ord [0,0,3,7,15,15,15,111,239,15,15,1039,3599,7695,16383,32767,65535] (.flo [0,1,2,3,4,5,6,7,8,9,10,11,12,13] (.one 14 (.flo [15,16] (.fin)))) (by kernel_rfl) (by kernel_rfl) (by intro _ _ d _ _ h; cases d <;> exact h) ?_
            (refine ord_flo (pick_cons rfl (pick_cons rfl (pick_cons rfl (pick_cons rfl (pick_cons rfl (pick_cons rfl (pick_cons rfl (pick_cons rfl (pick_cons rfl (pick_cons rfl (pick_cons rfl (pick_cons rfl (pick_cons rfl (pick_cons rfl pick_nil)))))))))))))) ?_; (repeat (go_big_quiet_step (fail))); refine wpQuiet_nil ?_; show ordWalk _ _ _ _ _ _ _)
            refine ord_one (pick_cons rfl pick_nil) ?_; intro K_ hK_
            go_wp2_with (go_at_call 188; refine (sum1_any x.A y.A x.c y.c nx ny x.k y.k v x.l y.l _ HV HNX HNY (Lib.hid (HRX.out.ext X)) (Lib.hid (HRY.out.ext X))).mono ?_; rintro e w1 ⟨rfl, x1⟩)
            (refine ord_flo (pick_cons rfl (pick_cons rfl pick_nil)) ?_; (repeat (go_big_quiet_step (fail))); refine wpQuiet_nil ?_; show ordWalk _ _ _ _ _ _ _)
            refine ord_fin ?_
            go_wp2
            go_roundg (b - (i + 1))
            case measure => omega
            case rel => exact ⟨i + 1, D ++ [x], _, T, rfl, by omega, by go_num, Lib.hid (ins_exit HI.out HJ.out (fun z hz => by simp only [List.getLast?_append, List.getLast?_singleton, Option.some_or] at hz; injection hz with hz; rw [← hz]; exact Int.not_lt.2 HV0.out) (X.trans x1))⟩
    · obtain rfl : i = b := by omega
      have HT : Hid (T = []) := Lib.hid (by
        obtain ⟨q1, q2, _⟩ := HI.out
        have := HSL.out
        rw [q1, List.length_append] at this
        exact List.eq_nil_of_length_eq_zero (by omega))
      go_wp2
      go_end0
      obtain ⟨q1, q2, q3, q4, q5, q6⟩ := HI.out
      rw [HT.out] at q1 q4
      rw [List.append_nil] at q1
      exact ⟨rfl, D', by rw [q1]; exact q3, q4, q5⟩
end Go.Proofs.YtdgbkpoickbidaaGreatDoor
namespace Go.Proofs.YtdgbkpoickbidaaGreatDoor
open Go.RowKit

/-- what a sort leaves behind -/
def Sorted (B g c : Nat) (L : List Ct) (w : World) (e : Ending) (w' : World) : Prop := e = .returned (.tuple #[]) ∧ ∃ L', Stable cmpC L L' ∧ Arr w' B g c L' ∧ w.grownBy w' (some g)
set_option maxRecDepth 100000 in
set_option maxHeartbeats 800000 in
theorem insSort_none (A : Option Addr) (n c a b : Nat) (w : World) (h : b ≤ a) (ha : a ≤ 1000000000) :
    Calls Tryz.prog 256 #[.slice A n c, .int .i64 a, .int .i64 b, .func (.func 188) #[] #[]] w fun e w' => e = .returned (.tuple #[]) ∧ w = w' := by
  have h1 : ¬ (a : Int) + 1 < b := by omega
  go_enter Tryz.func256, Tryz.ntmps256
  go_wp2
  go_loop [8] (fun v => v = .int .i64 ((a : Int) + 1)) (fun _ => 0)
  case atStart => rfl
  case round =>
    subst hrel
    go_wp2
    go_end0
    exact ⟨rfl, rfl⟩
set_option maxRecDepth 100000 in
set_option maxHeartbeats 1000000 in
theorem stable_small (B g c n : Nat) (L : List Ct) (w : World) (hn : n = L.length) (hlt : n < 20) (h : Arr w B g c L) (hr : Rws w g L) :
    Calls Tryz.prog 225 #[.slice (some ⟨g, 0, none⟩) n c, .int .i64 n, .func (.func 188) #[] #[]] w (Sorted B g c L w) := by
  have h1 : ¬ (20 : Int) ≤ n := by omega
  cases L with
  | nil =>
    have h0 : n = 0 := hn
    subst h0
    have H := Lib.hid h
    clear h hn
    go_enter Tryz.func225, Tryz.ntmps225
    go_wp2
    go_loop [7, 8] (fun u v => u = .int .i64 0 ∧ v = .int .i64 20) (fun _ _ => 0)
    case atStart => exact ⟨rfl, rfl⟩
    case round =>
      obtain ⟨rfl, rfl⟩ := hrel
      go_wp2_with (go_at_call 256; refine (insSort_none _ 0 c 0 0 _ (Nat.le_refl _) (by decide)).mono ?_; rintro e w1 ⟨rfl, rfl⟩)
      go_loop [6, 7, 8] (fun u v z => u = .int .i64 20) (fun _ _ _ => 0)
      case atStart => rfl
      case round =>
        subst hrel
        go_wp2
        go_end0
        exact ⟨rfl, [], Stable.nil, H.out, World.grownBy.refl w _⟩
  | cons x L =>
    have H := Lib.hid h
    have HR := Lib.hid hr
    have HN := Lib.hid hn
    clear h hr hn
    go_enter Tryz.func225, Tryz.ntmps225
    go_wp2
    go_loop [7, 8] (fun u v => u = .int .i64 0 ∧ v = .int .i64 20) (fun _ _ => 0)
    case atStart => exact ⟨rfl, rfl⟩
    case round =>
      obtain ⟨rfl, rfl⟩ := hrel
      go_wp2_with (go_at_call 256; refine (insSort_some B g c n 0 n [] L [] x _ rfl (by rw [HN.out, List.length_cons, List.length_nil, Nat.zero_add]) (by rw [List.append_nil, List.nil_append]; exact HN.out) (by rw [List.append_nil, List.nil_append]; exact H.out) HR.out).mono ?_; rintro e w1 ⟨rfl, L', s1, s2, s3⟩; have S1 := Lib.hid s1; have S2 := Lib.hid s2; have S3 := Lib.hid s3; clear s1 s2 s3)
      go_loop [6, 7, 8] (fun u v z => u = .int .i64 20) (fun _ _ _ => 0)
      case atStart => rfl
      case round =>
        subst hrel
        go_wp2
        go_end0
        exact ⟨rfl, L', S1.out, by have := S2.out; rwa [List.append_nil, List.nil_append] at this, S3.out⟩
set_option maxRecDepth 100000 in
set_option maxHeartbeats 800000 in
theorem sortStable_small (B g c n : Nat) (L : List Ct) (w : World) (hn : n = L.length) (hlt : n < 20) (h : Arr w B g c L) (hr : Rws w g L) :
    Calls Tryz.prog 187 #[.slice (some ⟨g, 0, none⟩) n c, .func (.func 188) #[] #[]] w (Sorted B g c L w) := by
  have H := Lib.hid h
  have HR := Lib.hid hr
  have HN := Lib.hid hn
  clear h hr hn
  go_enter Tryz.func187, Tryz.ntmps187
  go_wp2_with (go_at_call 225; refine (stable_small B g c n L _ HN.out hlt H.out HR.out).mono ?_; rintro e w1 ⟨rfl, s1⟩; have S1 := Lib.hid s1; clear s1)
  go_end0
  exact ⟨rfl, S1.out⟩
end Go.Proofs.YtdgbkpoickbidaaGreatDoor
namespace Go.Proofs.YtdgbkpoickbidaaGreatDoor
open Go.RowKit

/-- blocks sorted up to a -/
def Pass1 (B g c : Nat) (L : List Ct) (w wr : World) (a : Nat) (S T : List Ct) : Prop :=
  S.length = a ∧ a + T.length = L.length ∧ (∀ x ∈ T, x ∈ L) ∧ (∀ T', Bks cmpC 20 T T' → Bks cmpC 20 L (S ++ T')) ∧ Arr wr B g c (S ++ T) ∧ w.grownBy wr (some g)
theorem Pass1.step {B g c a : Nat} {L : List Ct} {w wr w1 : World} {S T1 T2 Z : List Ct} (h : Pass1 B g c L w wr a S (T1 ++ T2)) (h1 : T1.length = 20) (hz : Stable cmpC T1 Z) (ha : Arr w1 B g c (S ++ (Z ++ T2))) (hg : wr.grownBy w1 (some g)) : Pass1 B g c L w w1 (a + 20) (S ++ Z) T2 := by
  obtain ⟨q1, q2, q3, q4, q5, q6⟩ := h
  have lz := stable_len hz
  rw [List.length_append] at q2
  refine ⟨by rw [List.length_append]; omega, by omega, fun x hx => q3 x (List.mem_append_right _ hx), fun T' hT => ?_, by rw [List.append_assoc]; exact ha, q6.trans hg⟩
  rw [List.append_assoc]
  exact q4 (Z ++ T') (.more T1 Z T2 T' h1 hz hT)
theorem Pass1.last {B g c a : Nat} {L : List Ct} {w wr w1 : World} {S T Z : List Ct} (h : Pass1 B g c L w wr a S T) (h1 : T.length ≤ 20) (hz : Stable cmpC T Z) (ha : Arr w1 B g c (S ++ Z)) (hg : wr.grownBy w1 (some g)) : Bks cmpC 20 L (S ++ Z) ∧ Arr w1 B g c (S ++ Z) ∧ w.grownBy w1 (some g) :=
  ⟨h.2.2.2.1 Z (.last T Z h1 hz), ha, h.2.2.2.2.2.trans hg⟩
/-- blocks of so many, sorted -/
def Pass2 (B g c s : Nat) (L : List Ct) (w wr : World) (S : List Ct) : Prop := Bks cmpC s L S ∧ Arr wr B g c S ∧ w.grownBy wr (some g)
/-- two by two merged, up to a -/
def Pass3 (B g c s : Nat) (L : List Ct) (w wr : World) (a : Nat) (D O R : List Ct) : Prop :=
  D.length = a ∧ a + R.length = L.length ∧ Bks cmpC s O R ∧ (∀ x ∈ R, x ∈ L) ∧ (∀ R', Bks cmpC (2 * s) O R' → Bks cmpC (2 * s) L (D ++ R')) ∧ Arr wr B g c (D ++ R) ∧ w.grownBy wr (some g)
theorem bks_len {s : Nat} {O S : List Ct} (h : Bks cmpC s O S) : S.length = O.length := h.len stable_len
theorem Pass2.start {B g c s : Nat} {L : List Ct} {w wr : World} {S : List Ct} (h : Pass2 B g c s L w wr S) : Pass3 B g c s L w wr 0 [] L S :=
  ⟨rfl, by rw [bks_len h.1, Nat.zero_add], h.1, fun x hx => (h.1.mem cmpC_tot x).1 hx, fun _ h => h, h.2.1, h.2.2⟩
theorem Pass3.step {B g c s a : Nat} {L : List Ct} {w wr w1 : World} {D O1 O2 O3 S1 S2 S3 Z : List Ct} (h : Pass3 B g c s L w wr a D (O1 ++ (O2 ++ O3)) (S1 ++ (S2 ++ S3))) (l1 : O1.length = s) (l2 : O2.length = s) (s1 : Stable cmpC O1 S1) (s2 : Stable cmpC O2 S2) (h3 : Bks cmpC s O3 S3)
    (hz : Stable cmpC (S1 ++ S2) Z) (ha : Arr w1 B g c (D ++ (Z ++ S3))) (hg : wr.grownBy w1 (some g)) : Pass3 B g c s L w w1 (a + 2 * s) (D ++ Z) O3 S3 := by
  obtain ⟨q1, q2, q3, q4, q5, q6, q7⟩ := h
  have e1 := stable_len s1
  have e2 := stable_len s2
  have lz := stable_len hz
  rw [List.length_append] at lz
  simp only [List.length_append] at q2
  refine ⟨by rw [List.length_append]; omega, by omega, h3, fun x hx => q4 x (List.mem_append_right _ (List.mem_append_right _ hx)), fun R' hR => ?_, by rw [List.append_assoc]; exact ha, q7.trans hg⟩
  have := q5 (Z ++ R') (by
    rw [← List.append_assoc]
    exact .more (O1 ++ O2) Z O3 R' (by rw [List.length_append]; omega) (Stable.join s1 s2 hz) hR)
  rwa [List.append_assoc]
theorem Pass3.rest {B g c s a : Nat} {L : List Ct} {w wr w1 : World} {D O1 O2 S1 S2 Z : List Ct} (h : Pass3 B g c s L w wr a D (O1 ++ O2) (S1 ++ S2)) (hl : (O1 ++ O2).length ≤ 2 * s) (s1 : Stable cmpC O1 S1) (s2 : Stable cmpC O2 S2)
    (hz : Stable cmpC (S1 ++ S2) Z) (ha : Arr w1 B g c (D ++ (Z ++ []))) (hg : wr.grownBy w1 (some g)) : Pass2 B g c (2 * s) L w w1 (D ++ Z) := by
  obtain ⟨q1, q2, q3, q4, q5, q6, q7⟩ := h
  exact ⟨q5 Z (.last _ Z hl (Stable.join s1 s2 hz)), by rwa [List.append_nil] at ha, q7.trans hg⟩
theorem Pass3.none {B g c s a : Nat} {L : List Ct} {w wr : World} {D O R : List Ct} (h : Pass3 B g c s L w wr a D O R) (hs : 0 < s) (hl : O.length ≤ s) : Pass2 B g c (2 * s) L w wr (D ++ R) := by
  obtain ⟨q1, q2, q3, q4, q5, q6, q7⟩ := h
  exact ⟨q5 R (.last O R (by omega) (q3.all cmpC_tot hs hl)), q6, q7⟩
set_option maxRecDepth 100000 in
set_option maxHeartbeats 16000000 in
theorem stable_any (B g c n : Nat) (L : List Ct) (w : World) (hn : n = L.length) (hbig : n ≤ 1000000000) (h : Arr w B g c L) (hr : Rws w g L) :
    Calls Tryz.prog 225 #[.slice (some ⟨g, 0, none⟩) n c, .int .i64 n, .func (.func 188) #[] #[]] w (Sorted B g c L w) := by
  have HR := Lib.hid hr
  have HN := Lib.hid hn
  have HP0 : Hid (Pass1 B g c L w w 0 [] L) := Lib.hid ⟨rfl, Nat.zero_add _, fun _ h => h, fun _ h => h, h, World.grownBy.refl w _⟩
  clear h hr hn
  go_enter Tryz.func225, Tryz.ntmps225
  go_wp2
  go_loopg [7, 8] n (fun z u v wr => ∃ (a : Nat) (S T : List Ct), z = n - a ∧ a ≤ n ∧ u = .int .i64 a ∧ v = .int .i64 ((a + 20 : Nat) : Int) ∧ Hid (Pass1 B g c L w wr a S T))
  case atStart => exact ⟨0, [], L, rfl, Nat.zero_le _, rfl, by go_num, HP0⟩
  case round =>
    obtain ⟨a, S, T, rfl, han, rfl, rfl, HJ⟩ := hrel
    clear HP0
    by_cases hlt : a + 20 ≤ n
    · obtain ⟨T1, T2, rfl, ht⟩ := cut_at T 20 (by have := HJ.out.2.1; have := HN.out; omega)
      obtain ⟨x0, S0, rfl⟩ := cons_of (l := T1) (by omega)
      have HT := Lib.hid ht
      clear ht
      have zl : ((a + 20 : Nat) : Int) ≤ (n : Int) := by omega
      go_wp2_with (go_at_call 256; refine (insSort_some B g c n a (a + 20) S S0 T2 x0 _ HJ.out.1.symm (by have := HJ.out.1; have := HT.out; rw [List.length_cons] at this; omega) (by have := HJ.out; have e1 := this.1; have e2 := this.2.1; have e3 := HN.out; rw [List.length_append, e1]; omega) HJ.out.2.2.2.2.1 ((HR.out.upd HJ.out.2.2.2.2.2).sub fun x hx => HJ.out.2.2.1 x (List.mem_append_left _ hx))).mono ?_; rintro e w1 ⟨rfl, Z, s1, s2, s3⟩; have HJ1 := Lib.hid (HJ.out.step HT.out s1 s2 s3); clear s1 s2 s3)
      go_roundg (n - (a + 20))
      case measure => omega
      case rel => exact ⟨a + 20, S ++ Z, T2, rfl, hlt, by go_num, by go_num, HJ1⟩
    · have zl : ¬ ((a + 20 : Nat) : Int) ≤ (n : Int) := by omega
      have HX : ∃ P : World → Prop, (∀ w1, P w1 → ∃ S1, Pass2 B g c 20 L w w1 S1) ∧ Calls Tryz.prog 256 #[.slice (some ⟨g, 0, none⟩) n c, .int .i64 a, .int .i64 n, .func (.func 188) #[] #[]] wr fun e w' => e = .returned (.tuple #[]) ∧ P w' := by
        refine ⟨fun w1 => ∃ S1, Pass2 B g c 20 L w w1 S1, fun _ h => h, ?_⟩
        have hl := HJ.out.2.1
        rw [← HN.out] at hl
        by_cases ht : 0 < T.length
        · obtain ⟨x0, S0, rfl⟩ := cons_of ht
          refine (insSort_some B g c n a n S S0 [] x0 wr HJ.out.1.symm (by have := HJ.out.1; rw [List.length_cons] at hl; omega) (by rw [List.append_nil, List.length_append, HJ.out.1]; exact hl.symm) (by rw [List.append_nil]; exact HJ.out.2.2.2.2.1) ((HR.out.upd HJ.out.2.2.2.2.2).sub fun x hx => HJ.out.2.2.1 x hx)).mono ?_
          rintro e w1 ⟨rfl, Z, s1, s2, s3⟩
          rw [List.append_nil] at s2
          exact ⟨rfl, _, HJ.out.last (by omega) s1 s2 s3⟩
        · have e : T = [] := nil_or ht
          subst e
          refine (insSort_none _ n c a n wr (by rw [List.length_nil] at hl; omega) (by omega)).mono ?_
          rintro e w1 ⟨rfl, rfl⟩
          exact ⟨rfl, _, HJ.out.last (Nat.zero_le _) Stable.nil HJ.out.2.2.2.2.1 (World.grownBy.refl _ _)⟩
      obtain ⟨PP, hp1, hp2⟩ := HX
      have HP1 := Lib.hid hp1
      have HP2 := Lib.hid hp2
      clear hp1 hp2
      go_wp2_with (go_at_call 256; refine HP2.out.mono ?_; rintro e w1 ⟨rfl, s1⟩; obtain ⟨S1, s2⟩ := HP1.out _ s1; have HS := Lib.hid s2; clear s1 s2)
      clear HP1 HP2
      go_loopg [6, 7, 8] (n - 20) (fun z u v t wr => ∃ (s : Nat) (S : List Ct), z = n - s ∧ 0 < s ∧ s ≤ 3000000000 ∧ u = .int .i64 s ∧ Hid (Pass2 B g c s L w wr S))
      case atStart => exact ⟨20, S1, rfl, by omega, by omega, rfl, HS⟩
      case round =>
        obtain ⟨s, S, rfl, hs0, hs9, rfl, HQ⟩ := hrel
        clear HS HJ
        obtain ⟨wo, hwo⟩ : ∃ wo : World, wo = wr := ⟨_, rfl⟩
        rw [← hwo] at HQ ⊢
        clear hwo
        by_cases hsn : s < n
        · have HQ3 := Lib.hid HQ.out.start
          go_wp2
          go_loopg [7, 8] n (fun z u v wr => ∃ (a : Nat) (D O R : List Ct), z = n - a ∧ a ≤ n ∧ u = .int .i64 a ∧ v = .int .i64 ((a + 2 * s : Nat) : Int) ∧ Hid (Pass3 B g c s L w wr a D O R))
          case atStart => exact ⟨0, [], L, S, rfl, Nat.zero_le _, rfl, by go_num, HQ3⟩
          case round =>
            obtain ⟨a, D, O, R, rfl, han, rfl, rfl, HI⟩ := hrel
            clear HQ3
            have hOl : O.length = R.length := (bks_len HI.out.2.2.1).symm
            have hRl : a + R.length = n := by rw [HN.out]; exact HI.out.2.1
            by_cases hlt : a + 2 * s ≤ n
            · obtain ⟨O1, S1, O2, S2, O3, S3, rfl, rfl, l1, l2, s1, s2, s3⟩ := HI.out.2.2.1.two hs0 (by omega)
              obtain ⟨ms, hms⟩ : ∃ q, q = a + s := ⟨_, rfl⟩
              have zm : (a : Int) + (s : Int) = (ms : Int) := by omega
              have e1 := stable_len s1
              have e2 := stable_len s2
              have HG := Lib.hid (And.intro l1 (And.intro l2 (And.intro s1 (And.intro s2 s3))))
              have HE := Lib.hid (And.intro e1 (And.intro e2 hms))
              have hmn : ms ≤ n := by omega
              clear l1 l2 s1 s2 s3 e1 e2 hOl hRl hms
              have zl : ((a + 2 * s : Nat) : Int) ≤ (n : Int) := by omega
              go_wp2_with (go_at_call 257; refine (symM_all (S1.length + S2.length) B g c n a ms (a + 2 * s) D S1 S2 S3 _ (Nat.le_refl _) (by have := HE.out; have := HG.out; omega) (by have := HE.out; have := HG.out; omega) HI.out.1.symm (by have := HE.out; have := HG.out; omega) (by have := HE.out; have := HG.out; omega) (by have := HI.out.2.1; have := HI.out.1; have := HN.out; rw [List.length_append]; omega) HG.out.2.2.1.sorted HG.out.2.2.2.1.sorted HI.out.2.2.2.2.2.1 ((HR.out.upd HI.out.2.2.2.2.2.2).sub fun x hx => HI.out.2.2.2.1 x (by rcases List.mem_append.1 hx with hx | hx <;> simp [hx])) hbig).mono ?_; rintro e w1 ⟨rfl, Z, z1, z2, z3⟩; have HI1 := Lib.hid (HI.out.step HG.out.1 HG.out.2.1 HG.out.2.2.1 HG.out.2.2.2.1 HG.out.2.2.2.2 z1 z2 z3); clear z1 z2 z3)
              go_roundg (n - (a + 2 * s))
              case measure => omega
              case rel => exact ⟨a + 2 * s, D ++ Z, O3, S3, rfl, hlt, by go_num, by go_num, HI1⟩
            · have zl : ¬ ((a + 2 * s : Nat) : Int) ≤ (n : Int) := by omega
              obtain ⟨ms, hms⟩ : ∃ q, q = a + s := ⟨_, rfl⟩
              have zm : (a : Int) + (s : Int) = (ms : Int) := by omega
              by_cases hm : a + s < n
              · obtain ⟨O1, S1, O2, S2, rfl, rfl, l1, s1, s2⟩ := HI.out.2.2.1.rest cmpC_tot hs0 (by omega) (by omega)
                have e1 := stable_len s1
                have e2 := stable_len s2
                have HO : Hid ((O1 ++ O2).length ≤ 2 * s) := Lib.hid (by omega)
                have HG := Lib.hid (And.intro l1 (And.intro s1 s2))
                have HE := Lib.hid (And.intro e1 (And.intro e2 (And.intro hRl hms)))
                have zn : (ms : Int) < (n : Int) := by omega
                clear l1 s1 s2 e1 e2 hOl hRl hms
                go_wp2_with (go_at_call 257; refine (symM_all (S1.length + S2.length) B g c n a ms n D S1 S2 [] _ (Nat.le_refl _) (by have := HE.out; have := HG.out; omega) (by have := HE.out; have := HG.out; simp only [List.length_append] at *; omega) HI.out.1.symm (by have := HE.out; have := HG.out; omega) (by have := HE.out; have := HG.out; simp only [List.length_append] at *; omega) (by have := HI.out.2.1; have := HI.out.1; have := HN.out; rw [List.append_nil, List.length_append]; omega) HG.out.2.1.sorted HG.out.2.2.sorted (by rw [List.append_nil]; exact HI.out.2.2.2.2.2.1) ((HR.out.upd HI.out.2.2.2.2.2.2).sub fun x hx => HI.out.2.2.2.1 x hx) hbig).mono ?_; rintro e w1 ⟨rfl, Z, z1, z2, z3⟩; have HI1 := Lib.hid (HI.out.rest HO.out HG.out.2.1 HG.out.2.2 z1 z2 z3); clear z1 z2 z3)
                go_roundg (n - 2 * s)
                case measure => omega
                case rel => exact ⟨2 * s, D ++ Z, rfl, by omega, by omega, by go_num, HI1⟩
              · have zn : ¬ (ms : Int) < (n : Int) := by omega
                have HI1 := Lib.hid (HI.out.none hs0 (by omega))
                have hmb : ms ≤ 2000000000 := by omega
                clear hOl hRl hms
                go_wp2
                go_roundg (n - 2 * s)
                case measure => omega
                case rel => exact ⟨2 * s, D ++ R, rfl, by omega, by omega, by go_num, HI1⟩
        · have HE : Hid (Sorted B g c L w (.returned (.tuple #[])) wo) := Lib.hid ⟨rfl, S, HQ.out.1.all cmpC_tot hs0 (by rw [← HN.out]; omega), HQ.out.2.1, HQ.out.2.2⟩
          go_wp2
          go_end0
          exact HE.out
set_option maxRecDepth 100000 in
set_option maxHeartbeats 800000 in
theorem sortStable_any (B g c n : Nat) (L : List Ct) (w : World) (hn : n = L.length) (hbig : n ≤ 1000000000) (h : Arr w B g c L) (hr : Rws w g L) :
    Calls Tryz.prog 187 #[.slice (some ⟨g, 0, none⟩) n c, .func (.func 188) #[] #[]] w (Sorted B g c L w) := by
  have H := Lib.hid h
  have HR := Lib.hid hr
  have HN := Lib.hid hn
  clear h hr hn
  go_enter Tryz.func187, Tryz.ntmps187
  go_wp2_with (go_at_call 225; refine (stable_any B g c n L _ HN.out hbig H.out HR.out).mono ?_; rintro e w1 ⟨rfl, s1⟩; have S1 := Lib.hid s1; clear s1)
  go_end0
  exact ⟨rfl, S1.out⟩
end Go.Proofs.YtdgbkpoickbidaaGreatDoor
namespace Go.Proofs.YtdgbkpoickbidaaGreatDoor
open Go.RowKit Go.Maps

theorem elem_ct : Elem Tryz.prog 31 154 2 32 (.agg #[.slice none 0 0, .int .i64 0]) := ⟨by kernel_rfl, by kernel_rfl, rfl, by decide⟩
def madeCts (n : Nat) : Obj := .cells (madeCells #[.slice none 0 0, .int .i64 0] (n * 2)) 154
theorem make_cts (n : Nat) (hn : n ≤ 1000000000) (W : World) : (Instr.makeSlice 31 (.int .i64 0) (.int .i64 (n : Int))).run Tryz.prog W = .ok (.slice (some ⟨W.heap.size, 0, none⟩) 0 n) (W.alloc (madeCts n)) := by
  obtain ⟨i, hi, hz, hs, hb⟩ := info_parts elem_ct.info
  have := run_make (P := Tryz.prog) (w := W) 31 154 i _ elem_ct.under hi hz .i64 .i64 0 (n : Int) (Int.le_refl _) (by omega) (by rw [hb]; omega) (by omega)
  rw [hs] at this
  exact this
theorem make_map (n : Int) (W : World) : (Instr.makeMap 225 (some (.int .i64 n))).run Tryz.prog W = .ok (.map (some W.heap.size)) (W.alloc (.map #[] 0)) := by
  simp [Instr.makeMap, run_underlying Tryz.underlying225]
  rfl
theorem arr_made (W : World) (n : Nat) (h : 0 < n) (hn : n ≤ 1000000000) : Arr (W.alloc (madeCts n)) W.heap.size W.heap.size n [] :=
  ⟨⟨rfl, .inr ⟨W.heap.size, _, rfl, Nat.le_refl _, heap_alloc_new W _, Nat.zero_le _, by unfold maxLen; omega, Nat.le_of_eq (size_madeCells _ _).symm, rfl⟩⟩, h⟩
theorem wpList_append_stay {P : Program} (w : World) {ops : Array Oper} {rest : List Oper} {o : Oper} {a : Act} {Q : Exit → Act → World → Prop} {t e size bytes : Nat} {z : Value} (E : Elem P t e size bytes z) (base : Nat) (s x : Operand)
    (ho : o.op = .call { callee := .builtin .append, args := #[s, x], argTypes := #[t, t] }) (hgd : o.guard = none)
    (g n c0 : Nat) (xs : List Value) (hs : a.eval s = .slice (some ⟨g, 0, none⟩) n c0) (hown : Own w base e size (some ⟨g, 0, none⟩) n c0 xs) (hc : 0 < c0)
    (ad : Addr) (m c : Nat) (news : List Value) (hx : a.eval x = .slice (some ad) m c) (hr : Sl w size (some ad) m c news) (hm : 0 < m) (h1 : ∀ u ∈ news, u.oneCell' = true) (hroom : n + m ≤ c0)
    (h : ∀ w', Own w' base e size (some ⟨g, 0, none⟩) (n + m) c0 (xs ++ news) → w.grownBy w' (some g) → wpList P ops Q rest (a.put o.dst (.slice (some ⟨g, 0, none⟩) (n + m) c0)) w') : wpList P ops Q (o :: rest) a w :=
  wpList_plain hgd fun _ hK => by
    obtain ⟨w', hrun, h2, h3⟩ := run_append_stay (P := P) (ty := o.type) w E base g n c0 xs hown hc ad m c news hr hm h1 hroom
    unfold Oper.wp execOp
    simp only [ho, resolve, invoke, builtin, Sem.run_bind, Sem.run_pure, Result.andThen_ok, List.map_toArray, List.map_cons, List.map_nil, hs, hx, hrun]
    exact hK _ _ (h w' h2 h3)
/-- bytes that a call owns, made a string -/
theorem conv_own {w : World} {B n c : Nat} {A : Option Addr} {l : List UInt8} (h : OwnB w B A n c l) :
    Sem.run Tryz.prog (convert 226 9 (.slice A n c)) w = .ok (.string ⟨l.toArray⟩) w := by
  have hl := h.len
  rw [run_convert_bytes_string _ _ _ _ _ _ _ under_bytes Tryz.underlying5 under_string]
  rcases h.1.2 with ⟨hc, h0⟩ | ⟨g, cur, e, hb, hg, hnc, hcm, hcs, htake⟩
  · have : l = [] := List.eq_nil_of_length_eq_zero (by omega)
    subst this
    subst h0
    cases A <;> rfl
  · cases e
    have hbk : Bk w g 5 cur := hg
    have e : Lib.byteCells l = (l.map fun b => (b.toNat : Int)).map (Value.int .u8) := by simp [Lib.byteCells]
    have := conv_bk hbk 0 n c (l.map fun b => (b.toNat : Int)) (by rw [List.drop_zero, ← e]; simpa using htake) (by simp; omega)
    rw [← run_convert_bytes_string _ _ _ _ _ _ _ under_bytes Tryz.underlying5 under_string, this, List.map_map, back_bytes]
/-! ### the map of places -/
theorem map_law : Keyed Tryz.prog 9 := string_keyed Tryz.underlying9
theorem zero_int (w : World) : (zeroValue 3).run Tryz.prog w = .ok (.int .i64 0) w := by kernel_rfl
theorem key_of {l : List UInt8} (h : l.length ≤ 100000000) : keyOf Tryz.prog 9 (.string ⟨l.toArray⟩) = some (.string l) := by
  rw [Go.WideMaps.keyOf_string_mk Tryz.underlying9 (by unfold maxLen; simp [ByteArray.size]; omega)]
abbrev MD := DataW Unit
def int_ (n : Int) : MD := .lit (.int .i64 n)
/-- the map tells at each row's bytes where the row stands -/
structure MapIs (D : MD) (O : List Ct) : Prop where
  is : IsMap D
  has : ∀ s, Maps.has D (.string s) = true ↔ ∃ x ∈ O, rkeyT x.l = s
  at_ : ∀ j, j < O.length → D.atKey (.string (rkeyT (O.getD j Ct.zero).l)) (int_ 0) = int_ j
theorem MapIs.nil : MapIs (.map []) [] := ⟨isMap_empty, fun _s => ⟨fun h => (nomatch h), fun ⟨_x, h, _⟩ => (nomatch h)⟩, fun _j h => absurd h (Nat.not_lt_zero _)⟩
theorem MapIs.new {D : MD} {O : List Ct} {x : Ct} {n : Nat} (h : MapIs D O) (hn : n = O.length) (hk : Maps.has D (.string (rkeyT x.l)) = false) : MapIs (D.put (.string (rkeyT x.l)) (int_ n)) (O ++ [x]) := by
  subst hn
  refine ⟨?_, fun s => ?_, fun j hj => ?_⟩
  · obtain ⟨es, rfl⟩ := h.is
    exact ⟨_, rfl⟩
  · by_cases e : s = rkeyT x.l
    · subst e
      rw [has_put_same h.is (show WideAt.IsKeyLit (.string _) from trivial)]
      exact ⟨fun _ => ⟨x, by simp, rfl⟩, fun _ => rfl⟩
    · rw [has_put_other (fun q => e (by injection q)), h.has]
      exact ⟨fun ⟨y, hy, q⟩ => ⟨y, List.mem_append_left _ hy, q⟩, fun ⟨y, hy, q⟩ => by
        rcases List.mem_append.1 hy with hy | hy
        · exact ⟨y, hy, q⟩
        · rw [List.mem_singleton.1 hy] at q; exact absurd q.symm e⟩
  · rw [List.length_append, List.length_singleton] at hj
    by_cases hj2 : j < O.length
    · have e : (O ++ [x]).getD j Ct.zero = O.getD j Ct.zero := by rw [List.getD_eq_getElem?_getD, List.getElem?_append_left hj2, List.getD_eq_getElem?_getD]
      rw [e, atKey_put_other ?_, h.at_ j hj2]
      intro q
      injection q with q
      have hm : ∃ y ∈ O, rkeyT y.l = rkeyT x.l := ⟨O.getD j Ct.zero, by rw [List.getD_eq_getElem?_getD, List.getElem?_eq_getElem hj2]; exact List.getElem_mem hj2, q⟩
      rw [(h.has _).2 hm] at hk
      cases hk
    · obtain rfl : j = O.length := by omega
      rw [getD_mid O x [], atKey_put_same h.is (show WideAt.IsKeyLit (.string _) from trivial)]
theorem MapIs.old {D : MD} {P Q : List Ct} {y z : Ct} (h : MapIs D (P ++ y :: Q)) (hz : z.l = y.l) : MapIs D (P ++ z :: Q) := by
  refine ⟨h.is, fun s => ?_, fun j hj => ?_⟩
  · rw [h.has]
    constructor
    · rintro ⟨x, hx, q⟩
      rcases List.mem_append.1 hx with hx | hx
      · exact ⟨x, List.mem_append_left _ hx, q⟩
      · rcases List.mem_cons.1 hx with rfl | hx
        · exact ⟨z, by simp, by rw [hz]; exact q⟩
        · exact ⟨x, by simp [hx], q⟩
    · rintro ⟨x, hx, q⟩
      rcases List.mem_append.1 hx with hx | hx
      · exact ⟨x, List.mem_append_left _ hx, q⟩
      · rcases List.mem_cons.1 hx with rfl | hx
        · exact ⟨y, by simp, by rw [← hz]; exact q⟩
        · exact ⟨x, by simp [hx], q⟩
  · have e : ((P ++ z :: Q).getD j Ct.zero).l = ((P ++ y :: Q).getD j Ct.zero).l := by
      rw [List.getD_eq_getElem?_getD, List.getD_eq_getElem?_getD]
      rcases Nat.lt_trichotomy j P.length with q | q | q
      · rw [List.getElem?_append_left q, List.getElem?_append_left q]
      · subst q
        rw [List.getElem?_append_right (Nat.le_refl _), List.getElem?_append_right (Nat.le_refl _), Nat.sub_self]
        exact hz
      · rw [List.getElem?_append_right (by omega), List.getElem?_append_right (by omega)]
        obtain ⟨k, hk⟩ : ∃ k, j - P.length = k + 1 := ⟨j - P.length - 1, by omega⟩
        rw [hk, List.getElem?_cons_succ, List.getElem?_cons_succ]
    rw [e]
    exact h.at_ j (by simpa using hj)
end Go.Proofs.YtdgbkpoickbidaaGreatDoor
namespace Go.Proofs.YtdgbkpoickbidaaGreatDoor
open Go.RowKit Go.Maps

/-- rows with counts that come in -/
structure Ctin (w : World) (A : Option Addr) (c : Nat) (L : List Ct) : Prop where
  sl : Sl w 2 A L.length c (ctsC L)
  rows : ∀ x ∈ L, Rw w x.A x.c x.l
theorem Ctin.ext {w w' : World} {A : Option Addr} {c : Nat} {L : List Ct} (h : Ctin w A c L) (x : Ext w w') : Ctin w' A c L := ⟨h.sl.ext x, fun y hy => (h.rows y hy).ext x⟩
theorem getD_mem {L : List Ct} {i : Nat} (h : i < L.length) : L.getD i Ct.zero ∈ L := by
  rw [List.getD_eq_getElem?_getD, List.getElem?_eq_getElem h]
  exact List.getElem_mem h
theorem Ctin.at {w : World} {A : Option Addr} {c : Nat} {L : List Ct} (h : Ctin w A c L) {i : Nat} (hi : i < L.length) : ∃ ad, A = some ad ∧ w.cell? (ad.add (i * 2)) = some (.slice (L.getD i Ct.zero).A (L.getD i Ct.zero).l.length (L.getD i Ct.zero).c) ∧
    w.cell? ⟨(ad.add (i * 2)).block, (ad.add (i * 2)).off + 1, none⟩ = some (.int .i64 (L.getD i Ct.zero).k) := by
  obtain ⟨ad, e, hc⟩ := h.sl.2.2.2.2 (by omega)
  refine ⟨ad, e, hc _ _ (by rw [← Nat.add_zero (i * 2), ctsC_at L i 0 hi (by omega)]; rfl), ?_⟩
  rw [← add_fld ad _ 1 (by decide)]
  exact hc _ _ (by rw [ctsC_at L i 1 hi (by omega)]; rfl)
theorem take_snocC {L : List Ct} {i : Nat} (h : i < L.length) : L.take (i + 1) = L.take i ++ [L.getD i Ct.zero] := by
  rw [List.take_succ_eq_append_getElem h, List.getD_eq_getElem?_getD, List.getElem?_eq_getElem h]
  rfl
/-- a row that a call has made -/
def RwO (w : World) (A : Option Addr) (c : Nat) (l : List Dat) : Prop := Own w 0 204 4 A l.length c (rowC l)
theorem RwO.rw {w : World} {A : Option Addr} {c : Nat} {l : List Dat} (h : RwO w A c l) : Rw w A c l := Own.sl h
theorem RwO.ext {w w' : World} {A : Option Addr} {c : Nat} {l : List Dat} (h : RwO w A c l) (x : Ext w w') : RwO w' A c l := Own.ext h x
theorem RwO.upd {w w' : World} {A : Option Addr} {c g : Nat} {l : List Dat} (h : RwO w A c l) (hx : w.grownBy w' (some g)) (ha : ∀ ad, A = some ad → ad.block ≠ g) : RwO w' A c l := Own.kept h hx (by
  cases hb : blk A c with
  | none => exact .inl rfl
  | some k =>
    right
    intro e
    injection e with e
    obtain ⟨ad, e1, e2⟩ := blk_some hb
    exact ha ad e1 (by omega))
/-- no two of them in one block -/
def Apart (L : List Ct) : Prop := (L.map Ct.A).Pairwise fun x y => ∀ a b, x = some a → y = some b → a.block ≠ b.block
theorem Apart.sub {K L : List Ct} (h : Apart K) (hs : (L.map Ct.A).Sublist (K.map Ct.A)) : Apart L := List.Pairwise.sublist hs h
theorem Apart.perm {K L : List Ct} (h : Apart K) (hp : K.Perm L) : Apart L := (List.Perm.pairwise_iff (fun {_ _} q a b e1 e2 e3 => q b a e2 e1 e3.symm) (hp.map Ct.A)).1 h
/-- what stands behind i rounds -/
structure SumAt (w : World) (g gm n : Nat) (wr : World) (O : List Ct) : Prop where
  arr : Arr wr w.heap.size g n O
  rows : ∀ x ∈ O, RwO wr x.A x.c x.l ∧ ∀ ad, x.A = some ad → gm < ad.block ∧ ad.block < wr.heap.size
  apart : Apart O
  ext : Ext w wr
  gg : w.heap.size ≤ g ∧ g < gm ∧ gm < wr.heap.size
theorem SumAt.mono {w wr wz : World} {g gm n : Nat} {O : List Ct} (h : SumAt w g gm n wr O) (x : Ext wr wz) : SumAt w g gm n wz O :=
  ⟨h.arr.ext x, fun y hy => ⟨(h.rows y hy).1.ext x, fun ad e => by have := (h.rows y hy).2 ad e; have := x.size; omega⟩, h.apart, h.ext.trans x, by have := h.gg; have := x.size; omega⟩
theorem SumAt.off {w wr : World} {g gm n : Nat} {O : List Ct} (h : SumAt w g gm n wr O) : Rws wr g O := fun x hx => ⟨(h.rows x hx).1.rw, fun ad e => by have := (h.rows x hx).2 ad e; have := h.gg; omega⟩
theorem rw_grown {w w' : World} {A : Option Addr} {c : Nat} {l : List Dat} {b : Nat} (h : Rw w A c l) (hx : w.grownBy w' (some b)) (ha : ∀ ad, A = some ad → ad.block ≠ b) : Rw w' A c l := h.upd hx ha
/-- a store into the map -/
theorem SumAt.map {w wr wz : World} {g gm n : Nat} {O : List Ct} (h : SumAt w g gm n wr O) (hx : wr.grownBy wz (some gm)) : SumAt w g gm n wz O := by
  have hg := h.gg
  have hs := hx.size
  refine ⟨⟨h.arr.1.kept hx (.inr fun e => ?_), h.arr.2⟩, fun y hy => ⟨(h.rows y hy).1.upd hx fun ad e => by have := (h.rows y hy).2 ad e; omega, fun ad e => by have := (h.rows y hy).2 ad e; omega⟩, h.apart, h.ext.grown hx (fun k e => by cases e; omega), by omega⟩
  obtain ⟨ad, e1, e2⟩ := blk_some e
  cases e1
  simp only at e2
  omega
theorem set_self {α : Type} {l : List α} {i : Nat} {a : α} (h : l[i]? = some a) : l.set i a = l := by
  refine List.ext_getElem? fun j => ?_
  rw [List.getElem?_set]
  split
  · rename_i e
    subst e
    have hl : i < l.length := by
      rcases Nat.lt_or_ge i l.length with q | q
      · exact q
      · rw [List.getElem?_eq_none q] at h; cases h
    rw [if_pos hl, h]
  · rfl
/-- a count that has grown -/
theorem SumAt.set {w wr : World} {g gm n j : Nat} {P Q : List Ct} {y : Ct} (h : SumAt w g gm n wr (P ++ y :: Q)) (hj : j = P.length) (k : Int) : SumAt w g gm n (wr.setCell ⟨g, j * 2 + 1, none⟩ (.int .i64 k)) (P ++ ⟨y.A, y.c, y.l, k⟩ :: Q) := by
  subst hj
  have hg := h.gg
  have hu := upd_set wr g (P.length * 2 + 1) (.int .i64 k)
  have h1 := h.arr.1.put (P.length * 2 + 1) (.int .i64 k)
  have e : (ctsC (P ++ y :: Q)).set (P.length * 2 + 1) (.int .i64 k) = ctsC (P ++ ⟨y.A, y.c, y.l, k⟩ :: Q) := by
    have := ctsC_set (P ++ y :: Q) P.length ⟨y.A, y.c, y.l, k⟩
    rw [set_mid] at this
    rw [← this]
    congr 1
    refine (set_self ?_).symm
    have q := ctsC_at (P ++ y :: Q) P.length 0 (by simp) (by decide)
    rw [getD_mid, Nat.add_zero] at q
    exact q
  rw [e] at h1
  refine ⟨⟨by simpa using h1, h.arr.2⟩, fun x hx => ?_, h.apart.sub (by simp), h.ext.set (p := ⟨g, _, none⟩) hg.1 _, by rw [World.size_setCell]; exact hg⟩
  have hm : ∀ x ∈ P ++ y :: Q, RwO (wr.setCell ⟨g, P.length * 2 + 1, none⟩ (.int .i64 k)) x.A x.c x.l ∧ ∀ ad, x.A = some ad → gm < ad.block ∧ ad.block < (wr.setCell ⟨g, P.length * 2 + 1, none⟩ (.int .i64 k)).heap.size := fun x hx =>
    ⟨(h.rows x hx).1.upd hu fun ad e => by have := (h.rows x hx).2 ad e; omega, fun ad e => by rw [World.size_setCell]; exact (h.rows x hx).2 ad e⟩
  rcases List.mem_append.1 hx with hx | hx
  · exact hm x (List.mem_append_left _ hx)
  · rcases List.mem_cons.1 hx with rfl | hx
    · exact hm y (by simp)
    · exact hm x (by simp [hx])
/-- one more -/
theorem SumAt.push {w wr wz : World} {g gm n : Nat} {O : List Ct} {x : Ct} (h : SumAt w g gm n wr O) (hr : RwO wr x.A x.c x.l) (hb : ∀ ad, x.A = some ad → gm < ad.block ∧ ad.block < wr.heap.size) (hn : ∀ y ∈ O, ∀ a b, y.A = some a → x.A = some b → a.block ≠ b.block)
    (ho : Own wz w.heap.size 154 2 (some ⟨g, 0, none⟩) (O.length + 1) n (ctsC O ++ ctC x)) (hx : wr.grownBy wz (some g)) : SumAt w g gm n wz (O ++ [x]) := by
  have hg := h.gg
  have hs := hx.size
  refine ⟨⟨by rw [ctsC_append, List.length_append, show ctsC [x] = ctC x from List.append_nil _]; exact ho, h.arr.2⟩, fun y hy => ?_, ?_, h.ext.grown hx (fun k e => by cases e; exact hg.1), by omega⟩
  · rcases List.mem_append.1 hy with hy | hy
    · exact ⟨(h.rows y hy).1.upd hx fun ad e => by have := (h.rows y hy).2 ad e; omega, fun ad e => by have := (h.rows y hy).2 ad e; omega⟩
    · rw [List.mem_singleton.1 hy]
      exact ⟨hr.upd hx fun ad e => by have := hb ad e; omega, fun ad e => by have := hb ad e; omega⟩
  · unfold Apart
    rw [List.map_append]
    refine List.pairwise_append.2 ⟨h.apart, List.pairwise_singleton _ _, fun a ha b hb' => ?_⟩
    obtain ⟨y, hy, rfl⟩ := List.mem_map.1 ha
    rw [List.map_singleton, List.mem_singleton] at hb'
    subst hb'
    exact hn y hy
/-- what has been put together, by its values -/
structure Vals (L : List Ct) (i : Nat) (O : List Ct) : Prop where
  same : ∀ c, alike cmpV c (O.map valC) = sumClass (alike cmpV c ((L.take i).map valC))
  sub : ∀ x ∈ O, ∃ y ∈ L, x.l = y.l
  inv : ∀ x ∈ O, InN (valC x)
  len : O.length ≤ i
theorem Vals.zero (L : List Ct) : Vals L 0 [] := ⟨fun _ => rfl, fun _x h => (nomatch h), fun _x h => (nomatch h), Nat.le_refl _⟩
theorem Vals.new {L O : List Ct} {i : Nat} {x z : Ct} (h : Vals L i O) (hi : i < L.length) (hx : L.getD i Ct.zero = x) (hin : InN (valC x)) (hz : valC z = valC x) (hn : ∀ y ∈ O, ¬ cmpV (valC y) (valC x) = 0) : Vals L (i + 1) (O ++ [z]) := by
  have hm : x ∈ L := hx ▸ getD_mem hi
  refine ⟨fun c => ?_, fun y hy => ?_, fun y hy => ?_, by rw [List.length_append, List.length_singleton]; have := h.len; omega⟩
  · rw [take_snocC hi, hx, List.map_append, List.map_append, List.map_singleton, List.map_singleton, hz]
    exact dedup_new h.same hin (fun y hy => by obtain ⟨u, hu, rfl⟩ := List.mem_map.1 hy; exact hn u hu) c
  · rcases List.mem_append.1 hy with hy | hy
    · exact h.sub y hy
    · rw [List.mem_singleton.1 hy]
      exact ⟨x, hm, congrArg Prod.fst hz⟩
  · rcases List.mem_append.1 hy with hy | hy
    · exact h.inv y hy
    · rw [List.mem_singleton.1 hy, hz]
      exact hin
theorem Vals.old {L P Q : List Ct} {i : Nat} {x y : Ct} (h : Vals L i (P ++ y :: Q)) (hi : i < L.length) (hx : L.getD i Ct.zero = x) (hy : y.l = x.l) : Vals L (i + 1) (P ++ ⟨y.A, y.c, y.l, w64 (y.k + x.k)⟩ :: Q) := by
  refine ⟨fun c => ?_, fun z hz => ?_, fun z hz => ?_, by have := h.len; simp only [List.length_append, List.length_cons] at this ⊢; omega⟩
  · rw [take_snocC hi, hx, List.map_append, List.map_append, List.map_singleton, List.map_cons]
    have q := h.same
    rw [List.map_append, List.map_cons] at q
    exact dedup_old q (show cmpV (valC y) (valC x) = 0 from (show cmpR y.l x.l = 0 by rw [hy]; exact cmpC_tot.refl x)) c
  · rcases List.mem_append.1 hz with hz | hz
    · exact h.sub z (List.mem_append_left _ hz)
    · rcases List.mem_cons.1 hz with rfl | hz
      · exact h.sub y (by simp)
      · exact h.sub z (by simp [hz])
  · rcases List.mem_append.1 hz with hz | hz
    · exact h.inv z (List.mem_append_left _ hz)
    · rcases List.mem_cons.1 hz with rfl | hz
      · exact w64_in _
      · exact h.inv z (by simp [hz])
end Go.Proofs.YtdgbkpoickbidaaGreatDoor
namespace Go.Proofs.YtdgbkpoickbidaaGreatDoor
open Go.RowKit Go.Maps

theorem rowCheck_lit {v : Int} (A : Option Addr) (c n : Nat) (l : List Dat) (w : World) (hv : Hid (checkR l = v)) (e1 : Hid (n = l.length)) (h1 : Hid (Rw w A c l)) (ht : Hid (RwTxt l)) (G : Good w) :
    Calls Tryz.prog 154 #[.slice A n c] w fun e w' => e = .returned (.int .u16 v) ∧ Ext w w' := hv.out ▸ rowCheck_any A c n l w e1.out h1.out ht.out G
theorem key_lit (A : Option Addr) (c n : Nat) (l : List Dat) (w : World) (e1 : Hid (n = l.length)) (h1 : Hid (Rw w A c l)) (hi : Hid (RwInt l)) (hk : Hid (checkR l = 0)) :
    Calls Tryz.prog 186 #[.slice A n c] w (PutOut w w.heap.size (rkeyT l)) := key_any A c n l w e1.out h1.out hi.out hk.out
theorem clone_lit (A : Option Addr) (c n : Nat) (l : List Dat) (w : World) (e1 : Hid (n = l.length)) (h1 : Hid (Rw w A c l)) (hs : n ≤ 1000000000) :
    Calls Tryz.prog 183 #[.slice A n c] w fun e w' => RowOut w.heap.size n l e w' ∧ Ext w w' := cloneRow_any A c n l w e1.out h1.out hs
/-- what is asked of the rows that come in -/
structure InC (x : Ct) : Prop where
  txt : RwTxt x.l
  int : RwInt x.l
  num : InN (valC x)
  len : x.l.length ≤ 1000000
/-- what stands ahead of the sort -/
structure SumEnd (w : World) (g gm n : Nat) (L O : List Ct) (wx : World) : Prop where
  at_ : SumAt w g gm n wx O
  same : ∀ c, sumClass (alike cmpV c (O.map valC)) = sumClass (alike cmpV c (L.map valC))
  inv : ∀ x ∈ O, InN (valC x)
theorem Vals.out {w wx : World} {g gm n : Nat} {L O : List Ct} (h : Vals L n O) (hn : n = L.length) (hs : SumAt w g gm n wx O) : SumEnd w g gm n L O wx :=
  ⟨hs, fun c => by rw [h.same, sumClass_twice, List.take_of_length_le (by omega)], h.inv⟩
/-- while those that are alike are put together: M is done, X is to be thrown away, R is to come -/
structure MergeAt (w : World) (g gm n : Nat) (S : List Ct) (wr : World) (i : Nat) (T M X R : List Ct) : Prop where
  arr : Arr wr w.heap.size g n (M ++ (X ++ R))
  len : i = M.length + X.length
  spl : S = T ++ R
  tl : T.length = i
  mv : M.map valC = mergeV (T.map valC)
  rows : ∀ x ∈ M ++ R, RwO wr x.A x.c x.l ∧ ∀ ad, x.A = some ad → gm < ad.block ∧ ad.block < wr.heap.size
  apart : Apart (M ++ R)
  ext : Ext w wr
  gg : w.heap.size ≤ g ∧ g < gm ∧ gm < wr.heap.size
theorem rows_upd {w w' : World} {g gm : Nat} {K L : List Ct} (h : ∀ x ∈ K, RwO w x.A x.c x.l ∧ ∀ ad, x.A = some ad → gm < ad.block ∧ ad.block < w.heap.size) (hx : w.grownBy w' (some g)) (hg : g ≤ gm) (hs : ∀ x ∈ L, ∃ y ∈ K, x.A = y.A ∧ x.c = y.c ∧ x.l = y.l) :
    ∀ x ∈ L, RwO w' x.A x.c x.l ∧ ∀ ad, x.A = some ad → gm < ad.block ∧ ad.block < w'.heap.size := fun x hxL => by
  obtain ⟨y, hy, e1, e2, e3⟩ := hs x hxL
  have hs := hx.size
  rw [e1, e2, e3]
  exact ⟨(h y hy).1.upd hx fun ad e => by have := (h y hy).2 ad e; omega, fun ad e => by have := (h y hy).2 ad e; omega⟩
theorem stable_perm {L M : List Ct} (h : Stable cmpC L M) : L.Perm M := by
  have key : ∀ (n : Nat) (L M : List Ct), L.length ≤ n → Stable cmpC L M → L.Perm M := by
    intro n
    induction n with
    | zero =>
      intro L M hn h
      have : L = [] := List.eq_nil_of_length_eq_zero (by omega)
      subst this
      rw [h.nil_of cmpC_tot]
    | succ n ih =>
      intro L M hn h
      cases M with
      | nil =>
        cases L with
        | nil => exact .nil
        | cons y L => exact absurd ((h.mem cmpC_tot y).2 (List.mem_cons_self ..)) List.not_mem_nil
      | cons y M =>
        have hy := (h.mem cmpC_tot y).1 (List.mem_cons_self ..)
        have p1 : ∀ K : List Ct, (alike cmpC y K ++ (K.filter fun z => !(cmpC y z == 0))).Perm K := fun K => List.filter_append_perm (fun z => cmpC y z == 0) K
        have h1 := (p1 L).length_eq
        rw [List.length_append] at h1
        have h4 : 0 < (alike cmpC y L).length := List.length_pos_of_mem (List.mem_filter.2 ⟨hy, by rw [beq_iff_eq]; exact cmpC_tot.refl y⟩)
        have h5 := ih (L.filter fun z => !(cmpC y z == 0)) ((y :: M).filter fun z => !(cmpC y z == 0)) (by omega) ⟨h.sorted.filter _, fun z => by
          have q := h.same z
          unfold alike at q ⊢
          rw [List.filter_filter, List.filter_filter]
          have e : ∀ K : List Ct, K.filter (fun a => (cmpC z a == 0) && !(cmpC y a == 0)) = (K.filter (fun a => cmpC z a == 0)).filter (fun a => !(cmpC y a == 0)) := fun K => by
            rw [List.filter_filter]
            congr 1
            funext a
            rw [Bool.and_comm]
          rw [e, e, q]⟩
        have h6 : (alike cmpC y L).Perm (alike cmpC y (y :: M)) := by rw [h.same y]
        exact (p1 L).symm.trans ((h6.append h5).trans (p1 (y :: M)))
  exact key L.length L M (Nat.le_refl _) h
theorem MergeAt.start {w wx w1 : World} {g gm n : Nat} {L O S : List Ct} (h : SumEnd w g gm n L O wx) (st : Stable cmpC O S) (ar : Arr w1 w.heap.size g n S) (up : wx.grownBy w1 (some g)) : MergeAt w g gm n S w1 0 [] [] [] S := by
  have hg := h.at_.gg
  have hs := up.size
  exact ⟨ar, rfl, rfl, rfl, rfl, rows_upd (K := O) h.at_.rows up (by omega) (fun x hx => ⟨x, (st.mem cmpC_tot x).1 hx, rfl, rfl, rfl⟩), h.at_.apart.perm (stable_perm st), h.at_.ext.grown up (fun k e => by cases e; exact hg.1), by omega⟩
theorem MergeAt.mono {w wr wz : World} {g gm n i : Nat} {S T M X R : List Ct} (h : MergeAt w g gm n S wr i T M X R) (x : Ext wr wz) : MergeAt w g gm n S wz i T M X R :=
  ⟨h.arr.ext x, h.len, h.spl, h.tl, h.mv, rows_upd (K := M ++ R) h.rows (upd_ext x g) (by have := h.gg; omega) (fun x hx => ⟨x, hx, rfl, rfl, rfl⟩), h.apart, h.ext.trans x, by have := h.gg; have := x.size; omega⟩
theorem MergeAt.join {w wr : World} {g gm n i q : Nat} {S T M X R : List Ct} {x y : Ct} {s : Int} (h : MergeAt w g gm n S wr i T (M ++ [y]) X (x :: R)) (hc : cmpR y.l x.l = 0) (hq : q = M.length) (hs : w64 (y.k + x.k) = s) :
    MergeAt w g gm n S (wr.setCell ⟨g, q * 2 + 1, none⟩ (.int .i64 s)) (i + 1) (T ++ [x]) (M ++ [⟨y.A, y.c, y.l, s⟩]) (X ++ [x]) R := by
  subst hq hs
  have hg := h.gg
  have hu := upd_set wr g (M.length * 2 + 1) (.int .i64 (w64 (y.k + x.k)))
  have e0 : M ++ [y] ++ (X ++ x :: R) = M ++ y :: (X ++ x :: R) := by simp
  have harr := h.arr
  rw [e0] at harr
  have h1 := harr.1.put (M.length * 2 + 1) (.int .i64 (w64 (y.k + x.k)))
  have e : (ctsC (M ++ y :: (X ++ x :: R))).set (M.length * 2 + 1) (.int .i64 (w64 (y.k + x.k))) = ctsC (M ++ ⟨y.A, y.c, y.l, w64 (y.k + x.k)⟩ :: (X ++ x :: R)) := by
    have := ctsC_set (M ++ y :: (X ++ x :: R)) M.length ⟨y.A, y.c, y.l, w64 (y.k + x.k)⟩
    rw [set_mid] at this
    rw [← this]
    congr 1
    refine (set_self ?_).symm
    have q := ctsC_at (M ++ y :: (X ++ x :: R)) M.length 0 (by simp) (by decide)
    rw [getD_mid, Nat.add_zero] at q
    exact q
  rw [e] at h1
  refine ⟨⟨?_, harr.2⟩, by have := h.len; simp only [List.length_append, List.length_cons, List.length_nil] at this ⊢; omega, by rw [h.spl]; simp, by rw [List.length_append, h.tl]; rfl, ?_, rows_upd (K := M ++ [y] ++ x :: R) h.rows hu (by omega) (fun z hz => ?_), h.apart.sub (by simp), h.ext.set (p := ⟨g, _, none⟩) hg.1 _, by rw [World.size_setCell]; exact hg⟩
  · have e2 : M ++ [⟨y.A, y.c, y.l, w64 (y.k + x.k)⟩] ++ (X ++ [x] ++ R) = M ++ ⟨y.A, y.c, y.l, w64 (y.k + x.k)⟩ :: (X ++ x :: R) := by simp
    rw [e2]
    have e3 : (M ++ (⟨y.A, y.c, y.l, w64 (y.k + x.k)⟩ : Ct) :: (X ++ x :: R)).length = (M ++ y :: (X ++ x :: R)).length := by simp
    rw [e3]
    exact h1
  · rw [List.map_append, List.map_append, List.map_singleton, List.map_singleton, mergeV_snoc, ← h.mv, List.map_append, List.map_singleton, mergeStep_snoc, if_pos (show cmpV (valC y) (valC x) = 0 from hc)]
    rfl
  · rcases List.mem_append.1 hz with hz | hz
    · rcases List.mem_append.1 hz with hz | hz
      · exact ⟨z, by simp [hz], rfl, rfl, rfl⟩
      · rw [List.mem_singleton.1 hz]; exact ⟨y, by simp, rfl, rfl, rfl⟩
    · exact ⟨z, by simp [hz], rfl, rfl, rfl⟩
theorem MergeAt.keep {w wr : World} {g gm n i q nx : Nat} {S T M X R : List Ct} {x : Ct} (h : MergeAt w g gm n S wr i T M X (x :: R)) (hc : mergeStep (M.map valC) (valC x) = M.map valC ++ [valC x]) (hq : q = M.length) (hnx : nx = x.l.length) :
    MergeAt w g gm n S ((wr.setCell ⟨g, q * 2, none⟩ (.slice x.A nx x.c)).setCell ⟨g, q * 2 + 1, none⟩ (.int .i64 x.k)) (i + 1) (T ++ [x]) (M ++ [x]) (X ++ [x]).tail R := by
  subst hq hnx
  have hg := h.gg
  have hu := (upd_set wr g (M.length * 2) (.slice x.A x.l.length x.c)).trans (upd_set _ g (M.length * 2 + 1) (.int .i64 x.k))
  have h1 := h.arr.set M.length x
  have e : (M ++ (X ++ x :: R)).set M.length x = M ++ [x] ++ ((X ++ [x]).tail ++ R) := by
    cases X with
    | nil => rw [List.nil_append, set_mid]; simp
    | cons z X => rw [List.cons_append, set_mid]; simp
  rw [e] at h1
  refine ⟨h1, by have := h.len; simp only [List.length_append, List.length_cons, List.length_nil, List.length_tail] at this ⊢; omega, by rw [h.spl]; simp, by rw [List.length_append, h.tl]; rfl, ?_, rows_upd (K := M ++ x :: R) h.rows hu (by omega) (fun z hz => ⟨z, ?_, rfl, rfl, rfl⟩), h.apart.sub (by simp), (h.ext.set (p := ⟨g, _, none⟩) hg.1 _).set (p := ⟨g, _, none⟩) hg.1 _, by rw [World.size_setCell, World.size_setCell]; exact hg⟩
  · rw [List.map_append, List.map_append, List.map_singleton, mergeV_snoc, ← h.mv, hc]
  · rcases List.mem_append.1 hz with hz | hz
    · rcases List.mem_append.1 hz with hz | hz
      · simp [hz]
      · rw [List.mem_singleton.1 hz]; simp
    · simp [hz]
theorem stable_map {O S : List Ct} (h : Stable cmpC O S) : Stable cmpV (O.map valC) (S.map valC) := by
  refine ⟨List.pairwise_map.2 (h.sorted.imp fun q => q), fun c => ?_⟩
  have e : ∀ K : List Ct, alike cmpV c (K.map valC) = (alike cmpC ⟨none, 0, c.1, c.2⟩ K).map valC := fun K => by
    unfold alike
    rw [List.filter_map]
    rfl
  rw [e, e, h.same]
theorem Summed.of_sum {L D R : List V} (h : ∀ c, sumClass (alike cmpV c D) = sumClass (alike cmpV c L)) (k : Summed D R) : Summed L R := ⟨k.sorted, fun c => by rw [k.same, h]⟩
/-- what Sum hands back -/
def SumRes (w : World) (L : List Ct) (e : Ending) (w' : World) : Prop := ∃ A m c R, e = .returned (.slice A m c) ∧ m = R.length ∧ Own w' w.heap.size 154 2 A m c (ctsC R) ∧
  (∀ x ∈ R, RwO w' x.A x.c x.l ∧ ∀ ad, x.A = some ad → w.heap.size ≤ ad.block ∧ blk A c ≠ some ad.block) ∧ Apart R ∧ R.map valC = sumV (L.map valC) ∧ Ext w w'
theorem sum_res {w wx wr w2 : World} {g gm n i m c' : Nat} {L O S T M X : List Ct} (he : SumEnd w g gm n L O wx) (hin : ∀ x ∈ L, InN (valC x)) (st : Stable cmpC O S) (h : MergeAt w g gm n S wr i T M X []) (ar : Arr w2 w.heap.size g n (M.filter nzC)) (up : wr.grownBy w2 (some g)) (hm : m = (M.filter nzC).length) (hc : c' = n) :
    SumRes w L (.returned (.slice (some ⟨g, 0, none⟩) m c')) w2 := by
  subst hc hm
  have hg := h.gg
  have hT : S = T := by have := h.spl; rwa [List.append_nil] at this
  have hrows := rows_upd (K := M ++ []) (L := M.filter nzC) h.rows up (by omega) (fun x hx => ⟨x, by rw [List.append_nil]; exact (List.mem_filter.1 hx).1, rfl, rfl, rfl⟩)
  refine ⟨_, _, _, M.filter nzC, rfl, rfl, ar.1, fun x hx => ⟨(hrows x hx).1, fun ad e => ⟨by have := (hrows x hx).2 ad e; omega, fun q => ?_⟩⟩, h.apart.sub (by rw [List.append_nil]; exact List.filter_sublist.map _), ?_, h.ext.grown up (fun k e => by cases e; exact hg.1)⟩
  · obtain ⟨a, e1, e2⟩ := blk_some q
    cases e1
    have := (hrows x hx).2 ad e
    simp only at e2
    omega
  · have h1 : Summed (L.map valC) (M.map valC) := by
      rw [h.mv, ← hT]
      exact (Summed.of_stable (stable_map st) (fun y hy => by obtain ⟨x, hx, rfl⟩ := List.mem_map.1 hy; exact he.inv x hx)).of_sum he.same
    have h2 := Summed.all (L.map valC) (fun y hy => by obtain ⟨x, hx, rfl⟩ := List.mem_map.1 hy; exact hin x hx)
    unfold sumV
    rw [h2.unique h1, List.filter_map]
    rfl
/-- the loop's relation, of rows that all may be -/
structure SumP (w : World) (g gm n : Nat) (L : List Ct) (wr : World) (i : Nat) (O : List Ct) (D : MD) : Prop where
  at_ : SumAt w g gm n wr O
  vals : Vals L i O
  map : wr.ownsMap Tryz.prog 9 (plainElem Tryz.prog 3) gm i D
  is : MapIs D O
theorem SumP.mono {w wr wz : World} {g gm n i : Nat} {L O : List Ct} {D : MD} (h : SumP w g gm n L wr i O D) (x : Ext wr wz) : SumP w g gm n L wz i O D :=
  ⟨h.at_.mono x, h.vals, h.map.kept (upd_ext x g) (fun e => by have := h.at_.gg; cases e; omega), h.is⟩
theorem arr_len {w : World} {B g c : Nat} {L : List Ct} (h : Arr w B g c L) : L.length ≤ c := h.1.le.1
theorem at_inj {D : MD} {k : Lit} {a j : Int} (h : D.atKey k (.lit (.int .i64 0)) = .lit (.int .i64 a)) (h2 : D.atKey k (int_ 0) = int_ j) : a = j := by
  have := h.symm.trans h2
  unfold int_ at this
  injection this with this
  injection this
theorem sl_ct (w : World) (t : TypeId) (u v : Value) : Sl (w.alloc (.cells #[u, v] t)) 2 (some ⟨w.heap.size, 0, none⟩) 1 1 [u, v] :=
  ⟨rfl, Nat.le_refl _, by unfold maxLen; omega, (fun h => nomatch h), fun _ => ⟨_, rfl, fun j x hx => cells_at w t _ j x hx⟩⟩
theorem ok_data {x : Ct} (h : checkR x.l = 0) (hi : RwInt x.l) : ∀ d ∈ x.l, d.check = 0 ∧ InD d := fun d hd => ⟨((checkR_ok x.l).1 h).2 d hd, hi d hd⟩
theorem key_small {x : Ct} (h : checkR x.l = 0) : (rkeyT x.l).length ≤ 100000000 := by
  obtain ⟨h1, h2⟩ := (checkR_ok x.l).1 h
  have := keyT_len x.l (fun d hd => size_of_check' (h2 d hd))
  omega
theorem SumP.there {w wr : World} {g gm n i : Nat} {L O : List Ct} {D : MD} (h : SumP w g gm n L wr i O D) (hok : ∀ x ∈ L, checkR x.l = 0) (hin : ∀ x ∈ L, InC x) {x : Ct} (hx : x ∈ L) (hh : Maps.has D (.string (rkeyT x.l)) = true) :
    ∃ P y Q, O = P ++ y :: Q ∧ y.l = x.l ∧ D.atKey (.string (rkeyT x.l)) (int_ 0) = int_ P.length := by
  obtain ⟨y, hy, e⟩ := (h.is.has _).1 hh
  obtain ⟨u, hu, e2⟩ := h.vals.sub y hy
  have e3 : y.l = x.l := key_inj (by rw [e2]; exact ok_data (hok u hu) (hin u hu).int) (ok_data (hok x hx) (hin x hx).int) e
  obtain ⟨P, Q, rfl⟩ := List.append_of_mem hy
  have := h.is.at_ P.length (by simp)
  rw [getD_mid, e] at this
  exact ⟨P, y, Q, rfl, e3, this⟩
theorem SumP.away {w wr : World} {g gm n i : Nat} {L O : List Ct} {D : MD} (h : SumP w g gm n L wr i O D) (hok : ∀ x ∈ L, checkR x.l = 0) (hin : ∀ x ∈ L, InC x) {x : Ct} (hx : x ∈ L) (hh : Maps.has D (.string (rkeyT x.l)) = false) :
    ∀ y ∈ O, ¬ cmpV (valC y) (valC x) = 0 := fun y hy e => by
  obtain ⟨u, hu, e2⟩ := h.vals.sub y hy
  have e3 : y.l = x.l := row_zero _ _ (by rw [e2]; exact ok_data (hok u hu) (hin u hu).int) (ok_data (hok x hx) (hin x hx).int) e
  have := (h.is.has (rkeyT x.l)).2 ⟨y, hy, by rw [e3]⟩
  rw [hh] at this
  cases this
theorem SumP.old {w wr : World} {g gm n i j : Nat} {L P Q : List Ct} {D : MD} {x y : Ct} {s : Int} (h : SumP w g gm n L wr i (P ++ y :: Q) D) (hi : i < L.length) (hx : L.getD i Ct.zero = x) (hy : y.l = x.l) (hj : j = P.length) (hs : w64 (y.k + x.k) = s) :
    SumP w g gm n L (wr.setCell ⟨g, j * 2 + 1, none⟩ (.int .i64 s)) (i + 1) (P ++ ⟨y.A, y.c, y.l, s⟩ :: Q) D := by
  subst hs
  exact ⟨h.at_.set hj _, h.vals.old hi hx hy, (h.map.kept (upd_set wr g _ _) (fun e => by have := h.at_.gg; cases e; omega)).mono (Nat.le_succ i), h.is.old rfl⟩
theorem SumP.new {w w1 w2 w3 w4 : World} {g gm n i m : Nat} {L O : List Ct} {D : MD} {x : Ct} {A : Option Addr} {c nx : Nat} (h : SumP w g gm n L w1 i O D) (hi : i < L.length) (hx : L.getD i Ct.zero = x) (hin : InN (valC x)) (hn : ∀ y ∈ O, ¬ cmpV (valC y) (valC x) = 0) (hh : Maps.has D (.string (rkeyT x.l)) = false)
    (hm : m = O.length) (hnx : nx = x.l.length) (h2 : w2.ownsMap Tryz.prog 9 (plainElem Tryz.prog 3) gm (i + 1) (D.put (.string (rkeyT x.l)) (int_ m))) (g2 : w1.grownBy w2 (some gm)) (x3 : Ext w2 w3)
    (o3 : Own w3 w2.heap.size 204 4 A nx c (rowC x.l)) (b3 : ∀ ad, A = some ad → w2.heap.size ≤ ad.block ∧ ad.block < w3.heap.size)
    (o4 : Own w4 w.heap.size 154 2 (some ⟨g, 0, none⟩) (m + 1) n (ctsC O ++ [.slice A nx c, .int .i64 x.k])) (g4 : w3.grownBy w4 (some g)) : SumP w g gm n L w4 (i + 1) (O ++ [⟨A, c, x.l, x.k⟩]) (D.put (.string (rkeyT x.l)) (int_ m)) := by
  subst hnx hm
  have s2 := h.at_.map g2
  have s3 := s2.mono x3
  have hg := s2.gg
  refine ⟨s3.push (x := ⟨A, c, x.l, x.k⟩) (Own.mono o3 (Nat.zero_le _)) (fun ad e => by have := b3 ad e; omega) (fun y hy a b e1 e2 => by have := (s2.rows y hy).2 a e1; have := b3 b e2; omega) o4 g4, h.vals.new hi hx hin rfl hn, (h2.kept (upd_ext x3 g) (fun e => by cases e; omega)).kept g4 (fun e => by cases e; omega), MapIs.new (x := ⟨A, c, x.l, x.k⟩) h.is rfl hh⟩
theorem SumP.start {w w0 : World} {n : Nat} (L : List Ct) (h0 : 0 < n) (hn : n ≤ 1000000000) (hw : w0 = (w.alloc (madeCts n)).alloc (.map #[] 0)) : SumP w w.heap.size (w.heap.size + 1) n L w0 0 [] (.map []) := by
  subst hw
  refine ⟨⟨(arr_made w n h0 hn).ext ((Ext.refl _).alloc _), fun x h => (nomatch h), List.Pairwise.nil, ((Ext.refl w).alloc _).alloc _, by simp⟩, Vals.zero L, ?_, MapIs.nil⟩
  have := World.ownsMap_made (H := Unit) (w.alloc (madeCts n)) Tryz.prog 9 (plainElem Tryz.prog 3)
  simpa using this
end Go.Proofs.YtdgbkpoickbidaaGreatDoor
namespace Go.Proofs.YtdgbkpoickbidaaGreatDoor
open Go.RowKit Go.Maps

set_option maxRecDepth 100000 in
set_option maxHeartbeats 16000000 in
theorem sum_plain (A : Option Addr) (c n : Nat) (L : List Ct) (w : World) (h0 : 0 < n) (hn : n = L.length) (h20 : n ≤ 100000000) (h : Ctin w A c L) (hin : ∀ x ∈ L, InC x) (hok : ∀ x ∈ L, checkR x.l = 0) (G : Good w) :
    Calls Tryz.prog 109 #[.slice A n c] w (SumRes w L) := by
  have HN := Lib.hid hn
  have H := Lib.hid h
  have HIN := Lib.hid hin
  have HOK := Lib.hid hok
  have hmk := make_cts n (by omega)
  have hmm := make_map (n : Int)
  clear hn h hin hok
  go_enter Tryz.func109, Tryz.ntmps109
  go_upto_region 4 with fail
  obtain ⟨w0, hw0⟩ : ∃ x, x = (w.alloc (madeCts n)).alloc (.map #[] 0) := ⟨_, rfl⟩
  have X0 : Ext w w0 := hw0 ▸ ((Ext.refl w).alloc _).alloc _
  have HP0 : Hid (SumP w w.heap.size (w.heap.size + 1) n L w0 0 [] (.map [])) := Lib.hid (SumP.start L h0 (by omega) hw0)
  rw [← hw0]
  clear hw0 hmk hmm
  go_wp2
  go_loopw [5, 24] (fun u v wr => ∃ i : Nat, i ≤ n ∧ u = .bool true ∧ v = .int .i64 i ∧ Ext w0 wr) (fun _ v _ => n - (intOf v).toNat)
  case atStart => exact ⟨0, Nat.zero_le _, rfl, rfl, Ext.refl _⟩
  case round =>
    obtain ⟨i, hi, rfl, rfl, er0⟩ := hrel
    by_cases hlt : i < n
    · have hil : i < L.length := by rw [← HN.out]; exact hlt
      have er := X0.trans er0
      obtain ⟨ad, rfl, p0, p1⟩ := (H.out.ext er).at hil
      have hm := getD_mem hil
      obtain ⟨x, hx⟩ : ∃ x, L.getD i Ct.zero = x := ⟨_, rfl⟩
      rw [hx] at p0 p1 hm
      obtain ⟨nx, hnx⟩ : ∃ nx, nx = x.l.length := ⟨_, rfl⟩
      rw [← hnx] at p0
      have hnx9 : nx ≤ 1000000000 := by have := (HIN.out x hm).len; omega
      have HT := Lib.hid (HIN.out x hm).txt
      have HI := Lib.hid (HIN.out x hm).int
      have HR := Lib.hid ((H.out.rows x hm).ext (er.alloc (.cells #[.slice x.A nx x.c, .int .i64 x.k] 154)))
      have GW := Lib.hid (G.ext (er.alloc (.cells #[.slice x.A nx x.c, .int .i64 x.k] 154)))
      have HNX := Lib.hid hnx
      have HX := Lib.hid hx
      have HIL := Lib.hid hil
      have HM := Lib.hid hm
      have HC := Lib.hid (HOK.out x hm)
      clear hil hm hx hnx
      go_wp2_with (go_at_call 154; refine (rowCheck_lit x.A x.c nx x.l _ HC HNX HR HT GW.out).mono ?_; rintro e w1 ⟨rfl, x1⟩)
      go_roundw
      case rel => exact ⟨i + 1, by omega, rfl, by go_num, (er0.alloc _).trans x1⟩
      case measure => simp [intOf]; omega
    · go_wp2
      go_loopg [3, 38] n (fun z u v wr => ∃ (i : Nat) (O : List Ct) (D : MD), z = n - i ∧ i ≤ n ∧ u = .slice (some ⟨w.heap.size, 0, none⟩) O.length n ∧ v = .int .i64 i ∧ Hid (SumP w w.heap.size (w.heap.size + 1) n L wr i O D))
      case atStart => exact ⟨0, [], .map [], rfl, Nat.zero_le _, rfl, rfl, Lib.hid (HP0.out.mono er0)⟩
      case round =>
        clear hi hlt er0 HP0 X0
        obtain ⟨i, O, D, rfl, hi, rfl, rfl, HP⟩ := hrel
        by_cases hlt : i < n
        · have hil : i < L.length := by rw [← HN.out]; exact hlt
          have er := HP.out.at_.ext
          obtain ⟨ad, rfl, p0, p1⟩ := (H.out.ext er).at hil
          have hm := getD_mem hil
          obtain ⟨x, hx⟩ : ∃ x, L.getD i Ct.zero = x := ⟨_, rfl⟩
          rw [hx] at p0 p1 hm
          obtain ⟨nx, hnx⟩ : ∃ nx, nx = x.l.length := ⟨_, rfl⟩
          rw [← hnx] at p0
          have hnx9 : nx ≤ 1000000000 := by have := (HIN.out x hm).len; omega
          have HT := Lib.hid (HIN.out x hm).txt
          have HI := Lib.hid (HIN.out x hm).int
          have HR := Lib.hid ((H.out.rows x hm).ext (er.alloc (.cells #[.slice x.A nx x.c, .int .i64 x.k] 154)))
          have GW := Lib.hid (G.ext (er.alloc (.cells #[.slice x.A nx x.c, .int .i64 x.k] 154)))
          have HNX := Lib.hid hnx
          have HX := Lib.hid hx
          have HIL := Lib.hid hil
          have HM := Lib.hid hm
          have HC := Lib.hid (HOK.out x hm)
          have HKS := Lib.hid (key_small HC.out)
          have hbx : w.heap.size + 1 < wr.heap.size := HP.out.at_.gg.2.2
          obtain ⟨m, hmO⟩ : ∃ m, m = O.length := ⟨_, rfl⟩
          have hmi : m ≤ i := by rw [hmO]; exact HP.out.vals.len
          rw [← hmO]
          cases hth : Maps.has D (.string (rkeyT x.l))
          · have HAW := Lib.hid (HP.out.away HOK.out HIN.out hm hth)
            have HTH := Lib.hid hth
            have HMO := Lib.hid hmO
            clear hil hm hx hnx hmO
            go_upto_region 19 with (first
              | (go_at_call 186; refine (key_lit x.A x.c nx x.l _ HNX HR HI HC).mono ?_; rintro e w1 ⟨A1, n1, c1, rfl, o1, b1⟩; have O1 := Lib.hid o1; have X1 : Ext (wr.alloc (.cells #[.slice x.A nx x.c, .int .i64 x.k] 154)) w1 := b1; have hcv := conv_own o1; have BX := (Bk.new wr 154 #[.slice x.A nx x.c, .int .i64 x.k]).ext X1; have bx0 := BX.cell 0; have bx1 := BX.cell 1; have XX := ((Ext.refl wr).alloc (.cells #[.slice x.A nx x.c, .int .i64 x.k] 154)).trans X1; have HP1 := Lib.hid (HP.out.mono XX); clear o1 b1)
              | (at_lookup; refine wpList_lookup_own_ok_int _ rfl _ _ 225 rfl 9 3 .i64 map_law Tryz.underlying225 Tryz.underlying3 (zero_int _) (w.heap.size + 1) i D rfl HP1.out.map _ (.string (rkeyT x.l)) rfl (key_of HKS.out) ?_; intro cc hat hwc; clear hat hwc)
              | (at_mapUpdate; refine wpList_mapUpdate_own _ rfl _ _ _ 225 rfl 9 3 map_law Tryz.underlying225 (plainElem Tryz.prog 3) (w.heap.size + 1) i D rfl HP1.out.map (by unfold maxLen; omega) _ _ (.string (rkeyT x.l)) rfl rfl (key_of HKS.out) (int_ m) [] (plainElem_int Tryz.underlying3 (WalkArith.wf_i64 (by omega))) ?_; intro w2 hown2 hgrow2; have HO2 := Lib.hid hown2; have HG2 := Lib.hid hgrow2; have HS2 := Lib.hid (HP1.out.at_.map hgrow2); have BX2 := BX.grown hgrow2 (by intro e; injection e with e; omega); clear hown2 hgrow2))
            have X2 : Ext w2 w2.drew := (Ext.refl w2).drew
            have HR2 := Lib.hid ((H.out.rows x HM.out).ext (HS2.out.ext.trans X2))
            have B0 : ∀ z : Xt w2.drew, z.W.cell? ⟨wr.heap.size, 0, none⟩ = some (.slice x.A nx x.c) := fun z => (X2.trans z.x).cell (BX2.cell 0)
            have B1 : ∀ z : Xt w2.drew, z.W.cell? ⟨wr.heap.size, 1, none⟩ = some (.int .i64 x.k) := fun z => (X2.trans z.x).cell (BX2.cell 1)
            go_simp
            refine wp_region_ord [0,0,2,6,0,16,62,126,255,511] (.pur [0] (.flo [1,2,4,5] (.ext 3 (.flo [6] (.one 7 (.one 8 (.flo [9] (.fin)))))))) (by kernel_rfl) (by kernel_rfl) (by intro _ _ d _ _ h; cases d <;> exact h) ?_
            (refine ord_pur (pick_cons rfl pick_nil) ?_; (repeat (go_big_quiet_step (fail))); refine wpQuiet_nil ?_; show ordWalk _ _ _ _ _ _ _)
            (refine ord_flo (pick_cons rfl (pick_cons rfl (pick_cons rfl (pick_cons rfl pick_nil)))) ?_; (repeat (go_big_quiet_step (fail))); refine wpQuiet_nil ?_; show ordWalk _ _ _ _ _ _ _)
            refine ord_ext (pick_cons rfl pick_nil) ?_; intro K_ hK_
            go_wp2_with (go_at_call 183; refine (clone_lit x.A x.c nx x.l _ HNX HR2 hnx9).mono ?_; rintro e w3 ⟨⟨A3, c3, rfl, o3, b3⟩, x3⟩)
            refine ordNext.mk x3 ?_
            have O3 := Lib.hid o3
            have HB3 := Lib.hid b3
            have X3 := Lib.hid (X2.trans x3)
            clear o3 b3
            (refine ord_flo (pick_cons rfl pick_nil) ?_; (repeat (go_big_quiet_step (fail))); refine wpQuiet_nil ?_; show ordWalk _ _ _ _ _ _ _)
            refine ord_one (pick_cons rfl pick_nil) ?_; intro K_ hK_
            go_wp2
            refine ord_one (pick_cons rfl pick_nil) ?_; intro K_ hK_
            have HS3 := Lib.hid (HS2.out.mono X3.out)
            go_wp2_with (at_builtin; refine wpList_append_stay _ elem_ct w.heap.size _ _ rfl rfl w.heap.size m n (ctsC O) rfl (by rw [HMO.out]; exact (HS3.out.arr.ext ((Ext.refl _).alloc _)).1) h0 ⟨w3.heap.size, 0, none⟩ 1 1 [.slice A3 nx c3, .int .i64 x.k] rfl (sl_ct _ _ _ _) (by decide) (by intro u hu; simp at hu; rcases hu with rfl | rfl <;> rfl) (by omega) ?_; intro w4 o4 g4)
            have O4 := Lib.hid o4
            have G4 := Lib.hid ((upd_ext ((Ext.refl w3).alloc (.cells #[.slice A3 nx c3, .int .i64 x.k] 154)) w.heap.size).trans g4)
            clear o4 g4
            go_simp
            (refine ord_flo (pick_cons rfl pick_nil) ?_; (repeat (go_big_quiet_step (fail))); refine wpQuiet_nil ?_; show ordWalk _ _ _ _ _ _ _)
            refine ord_fin ?_
            go_wp2
            go_roundg (n - (i + 1))
            case measure => omega
            case rel => exact ⟨i + 1, O ++ [⟨A3, c3, x.l, x.k⟩], D.put (.string (rkeyT x.l)) (int_ m), rfl, by omega, by rw [HMO.out]; simp, by go_num, Lib.hid (SumP.new HP1.out HIL.out HX.out (HIN.out x HM.out).num HAW.out HTH.out HMO.out HNX.out HO2.out HG2.out X3.out (by have := O3.out; exact this) (fun ad e => by have := HB3.out ad e; have := X2.size; omega) O4.out G4.out)⟩
          · obtain ⟨P, y, Q, rfl, hy, hat0⟩ := HP.out.there HOK.out HIN.out hm hth
            obtain ⟨j, hj⟩ : ∃ j, j = P.length := ⟨_, rfl⟩
            rw [← hj] at hat0
            have hjm : j < m := by rw [hmO, hj]; simp
            obtain ⟨s, hs⟩ : ∃ s, w64 (y.k + x.k) = s := ⟨_, rfl⟩
            have hs2 : IntKind.i64.wrap (y.k + x.k) = s := hs
            have HAT := Lib.hid hat0
            have HJ := Lib.hid hj
            have HMO := Lib.hid hmO
            have HY := Lib.hid hy
            have HS := Lib.hid hs
            clear hil hm hx hnx hmO hy hat0 hj hs
            go_upto_region 17 with (first
              | (go_at_call 186; refine (key_lit x.A x.c nx x.l _ HNX HR HI HC).mono ?_; rintro e w1 ⟨A1, n1, c1, rfl, o1, b1⟩; have O1 := Lib.hid o1; have X1 : Ext (wr.alloc (.cells #[.slice x.A nx x.c, .int .i64 x.k] 154)) w1 := b1; have hcv := conv_own o1; have BX := (Bk.new wr 154 #[.slice x.A nx x.c, .int .i64 x.k]).ext X1; have bx0 := BX.cell 0; have bx1 := BX.cell 1; have XX := ((Ext.refl wr).alloc (.cells #[.slice x.A nx x.c, .int .i64 x.k] 154)).trans X1; have HP1 := Lib.hid (HP.out.mono XX); clear o1 b1)
              | (at_lookup; refine wpList_lookup_own_ok_int _ rfl _ _ 225 rfl 9 3 .i64 map_law Tryz.underlying225 Tryz.underlying3 (zero_int _) (w.heap.size + 1) i D rfl HP1.out.map _ (.string (rkeyT x.l)) rfl (key_of HKS.out) ?_; intro cc hat hwc; obtain rfl : cc = (j : Int) := at_inj hat HAT.out; clear hat hwc))
            have hA1 := HP1.out.at_.arr
            have hq := hA1.at (i := j) (by rw [HJ.out]; simp)
            rw [HJ.out, getD_mid, ← HJ.out] at hq
            have q1 := hq.2
            have f1 := hA1.free (j * 2 + 1)
            have X2 : Ext w1 w1.drew := (Ext.refl w1).drew
            have Q1 : ∀ z : Xt w1.drew, z.W.cell? ⟨w.heap.size, j * 2 + 1, none⟩ = some (.int .i64 y.k) := fun z => (X2.trans z.x).cell q1
            have B1 : ∀ z : Xt w1.drew, z.W.cell? ⟨wr.heap.size, 1, none⟩ = some (.int .i64 x.k) := fun z => (X2.trans z.x).cell bx1
            clear hA1 hq
            refine wp_region_ord [0,0,3,7,15,0,32,127,255,511,1023] (.flo [0,1,2,3,4,5,6,7,8,9] (.one 10 (.fin))) (by kernel_rfl) (by kernel_rfl) (by intro _ _ d _ _ h; cases d <;> exact h) ?_
            (refine ord_flo (pick_cons rfl (pick_cons rfl (pick_cons rfl (pick_cons rfl (pick_cons rfl (pick_cons rfl (pick_cons rfl (pick_cons rfl (pick_cons rfl (pick_cons rfl pick_nil)))))))))) ?_; (repeat (go_big_quiet_step (fail))); refine wpQuiet_nil ?_; show ordWalk _ _ _ _ _ _ _)
            refine ord_one (pick_cons rfl pick_nil) ?_; intro K_ hK_
            go_wp2
            refine ord_fin ?_
            go_wp2
            go_roundg (n - (i + 1))
            case measure => omega
            case rel => exact ⟨i + 1, P ++ ⟨y.A, y.c, y.l, s⟩ :: Q, D, rfl, by omega, by rw [HMO.out]; simp, by go_num, Lib.hid ((HP1.out.mono X2).old HIL.out HX.out HY.out HJ.out HS.out)⟩
        · have hin' : i = n := by omega
          have HE : Hid (SumEnd w w.heap.size (w.heap.size + 1) n L O wr) := Lib.hid (by have := HP.out; rw [hin'] at this; exact this.vals.out HN.out this.at_)
          have hmn : O.length ≤ n := arr_len HE.out.at_.arr
          obtain ⟨m, hmO⟩ : ∃ m, m = O.length := ⟨_, rfl⟩
          rw [← hmO] at hmn ⊢
          have HMO := Lib.hid hmO
          have HINV : Hid (∀ x ∈ L, InN (valC x)) := Lib.hid fun x hx => (HIN.out x hx).num
          have hg0 : w.heap.size + 1 < wr.heap.size := HE.out.at_.gg.2.2
          clear hmO hin' HP
          go_wp2_with (go_at_call 187; go_loud (refine (sortStable_any w.heap.size w.heap.size n m O _ HMO.out (by omega) HE.out.at_.arr HE.out.at_.off).mono ?_; rintro e w1 ⟨rfl, S, st, ar, up⟩; have HME := Lib.hid (MergeAt.start HE.out st ar up); have HST := Lib.hid st; have HSL : Hid (m = S.length) := Lib.hid (by rw [stable_len st]; exact HMO.out); clear st ar up))
          go_loopg [13, 82] m (fun z u v wr => ∃ (i q : Nat) (T M X R : List Ct), z = m - i ∧ i ≤ m ∧ q ≤ i ∧ u = .int .i64 q ∧ v = .int .i64 i ∧ Hid (q = M.length) ∧ Hid (MergeAt w w.heap.size (w.heap.size + 1) n S wr i T M X R))
          case atStart => exact ⟨0, 0, [], [], [], S, rfl, Nat.zero_le _, Nat.le_refl _, rfl, rfl, Lib.hid rfl, HME⟩
          case round =>
            clear HME
            obtain ⟨i, q, T, M, X, R, rfl, hi, hqi, rfl, rfl, HQ, HG⟩ := hrel
            have hbx : w.heap.size + 1 < wr.heap.size := HG.out.gg.2.2
            by_cases hlt : i < m
            · obtain ⟨x, R, rfl⟩ : ∃ x R', R = x :: R' := by
                cases R with
                | nil =>
                  have h1 := HG.out.spl
                  have h2 := HG.out.tl
                  have h3 := HSL.out
                  rw [h1, List.append_nil, h2] at h3
                  omega
                | cons x R => exact ⟨x, R, rfl⟩
              have hA := HG.out.arr
              have hxl : i < (M ++ (X ++ x :: R)).length := by have := HG.out.len; simp only [List.length_append, List.length_cons] at this ⊢; omega
              obtain ⟨p0, p1⟩ := hA.at hxl
              have e : (M ++ (X ++ x :: R)).getD i Ct.zero = x := by
                rw [← List.append_assoc, show i = (M ++ X).length by rw [List.length_append]; exact HG.out.len]
                exact getD_mid _ x R
              rw [e] at p0 p1
              obtain ⟨nx, hnx⟩ : ∃ nx, nx = x.l.length := ⟨_, rfl⟩
              rw [← hnx] at p0
              have HNX := Lib.hid hnx
              have hqm : q < m := by omega
              have XB : Ext wr (wr.alloc (.cells #[.slice x.A nx x.c, .int .i64 x.k] 154)) := (Ext.refl wr).alloc _
              have HG1 := Lib.hid (HG.out.mono XB)
              have BX := Bk.new wr 154 #[.slice x.A nx x.c, .int .i64 x.k]
              have f0 := HG1.out.arr.free (q * 2)
              have f1 := HG1.out.arr.free (q * 2 + 1)
              have hqn : q < n := by omega
              obtain ⟨u0, d0⟩ := Option.isSome_iff_exists.1 (HG1.out.arr.cells_past (j := q * 2) (by omega))
              obtain ⟨u1, d1⟩ := Option.isSome_iff_exists.1 (HG1.out.arr.cells_past (j := q * 2 + 1) (by omega))
              clear hA hxl e hnx
              rcases snoc_cases M with rfl | ⟨M, y, rfl⟩
              · have hq0 : q = 0 := HQ.out
                subst hq0
                have HK : Hid (mergeStep (([] : List Ct).map valC) (valC x) = ([] : List Ct).map valC ++ [valC x]) := Lib.hid rfl
                go_upto_region 26 with fail
                have X2 : Ext (wr.alloc (.cells #[.slice x.A nx x.c, .int .i64 x.k] 154)) (wr.alloc (.cells #[.slice x.A nx x.c, .int .i64 x.k] 154)).drew := (Ext.refl _).drew
                refine wp_region_ord [0,1,3,7,7,23,63,127,255,7,519,2047,4095,8191] (.flo [0,1,2,3,4,5,6,7,8,9,10] (.one 11 (.flo [12,13] (.fin)))) (by kernel_rfl) (by kernel_rfl) (by intro _ _ d _ _ h; cases d <;> exact h) ?_
                (refine ord_flo (pick_cons rfl (pick_cons rfl (pick_cons rfl (pick_cons rfl (pick_cons rfl (pick_cons rfl (pick_cons rfl (pick_cons rfl (pick_cons rfl (pick_cons rfl (pick_cons rfl pick_nil))))))))))) ?_; (repeat (go_big_quiet_step (fail))); refine wpQuiet_nil ?_; show ordWalk _ _ _ _ _ _ _)
                refine ord_one (pick_cons rfl pick_nil) ?_; intro K_ hK_
                go_wp2
                (refine ord_flo (pick_cons rfl (pick_cons rfl pick_nil)) ?_; (repeat (go_big_quiet_step (fail))); refine wpQuiet_nil ?_; show ordWalk _ _ _ _ _ _ _)
                refine ord_fin ?_
                have BX2 := BX.drew
                go_wp2
                go_roundg (m - (i + 1))
                case measure => omega
                case rel => exact ⟨i + 1, 1, T ++ [x], [x], (X ++ [x]).tail, R, rfl, by omega, by omega, rfl, by go_num, Lib.hid rfl, Lib.hid ((HG1.out.mono X2).keep HK.out rfl HNX.out)⟩
              · obtain ⟨p, hp⟩ : ∃ p, p = M.length := ⟨_, rfl⟩
                have hqp : q = p + 1 := by have := HQ.out; rw [List.length_append, List.length_singleton] at this; omega
                subst hqp
                have hy := HG1.out.arr.at (i := p) (by rw [hp]; simp)
                have ey : (M ++ [y] ++ (X ++ x :: R)).getD p Ct.zero = y := by rw [hp, List.append_assoc]; exact getD_mid M y _
                rw [ey] at hy
                obtain ⟨y0, y1⟩ := hy
                obtain ⟨ny, hny⟩ : ∃ ny, ny = y.l.length := ⟨_, rfl⟩
                rw [← hny] at y0
                have HNY := Lib.hid hny
                have HPL := Lib.hid hp
                have f3 := HG1.out.arr.free (p * 2 + 1)
                obtain ⟨v, hv⟩ : ∃ v, cmpR y.l x.l = v := ⟨_, rfl⟩
                have HV := Lib.hid hv
                have za : decide ((0 : Int) < (p : Int) + 1) = true := decide_eq_true (by omega)
                obtain ⟨wb, hwb⟩ : ∃ z, z = wr.alloc (.cells #[.slice x.A nx x.c, .int .i64 x.k] 154) := ⟨_, rfl⟩
                have hgb : w.heap.size + 1 < wb.heap.size := by rw [hwb]; exact HG1.out.gg.2.2
                go_upto_region 26 with fail
                rw [← hwb] at XB HG1 BX f0 f1 d0 d1 y0 y1 f3 ⊢
                clear ey hny hp hv hwb
                have X2 : Ext wb wb.drew := (Ext.refl wb).drew
                have HRY := Lib.hid ((HG1.out.rows y (by simp)).1.rw.ext X2)
                have HRX := Lib.hid ((HG1.out.rows x (by simp)).1.rw.ext X2)
                have Y0 : ∀ z : Xt wb.drew, z.W.cell? ⟨w.heap.size, p * 2, none⟩ = some (.slice y.A ny y.c) := fun z => (X2.trans z.x).cell y0
                have B0 : ∀ z : Xt wb.drew, z.W.cell? ⟨wr.heap.size, 0, none⟩ = some (.slice x.A nx x.c) := fun z => (X2.trans z.x).cell (BX.cell 0)
                by_cases hv0 : v = 0
                · subst hv0
                  refine wp_region_ord [0,1,3,7,7,23,63,127,255,7,519,2047,4095,8191] (.flo [0,1,2,3,4,5,6,7,8,9,10] (.one 11 (.flo [12,13] (.fin)))) (by kernel_rfl) (by kernel_rfl) (by intro _ _ d _ _ h; cases d <;> exact h) ?_
                  (refine ord_flo (pick_cons rfl (pick_cons rfl (pick_cons rfl (pick_cons rfl (pick_cons rfl (pick_cons rfl (pick_cons rfl (pick_cons rfl (pick_cons rfl (pick_cons rfl (pick_cons rfl pick_nil))))))))))) ?_; (repeat (go_big_quiet_step (fail))); refine wpQuiet_nil ?_; show ordWalk _ _ _ _ _ _ _)
                  refine ord_one (pick_cons rfl pick_nil) ?_; intro K_ hK_
                  go_wp2_with (go_at_call 164; refine (rowCmp_any y.A x.A y.c x.c ny nx y.l x.l _ HNY.out HNX.out HRY.out HRX.out).mono ?_; rintro e w1 ⟨rfl, x1⟩; rw [HV.out])
                  (refine ord_flo (pick_cons rfl (pick_cons rfl pick_nil)) ?_; (repeat (go_big_quiet_step (fail))); refine wpQuiet_nil ?_; show ordWalk _ _ _ _ _ _ _)
                  refine ord_fin ?_
                  have X3 := X2.trans x1
                  have HG2 := Lib.hid (HG1.out.mono X3)
                  have yk := X3.cell y1
                  have bk := X3.cell (BX.cell 1)
                  have f4 := HG2.out.arr.free (p * 2 + 1)
                  obtain ⟨s, hs⟩ : ∃ s, w64 (y.k + x.k) = s := ⟨_, rfl⟩
                  have hs2 : IntKind.i64.wrap (y.k + x.k) = s := hs
                  have HS := Lib.hid hs
                  have X4 : Ext w1 w1.drew := (Ext.refl w1).drew
                  have Y1 : ∀ z : Xt w1.drew, z.W.cell? ⟨w.heap.size, p * 2 + 1, none⟩ = some (.int .i64 y.k) := fun z => (X4.trans z.x).cell yk
                  have B1 : ∀ z : Xt w1.drew, z.W.cell? ⟨wr.heap.size, 1, none⟩ = some (.int .i64 x.k) := fun z => (X4.trans z.x).cell bk
                  clear hs
                  go_upto_region 27 with fail
                  refine wp_region_ord [0,0,2,7,15,31,0,64,255,511,1023,2047] (.flo [0,1,2,3,4,5,6,7,8,9,10] (.one 11 (.fin))) (by kernel_rfl) (by kernel_rfl) (by intro _ _ d _ _ h; cases d <;> exact h) ?_
                  (refine ord_flo (pick_cons rfl (pick_cons rfl (pick_cons rfl (pick_cons rfl (pick_cons rfl (pick_cons rfl (pick_cons rfl (pick_cons rfl (pick_cons rfl (pick_cons rfl (pick_cons rfl pick_nil))))))))))) ?_; (repeat (go_big_quiet_step (fail))); refine wpQuiet_nil ?_; show ordWalk _ _ _ _ _ _ _)
                  refine ord_one (pick_cons rfl pick_nil) ?_; intro K_ hK_
                  go_wp2
                  refine ord_fin ?_
                  go_wp2
                  go_roundg (m - (i + 1))
                  case measure => omega
                  case rel => exact ⟨i + 1, p + 1, T ++ [x], M ++ [(⟨y.A, y.c, y.l, s⟩ : Ct)], X ++ [x], R, rfl, by omega, by omega, by go_num, by go_num, Lib.hid (by rw [List.length_append, List.length_singleton, ← HPL.out]), Lib.hid ((HG2.out.mono X4).join HV.out HPL.out HS.out)⟩
                · have zv : (v == 0) = false := by simpa using hv0
                  have HK : Hid (mergeStep ((M ++ [y]).map valC) (valC x) = (M ++ [y]).map valC ++ [valC x]) := Lib.hid (by
                    rw [List.map_append, List.map_singleton, mergeStep_snoc, if_neg (show ¬ cmpV (valC y) (valC x) = 0 from fun q => hv0 (HV.out.symm.trans q))])
                  clear hv0
                  refine wp_region_ord [0,1,3,7,7,23,63,127,255,7,519,2047,4095,8191] (.flo [0,1,2,3,4,5,6,7,8,9,10] (.one 11 (.flo [12,13] (.fin)))) (by kernel_rfl) (by kernel_rfl) (by intro _ _ d _ _ h; cases d <;> exact h) ?_
                  (refine ord_flo (pick_cons rfl (pick_cons rfl (pick_cons rfl (pick_cons rfl (pick_cons rfl (pick_cons rfl (pick_cons rfl (pick_cons rfl (pick_cons rfl (pick_cons rfl (pick_cons rfl pick_nil))))))))))) ?_; (repeat (go_big_quiet_step (fail))); refine wpQuiet_nil ?_; show ordWalk _ _ _ _ _ _ _)
                  refine ord_one (pick_cons rfl pick_nil) ?_; intro K_ hK_
                  go_wp2_with (go_at_call 164; refine (rowCmp_any y.A x.A y.c x.c ny nx y.l x.l _ HNY.out HNX.out HRY.out HRX.out).mono ?_; rintro e w1 ⟨rfl, x1⟩; rw [HV.out])
                  (refine ord_flo (pick_cons rfl (pick_cons rfl pick_nil)) ?_; (repeat (go_big_quiet_step (fail))); refine wpQuiet_nil ?_; show ordWalk _ _ _ _ _ _ _)
                  refine ord_fin ?_
                  have X3 := X2.trans x1
                  have HG2 := Lib.hid (HG1.out.mono X3)
                  have b0 := X3.cell (BX.cell 0)
                  have b1 := X3.cell (BX.cell 1)
                  have g0 := HG2.out.arr.free ((p + 1) * 2)
                  have g1 := HG2.out.arr.free ((p + 1) * 2 + 1)
                  have e0 := X3.cell d0
                  have e1 := X3.cell d1
                  go_wp2
                  go_roundg (m - (i + 1))
                  case measure => omega
                  case rel => exact ⟨i + 1, p + 1 + 1, T ++ [x], M ++ [y] ++ [x], (X ++ [x]).tail, R, rfl, by omega, by omega, by go_num, by go_num, Lib.hid (by rw [List.length_append, List.length_singleton, ← HQ.out]), Lib.hid (HG2.out.keep HK.out HQ.out HNX.out)⟩
            · have hR : R = [] := List.eq_nil_of_length_eq_zero (by
                have h1 := HG.out.spl
                have h2 := HG.out.tl
                have h3 := HSL.out
                rw [h1, List.length_append, h2] at h3
                omega)
              subst hR
              have hqn : q ≤ n := by omega
              go_wp2_with (go_at_call 189; refine (deleteFunc_any w.heap.size w.heap.size n q M _ HQ.out HG.out.arr.prefix_).mono ?_; rintro e w2 ⟨mf, rfl, hmf, ar2, up2⟩; have HR2 := Lib.hid (fun c' hc => sum_res (c' := c') HE.out HINV.out HST.out HG.out ar2 up2 hmf hc); clear hmf ar2 up2)
              go_ret
              exact HR2.out n rfl
end Go.Proofs.YtdgbkpoickbidaaGreatDoor
