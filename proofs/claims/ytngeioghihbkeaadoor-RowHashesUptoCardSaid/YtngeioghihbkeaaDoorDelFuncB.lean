/- slices.DeleteFunc at rows with counts, by 'none of them': the walk. Conditions: the list lies in a block that may be written. -/
import Derived.Test.YtngeioghihbkeaaDoorDelFunc
namespace Go.Proofs.YtngeioghihbkeaaDoor
open Go.RowKit

/-- what is left behind: those that are some -/
def Deleted (B g c : Nat) (M : List Ct) (w : World) (e : Ending) (w' : World) : Prop := ∃ m, e = .returned (.slice (some ⟨g, 0, none⟩) m c) ∧ m = (M.filter nzC).length ∧ Arr w' B g c (M.filter nzC) ∧ w.grownBy w' (some g)
theorem zero_ct (w : World) : (zeroValue 32).run Tryd.prog w = .ok (.agg #[.slice none 0 0, .int .i64 0]) w := by kernel_rfl
/-- so far: K is kept, X is to be thrown away, R is to come -/
def DelIn (B g c : Nat) (M K X R : List Ct) (w wr : World) (j : Nat) : Prop := j = K.length + X.length ∧ M.filter nzC = K ++ R.filter nzC ∧ Arr wr B g c (K ++ (X ++ R)) ∧ w.grownBy wr (some g) ∧ 0 < X.length
theorem DelIn.mk' {B g c : Nat} {M K X R : List Ct} {w wr wz : World} {j : Nat} (h : DelIn B g c M K X R w wr j) (hz : Ext wr wz) : DelIn B g c M K X R w wz j := ⟨h.1, h.2.1, h.2.2.1.ext hz, h.2.2.2.1.trans (upd_ext hz g), h.2.2.2.2⟩
theorem DelIn.skip {B g c : Nat} {M K X R : List Ct} {x : Ct} {w wr wz : World} {j : Nat} (h : DelIn B g c M K X (x :: R) w wr j) (hx : nzC x = false) (hz : Ext wr wz) : DelIn B g c M K (X ++ [x]) R w wz (j + 1) := by
  obtain ⟨h1, h2, h3, h4, h5⟩ := h
  refine ⟨by rw [List.length_append, List.length_singleton]; omega, by rw [h2, List.filter_cons_of_neg (by simp [hx])], ?_, h4.trans (upd_ext hz g), by rw [List.length_append]; omega⟩
  have e : K ++ (X ++ [x] ++ R) = K ++ (X ++ x :: R) := by simp
  rw [e]
  exact h3.ext hz
theorem DelIn.keep {B g c i : Nat} {M K X R : List Ct} {x y : Ct} {w wr : World} {j : Nat} (h : DelIn B g c M K (y :: X) (x :: R) w wr j) (hx : nzC x = true) (hi : i = K.length) {n : Nat} (hn : n = x.l.length) :
    DelIn B g c M (K ++ [x]) (X ++ [x]) R w ((wr.setCell ⟨g, i * 2, none⟩ (.slice x.A n x.c)).setCell ⟨g, i * 2 + 1, none⟩ (.int .i64 x.k)) (j + 1) := by
  subst hi hn
  obtain ⟨h1, h2, h3, h4, h5⟩ := h
  refine ⟨by simp only [List.length_append, List.length_cons, List.length_nil] at h1 ⊢; omega, by rw [h2, List.filter_cons_of_pos hx]; simp, ?_, h4.trans ((upd_set wr g _ _).trans (upd_set _ g _ _)), by rw [List.length_append, List.length_singleton]; omega⟩
  have h6 := h3.set K.length x
  have e : (K ++ (y :: X ++ x :: R)).set K.length x = K ++ [x] ++ (X ++ [x] ++ R) := by
    rw [List.cons_append, set_mid]
    simp
  rw [e] at h6
  exact h6
set_option maxRecDepth 100000 in
set_option maxHeartbeats 4000000 in
theorem deleteFunc_any (B g c n : Nat) (M : List Ct) (w : World) (hn : n = M.length) (h : Arr w B g c M) :
    Calls Tryd.prog 60 #[.slice (some ⟨g, 0, none⟩) n c, .func (.func 61) #[] #[]] w (Deleted B g c M w) := by
  by_cases hall : ∀ x ∈ M, (x.k == 0) = false
  · have hf : M.filter nzC = M := List.filter_eq_self.2 fun x hx => by unfold nzC; rw [hall x hx]; rfl
    have H := Lib.hid h
    have HN := Lib.hid hn
    have HF := Lib.hid hf
    clear h hn hf
    go_enter Tryd.func60, Tryd.ntmps60
    go_wp2_with (go_at_call 98; refine (index_none B g c n M _ HN.out H.out hall).mono ?_; rintro e w1 ⟨rfl, x1⟩)
    go_ret
    exact ⟨n, rfl, by rw [HF.out]; exact HN.out, by rw [HF.out]; exact H.out.ext x1, upd_ext x1 g⟩
  · obtain ⟨P, x, Q, rfl, hP, hx⟩ : ∃ P x Q, M = P ++ x :: Q ∧ (∀ y ∈ P, (y.k == 0) = false) ∧ (x.k == 0) = true := by
      clear h hn
      induction M with
      | nil => exact absurd (fun x hx => (nomatch hx)) hall
      | cons y M ih =>
        by_cases hy : (y.k == 0) = true
        · exact ⟨[], y, M, rfl, fun z hz => (nomatch hz), hy⟩
        · have hy' : (y.k == 0) = false := by simpa using hy
          obtain ⟨P, x, Q, e, h1, h2⟩ := ih (fun q => hall fun z hz => (List.mem_cons.1 hz).elim (fun e => e ▸ hy') (q z))
          exact ⟨y :: P, x, Q, by rw [e]; rfl, fun z hz => (List.mem_cons.1 hz).elim (fun e => e ▸ hy') (h1 z), h2⟩
    clear hall
    obtain ⟨M, hM⟩ : ∃ M, M = P ++ x :: Q := ⟨_, rfl⟩
    obtain ⟨q, hq⟩ : ∃ q, q = P.length := ⟨_, rfl⟩
    have hnm := h.le
    rw [← hn] at hnm
    have hqn : q < n := by rw [hn, hq, List.length_append, List.length_cons]; omega
    have hncap : n ≤ c := by rw [hn]; exact h.1.le.1
    have hc63 : c ≤ 9223372036854775807 := h.1.le.2
    have hf1 : P.filter nzC = P := List.filter_eq_self.2 fun y hy => by unfold nzC; rw [hP y hy]; rfl
    have H := Lib.hid h
    have HN := Lib.hid hn
    have HQ := Lib.hid hq
    have HP := Lib.hid hP
    have HX := Lib.hid hx
    have HLen : Hid (n = q + 1 + Q.length) := Lib.hid (by rw [hn, hq, List.length_append, List.length_cons]; omega)
    have HD : ∀ w1, Ext w w1 → Hid (DelIn B g c M P [x] Q w w1 (q + 1)) := fun w1 x1 => Lib.hid ⟨by rw [hq]; rfl, by rw [hM, List.filter_append, hf1, List.filter_cons_of_neg (by unfold nzC; rw [hx]; decide)], h.ext x1, upd_ext x1 g, Nat.zero_lt_one⟩
    have HDD := Lib.hid HD
    rw [← hM]
    clear h hn hq hP hx hf1 hM HD
    go_enter Tryd.func60, Tryd.ntmps60
    go_wp2_with (go_at_call 98; refine (index_some B g c n q P Q x _ HN.out HQ.out H.out HP.out HX.out).mono ?_; rintro e w1 ⟨rfl, x1⟩)
    go_loopg [5, 6] (n - (q + 1)) (fun z u v wr => ∃ (i j : Nat) (K X R : List Ct), z = n - j ∧ j ≤ n ∧ i ≤ j ∧ u = .int .i64 i ∧ v = .int .i64 j ∧ Hid (i = K.length ∧ n = j + R.length) ∧ Hid (DelIn B g c M K X R w wr j))
    case atStart => exact ⟨q, q + 1, P, [x], Q, rfl, by omega, by omega, rfl, by simp, Lib.hid ⟨HQ.out, HLen.out⟩, HDD.out w1 x1⟩
    case round =>
      obtain ⟨i, j, K, X, R, rfl, hj, hij, rfl, rfl, HI, HJ⟩ := hrel
      obtain ⟨wi, hwi⟩ : ∃ wi : World, wi = wr := ⟨_, rfl⟩
      rw [← hwi] at HJ ⊢
      clear hwi
      by_cases hlt : j < n
      · obtain ⟨y, R, rfl⟩ : ∃ y R', R = y :: R' := by
          cases R with
          | nil => have := HI.out.2; rw [List.length_nil] at this; omega
          | cons y R => exact ⟨y, R, rfl⟩
        obtain ⟨x0, X, rfl⟩ : ∃ x0 X', X = x0 :: X' := by
          cases X with
          | nil => have := HJ.out.2.2.2.2; exact absurd this (by decide)
          | cons x0 X => exact ⟨x0, X, rfl⟩
        have hA := HJ.out.2.2.1
        have hjl : j < (K ++ (x0 :: X ++ y :: R)).length := by have := HJ.out.1; simp only [List.length_append, List.length_cons] at this ⊢; omega
        obtain ⟨p0, p1⟩ := hA.at hjl
        have e : (K ++ (x0 :: X ++ y :: R)).getD j Ct.zero = y := by
          rw [← List.append_assoc, show j = (K ++ x0 :: X).length by rw [List.length_append]; exact HJ.out.1]
          exact getD_mid _ y R
        rw [e] at p0 p1
        have f0 := hA.free (i * 2)
        have f1 := hA.free (i * 2 + 1)
        have c0 : ∃ u, wi.cell? ⟨g, i * 2, none⟩ = some u := Option.isSome_iff_exists.1 (hA.cells_past (by omega))
        have c1 : ∃ u, wi.cell? ⟨g, i * 2 + 1, none⟩ = some u := Option.isSome_iff_exists.1 (hA.cells_past (by omega))
        obtain ⟨u0, c0⟩ := c0
        obtain ⟨u1, c1⟩ := c1
        have HA := Lib.hid hA
        obtain ⟨ny, hny⟩ : ∃ ny, ny = y.l.length := ⟨_, rfl⟩
        rw [← hny] at p0
        have HNY := Lib.hid hny
        obtain ⟨v, hv⟩ : ∃ v, (y.k == 0) = v := ⟨_, rfl⟩
        have HV := Lib.hid hv
        clear hA hjl e hny hv
        cases v
        · have hx : Hid (nzC y = true) := Lib.hid (by unfold nzC; rw [HV.out]; rfl)
          go_wp2_with (go_at_call 61; refine (sum2_any _ _ _ _ _ _ HV).mono ?_; rintro e w2 ⟨rfl, x2⟩; have X2 := ((Ext.refl wi).alloc (.cells #[.slice y.A ny y.c, .int .i64 y.k] 32)).trans x2; have B2 := (Bk.new wi 32 #[.slice y.A ny y.c, .int .i64 y.k]).ext x2; have b0 := B2.cell 0; have b1 := B2.cell 1; have HA2 := Lib.hid (HA.out.ext X2); have g0 := HA2.out.free (i * 2); have g1 := HA2.out.free (i * 2 + 1); have d0 := X2.cell c0; have d1 := X2.cell c1)
          go_roundg (n - (j + 1))
          case measure => omega
          case rel => exact ⟨i + 1, j + 1, K ++ [y], X ++ [y], R, rfl, by omega, by omega, by go_num, by go_num, Lib.hid ⟨by rw [List.length_append, List.length_singleton, ← HI.out.1], by have := HI.out.2; rw [List.length_cons] at this; omega⟩, Lib.hid ((DelIn.mk' HJ.out X2).keep hx.out HI.out.1 HNY.out)⟩
        · have hx : Hid (nzC y = false) := Lib.hid (by unfold nzC; rw [HV.out]; rfl)
          go_wp2_with (go_at_call 61; refine (sum2_any _ _ _ _ _ _ HV).mono ?_; rintro e w2 ⟨rfl, x2⟩; have X2 := ((Ext.refl wi).alloc (.cells #[.slice y.A ny y.c, .int .i64 y.k] 32)).trans x2)
          go_roundg (n - (j + 1))
          case measure => omega
          case rel => exact ⟨i, j + 1, K, x0 :: X ++ [y], R, rfl, by omega, by omega, rfl, by go_num, Lib.hid ⟨HI.out.1, by have := HI.out.2; rw [List.length_cons] at this; omega⟩, Lib.hid (HJ.out.skip hx.out X2)⟩
      · obtain rfl : j = n := by omega
        have hR : R = [] := List.eq_nil_of_length_eq_zero (by have := HI.out.2; omega)
        subst hR
        have hA := HJ.out.2.2.1
        have hin : i < j := by have h1 := HJ.out.1; have h2 := HI.out.1; have h3 := HJ.out.2.2.2.2; omega
        have hcap : j - i ≤ c - i := by omega
        have hci : ¬ (c = i) := by omega
        have hcl : ∃ vs, ∀ ty, (Builtin.clear_ #[27] ty #[.slice (some ⟨g, i * 2, none⟩) (j - i) (c - i)]).run Tryd.prog wi = .ok (.tuple #[]) (wi.setCells g (i * 2) vs) :=
          ⟨_, fun ty => (run_clear2 (P := Tryd.prog) wi 27 32 ty (.slice none 0 0) (.int .i64 0) Tryd.underlying27 zero_ct rfl rfl rfl g (i * 2) (j - i) (c - i) (by omega) (fun t ht => hA.cells_past (by omega)) (fun t ht => hA.free _))⟩
        obtain ⟨vs, hcl⟩ := hcl
        have HA := Lib.hid hA
        have HF : Hid (M.filter nzC = K) := Lib.hid (by have := HJ.out.2.1; rwa [List.filter_nil, List.append_nil] at this)
        have HG := Lib.hid HJ.out.2.2.2.1
        have HK := Lib.hid HI.out.1
        clear hA HJ HI
        go_wp2
        go_ret
        refine ⟨i, rfl, by rw [HF.out]; exact HK.out, ?_, HG.out.trans (upd_sets g vs wi _)⟩
        rw [HF.out]
        have hp := HA.out.prefix_
        exact ⟨own_sets_past vs wi _ hp.1 (by rw [ctsC_len, HK.out]; exact Nat.le_refl _), hp.2⟩
end Go.Proofs.YtngeioghihbkeaaDoor
