/- slices.IndexFunc, DeleteFunc at rows with counts, by 'none of them'. slices.DeleteFunc at rows with counts, by 'none of them': the walk. Conditions: each theorem states its own. -/
import Derived.Test.YtngeioghihbkeaaDoorInsS
import Derived.Lib.SliceRun
namespace Go.Proofs.YtngeioghihbkeaaDoor
open Go.RowKit

def nzC (x : Ct) : Bool := !(x.k == 0)
set_option maxRecDepth 100000 in
set_option maxHeartbeats 400000 in
theorem sum2_any (A : Option Addr) (c n : Nat) (k : Int) (v : Bool) (w : World) (hv : Hid ((k == 0) = v)) :
    Calls Tryd.prog 61 #[.agg #[.slice A n c, .int .i64 k]] w fun e w' => e = .returned (.bool v) ∧ Ext w w' := by
  rw [← hv.out]
  clear hv
  go_enter Tryd.func61, Tryd.ntmps61
  go_wp2
  go_ret
  exact ⟨rfl, (Ext.refl w).alloc _⟩
set_option maxRecDepth 100000 in
set_option maxHeartbeats 2000000 in
theorem index_none (B g c n : Nat) (M : List Ct) (w : World) (hn : n = M.length) (h : Arr w B g c M) (hz : ∀ x ∈ M, (x.k == 0) = false) :
    Calls Tryd.prog 98 #[.slice (some ⟨g, 0, none⟩) n c, .func (.func 61) #[] #[]] w fun e w' => e = .returned (.int .i64 (-1)) ∧ Ext w w' := by
  have hnm := h.le
  rw [← hn] at hnm
  have H := Lib.hid h
  have HN := Lib.hid hn
  have HZ := Lib.hid hz
  clear h hn hz
  go_enter Tryd.func98, Tryd.ntmps98
  go_wp2
  go_loopw [8] (fun v wr => ∃ i : Nat, i ≤ n ∧ v = .int .i64 i ∧ Ext w wr) (fun v _ => n - (intOf v).toNat)
  case atStart => exact ⟨0, Nat.zero_le _, rfl, Ext.refl _⟩
  case round =>
    obtain ⟨i, hi, rfl, er⟩ := hrel
    by_cases hlt : i < n
    · have hil : i < M.length := by rw [← HN.out]; exact hlt
      obtain ⟨p0, p1⟩ := (H.out.ext er).at hil
      have hk : ((M.getD i Ct.zero).k == 0) = false := by
        rw [List.getD_eq_getElem?_getD, List.getElem?_eq_getElem hil]
        exact HZ.out _ (List.getElem_mem hil)
      obtain ⟨x, hx⟩ : ∃ x, M.getD i Ct.zero = x := ⟨_, rfl⟩
      rw [hx] at p0 p1 hk
      have HK := Lib.hid hk
      clear hil hx hk
      go_wp2_with (go_at_call 61; refine (sum2_any _ _ _ _ _ _ HK).mono ?_; rintro e w1 ⟨rfl, x1⟩)
      go_roundw
      case rel => exact ⟨i + 1, by omega, by go_num, er.trans x1⟩
      case measure => simp [intOf]; omega
    · go_wp2
      go_ret
      exact ⟨rfl, er⟩
set_option maxRecDepth 100000 in
set_option maxHeartbeats 2000000 in
theorem index_some (B g c n q : Nat) (P Q : List Ct) (x : Ct) (w : World) (hn : n = (P ++ x :: Q).length) (hq : q = P.length) (h : Arr w B g c (P ++ x :: Q)) (hz : ∀ x ∈ P, (x.k == 0) = false) (hx : (x.k == 0) = true) :
    Calls Tryd.prog 98 #[.slice (some ⟨g, 0, none⟩) n c, .func (.func 61) #[] #[]] w fun e w' => e = .returned (.int .i64 q) ∧ Ext w w' := by
  have hnm := h.le
  rw [← hn] at hnm
  have hqn : q < n := by rw [hn, List.length_append, List.length_cons]; omega
  have H := Lib.hid h
  have HQ := Lib.hid hq
  have HZ := Lib.hid hz
  have HX := Lib.hid hx
  clear h hn hz hq hx
  go_enter Tryd.func98, Tryd.ntmps98
  go_wp2
  go_loopw [8] (fun v wr => ∃ i : Nat, i ≤ q ∧ v = .int .i64 i ∧ Ext w wr) (fun v _ => n - (intOf v).toNat)
  case atStart => exact ⟨0, Nat.zero_le _, rfl, Ext.refl _⟩
  case round =>
    obtain ⟨i, hi, rfl, er⟩ := hrel
    have hlt : i < n := by omega
    have hil : i < (P ++ x :: Q).length := by rw [List.length_append, List.length_cons, ← HQ.out]; omega
    obtain ⟨p0, p1⟩ := (H.out.ext er).at hil
    by_cases hiq : i < q
    · have hk : (((P ++ x :: Q).getD i Ct.zero).k == 0) = false := by
        have hp : i < P.length := by rw [← HQ.out]; exact hiq
        rw [List.getD_eq_getElem?_getD, List.getElem?_append_left hp, List.getElem?_eq_getElem hp]
        exact HZ.out _ (List.getElem_mem hp)
      obtain ⟨y, hy⟩ : ∃ y, (P ++ x :: Q).getD i Ct.zero = y := ⟨_, rfl⟩
      rw [hy] at p0 p1 hk
      have HK := Lib.hid hk
      clear hil hy hk
      go_wp2_with (go_at_call 61; refine (sum2_any _ _ _ _ _ _ HK).mono ?_; rintro e w1 ⟨rfl, x1⟩)
      go_roundw
      case rel => exact ⟨i + 1, by omega, by go_num, er.trans x1⟩
      case measure => simp [intOf]; omega
    · have hiq2 : i = q := by omega
      subst hiq2
      have e : (P ++ x :: Q).getD i Ct.zero = x := by rw [HQ.out]; exact getD_mid P x Q
      rw [e] at p0 p1
      clear hil e
      go_wp2_with (go_at_call 61; refine (sum2_any _ _ _ _ _ _ HX).mono ?_; rintro e w1 ⟨rfl, x1⟩)
      go_ret
      exact ⟨rfl, er.trans x1⟩
theorem own_set_past {w : World} {B g n c k : Nat} {xs : List Value} (h : Own w B 32 2 (some ⟨g, 0, none⟩) n c xs) (hk : xs.length ≤ k) (u : Value) : Own (w.setCell ⟨g, k, none⟩ u) B 32 2 (some ⟨g, 0, none⟩) n c xs := by
  have := h.put k u
  rwa [List.set_eq_of_length_le hk] at this
theorem own_sets_past {B g n c : Nat} {xs : List Value} : ∀ (vs : List Value) (w : World) (k : Nat), Own w B 32 2 (some ⟨g, 0, none⟩) n c xs → xs.length ≤ k → Own (w.setCells g k vs) B 32 2 (some ⟨g, 0, none⟩) n c xs
  | [], _, _, h, _ => h
  | v :: vs, w, k, h, hk => own_sets_past vs _ (k + 1) (own_set_past h hk v) (by omega)
theorem upd_sets (g : Nat) : ∀ (vs : List Value) (w : World) (k : Nat), w.grownBy (w.setCells g k vs) (some g)
  | [], w, _ => World.grownBy.refl w _
  | v :: vs, w, k => (upd_set w g k v).trans (upd_sets g vs _ (k + 1))
theorem Arr.prefix_ {w : World} {B g c : Nat} {K X : List Ct} (h : Arr w B g c (K ++ X)) : Arr w B g c K := by
  refine ⟨⟨ctsC_len K, ?_⟩, h.2⟩
  rcases h.1.2 with ⟨h1, h2⟩ | ⟨g', cur, e, hb, hg, hnc, hcm, hcs, htake⟩
  · exact .inl ⟨h1, by rw [List.length_append] at h2; omega⟩
  · refine .inr ⟨g', cur, e, hb, hg, by rw [List.length_append] at hnc; omega, hcm, hcs, ?_⟩
    have : (cur.toList.take ((K ++ X).length * 2)).take (K.length * 2) = (ctsC (K ++ X)).take (K.length * 2) := by rw [htake]
    rw [List.take_take, Nat.min_eq_left (by rw [List.length_append]; omega), ctsC_append] at this
    rw [this, ← ctsC_len K, List.take_left]
theorem Arr.cells_past {w : World} {B g c : Nat} {K : List Ct} (h : Arr w B g c K) {j : Nat} (hj : j < c * 2) : (w.cell? ⟨g, j, none⟩).isSome = true := by
  rcases h.1.2 with ⟨h1, _⟩ | ⟨g', cur, e, hb, hg, hnc, hcm, hcs, htake⟩
  · have := h.2; omega
  · cases e
    rw [cell_of_row w g j cur _ (0, 0) hg, Array.getElem?_eq_getElem (by rw [hcs]; exact hj)]
    rfl
theorem run_clear2 {P : Program} (w : World) (t e ty : TypeId) (z0 z1 : Value) (ht : P.underlying t = some (.slice e)) (hv : ∀ w, (zeroValue e).run P w = .ok (.agg #[z0, z1]) w) (hz0 : z0.oneCell' = true) (hz1 : z1.oneCell' = true) (hzc : (Value.agg #[z0, z1]).cells = #[z0, z1]) (b o n c : Nat) (hn : 0 < n)
    (hc : ∀ j, j < n * 2 → (w.cell? ⟨b, o + j, none⟩).isSome = true) (hf : ∀ j, j < n * 2 → w.frozen? ⟨b, o + j, none⟩ = false) :
    (Builtin.clear_ #[t] ty #[.slice (some ⟨b, o, none⟩) n c]).run P w = .ok (.tuple #[]) (w.setCells b o (Builtin.zeroCells #[z0, z1] n).toList) := by
  have hlen : (Builtin.zeroCells #[z0, z1] n).toList.length = n * 2 := by
    have := size_zeroCells #[z0, z1] n
    rw [Array.length_toList, this]
    rfl
  have hall : ∀ v ∈ (Builtin.zeroCells #[z0, z1] n).toList, v.oneCell' = true := by
    intro v hv'
    unfold Builtin.zeroCells at hv'
    rw [Array.toList_map] at hv'
    obtain ⟨i, _, rfl⟩ := List.mem_map.1 hv'
    show (#[z0, z1][i % 2]!).oneCell' = true
    rcases (by omega : i % 2 = 0 ∨ i % 2 = 1) with h | h
    · rw [h]; exact hz0
    · rw [h]; exact hz1
  have hst := run_storeCells_cells (P := P) b o (Builtin.zeroCells #[z0, z1] n).toList 0 w (by simpa [hlen] using hc) (by simpa [hlen] using hf) hall
  simp only [Nat.add_zero] at hst
  obtain ⟨m, rfl⟩ : ∃ m, n = m + 1 := ⟨n - 1, by omega⟩
  simp [Builtin.clear_, run_underlying ht, hv, hzc, hst]
end Go.Proofs.YtngeioghihbkeaaDoor
namespace Go.Proofs.YtngeioghihbkeaaDoor
open Go.RowKit

/-- what is left behind: those that are some -/
def Deleted (B g c : Nat) (M : List Ct) (w : World) (e : Ending) (w' : World) : Prop := ∃ m, e = .returned (.slice (some ⟨g, 0, none⟩) m c) ∧ m = (M.filter nzC).length ∧ Arr w' B g c (M.filter nzC) ∧ w.grownBy w' (some g)
theorem zero_ct (w : World) : (zeroValue 32).run Tryd.prog w = .ok (.agg #[.slice none 0 0, .int .i64 0]) w := by kernel_rfl
/-- so far: K is kept, X is to be thrown away, R is to come -/
def DelIn (B g c : Nat) (M K X R : List Ct) (w wr : World) (j : Nat) : Prop := j = K.length + X.length ∧ M.filter nzC = K ++ R.filter nzC ∧ Arr wr B g c (K ++ (X ++ R)) ∧ w.grownBy wr (some g) ∧ 0 < X.length
theorem DelIn.mk' {B g c : Nat} {M K X R : List Ct} {w wr wz : World} {j : Nat} (h : DelIn B g c M K X R w wr j) (hz : Ext wr wz) : DelIn B g c M K X R w wz j := ⟨h.1, h.2.1, h.2.2.1.ext hz, h.2.2.2.1.trans (upd_ext hz g), h.2.2.2.2⟩
theorem DelIn.skip {B g c : Nat} {M K X R : List Ct} {x : Ct} {w wr wz : World} {j : Nat} (h : DelIn B g c M K X (x :: R) w wr j) (hx : nzC x = false) (hz : Ext wr wz) : DelIn B g c M K (X ++ [x]) R w wz (j + 1) := by
  obtain ⟨h1, h2, h3, h4, h5⟩ := h
  refine ⟨by rw [List.length_append, List.length_singleton]; omega, by rw [h2, List.filter_cons_of_neg (by simp [hx])], ?_, h4.trans (upd_ext hz g), by rw [List.length_append]; omega⟩
  have e : K ++ (X ++ [x] ++ R) = K ++ (X ++ x :: R) := by simp
  rw [e]
  exact h3.ext hz
theorem DelIn.keep {B g c i : Nat} {M K X R : List Ct} {x y : Ct} {w wr : World} {j : Nat} (h : DelIn B g c M K (y :: X) (x :: R) w wr j) (hx : nzC x = true) (hi : i = K.length) {n : Nat} (hn : n = x.l.length) :
    DelIn B g c M (K ++ [x]) (X ++ [x]) R w ((wr.setCell ⟨g, i * 2, none⟩ (.slice x.A n x.c)).setCell ⟨g, i * 2 + 1, none⟩ (.int .i64 x.k)) (j + 1) := by
  subst hi hn
  obtain ⟨h1, h2, h3, h4, h5⟩ := h
  refine ⟨by simp only [List.length_append, List.length_cons, List.length_nil] at h1 ⊢; omega, by rw [h2, List.filter_cons_of_pos hx]; simp, ?_, h4.trans ((upd_set wr g _ _).trans (upd_set _ g _ _)), by rw [List.length_append, List.length_singleton]; omega⟩
  have h6 := h3.set K.length x
  have e : (K ++ (y :: X ++ x :: R)).set K.length x = K ++ [x] ++ (X ++ [x] ++ R) := by
    rw [List.cons_append, set_mid]
    simp
  rw [e] at h6
  exact h6
set_option maxRecDepth 100000 in
set_option maxHeartbeats 4000000 in
theorem deleteFunc_any (B g c n : Nat) (M : List Ct) (w : World) (hn : n = M.length) (h : Arr w B g c M) :
    Calls Tryd.prog 60 #[.slice (some ⟨g, 0, none⟩) n c, .func (.func 61) #[] #[]] w (Deleted B g c M w) := by
  by_cases hall : ∀ x ∈ M, (x.k == 0) = false
  · have hf : M.filter nzC = M := List.filter_eq_self.2 fun x hx => by unfold nzC; rw [hall x hx]; rfl
    have H := Lib.hid h
    have HN := Lib.hid hn
    have HF := Lib.hid hf
    clear h hn hf
    go_enter Tryd.func60, Tryd.ntmps60
    go_wp2_with (go_at_call 98; refine (index_none B g c n M _ HN.out H.out hall).mono ?_; rintro e w1 ⟨rfl, x1⟩)
    go_ret
    exact ⟨n, rfl, by rw [HF.out]; exact HN.out, by rw [HF.out]; exact H.out.ext x1, upd_ext x1 g⟩
  · obtain ⟨P, x, Q, rfl, hP, hx⟩ : ∃ P x Q, M = P ++ x :: Q ∧ (∀ y ∈ P, (y.k == 0) = false) ∧ (x.k == 0) = true := by
      clear h hn
      induction M with
      | nil => exact absurd (fun x hx => (nomatch hx)) hall
      | cons y M ih =>
        by_cases hy : (y.k == 0) = true
        · exact ⟨[], y, M, rfl, fun z hz => (nomatch hz), hy⟩
        · have hy' : (y.k == 0) = false := by simpa using hy
          obtain ⟨P, x, Q, e, h1, h2⟩ := ih (fun q => hall fun z hz => (List.mem_cons.1 hz).elim (fun e => e ▸ hy') (q z))
          exact ⟨y :: P, x, Q, by rw [e]; rfl, fun z hz => (List.mem_cons.1 hz).elim (fun e => e ▸ hy') (h1 z), h2⟩
    clear hall
    obtain ⟨M, hM⟩ : ∃ M, M = P ++ x :: Q := ⟨_, rfl⟩
    obtain ⟨q, hq⟩ : ∃ q, q = P.length := ⟨_, rfl⟩
    have hnm := h.le
    rw [← hn] at hnm
    have hqn : q < n := by rw [hn, hq, List.length_append, List.length_cons]; omega
    have hncap : n ≤ c := by rw [hn]; exact h.1.le.1
    have hc63 : c ≤ 9223372036854775807 := h.1.le.2
    have hf1 : P.filter nzC = P := List.filter_eq_self.2 fun y hy => by unfold nzC; rw [hP y hy]; rfl
    have H := Lib.hid h
    have HN := Lib.hid hn
    have HQ := Lib.hid hq
    have HP := Lib.hid hP
    have HX := Lib.hid hx
    have HLen : Hid (n = q + 1 + Q.length) := Lib.hid (by rw [hn, hq, List.length_append, List.length_cons]; omega)
    have HD : ∀ w1, Ext w w1 → Hid (DelIn B g c M P [x] Q w w1 (q + 1)) := fun w1 x1 => Lib.hid ⟨by rw [hq]; rfl, by rw [hM, List.filter_append, hf1, List.filter_cons_of_neg (by unfold nzC; rw [hx]; decide)], h.ext x1, upd_ext x1 g, Nat.zero_lt_one⟩
    have HDD := Lib.hid HD
    rw [← hM]
    clear h hn hq hP hx hf1 hM HD
    go_enter Tryd.func60, Tryd.ntmps60
    go_wp2_with (go_at_call 98; refine (index_some B g c n q P Q x _ HN.out HQ.out H.out HP.out HX.out).mono ?_; rintro e w1 ⟨rfl, x1⟩)
    go_loopg [5, 6] (n - (q + 1)) (fun z u v wr => ∃ (i j : Nat) (K X R : List Ct), z = n - j ∧ j ≤ n ∧ i ≤ j ∧ u = .int .i64 i ∧ v = .int .i64 j ∧ Hid (i = K.length ∧ n = j + R.length) ∧ Hid (DelIn B g c M K X R w wr j))
    case atStart => exact ⟨q, q + 1, P, [x], Q, rfl, by omega, by omega, rfl, by simp, Lib.hid ⟨HQ.out, HLen.out⟩, HDD.out w1 x1⟩
    case round =>
      obtain ⟨i, j, K, X, R, rfl, hj, hij, rfl, rfl, HI, HJ⟩ := hrel
      obtain ⟨wi, hwi⟩ : ∃ wi : World, wi = wr := ⟨_, rfl⟩
      rw [← hwi] at HJ ⊢
      clear hwi
      by_cases hlt : j < n
      · obtain ⟨y, R, rfl⟩ : ∃ y R', R = y :: R' := by
          cases R with
          | nil => have := HI.out.2; rw [List.length_nil] at this; omega
          | cons y R => exact ⟨y, R, rfl⟩
        obtain ⟨x0, X, rfl⟩ : ∃ x0 X', X = x0 :: X' := by
          cases X with
          | nil => have := HJ.out.2.2.2.2; exact absurd this (by decide)
          | cons x0 X => exact ⟨x0, X, rfl⟩
        have hA := HJ.out.2.2.1
        have hjl : j < (K ++ (x0 :: X ++ y :: R)).length := by have := HJ.out.1; simp only [List.length_append, List.length_cons] at this ⊢; omega
        obtain ⟨p0, p1⟩ := hA.at hjl
        have e : (K ++ (x0 :: X ++ y :: R)).getD j Ct.zero = y := by
          rw [← List.append_assoc, show j = (K ++ x0 :: X).length by rw [List.length_append]; exact HJ.out.1]
          exact getD_mid _ y R
        rw [e] at p0 p1
        have f0 := hA.free (i * 2)
        have f1 := hA.free (i * 2 + 1)
        have c0 : ∃ u, wi.cell? ⟨g, i * 2, none⟩ = some u := Option.isSome_iff_exists.1 (hA.cells_past (by omega))
        have c1 : ∃ u, wi.cell? ⟨g, i * 2 + 1, none⟩ = some u := Option.isSome_iff_exists.1 (hA.cells_past (by omega))
        obtain ⟨u0, c0⟩ := c0
        obtain ⟨u1, c1⟩ := c1
        have HA := Lib.hid hA
        obtain ⟨ny, hny⟩ : ∃ ny, ny = y.l.length := ⟨_, rfl⟩
        rw [← hny] at p0
        have HNY := Lib.hid hny
        obtain ⟨v, hv⟩ : ∃ v, (y.k == 0) = v := ⟨_, rfl⟩
        have HV := Lib.hid hv
        clear hA hjl e hny hv
        cases v
        · have hx : Hid (nzC y = true) := Lib.hid (by unfold nzC; rw [HV.out]; rfl)
          go_wp2_with (go_at_call 61; refine (sum2_any _ _ _ _ _ _ HV).mono ?_; rintro e w2 ⟨rfl, x2⟩; have X2 := ((Ext.refl wi).alloc (.cells #[.slice y.A ny y.c, .int .i64 y.k] 32)).trans x2; have B2 := (Bk.new wi 32 #[.slice y.A ny y.c, .int .i64 y.k]).ext x2; have b0 := B2.cell 0; have b1 := B2.cell 1; have HA2 := Lib.hid (HA.out.ext X2); have g0 := HA2.out.free (i * 2); have g1 := HA2.out.free (i * 2 + 1); have d0 := X2.cell c0; have d1 := X2.cell c1)
          go_roundg (n - (j + 1))
          case measure => omega
          case rel => exact ⟨i + 1, j + 1, K ++ [y], X ++ [y], R, rfl, by omega, by omega, by go_num, by go_num, Lib.hid ⟨by rw [List.length_append, List.length_singleton, ← HI.out.1], by have := HI.out.2; rw [List.length_cons] at this; omega⟩, Lib.hid ((DelIn.mk' HJ.out X2).keep hx.out HI.out.1 HNY.out)⟩
        · have hx : Hid (nzC y = false) := Lib.hid (by unfold nzC; rw [HV.out]; rfl)
          go_wp2_with (go_at_call 61; refine (sum2_any _ _ _ _ _ _ HV).mono ?_; rintro e w2 ⟨rfl, x2⟩; have X2 := ((Ext.refl wi).alloc (.cells #[.slice y.A ny y.c, .int .i64 y.k] 32)).trans x2)
          go_roundg (n - (j + 1))
          case measure => omega
          case rel => exact ⟨i, j + 1, K, x0 :: X ++ [y], R, rfl, by omega, by omega, rfl, by go_num, Lib.hid ⟨HI.out.1, by have := HI.out.2; rw [List.length_cons] at this; omega⟩, Lib.hid (HJ.out.skip hx.out X2)⟩
      · obtain rfl : j = n := by omega
        have hR : R = [] := List.eq_nil_of_length_eq_zero (by have := HI.out.2; omega)
        subst hR
        have hA := HJ.out.2.2.1
        have hin : i < j := by have h1 := HJ.out.1; have h2 := HI.out.1; have h3 := HJ.out.2.2.2.2; omega
        have hcap : j - i ≤ c - i := by omega
        have hci : ¬ (c = i) := by omega
        have hcl : ∃ vs, ∀ ty, (Builtin.clear_ #[27] ty #[.slice (some ⟨g, i * 2, none⟩) (j - i) (c - i)]).run Tryd.prog wi = .ok (.tuple #[]) (wi.setCells g (i * 2) vs) :=
          ⟨_, fun ty => (run_clear2 (P := Tryd.prog) wi 27 32 ty (.slice none 0 0) (.int .i64 0) Tryd.underlying27 zero_ct rfl rfl rfl g (i * 2) (j - i) (c - i) (by omega) (fun t ht => hA.cells_past (by omega)) (fun t ht => hA.free _))⟩
        obtain ⟨vs, hcl⟩ := hcl
        have HA := Lib.hid hA
        have HF : Hid (M.filter nzC = K) := Lib.hid (by have := HJ.out.2.1; rwa [List.filter_nil, List.append_nil] at this)
        have HG := Lib.hid HJ.out.2.2.2.1
        have HK := Lib.hid HI.out.1
        clear hA HJ HI
        go_wp2
        go_ret
        refine ⟨i, rfl, by rw [HF.out]; exact HK.out, ?_, HG.out.trans (upd_sets g vs wi _)⟩
        rw [HF.out]
        have hp := HA.out.prefix_
        exact ⟨own_sets_past vs wi _ hp.1 (by rw [ctsC_len, HK.out]; exact Nat.le_refl _), hp.2⟩
end Go.Proofs.YtngeioghihbkeaaDoor
