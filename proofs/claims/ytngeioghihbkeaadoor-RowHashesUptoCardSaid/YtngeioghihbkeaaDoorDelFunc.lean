/- slices.IndexFunc, DeleteFunc at rows with counts, by 'none of them'. Conditions: the list lies in a block that may be written. -/
import Derived.Test.YtngeioghihbkeaaDoorInsSort
import Derived.Lib.SliceRun
namespace Go.Proofs.YtngeioghihbkeaaDoor
open Go.RowKit

def nzC (x : Ct) : Bool := !(x.k == 0)
set_option maxRecDepth 100000 in
set_option maxHeartbeats 400000 in
theorem sum2_any (A : Option Addr) (c n : Nat) (k : Int) (v : Bool) (w : World) (hv : Hid ((k == 0) = v)) :
    Calls Tryd.prog 61 #[.agg #[.slice A n c, .int .i64 k]] w fun e w' => e = .returned (.bool v) ∧ Ext w w' := by
  rw [← hv.out]
  clear hv
  go_enter Tryd.func61, Tryd.ntmps61
  go_wp2
  go_ret
  exact ⟨rfl, (Ext.refl w).alloc _⟩
set_option maxRecDepth 100000 in
set_option maxHeartbeats 2000000 in
theorem index_none (B g c n : Nat) (M : List Ct) (w : World) (hn : n = M.length) (h : Arr w B g c M) (hz : ∀ x ∈ M, (x.k == 0) = false) :
    Calls Tryd.prog 98 #[.slice (some ⟨g, 0, none⟩) n c, .func (.func 61) #[] #[]] w fun e w' => e = .returned (.int .i64 (-1)) ∧ Ext w w' := by
  have hnm := h.le
  rw [← hn] at hnm
  have H := Lib.hid h
  have HN := Lib.hid hn
  have HZ := Lib.hid hz
  clear h hn hz
  go_enter Tryd.func98, Tryd.ntmps98
  go_wp2
  go_loopw [8] (fun v wr => ∃ i : Nat, i ≤ n ∧ v = .int .i64 i ∧ Ext w wr) (fun v _ => n - (intOf v).toNat)
  case atStart => exact ⟨0, Nat.zero_le _, rfl, Ext.refl _⟩
  case round =>
    obtain ⟨i, hi, rfl, er⟩ := hrel
    by_cases hlt : i < n
    · have hil : i < M.length := by rw [← HN.out]; exact hlt
      obtain ⟨p0, p1⟩ := (H.out.ext er).at hil
      have hk : ((M.getD i Ct.zero).k == 0) = false := by
        rw [List.getD_eq_getElem?_getD, List.getElem?_eq_getElem hil]
        exact HZ.out _ (List.getElem_mem hil)
      obtain ⟨x, hx⟩ : ∃ x, M.getD i Ct.zero = x := ⟨_, rfl⟩
      rw [hx] at p0 p1 hk
      have HK := Lib.hid hk
      clear hil hx hk
      go_wp2_with (go_at_call 61; refine (sum2_any _ _ _ _ _ _ HK).mono ?_; rintro e w1 ⟨rfl, x1⟩)
      go_roundw
      case rel => exact ⟨i + 1, by omega, by go_num, er.trans x1⟩
      case measure => simp [intOf]; omega
    · go_wp2
      go_ret
      exact ⟨rfl, er⟩
set_option maxRecDepth 100000 in
set_option maxHeartbeats 2000000 in
theorem index_some (B g c n q : Nat) (P Q : List Ct) (x : Ct) (w : World) (hn : n = (P ++ x :: Q).length) (hq : q = P.length) (h : Arr w B g c (P ++ x :: Q)) (hz : ∀ x ∈ P, (x.k == 0) = false) (hx : (x.k == 0) = true) :
    Calls Tryd.prog 98 #[.slice (some ⟨g, 0, none⟩) n c, .func (.func 61) #[] #[]] w fun e w' => e = .returned (.int .i64 q) ∧ Ext w w' := by
  have hnm := h.le
  rw [← hn] at hnm
  have hqn : q < n := by rw [hn, List.length_append, List.length_cons]; omega
  have H := Lib.hid h
  have HQ := Lib.hid hq
  have HZ := Lib.hid hz
  have HX := Lib.hid hx
  clear h hn hz hq hx
  go_enter Tryd.func98, Tryd.ntmps98
  go_wp2
  go_loopw [8] (fun v wr => ∃ i : Nat, i ≤ q ∧ v = .int .i64 i ∧ Ext w wr) (fun v _ => n - (intOf v).toNat)
  case atStart => exact ⟨0, Nat.zero_le _, rfl, Ext.refl _⟩
  case round =>
    obtain ⟨i, hi, rfl, er⟩ := hrel
    have hlt : i < n := by omega
    have hil : i < (P ++ x :: Q).length := by rw [List.length_append, List.length_cons, ← HQ.out]; omega
    obtain ⟨p0, p1⟩ := (H.out.ext er).at hil
    by_cases hiq : i < q
    · have hk : (((P ++ x :: Q).getD i Ct.zero).k == 0) = false := by
        have hp : i < P.length := by rw [← HQ.out]; exact hiq
        rw [List.getD_eq_getElem?_getD, List.getElem?_append_left hp, List.getElem?_eq_getElem hp]
        exact HZ.out _ (List.getElem_mem hp)
      obtain ⟨y, hy⟩ : ∃ y, (P ++ x :: Q).getD i Ct.zero = y := ⟨_, rfl⟩
      rw [hy] at p0 p1 hk
      have HK := Lib.hid hk
      clear hil hy hk
      go_wp2_with (go_at_call 61; refine (sum2_any _ _ _ _ _ _ HK).mono ?_; rintro e w1 ⟨rfl, x1⟩)
      go_roundw
      case rel => exact ⟨i + 1, by omega, by go_num, er.trans x1⟩
      case measure => simp [intOf]; omega
    · have hiq2 : i = q := by omega
      subst hiq2
      have e : (P ++ x :: Q).getD i Ct.zero = x := by rw [HQ.out]; exact getD_mid P x Q
      rw [e] at p0 p1
      clear hil e
      go_wp2_with (go_at_call 61; refine (sum2_any _ _ _ _ _ _ HX).mono ?_; rintro e w1 ⟨rfl, x1⟩)
      go_ret
      exact ⟨rfl, er.trans x1⟩
theorem own_set_past {w : World} {B g n c k : Nat} {xs : List Value} (h : Own w B 32 2 (some ⟨g, 0, none⟩) n c xs) (hk : xs.length ≤ k) (u : Value) : Own (w.setCell ⟨g, k, none⟩ u) B 32 2 (some ⟨g, 0, none⟩) n c xs := by
  have := h.put k u
  rwa [List.set_eq_of_length_le hk] at this
theorem own_sets_past {B g n c : Nat} {xs : List Value} : ∀ (vs : List Value) (w : World) (k : Nat), Own w B 32 2 (some ⟨g, 0, none⟩) n c xs → xs.length ≤ k → Own (w.setCells g k vs) B 32 2 (some ⟨g, 0, none⟩) n c xs
  | [], _, _, h, _ => h
  | v :: vs, w, k, h, hk => own_sets_past vs _ (k + 1) (own_set_past h hk v) (by omega)
theorem upd_sets (g : Nat) : ∀ (vs : List Value) (w : World) (k : Nat), w.grownBy (w.setCells g k vs) (some g)
  | [], w, _ => World.grownBy.refl w _
  | v :: vs, w, k => (upd_set w g k v).trans (upd_sets g vs _ (k + 1))
theorem Arr.prefix_ {w : World} {B g c : Nat} {K X : List Ct} (h : Arr w B g c (K ++ X)) : Arr w B g c K := by
  refine ⟨⟨ctsC_len K, ?_⟩, h.2⟩
  rcases h.1.2 with ⟨h1, h2⟩ | ⟨g', cur, e, hb, hg, hnc, hcm, hcs, htake⟩
  · exact .inl ⟨h1, by rw [List.length_append] at h2; omega⟩
  · refine .inr ⟨g', cur, e, hb, hg, by rw [List.length_append] at hnc; omega, hcm, hcs, ?_⟩
    have : (cur.toList.take ((K ++ X).length * 2)).take (K.length * 2) = (ctsC (K ++ X)).take (K.length * 2) := by rw [htake]
    rw [List.take_take, Nat.min_eq_left (by rw [List.length_append]; omega), ctsC_append] at this
    rw [this, ← ctsC_len K, List.take_left]
theorem Arr.cells_past {w : World} {B g c : Nat} {K : List Ct} (h : Arr w B g c K) {j : Nat} (hj : j < c * 2) : (w.cell? ⟨g, j, none⟩).isSome = true := by
  rcases h.1.2 with ⟨h1, _⟩ | ⟨g', cur, e, hb, hg, hnc, hcm, hcs, htake⟩
  · have := h.2; omega
  · cases e
    rw [cell_of_row w g j cur _ (0, 0) hg, Array.getElem?_eq_getElem (by rw [hcs]; exact hj)]
    rfl
theorem run_clear2 {P : Program} (w : World) (t e ty : TypeId) (z0 z1 : Value) (ht : P.underlying t = some (.slice e)) (hv : ∀ w, (zeroValue e).run P w = .ok (.agg #[z0, z1]) w) (hz0 : z0.oneCell' = true) (hz1 : z1.oneCell' = true) (hzc : (Value.agg #[z0, z1]).cells = #[z0, z1]) (b o n c : Nat) (hn : 0 < n)
    (hc : ∀ j, j < n * 2 → (w.cell? ⟨b, o + j, none⟩).isSome = true) (hf : ∀ j, j < n * 2 → w.frozen? ⟨b, o + j, none⟩ = false) :
    (Builtin.clear_ #[t] ty #[.slice (some ⟨b, o, none⟩) n c]).run P w = .ok (.tuple #[]) (w.setCells b o (Builtin.zeroCells #[z0, z1] n).toList) := by
  have hlen : (Builtin.zeroCells #[z0, z1] n).toList.length = n * 2 := by
    have := size_zeroCells #[z0, z1] n
    rw [Array.length_toList, this]
    rfl
  have hall : ∀ v ∈ (Builtin.zeroCells #[z0, z1] n).toList, v.oneCell' = true := by
    intro v hv'
    unfold Builtin.zeroCells at hv'
    rw [Array.toList_map] at hv'
    obtain ⟨i, _, rfl⟩ := List.mem_map.1 hv'
    show (#[z0, z1][i % 2]!).oneCell' = true
    rcases (by omega : i % 2 = 0 ∨ i % 2 = 1) with h | h
    · rw [h]; exact hz0
    · rw [h]; exact hz1
  have hst := run_storeCells_cells (P := P) b o (Builtin.zeroCells #[z0, z1] n).toList 0 w (by simpa [hlen] using hc) (by simpa [hlen] using hf) hall
  simp only [Nat.add_zero] at hst
  obtain ⟨m, rfl⟩ : ∃ m, n = m + 1 := ⟨n - 1, by omega⟩
  simp [Builtin.clear_, run_underlying ht, hv, hzc, hst]
end Go.Proofs.YtngeioghihbkeaaDoor
