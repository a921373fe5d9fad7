/- slices.insertionSortCmpFunc at rows with counts: it sorts, those that are alike in their order. slices.insertionSortCmpFunc at rows with counts: the walk. Conditions: each theorem states its own. -/
import Derived.Test.YtngeioghihbkeaaDoorCts
import Derived.Deep.LoopGhost
namespace Go.Proofs.YtngeioghihbkeaaDoor
open Go.RowKit

set_option maxRecDepth 100000 in
set_option maxHeartbeats 1000000 in
theorem sum1_any (A1 A2 : Option Addr) (c1 c2 n1 n2 : Nat) (k1 k2 v : Int) (l m : List Dat) (w : World) (hv : Hid (cmpR l m = v)) (e1 : Hid (n1 = l.length)) (e2 : Hid (n2 = m.length)) (h1 : Hid (Rw w A1 c1 l)) (h2 : Hid (Rw w A2 c2 m)) :
    Calls Tryd.prog 59 #[.agg #[.slice A1 n1 c1, .int .i64 k1], .agg #[.slice A2 n2 c2, .int .i64 k2]] w fun e w' => e = .returned (.int .i64 v) ∧ Ext w w' := by
  have X : Ext w ((w.alloc (.cells #[.slice A1 n1 c1, .int .i64 k1] 32)).alloc (.cells #[.slice A2 n2 c2, .int .i64 k2] 32)) := ((Ext.refl w).alloc _).alloc _
  have b0 : Bk ((w.alloc (.cells #[.slice A1 n1 c1, .int .i64 k1] 32)).alloc (.cells #[.slice A2 n2 c2, .int .i64 k2] 32)) w.heap.size 32 #[.slice A1 n1 c1, .int .i64 k1] := (Bk.new _ _ _).alloc _
  have p0 := b0.cell 0
  go_enter Tryd.func59, Tryd.ntmps59
  go_wp2_with (go_at_call 14; refine (rowCmp_any A1 A2 c1 c2 n1 n2 l m _ e1.out e2.out (h1.out.ext X) (h2.out.ext X)).mono ?_; rintro e w1 ⟨rfl, x1⟩)
  go_ret
  exact ⟨(by rw [hv.out]; rfl), X.trans x1⟩
/-- what stands at the end of the first of two lists -/
theorem getD_mid (P : List Ct) (x : Ct) (Q : List Ct) : (P ++ x :: Q).getD P.length Ct.zero = x := by
  rw [List.getD_eq_getElem?_getD, List.getElem?_append_right (Nat.le_refl _), Nat.sub_self]
  rfl
theorem set_mid (P : List Ct) (x y : Ct) (Q : List Ct) : (P ++ x :: Q).set P.length y = P ++ y :: Q := by
  rw [List.set_append_right _ _ (Nat.le_refl _), Nat.sub_self]
  rfl
/-- the list that is being sorted: P, the sorted part up to its last place, the one that is being put in, the rest -/
theorem Arr.two {w : World} {B g c q : Nat} {P s2 Q : List Ct} {x y : Ct} (h : Arr w B g c (P ++ y :: x :: Q)) (hq : q = P.length) :
    (w.cell? ⟨g, q * 2, none⟩ = some (.slice y.A y.l.length y.c) ∧ w.cell? ⟨g, q * 2 + 1, none⟩ = some (.int .i64 y.k)) ∧ w.cell? ⟨g, (q + 1) * 2, none⟩ = some (.slice x.A x.l.length x.c) ∧ w.cell? ⟨g, (q + 1) * 2 + 1, none⟩ = some (.int .i64 x.k) := by
  subst hq
  have h1 := h.at (i := P.length) (by simp)
  have h2 := h.at (i := P.length + 1) (by simp)
  rw [getD_mid] at h1
  have e : (P ++ y :: x :: Q).getD (P.length + 1) Ct.zero = x := by
    have := getD_mid (P ++ [y]) x Q
    rwa [List.append_assoc, List.length_append] at this
  rw [e] at h2
  exact ⟨h1, h2⟩
theorem Arr.swap {w : World} {B g c q : Nat} {P Q : List Ct} {x y : Ct} (h : Arr w B g c (P ++ y :: x :: Q)) (hq : q = P.length) :
    Arr ((((w.setCell ⟨g, (q + 1) * 2, none⟩ (.slice y.A y.l.length y.c)).setCell ⟨g, (q + 1) * 2 + 1, none⟩ (.int .i64 y.k)).setCell ⟨g, q * 2, none⟩ (.slice x.A x.l.length x.c)).setCell ⟨g, q * 2 + 1, none⟩ (.int .i64 x.k)) B g c (P ++ x :: y :: Q) := by
  subst hq
  have h1 := (h.set (P.length + 1) y).set P.length x
  have e : ((P ++ y :: x :: Q).set (P.length + 1) y).set P.length x = P ++ x :: y :: Q := by
    have e1 : (P ++ y :: x :: Q).set (P.length + 1) y = P ++ y :: y :: Q := by
      have := set_mid (P ++ [y]) x y Q
      rwa [List.append_assoc, List.length_append, List.append_assoc] at this
    rw [e1, set_mid]
  rwa [e] at h1
theorem upd_swap (w : World) (g a b c d : Nat) (u1 u2 u3 u4 : Value) : w.grownBy ((((w.setCell ⟨g, a, none⟩ u1).setCell ⟨g, b, none⟩ u2).setCell ⟨g, c, none⟩ u3).setCell ⟨g, d, none⟩ u4) (some g) :=
  (((upd_set w g a u1).trans (upd_set _ g b u2)).trans (upd_set _ g c u3)).trans (upd_set _ g d u4)
/-- the inner loop's relation -/
def InsIn (B g c a : Nat) (P S T Q D' : List Ct) (x : Ct) (w wi : World) (j : Nat) (s1 s2 : List Ct) : Prop :=
  j = a + s1.length ∧ D' = s1 ++ s2 ∧ (∀ y ∈ s2, cmpC x y < 0) ∧ Arr wi B g c (P ++ (s1 ++ x :: (s2 ++ (T ++ Q)))) ∧ w.grownBy wi (some g) ∧ Rws wi g (x :: S)
/-- the outer loop's relation -/
def InsOut (B g c a : Nat) (P S Q : List Ct) (w wo : World) (i : Nat) (D D' T : List Ct) : Prop :=
  S = D ++ T ∧ i = a + D.length ∧ Stable cmpC D D' ∧ Arr wo B g c (P ++ (D' ++ (T ++ Q))) ∧ w.grownBy wo (some g) ∧ Rws wo g S
theorem stable_len {L M : List Ct} (h : Stable cmpC L M) : M.length = L.length := by
  have key : ∀ (n : Nat) (L M : List Ct), L.length ≤ n → Stable cmpC L M → M.length = L.length := by
    intro n
    induction n with
    | zero =>
      intro L M hn h
      have : L = [] := List.eq_nil_of_length_eq_zero (by omega)
      subst this
      cases M with
      | nil => rfl
      | cons y M => exact absurd ((h.mem cmpC_tot y).1 (List.mem_cons_self ..)) List.not_mem_nil
    | succ n ih =>
      intro L M hn h
      cases M with
      | nil =>
        cases L with
        | nil => rfl
        | cons y L => exact absurd ((h.mem cmpC_tot y).2 (List.mem_cons_self ..)) List.not_mem_nil
      | cons y M =>
        have hy := (h.mem cmpC_tot y).1 (List.mem_cons_self ..)
        have p1 : ∀ K : List Ct, (alike cmpC y K).length + (K.filter fun z => !(cmpC y z == 0)).length = K.length := fun K => by
          unfold alike
          rw [← List.length_append]
          exact (List.filter_append_perm (fun z => cmpC y z == 0) K).length_eq
        have h1 := p1 L
        have h2 := p1 (y :: M)
        have h3 : (alike cmpC y L).length = (alike cmpC y (y :: M)).length := by rw [h.same y]
        have h4 : 0 < (alike cmpC y L).length := List.length_pos_of_mem (List.mem_filter.2 ⟨hy, by rw [beq_iff_eq]; exact cmpC_tot.refl y⟩)
        have h5 := ih (L.filter fun z => !(cmpC y z == 0)) ((y :: M).filter fun z => !(cmpC y z == 0)) (by omega) ⟨h.sorted.filter _, fun z => by
          have q := h.same z
          unfold alike at q ⊢
          rw [List.filter_filter, List.filter_filter]
          have e : ∀ K : List Ct, K.filter (fun a => (cmpC z a == 0) && !(cmpC y a == 0)) = (K.filter (fun a => cmpC z a == 0)).filter (fun a => !(cmpC y a == 0)) := fun K => by
            rw [List.filter_filter]
            congr 1
            funext a
            rw [Bool.and_comm]
          rw [e, e, q]⟩
        omega
  exact key L.length L M (Nat.le_refl _) h
end Go.Proofs.YtngeioghihbkeaaDoor
namespace Go.Proofs.YtngeioghihbkeaaDoor
open Go.RowKit

theorem snoc_cases {α : Type} (s : List α) : s = [] ∨ ∃ t y, s = t ++ [y] := by
  rcases List.eq_nil_or_concat s with h | ⟨t, y, h⟩
  · exact .inl h
  · exact .inr ⟨t, y, by rw [h, List.concat_eq_append]⟩
theorem InsIn.ext {B g c a : Nat} {P S T Q D' : List Ct} {x : Ct} {w wi wz : World} {j : Nat} {s1 s2 : List Ct} (h : InsIn B g c a P S T Q D' x w wi j s1 s2) (hz : Ext wi wz) : InsIn B g c a P S T Q D' x w wz j s1 s2 :=
  ⟨h.1, h.2.1, h.2.2.1, h.2.2.2.1.ext hz, h.2.2.2.2.1.trans (upd_ext hz g), h.2.2.2.2.2.ext hz⟩
theorem ins_step {B g c a q : Nat} {P S T Q D' : List Ct} {x : Ct} {w wi : World} {j : Nat} {t s2 : List Ct} {y : Ct} (h : InsIn B g c a P S T Q D' x w wi j (t ++ [y]) s2) (hv : cmpC x y < 0) (ha : a = P.length) (hq : q = a + t.length) {nx ny : Nat} (hx : nx = x.l.length) (hy : ny = y.l.length) :
    InsIn B g c a P S T Q D' x w ((((wi.setCell ⟨g, (q + 1) * 2, none⟩ (.slice y.A ny y.c)).setCell ⟨g, (q + 1) * 2 + 1, none⟩ (.int .i64 y.k)).setCell ⟨g, q * 2, none⟩ (.slice x.A nx x.c)).setCell ⟨g, q * 2 + 1, none⟩ (.int .i64 x.k)) q t (y :: s2) := by
  subst hx hy
  obtain ⟨h1, h2, h3, h4, h5, h6⟩ := h
  have e : P ++ (t ++ [y] ++ x :: (s2 ++ (T ++ Q))) = (P ++ t) ++ y :: x :: (s2 ++ (T ++ Q)) := by simp
  rw [e] at h4
  have h7 := h4.swap (q := q) (by rw [List.length_append]; omega)
  have hu := upd_swap wi g ((q + 1) * 2) ((q + 1) * 2 + 1) (q * 2) (q * 2 + 1) (.slice y.A y.l.length y.c) (.int .i64 y.k) (.slice x.A x.l.length x.c) (.int .i64 x.k)
  refine ⟨hq, by rw [h2]; simp, fun z hz => ?_, ?_, h5.trans hu, h6.upd hu⟩
  · rcases List.mem_cons.1 hz with rfl | hz
    · exact hv
    · exact h3 z hz
  · have e2 : P ++ (t ++ x :: (y :: s2 ++ (T ++ Q))) = (P ++ t) ++ x :: y :: (s2 ++ (T ++ Q)) := by simp
    rw [e2]
    exact h7
theorem ins_exit {B g c a : Nat} {P S T Q D D' : List Ct} {x : Ct} {w wo wi : World} {i j : Nat} {s1 s2 : List Ct} (ho : InsOut B g c a P S Q w wo i D D' (x :: T)) (h : InsIn B g c a P S T Q D' x wo wi j s1 s2) (hl : ∀ y, s1.getLast? = some y → ¬ cmpC x y < 0) {wz : World} (hz : Ext wi wz) :
    InsOut B g c a P S Q w wz (i + 1) (D ++ [x]) (s1 ++ x :: s2) T := by
  obtain ⟨o1, o2, o3, o4, o5, o6⟩ := ho
  obtain ⟨h1, h2, h3, h4, h5, h6⟩ := h
  subst h2
  refine ⟨by rw [o1]; simp, by rw [List.length_append, List.length_singleton]; omega, o3.insert cmpC_tot h3 hl, ?_, (o5.trans h5).trans (upd_ext hz g), (h6.sub (fun z hz => List.mem_cons_of_mem _ hz)).ext hz⟩
  have e : P ++ (s1 ++ x :: s2 ++ (T ++ Q)) = P ++ (s1 ++ x :: (s2 ++ (T ++ Q))) := by simp
  rw [e]
  exact h4.ext hz
set_option maxRecDepth 100000 in
set_option maxHeartbeats 8000000 in
theorem insSort_some (B g c n a b : Nat) (P S0 Q : List Ct) (x0 : Ct) (w : World) (ha : a = P.length) (hb : b = P.length + (S0.length + 1)) (hn : n = (P ++ (x0 :: S0 ++ Q)).length) (h : Arr w B g c (P ++ (x0 :: S0 ++ Q))) (hr : Rws w g (x0 :: S0)) :
    Calls Tryd.prog 128 #[.slice (some ⟨g, 0, none⟩) n c, .int .i64 a, .int .i64 b, .func (.func 59) #[] #[]] w fun e w' => e = .returned (.tuple #[]) ∧ ∃ S', Stable cmpC (x0 :: S0) S' ∧ Arr w' B g c (P ++ (S' ++ Q)) ∧ w.grownBy w' (some g) := by
  obtain ⟨S, hS⟩ : ∃ S, S = x0 :: S0 := ⟨_, rfl⟩
  have hnm := h.le
  rw [← hn] at hnm
  have hbn : b ≤ n := by
    rw [hb, hn]
    simp only [List.length_append, List.length_cons]
    omega
  have HA := Lib.hid ha
  have HB := Lib.hid hb
  have HN := Lib.hid hn
  have hab : a + 1 ≤ b := by omega
  have HO : Hid (InsOut B g c a P S Q w w (a + 1) [x0] [x0] S0) := Lib.hid ⟨hS, rfl, Stable.one x0, by rw [List.singleton_append, ← List.cons_append]; exact h, World.grownBy.refl w _, by rw [hS]; exact hr⟩
  have HSL : Hid (b = a + S.length) := Lib.hid (by rw [hS, List.length_cons]; omega)
  rw [← hS]
  clear ha hb hn h hr hS
  go_enter Tryd.func128, Tryd.ntmps128
  go_wp2
  go_loopg [8] (b - (a + 1)) (fun z v wo => ∃ (i : Nat) (D D' T : List Ct), z = b - i ∧ i ≤ b ∧ v = .int .i64 i ∧ Hid (InsOut B g c a P S Q w wo i D D' T))
  case atStart => exact ⟨a + 1, [x0], [x0], S0, rfl, hab, by simp, HO⟩
  case round =>
    obtain ⟨i, D, D', T, rfl, hi, rfl, HI⟩ := hrel
    clear HO
    obtain ⟨wo, hwo⟩ : ∃ wo : World, wo = wr := ⟨_, rfl⟩
    rw [← hwo] at HI ⊢
    clear hwo
    by_cases hlt : i < b
    · obtain ⟨x, T, rfl⟩ : ∃ x T', T = x :: T' := by
        cases T with
        | nil =>
          obtain ⟨q1, q2, _⟩ := HI.out
          have := HSL.out
          rw [q1, List.append_nil] at this
          omega
        | cons x T => exact ⟨x, T, rfl⟩
      have HII : Hid (InsIn B g c a P S T Q D' x wo wo i D' []) := Lib.hid (by
        obtain ⟨q1, q2, q3, q4, q5, q6⟩ := HI.out
        refine ⟨by rw [stable_len q3]; exact q2, (List.append_nil _).symm, fun y hy => (nomatch hy), by rw [List.nil_append]; exact q4, World.grownBy.refl wo _, fun z hz => ?_⟩
        rcases List.mem_cons.1 hz with rfl | hz
        · exact q6 z (by rw [q1]; simp)
        · exact q6 z hz)
      go_wp2
      go_loopg [9] D'.length (fun z v wi => ∃ (j : Nat) (s1 s2 : List Ct), z = s1.length ∧ v = .int .i64 j ∧ j ≤ i ∧ Hid (InsIn B g c a P S T Q D' x wo wi j s1 s2))
      case atStart => exact ⟨i, D', [], rfl, rfl, Nat.le_refl _, HII⟩
      case round =>
        obtain ⟨j, s1, s2, rfl, rfl, hj, HJ⟩ := hrel
        clear HII
        obtain ⟨wi, hwi⟩ : ∃ wi : World, wi = wr := ⟨_, rfl⟩
        rw [← hwi] at HJ ⊢
        clear hwi
        rcases snoc_cases s1 with rfl | ⟨t, y, rfl⟩
        · have hja : j = a := by have := HJ.out.1; simpa using this
          subst hja
          go_upto_region 4 with fail
          refine wp_region_ord [0,0,3,7,15,15,15,111,239,15,15,1039,3599,7695,16383,32767,65535] (.flo [0,1,2,3,4,5,6,7,8,9,10,11,12,13] (.one 14 (.flo [15,16] (.fin)))) (by kernel_rfl) (by kernel_rfl) (by intro _ _ d _ _ h; cases d <;> exact h) ?_
          (refine ord_flo (pick_cons rfl (pick_cons rfl (pick_cons rfl (pick_cons rfl (pick_cons rfl (pick_cons rfl (pick_cons rfl (pick_cons rfl (pick_cons rfl (pick_cons rfl (pick_cons rfl (pick_cons rfl (pick_cons rfl (pick_cons rfl pick_nil)))))))))))))) ?_; (repeat (go_big_quiet_step (fail))); refine wpQuiet_nil ?_; show ordWalk _ _ _ _ _ _ _)
          refine ord_one (pick_cons rfl pick_nil) ?_; intro K_ hK_
          go_wp2
          (refine ord_flo (pick_cons rfl (pick_cons rfl pick_nil)) ?_; (repeat (go_big_quiet_step (fail))); refine wpQuiet_nil ?_; show ordWalk _ _ _ _ _ _ _)
          refine ord_fin ?_
          go_wp2
          go_roundg (b - (i + 1))
          case measure => omega
          case rel => exact ⟨i + 1, D ++ [x], _, T, rfl, by omega, by go_num, Lib.hid (ins_exit HI.out HJ.out (fun y hy => (nomatch hy)) ((Ext.refl wi).drew))⟩
        · obtain ⟨q, hq⟩ : ∃ q, q = a + t.length := ⟨_, rfl⟩
          have hjq : j = q + 1 := by have := HJ.out.1; rw [List.length_append, List.length_singleton] at this; omega
          subst hjq
          have hqP : q = (P ++ t).length := by rw [List.length_append, ← HA.out]; exact hq
          have e : P ++ (t ++ [y] ++ x :: (s2 ++ (T ++ Q))) = (P ++ t) ++ y :: x :: (s2 ++ (T ++ Q)) := by simp
          have hArr := HJ.out.2.2.2.1
          rw [e] at hArr
          obtain ⟨⟨py0, py1⟩, px0, px1⟩ := Arr.two (s2 := []) hArr hqP
          have f0 := hArr.free ((q + 1) * 2)
          have f1 := hArr.free ((q + 1) * 2 + 1)
          have f2 := hArr.free (q * 2)
          have f3 := hArr.free (q * 2 + 1)
          have hrx := HJ.out.2.2.2.2.2 x (List.mem_cons_self ..)
          have hry := HJ.out.2.2.2.2.2 y (List.mem_cons_of_mem _ (by
            obtain ⟨o1, o2, o3, _⟩ := HI.out
            have hd : y ∈ D' := by rw [HJ.out.2.1]; simp
            rw [o1]
            exact List.mem_append_left _ ((o3.mem cmpC_tot y).1 hd)))
          have za : decide ((a : Int) < (q : Int) + 1) = true := by simp; omega
          have hqa2 : a ≤ q := by omega
          have hqn : q + 1 < n := by omega
          have hjb : q + 1 ≤ i := hj
          obtain ⟨v, hv⟩ : ∃ v, cmpC x y = v := ⟨_, rfl⟩
          obtain ⟨nx, hnx⟩ : ∃ nx, nx = x.l.length := ⟨_, rfl⟩
          obtain ⟨ny, hny⟩ : ∃ ny, ny = y.l.length := ⟨_, rfl⟩
          rw [← hnx] at px0
          rw [← hny] at py0
          have X : Ext wi wi.drew := (Ext.refl wi).drew
          have HRX := Lib.hid hrx.1
          have HRY := Lib.hid hry.1
          have HNX := Lib.hid hnx
          have HNY := Lib.hid hny
          have HQ := Lib.hid hq
          have HQP := Lib.hid hqP
          have hArr0 := Lib.hid hArr
          have HV : Hid (cmpR x.l y.l = v) := Lib.hid hv
          have PY0 : ∀ z : Xt wi.drew, z.W.cell? ⟨g, q * 2, none⟩ = some (.slice y.A ny y.c) := fun z => (X.trans z.x).cell py0
          have PY1 : ∀ z : Xt wi.drew, z.W.cell? ⟨g, q * 2 + 1, none⟩ = some (.int .i64 y.k) := fun z => (X.trans z.x).cell py1
          have PX0 : ∀ z : Xt wi.drew, z.W.cell? ⟨g, (q + 1) * 2, none⟩ = some (.slice x.A nx x.c) := fun z => (X.trans z.x).cell px0
          have PX1 : ∀ z : Xt wi.drew, z.W.cell? ⟨g, (q + 1) * 2 + 1, none⟩ = some (.int .i64 x.k) := fun z => (X.trans z.x).cell px1
          clear hrx hry hnx hny hv hArr e hqP py0 py1 px0 px1 hq hj
          by_cases hv0 : v < 0
          · have zv : decide (v < 0) = true := by simpa using hv0
            have HV0 : Hid (cmpC x y < 0) := Lib.hid (by show cmpR x.l y.l < 0; rw [HV.out]; exact hv0)
            go_upto_region 4 with fail
            refine wp_region_ord [0,0,3,7,15,15,15,111,239,15,15,1039,3599,7695,16383,32767,65535] (.flo [0,1,2,3,4,5,6,7,8,9,10,11,12,13] (.one 14 (.flo [15,16] (.fin)))) (by kernel_rfl) (by kernel_rfl) (by intro _ _ d _ _ h; cases d <;> exact h) ?_
            (refine ord_flo (pick_cons rfl (pick_cons rfl (pick_cons rfl (pick_cons rfl (pick_cons rfl (pick_cons rfl (pick_cons rfl (pick_cons rfl (pick_cons rfl (pick_cons rfl (pick_cons rfl (pick_cons rfl (pick_cons rfl (pick_cons rfl pick_nil)))))))))))))) ?_; (repeat (go_big_quiet_step (fail))); refine wpQuiet_nil ?_; show ordWalk _ _ _ _ _ _ _)
            refine ord_one (pick_cons rfl pick_nil) ?_; intro K_ hK_
            go_wp2_with (go_at_call 59; refine (sum1_any x.A y.A x.c y.c nx ny x.k y.k v x.l y.l _ HV HNX HNY (Lib.hid (HRX.out.ext X)) (Lib.hid (HRY.out.ext X))).mono ?_; rintro e w1 ⟨rfl, x1⟩)
            (refine ord_flo (pick_cons rfl (pick_cons rfl pick_nil)) ?_; (repeat (go_big_quiet_step (fail))); refine wpQuiet_nil ?_; show ordWalk _ _ _ _ _ _ _)
            refine ord_fin ?_
            have HA1 := Lib.hid (hArr0.out.ext (X.trans x1))
            obtain ⟨⟨py0, py1⟩, px0, px1⟩ := Arr.two (s2 := []) HA1.out HQP.out
            rw [← HNX.out] at px0
            rw [← HNY.out] at py0
            have f0 := HA1.out.free ((q + 1) * 2)
            have f1 := HA1.out.free ((q + 1) * 2 + 1)
            have f2 := HA1.out.free (q * 2)
            have f3 := HA1.out.free (q * 2 + 1)
            have X1 : Ext w1 w1.drew := (Ext.refl w1).drew
            have PY0 : ∀ z : Xt w1.drew, z.W.cell? ⟨g, q * 2, none⟩ = some (.slice y.A ny y.c) := fun z => (X1.trans z.x).cell py0
            have PY1 : ∀ z : Xt w1.drew, z.W.cell? ⟨g, q * 2 + 1, none⟩ = some (.int .i64 y.k) := fun z => (X1.trans z.x).cell py1
            have PX0 : ∀ z : Xt w1.drew, z.W.cell? ⟨g, (q + 1) * 2, none⟩ = some (.slice x.A nx x.c) := fun z => (X1.trans z.x).cell px0
            have PX1 : ∀ z : Xt w1.drew, z.W.cell? ⟨g, (q + 1) * 2 + 1, none⟩ = some (.int .i64 x.k) := fun z => (X1.trans z.x).cell px1
            go_upto_region 6 with fail
            refine wp_region_ord [0,0,0,0,8,0,0,64,224,480,0,0,3072,7168,16355,32739,65535,131071] (.flo [0,1,5,6,7,8,9,10,11,12,13,14] (.pur [2,3,4] (.one 15 (.flo [16] (.one 17 (.fin)))))) (by kernel_rfl) (by kernel_rfl) (by intro _ _ d _ _ h; cases d <;> exact h) ?_
            (refine ord_flo (pick_cons rfl (pick_cons rfl (pick_cons rfl (pick_cons rfl (pick_cons rfl (pick_cons rfl (pick_cons rfl (pick_cons rfl (pick_cons rfl (pick_cons rfl (pick_cons rfl (pick_cons rfl pick_nil)))))))))))) ?_; (repeat (go_big_quiet_step (fail))); refine wpQuiet_nil ?_; show ordWalk _ _ _ _ _ _ _)
            (refine ord_pur (pick_cons rfl (pick_cons rfl (pick_cons rfl pick_nil))) ?_; (repeat (go_big_quiet_step (fail))); refine wpQuiet_nil ?_; show ordWalk _ _ _ _ _ _ _)
            refine ord_one (pick_cons rfl pick_nil) ?_; intro K_ hK_
            go_wp2
            (refine ord_flo (pick_cons rfl pick_nil) ?_; (repeat (go_big_quiet_step (fail))); refine wpQuiet_nil ?_; show ordWalk _ _ _ _ _ _ _)
            refine ord_one (pick_cons rfl pick_nil) ?_; intro K_ hK_
            go_wp2
            refine ord_fin ?_
            go_wp2
            go_roundg t.length
            case measure => simp
            case rel => exact ⟨q, t, y :: s2, rfl, by go_num, by omega, Lib.hid (ins_step ((HJ.out.ext (X.trans x1)).ext X1) HV0.out HA.out HQ.out HNX.out HNY.out)⟩
          · have zv : decide (v < 0) = false := by simpa using hv0
            have HV0 : Hid (¬ cmpC x y < 0) := Lib.hid (by show ¬ cmpR x.l y.l < 0; rw [HV.out]; exact hv0)
            go_upto_region 4 with fail
            refine wp_region_ord [0,0,3,7,15,15,15,111,239,15,15,1039,3599,7695,16383,32767,65535] (.flo [0,1,2,3,4,5,6,7,8,9,10,11,12,13] (.one 14 (.flo [15,16] (.fin)))) (by kernel_rfl) (by kernel_rfl) (by intro _ _ d _ _ h; cases d <;> exact h) ?_
            (refine ord_flo (pick_cons rfl (pick_cons rfl (pick_cons rfl (pick_cons rfl (pick_cons rfl (pick_cons rfl (pick_cons rfl (pick_cons rfl (pick_cons rfl (pick_cons rfl (pick_cons rfl (pick_cons rfl (pick_cons rfl (pick_cons rfl pick_nil)))))))))))))) ?_; (repeat (go_big_quiet_step (fail))); refine wpQuiet_nil ?_; show ordWalk _ _ _ _ _ _ _)
            refine ord_one (pick_cons rfl pick_nil) ?_; intro K_ hK_
            go_wp2_with (go_at_call 59; refine (sum1_any x.A y.A x.c y.c nx ny x.k y.k v x.l y.l _ HV HNX HNY (Lib.hid (HRX.out.ext X)) (Lib.hid (HRY.out.ext X))).mono ?_; rintro e w1 ⟨rfl, x1⟩)
            (refine ord_flo (pick_cons rfl (pick_cons rfl pick_nil)) ?_; (repeat (go_big_quiet_step (fail))); refine wpQuiet_nil ?_; show ordWalk _ _ _ _ _ _ _)
            refine ord_fin ?_
            go_wp2
            go_roundg (b - (i + 1))
            case measure => omega
            case rel => exact ⟨i + 1, D ++ [x], _, T, rfl, by omega, by go_num, Lib.hid (ins_exit HI.out HJ.out (fun z hz => by simp only [List.getLast?_append, List.getLast?_singleton, Option.some_or] at hz; injection hz with hz; rw [← hz]; exact Int.not_lt.2 HV0.out) (X.trans x1))⟩
    · obtain rfl : i = b := by omega
      have HT : Hid (T = []) := Lib.hid (by
        obtain ⟨q1, q2, _⟩ := HI.out
        have := HSL.out
        rw [q1, List.length_append] at this
        exact List.eq_nil_of_length_eq_zero (by omega))
      go_wp2
      go_end0
      obtain ⟨q1, q2, q3, q4, q5, q6⟩ := HI.out
      rw [HT.out] at q1 q4
      rw [List.append_nil] at q1
      exact ⟨rfl, D', by rw [q1]; exact q3, q4, q5⟩
end Go.Proofs.YtngeioghihbkeaaDoor
