/- Bounds of what Apply and Then tell; far, much of two; Apply, Then, PathLeq with a literal answer. Conditions: each theorem states its own. -/
import Derived.Test.YtilbfmfioopiiaaDoorSame
import Derived.Test.YtilbfmfioopiiaaDoorThen
import Derived.Test.YtilbfmfioopiiaaDoorApply
import Derived.Test.YtilbfmfioopiiaaDoorPLeqB
namespace Go.Proofs.YtilbfmfioopiiaaDoor
open Go.RowKit

theorem u32_take {l : List Int} (h : U32 l) (k : Nat) : U32 (l.take k) := fun x hx => h x (List.mem_of_mem_take hx)
theorem u32_append {l m : List Int} (h : U32 l) (k : U32 m) : U32 (l ++ m) := fun x hx => (List.mem_append.1 hx).elim (h x) (k x)
theorem u32_one {x : Int} (h : 0 ≤ x ∧ x ≤ 4294967295) : U32 [x] := fun y hy => by simp at hy; subst hy; exact h
theorem u32_nil : U32 [] := fun x hx => by cases hx

theorem apply_bounds {L a e e' c : Int} {m l l' : List Int} (h : applyT L a m e l = ((e', l'), c)) (ha : 0 ≤ a ∧ a ≤ 4294967295) (he : 0 ≤ e ∧ e ≤ 18446744073709551615) (um : U32 m) (ul : U32 l) :
    (0 ≤ e' ∧ e' ≤ 18446744073709551615) ∧ U32 l' ∧ l'.length ≤ l.length + m.length := by
  have z : ∀ {e' : Int} {l' : List Int}, (0 : Int) = e' → ([] : List Int) = l' → (0 ≤ e' ∧ e' ≤ 18446744073709551615) ∧ U32 l' ∧ l'.length ≤ l.length + m.length := by
    rintro _ _ rfl rfl
    exact ⟨by omega, u32_nil, by simp⟩
  unfold applyT at h
  split at h
  · simp only [Prod.mk.injEq] at h; exact z h.1.1 h.1.2
  · unfold applyK at h
    split at h
    · split at h
      · simp only [Prod.mk.injEq] at h; exact z h.1.1 h.1.2
      · split at h
        · simp only [Prod.mk.injEq] at h; exact z h.1.1 h.1.2
        · simp only [Prod.mk.injEq] at h
          obtain ⟨⟨rfl, rfl⟩, _⟩ := h
          exact ⟨by omega, um, by omega⟩
    · split at h
      · simp only [Prod.mk.injEq] at h; exact z h.1.1 h.1.2
      · split at h
        · simp only [Prod.mk.injEq] at h; exact z h.1.1 h.1.2
        · simp only [Prod.mk.injEq] at h
          obtain ⟨⟨rfl, rfl⟩, _⟩ := h
          have := U32.at ul (l.length - L.toNat - 1)
          rw [← List.getD_eq_getElem?_getD] at this
          refine ⟨he, u32_append (u32_append (u32_take ul _) (u32_one (by omega))) um, ?_⟩
          simp
          omega
theorem then_bounds {La aa Lb ab c : Int} {la lb : List Int} {r : Way} (h : thenT La aa la Lb ab lb = (r, c)) (hL : -9223372036854775808 ≤ La ∧ La ≤ 9223372036854775807) (ha : 0 ≤ aa ∧ aa ≤ 4294967295) (hb : 0 ≤ ab ∧ ab ≤ 4294967295) (ua : U32 la) (ub : U32 lb) :
    r.leave ≤ 9223372036854775807 ∧ (0 ≤ r.add ∧ r.add ≤ 4294967295) ∧ U32 r.enter ∧ r.enter.length ≤ la.length + lb.length := by
  have z : ∀ {r : Way}, (⟨0, 0, []⟩ : Way) = r → r.leave ≤ 9223372036854775807 ∧ (0 ≤ r.add ∧ r.add ≤ 4294967295) ∧ U32 r.enter ∧ r.enter.length ≤ la.length + lb.length := by
    rintro _ rfl
    exact ⟨by simp, by simp, u32_nil, by simp⟩
  unfold thenT at h
  split at h
  · simp only [Prod.mk.injEq] at h; exact z h.1
  · split at h
    · split at h
      · simp only [Prod.mk.injEq] at h; exact z h.1
      · simp only [Prod.mk.injEq] at h
        obtain ⟨rfl, _⟩ := h
        have := U32.at ua (la.length - Lb.toNat - 1)
        rw [← List.getD_eq_getElem?_getD] at this
        refine ⟨hL.2, ha, u32_append (u32_append (u32_take ua _) (u32_one (by omega))) ub, ?_⟩
        simp
        omega
    · split at h
      · split at h
        · simp only [Prod.mk.injEq] at h; exact z h.1
        · simp only [Prod.mk.injEq] at h
          obtain ⟨rfl, _⟩ := h
          exact ⟨hL.2, by simp only; omega, ub, by simp only; omega⟩
      · simp only [Prod.mk.injEq] at h
        obtain ⟨rfl, _⟩ := h
        exact ⟨by simp only; unfold wrap64; omega, hb, ub, by simp only; omega⟩

theorem far2 (g np nq : Nat) (b : Bool) (w : World) (Lp ap Lq aq : Int) (Ap Aq : Option Addr) (cp cq : Nat)
    (hc : Bk w g 25 #[.int .i64 Lp, .int .u32 ap, .slice Ap np cp, .int .i64 Lq, .int .u32 aq, .slice Aq nq cq]) (hb : b = decide (40 < np ∨ 40 < nq)) :
    Calls Tryd.prog 5 #[.slice (some ⟨g, 0, none⟩) 2 2] w fun e w' => e = .returned (.bool b) ∧ Ext w w' := by
  have h := far_any g 2 2 (fun i => match i with | 0 => np | _ => nq) w (by omega) (fun i hi => by
    match i with
    | 0 => exact ⟨_, _, hc.cell 2⟩
    | 1 => exact ⟨_, _, hc.cell 5⟩
    | n + 2 => omega)
  refine h.mono fun e w' ⟨he, hx⟩ => ⟨he.trans (ret_bool ?_), hx⟩
  rw [hb, decide_eq_decide]
  constructor
  · rintro ⟨i, hi, h40⟩
    match i with
    | 0 => exact Or.inl h40
    | 1 => exact Or.inr h40
    | n + 2 => omega
  · rintro (h1 | h1)
    · exact ⟨0, by omega, h1⟩
    · exact ⟨1, by omega, h1⟩
theorem apply_at {r : (Int × List Int) × Int} (L a : Int) (A1 A2 : Option Addr) (n1 n2 c1 c2 : Nat) (l1 l2 : List Int) (e : Int) (w : World) (hr : Hid (applyT L a l1 e l2 = r)) (h1 : Sl w 1 A1 n1 c1 (wds l1)) (h2 : Sl w 1 A2 n2 c2 (wds l2)) (u2 : U32 l2)
    (ha : 0 ≤ a ∧ a ≤ 4294967295) (he : 0 ≤ e ∧ e ≤ 18446744073709551615) (hL : L ≤ 9223372036854775807) (hn1 : n1 ≤ 1000000) (hn2 : n2 ≤ 1000000) :
    Calls Tryd.prog 8 #[.agg #[.int .i64 L, .int .u32 a, .slice A1 n1 c1], .agg #[.int .u64 e, .slice A2 n2 c2]] w (TimeOut w r) := hr.out ▸ apply_any L a A1 A2 n1 n2 c1 c2 l1 l2 e w h1 h2 u2 ha he hL hn1 hn2
theorem then_at {r : Way × Int} (La aa Lb ab : Int) (A1 A2 : Option Addr) (n1 n2 c1 c2 : Nat) (l1 l2 : List Int) (w : World) (hr : Hid (thenT La aa l1 Lb ab l2 = r)) (h1 : Sl w 1 A1 n1 c1 (wds l1)) (h2 : Sl w 1 A2 n2 c2 (wds l2)) (u1 : U32 l1)
    (haa : 0 ≤ aa ∧ aa ≤ 4294967295) (hab : 0 ≤ ab ∧ ab ≤ 4294967295) (hn1 : n1 ≤ 1000000) (hn2 : n2 ≤ 1000000) :
    Calls Tryd.prog 9 #[.agg #[.int .i64 La, .int .u32 aa, .slice A1 n1 c1], .agg #[.int .i64 Lb, .int .u32 ab, .slice A2 n2 c2]] w (WayOut w r) := hr.out ▸ then_any La aa Lb ab A1 A2 n1 n2 c1 c2 l1 l2 w h1 h2 u1 haa hab hn1 hn2
theorem pleq_at {b : Bool} (La aa Lb ab d : Int) (A1 A2 : Option Addr) (n1 n2 c1 c2 : Nat) (l1 l2 : List Int) (w : World) (hr : Hid (pathLeqT La aa l1 Lb ab l2 d = b)) (h1 : Sl w 1 A1 n1 c1 (wds l1)) (h2 : Sl w 1 A2 n2 c2 (wds l2)) (u1 : U32 l1) (u2 : U32 l2) (hn1 : n1 ≤ 1000000) (hn2 : n2 ≤ 1000000) :
    Calls Tryd.prog 10 #[.agg #[.int .i64 La, .int .u32 aa, .slice A1 n1 c1], .agg #[.int .i64 Lb, .int .u32 ab, .slice A2 n2 c2], .int .i64 d] w
      (fun e w' => e = .returned (.bool b) ∧ Ext w w') := hr.out ▸ pleq_any La aa Lb ab d A1 A2 n1 n2 c1 c2 l1 l2 w h1 h2 u1 u2 hn1 hn2

end Go.Proofs.YtilbfmfioopiiaaDoor
