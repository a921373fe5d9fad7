/- The plain law of DatumOrder: the order of texts, of data. -/
import Derived.Test.YtngeioghihbkeaaDoorDCmps
namespace Go.Proofs.YtngeioghihbkeaaDoor
open Go.RowKit

theorem less_irrefl : ∀ x : List UInt8, Op.bytesLess x x = false
  | [] => rfl
  | a :: x => by simp [Op.bytesLess, less_irrefl x]
theorem less_asymm : ∀ x y : List UInt8, Op.bytesLess x y = true → Op.bytesLess y x = false
  | [], [], h => by simp [Op.bytesLess] at h
  | [], _ :: _, _ => by simp [Op.bytesLess]
  | _ :: _, [], h => by simp [Op.bytesLess] at h
  | a :: x, b :: y, h => by
    simp only [Op.bytesLess, Bool.or_eq_true, decide_eq_true_eq, Bool.and_eq_true, beq_iff_eq] at h
    rcases h with h | ⟨rfl, h⟩
    · have h1 : ¬ b < a := fun h2 => by rw [UInt8.lt_iff_toNat_lt] at h h2; omega
      have h2 : ¬ b = a := fun e => by subst e; rw [UInt8.lt_iff_toNat_lt] at h; omega
      simp [Op.bytesLess, h1, h2]
    · simp [Op.bytesLess, less_asymm x y h]
theorem less_total : ∀ x y : List UInt8, Op.bytesLess x y = false → Op.bytesLess y x = false → x = y
  | [], [], _, _ => rfl
  | [], _ :: _, h, _ => by simp [Op.bytesLess] at h
  | _ :: _, [], _, h => by simp [Op.bytesLess] at h
  | a :: x, b :: y, h, k => by
    simp only [Op.bytesLess, Bool.or_eq_false_iff, decide_eq_false_iff_not, Bool.and_eq_false_iff, beq_eq_false_iff_ne] at h k
    have e : a = b := by
      apply UInt8.toNat_inj.1
      have h1 := h.1
      have k1 := k.1
      rw [UInt8.lt_iff_toNat_lt] at h1 k1
      omega
    subst e
    rw [less_total x y (by simpa using h.2) (by simpa using k.2)]
theorem less_trans : ∀ x y z : List UInt8, Op.bytesLess x y = true → Op.bytesLess y z = true → Op.bytesLess x z = true
  | _, _, [], _, k => by simp [Op.bytesLess] at k
  | [], _, _ :: _, _, _ => by simp [Op.bytesLess]
  | _ :: _, [], _ :: _, h, _ => by simp [Op.bytesLess] at h
  | a :: x, b :: y, c :: z, h, k => by
    simp only [Op.bytesLess, Bool.or_eq_true, decide_eq_true_eq, Bool.and_eq_true, beq_iff_eq] at h k ⊢
    rcases h with h | ⟨rfl, h⟩ <;> rcases k with k | ⟨rfl, k⟩
    · left; rw [UInt8.lt_iff_toNat_lt] at *; omega
    · exact Or.inl h
    · exact Or.inl k
    · exact Or.inr ⟨rfl, less_trans x y z h k⟩

theorem cmpS_eq (x y : ByteArray) : cmpS x y = if Op.bytesLess x.toList y.toList then -1 else if Op.bytesLess y.toList x.toList then 1 else 0 := by
  unfold cmpS
  cases h1 : Op.bytesLess x.toList y.toList
  · cases h2 : Op.bytesLess y.toList x.toList
    · simp [less_total _ _ h1 h2]
    · have : ¬ x.toList = y.toList := fun e => by rw [e, less_irrefl] at h2; cases h2
      simp [this]
  · rfl
theorem cmpS_neg (x y : ByteArray) : cmpS x y = -cmpS y x := by
  rw [cmpS_eq, cmpS_eq]
  cases h1 : Op.bytesLess x.toList y.toList
  · cases h2 : Op.bytesLess y.toList x.toList <;> simp
  · simp [less_asymm _ _ h1]
theorem cmpS_trans {x y z : ByteArray} (h : cmpS x y ≤ 0) (k : cmpS y z ≤ 0) : cmpS x z ≤ 0 := by
  rw [cmpS_eq] at *
  by_cases h1 : Op.bytesLess x.toList z.toList = true
  · simp [h1]
  · by_cases h2 : Op.bytesLess z.toList x.toList = true
    · exfalso
      by_cases a1 : Op.bytesLess x.toList y.toList = true
      · have a2 := less_trans _ _ _ h2 a1
        have a3 := less_asymm _ _ a2
        simp [a3, a2] at k
      · by_cases b1 : Op.bytesLess y.toList x.toList = true
        · simp [a1, b1] at h
        · have e := less_total _ _ (by simpa using a1) (by simpa using b1)
          rw [← e] at k
          simp [h1, h2] at k
    · simp [h1, h2]
theorem cmpT_neg (x y : Int) : cmpT x y = -cmpT y x := by
  rcases Int.lt_trichotomy x y with h | h | h
  · rw [cmpT_lt h, cmpT_gt h]
  · subst h; rw [cmpT_self]; rfl
  · rw [cmpT_gt h, cmpT_lt h]; rfl
theorem cmpT_le {x y : Int} : cmpT x y ≤ 0 ↔ x ≤ y := by
  rcases Int.lt_trichotomy x y with h | h | h
  · rw [cmpT_lt h]; omega
  · subst h; rw [cmpT_self]; omega
  · rw [cmpT_gt h]; omega
/-! ### data -/
theorem cmpS_self (x : ByteArray) : cmpS x x = 0 := by have := cmpS_neg x x; omega
theorem cmpS_zero {x y : ByteArray} (h : cmpS x y = 0) : x = y := by
  rw [cmpS_eq] at h
  by_cases h1 : Op.bytesLess x.toList y.toList = true
  · simp [h1] at h
  · by_cases h2 : Op.bytesLess y.toList x.toList = true
    · simp [h1, h2] at h
    · have e := less_total _ _ (by simpa using h1) (by simpa using h2)
      rw [Lib.toList_data, Lib.toList_data] at e
      obtain ⟨⟨x⟩⟩ := x
      obtain ⟨⟨y⟩⟩ := y
      simp at e
      rw [e]
theorem cmpT_zero {x y : Int} (h : cmpT x y = 0) : x = y := by
  rcases Int.lt_trichotomy x y with k | k | k
  · rw [cmpT_lt k] at h; omega
  · exact k
  · rw [cmpT_gt k] at h; omega
theorem cmpD_off {a b : Dat} (h : ¬ a.k = b.k) : cmpD a b = cmpT a.k b.k := by unfold cmpD; rw [if_neg h]
theorem cmpD_on {a b : Dat} (h : a.k = b.k) : cmpD a b = if a.k = 2 then cmpT (rankT a.b) (rankT b.b) else if a.k = 3 then cmpT a.n b.n else if a.k = 4 then cmpS a.s b.s else 0 := by unfold cmpD; rw [if_pos h]
theorem cmpD_neg (a b : Dat) : cmpD a b = -cmpD b a := by
  by_cases h : a.k = b.k
  · rw [cmpD_on h, cmpD_on h.symm, ← h]
    by_cases h2 : a.k = 2
    · rw [if_pos h2, if_pos h2]; exact cmpT_neg _ _
    · rw [if_neg h2, if_neg h2]
      by_cases h3 : a.k = 3
      · rw [if_pos h3, if_pos h3]; exact cmpT_neg _ _
      · rw [if_neg h3, if_neg h3]
        by_cases h4 : a.k = 4
        · rw [if_pos h4, if_pos h4]; exact cmpS_neg _ _
        · rw [if_neg h4, if_neg h4]; rfl
  · rw [cmpD_off h, cmpD_off (Ne.symm h)]; exact cmpT_neg _ _
theorem cmpD_self (a : Dat) : cmpD a a = 0 := by have := cmpD_neg a a; omega
theorem cmpT_trans {x y z : Int} (h : cmpT x y ≤ 0) (k : cmpT y z ≤ 0) : cmpT x z ≤ 0 := by rw [cmpT_le] at *; omega
theorem cmpD_trans {a b c : Dat} (h : cmpD a b ≤ 0) (k : cmpD b c ≤ 0) : cmpD a c ≤ 0 := by
  by_cases e1 : a.k = b.k
  · by_cases e2 : b.k = c.k
    · rw [cmpD_on e1] at h
      rw [cmpD_on e2] at k
      rw [cmpD_on (e1.trans e2)]
      rw [← e1] at k
      by_cases h2 : a.k = 2
      · rw [if_pos h2] at *; exact cmpT_trans h k
      · rw [if_neg h2] at *
        by_cases h3 : a.k = 3
        · rw [if_pos h3] at *; exact cmpT_trans h k
        · rw [if_neg h3] at *
          by_cases h4 : a.k = 4
          · rw [if_pos h4] at *; exact cmpS_trans h k
          · rw [if_neg h4]; omega
    · rw [cmpD_off e2] at k
      rw [cmpD_off (by rw [e1]; exact e2), e1]
      exact k
  · by_cases e2 : b.k = c.k
    · rw [cmpD_off e1] at h
      rw [cmpD_off (by rw [← e2]; exact e1), ← e2]
      exact h
    · rw [cmpD_off e1, cmpT_le] at h
      rw [cmpD_off e2, cmpT_le] at k
      rw [cmpD_off (by omega), cmpT_le]
      omega
theorem form_of {k n : Int} {b : Bool} {s : ByteArray} (h : checkT k b n s = 0) : (k = 1 ∨ k = 2 ∨ k = 3 ∨ k = 4) ∧ (k ≠ 2 → b = false) ∧ (k ≠ 3 → n = 0) ∧ (k ≠ 4 → s = ⟨#[]⟩) := by
  by_cases hf : (k = 1 ∨ k = 2 ∨ k = 3 ∨ k = 4) ∧ (k ≠ 2 → b = false) ∧ (k ≠ 3 → n = 0) ∧ (k ≠ 4 → s = ⟨#[]⟩)
  · exact hf
  · rw [checkT_off hf] at h; cases h
theorem rankT_inj {a b : Bool} (h : rankT a = rankT b) : a = b := by cases a <;> cases b <;> first | rfl | (simp [rankT] at h)
theorem cmpD_zero {a b : Dat} (ha : a.check = 0) (hb : b.check = 0) : cmpD a b = 0 ↔ a = b := by
  constructor
  · intro h
    by_cases e : a.k = b.k
    · rw [cmpD_on e] at h
      obtain ⟨ka, ba, na, sa⟩ := a
      obtain ⟨kb, bb, nb, sb⟩ := b
      simp only at e h
      subst e
      obtain ⟨hk, a1, a2, a3⟩ := form_of (show checkT ka ba na sa = 0 from ha)
      obtain ⟨_, b1, b2, b3⟩ := form_of (show checkT ka bb nb sb = 0 from hb)
      have hbb : ba = bb := by
        by_cases h2 : ka = 2
        · rw [if_pos h2] at h; exact rankT_inj (cmpT_zero h)
        · rw [a1 h2, b1 h2]
      have hnn : na = nb := by
        by_cases h2 : ka = 3
        · rw [if_neg (by omega), if_pos h2] at h; exact cmpT_zero h
        · rw [a2 h2, b2 h2]
      have hss : sa = sb := by
        by_cases h2 : ka = 4
        · rw [if_neg (by omega), if_neg (by omega), if_pos h2] at h; exact cmpS_zero h
        · rw [a3 h2, b3 h2]
      rw [hbb, hnn, hss]
    · rw [cmpD_off e] at h
      exact absurd (cmpT_zero h) e
  · rintro rfl; exact cmpD_self a
theorem cmpT_tri (x y : Int) : cmpT x y = -1 ∨ cmpT x y = 0 ∨ cmpT x y = 1 := by
  unfold cmpT
  split
  · exact .inl rfl
  · split
    · exact .inr (.inr rfl)
    · exact .inr (.inl rfl)
theorem cmpS_tri (x y : ByteArray) : cmpS x y = -1 ∨ cmpS x y = 0 ∨ cmpS x y = 1 := by
  unfold cmpS
  split
  · exact .inl rfl
  · split
    · exact .inr (.inl rfl)
    · exact .inr (.inr rfl)
theorem cmpD_tri (a b : Dat) : cmpD a b = -1 ∨ cmpD a b = 0 ∨ cmpD a b = 1 := by
  unfold cmpD
  repeat' split
  all_goals first | exact cmpT_tri _ _ | exact cmpS_tri _ _ | exact .inr (.inl rfl)
theorem toList_inj {x y : ByteArray} (h : x.toList = y.toList) : x = y := by
  rw [Lib.toList_data, Lib.toList_data] at h
  obtain ⟨⟨x⟩⟩ := x
  obtain ⟨⟨y⟩⟩ := y
  simp at h
  rw [h]
theorem datum_parts {ka kb na nb : Int} {ba bb : Bool} {sa sb : ByteArray} (h : ¬ (⟨ka, ba, na, sa⟩ : Dat) = ⟨kb, bb, nb, sb⟩) :
    (ka == kb) = false ∨ (ka = kb ∧ (ba == bb) = false) ∨ (ka = kb ∧ ba = bb ∧ (na == nb) = false) ∨ (ka = kb ∧ ba = bb ∧ na = nb ∧ ¬ sa.toList = sb.toList) := by
  by_cases h1 : ka = kb
  · by_cases h2 : ba = bb
    · by_cases h3 : na = nb
      · by_cases h4 : sa.toList = sb.toList
        · exact absurd (by rw [h1, h2, h3, toList_inj h4]) h
        · exact .inr (.inr (.inr ⟨h1, h2, h3, h4⟩))
      · exact .inr (.inr (.inl ⟨h1, h2, by simpa using h3⟩))
    · exact .inr (.inl ⟨h1, by simpa using h2⟩)
  · exact .inl (by simpa using h1)
theorem cmp_at {c : Int} (ka na kb nb : Int) (ba bb : Bool) (sa sb : ByteArray) (w : World) (h : Hid (cmpD ⟨ka, ba, na, sa⟩ ⟨kb, bb, nb, sb⟩ = c)) : Calls Tryd.prog 54 #[.agg #[.int .u8 (ka), .bool (ba), .int .i64 (na), .string (sa)], .agg #[.int .u8 (kb), .bool (bb), .int .i64 (nb), .string (sb)]] w fun e w' => e = .returned (.int .i64 c) ∧ Ext w w' := h.out ▸ cmp_any ⟨ka, ba, na, sa⟩ ⟨kb, bb, nb, sb⟩ w
end Go.Proofs.YtngeioghihbkeaaDoor
