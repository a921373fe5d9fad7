/- The plain law of a row's bytes: they compare as rows do. Conditions: rows that may be. -/
import Derived.Test.YtngeioghihbkeaaDoorRowKey
import Derived.Test.YtngeioghihbkeaaDoorCts
namespace Go.Proofs.YtngeioghihbkeaaDoor
open Go.RowKit

/-- the order of bytes -/
def lexB : List UInt8 → List UInt8 → Int
  | [], [] => 0
  | [], _ :: _ => -1
  | _ :: _, [] => 1
  | a :: x, b :: y => if a.toNat < b.toNat then -1 else if b.toNat < a.toNat then 1 else lexB x y
theorem lexB_same : ∀ p s t : List UInt8, lexB (p ++ s) (p ++ t) = lexB s t
  | [], _, _ => rfl
  | a :: p, s, t => by
    show (if a.toNat < a.toNat then -1 else if a.toNat < a.toNat then 1 else lexB (p ++ s) (p ++ t)) = _
    rw [if_neg (by omega), if_neg (by omega)]
    exact lexB_same p s t
theorem lexB_lt {a b : UInt8} (x y : List UInt8) (h : a.toNat < b.toNat) : lexB (a :: x) (b :: y) = -1 := if_pos h
theorem lexB_gt {a b : UInt8} (x y : List UInt8) (h : b.toNat < a.toNat) : lexB (a :: x) (b :: y) = 1 := by
  show (if a.toNat < b.toNat then -1 else if b.toNat < a.toNat then 1 else lexB x y) = 1
  rw [if_neg (by omega), if_pos h]
theorem lexB_eq (a : UInt8) (x y : List UInt8) : lexB (a :: x) (a :: y) = lexB x y := lexB_same [a] x y
theorem lexB_refl (p : List UInt8) : lexB p p = 0 := by
  have := lexB_same p [] []
  rwa [List.append_nil] at this
theorem lexB_zero : ∀ x y : List UInt8, lexB x y = 0 → x = y
  | [], [], _ => rfl
  | [], _ :: _, h => absurd h (by show ¬ (-1 : Int) = 0; decide)
  | _ :: _, [], h => absurd h (by show ¬ (1 : Int) = 0; decide)
  | a :: x, b :: y, h => by
    unfold lexB at h
    split at h
    · exact absurd h (by decide)
    · split at h
      · exact absurd h (by decide)
      · have e : a = b := UInt8.toNat_inj.1 (by omega)
        rw [e, lexB_zero x y h]
/-! ### numbers -/
def be : Nat → Nat → List UInt8
  | 0, _ => []
  | k + 1, m => UInt8.ofNat (m / 256 ^ k) :: be k (m % 256 ^ k)
theorem be8_is (m : Nat) (h : m < 18446744073709551616) : be8 m = be 8 m := by
  have q : ∀ a b : Nat, a % 256 = b % 256 → UInt8.ofNat a = UInt8.ofNat b := fun a b e => UInt8.toNat_inj.1 (by rw [UInt8.toNat_ofNat', UInt8.toNat_ofNat']; exact e)
  unfold be8
  simp only [be]
  rw [show (2 : Nat) ^ 56 = 72057594037927936 by decide, show (2 : Nat) ^ 48 = 281474976710656 by decide, show (2 : Nat) ^ 40 = 1099511627776 by decide, show (2 : Nat) ^ 32 = 4294967296 by decide, show (2 : Nat) ^ 24 = 16777216 by decide, show (2 : Nat) ^ 16 = 65536 by decide, show (2 : Nat) ^ 8 = 256 by decide]
  simp only [Nat.pow_zero, Nat.div_one]
  refine congr (congrArg _ (q _ _ (by omega))) (congr (congrArg _ (q _ _ (by omega))) (congr (congrArg _ (q _ _ (by omega))) (congr (congrArg _ (q _ _ (by omega))) (congr (congrArg _ (q _ _ (by omega))) (congr (congrArg _ (q _ _ (by omega))) (congr (congrArg _ (q _ _ (by omega))) (congr (congrArg _ (q _ _ (by omega))) rfl)))))))
theorem be_lt : ∀ (k a b : Nat) (s t : List UInt8), a < 256 ^ k → b < 256 ^ k → a < b → lexB (be k a ++ s) (be k b ++ t) = -1 ∧ lexB (be k b ++ t) (be k a ++ s) = 1
  | 0, a, b, _, _, ha, hb, h => by rw [Nat.pow_zero] at ha hb; omega
  | k + 1, a, b, s, t, ha, hb, h => by
    have hp : 0 < 256 ^ k := Nat.pow_pos (by decide)
    rw [Nat.pow_succ] at ha hb
    have qa : a / 256 ^ k < 256 := Nat.div_lt_of_lt_mul ha
    have qb : b / 256 ^ k < 256 := Nat.div_lt_of_lt_mul hb
    have tx : ∀ x : Nat, x < 256 → (UInt8.ofNat x).toNat = x := fun x hx => by rw [UInt8.toNat_ofNat']; omega
    have ta := tx _ qa
    have tb := tx _ qb
    unfold be
    rw [List.cons_append, List.cons_append]
    rcases Nat.lt_trichotomy (a / 256 ^ k) (b / 256 ^ k) with q | q | q
    · exact ⟨lexB_lt _ _ (by rw [ta, tb]; exact q), lexB_gt _ _ (by rw [ta, tb]; exact q)⟩
    · rw [q, lexB_eq, lexB_eq]
      refine be_lt k _ _ s t (Nat.mod_lt _ hp) (Nat.mod_lt _ hp) ?_
      have e1 := Nat.div_add_mod a (256 ^ k)
      have e2 := Nat.div_add_mod b (256 ^ k)
      rw [q] at e1
      omega
    · have : b ≤ a := by
        rcases Nat.lt_or_ge a b with h1 | h1
        · have := Nat.div_le_div_right (c := 256 ^ k) (Nat.le_of_lt h1)
          omega
        · exact h1
      omega
/-! ### texts -/
theorem escZ_zero : escZ 0 = [0, 255] := rfl
theorem escZ_some {c : UInt8} (h : ¬ c = 0) : escZ c = [c] := if_neg h
theorem pos_of_ne {c : UInt8} (h : ¬ c = 0) : 0 < c.toNat := by
  rcases Nat.eq_zero_or_pos c.toNat with q | q
  · exact absurd (UInt8.toNat_inj.1 q) h
  · exact q
theorem txt_lt : ∀ (x y : List UInt8) (s t : List UInt8), Op.bytesLess x y = true → lexB (x.flatMap escZ ++ (0 :: 1 :: s)) (y.flatMap escZ ++ (0 :: 1 :: t)) = -1 ∧ lexB (y.flatMap escZ ++ (0 :: 1 :: t)) (x.flatMap escZ ++ (0 :: 1 :: s)) = 1
  | [], [], _, _, h => by simp [Op.bytesLess] at h
  | _ :: _, [], _, _, h => by simp [Op.bytesLess] at h
  | [], c :: y, s, t, _ => by
    rw [List.flatMap_cons]
    by_cases hc : c = 0
    · subst hc
      rw [escZ_zero]
      show lexB (0 :: 1 :: s) (0 :: 255 :: (y.flatMap escZ ++ 0 :: 1 :: t)) = -1 ∧ lexB (0 :: 255 :: (y.flatMap escZ ++ 0 :: 1 :: t)) (0 :: 1 :: s) = 1
      rw [lexB_eq, lexB_eq]
      exact ⟨lexB_lt _ _ (by decide), lexB_gt _ _ (by decide)⟩
    · rw [escZ_some hc]
      exact ⟨lexB_lt _ _ (pos_of_ne hc), lexB_gt _ _ (pos_of_ne hc)⟩
  | c :: x, d :: y, s, t, h => by
    simp only [Op.bytesLess, Bool.or_eq_true, decide_eq_true_eq, Bool.and_eq_true, beq_iff_eq] at h
    rw [List.flatMap_cons, List.flatMap_cons, List.append_assoc, List.append_assoc]
    rcases h with h | ⟨rfl, h⟩
    · have h' := UInt8.lt_iff_toNat_lt.1 h
      have hd : ¬ d = 0 := fun e => by rw [e] at h'; exact absurd h' (by simp)
      rw [escZ_some hd]
      by_cases hc : c = 0
      · subst hc
        rw [escZ_zero]
        exact ⟨lexB_lt _ _ (pos_of_ne hd), lexB_gt _ _ (pos_of_ne hd)⟩
      · rw [escZ_some hc]
        exact ⟨lexB_lt _ _ h', lexB_gt _ _ h'⟩
    · rw [lexB_same, lexB_same]
      exact txt_lt x y s t h
/-! ### data -/
theorem datum_form {d : Dat} (h : d.check = 0) : (d.k = 1 ∨ d.k = 2 ∨ d.k = 3 ∨ d.k = 4) ∧ (d.k ≠ 2 → d.b = false) ∧ (d.k ≠ 3 → d.n = 0) ∧ (d.k ≠ 4 → d.s = ⟨#[]⟩) := form_of h
def InD (d : Dat) : Prop := -9223372036854775808 ≤ d.n ∧ d.n ≤ 9223372036854775807
theorem put_lt {a b : Dat} (ha : a.check = 0) (hb : b.check = 0) (ia : InD a) (ib : InD b) (h : cmpD a b < 0) (s t : List UInt8) : lexB (putT a ++ s) (putT b ++ t) = -1 ∧ lexB (putT b ++ t) (putT a ++ s) = 1 ∧ cmpD a b = -1 := by
  obtain ⟨ka, _⟩ := datum_form ha
  obtain ⟨kb, _⟩ := datum_form hb
  obtain ⟨k1, b1, n1, s1⟩ := a
  obtain ⟨k2, b2, n2, s2⟩ := b
  simp only at ka kb
  unfold InD at ia ib
  simp only at ia ib
  clear ha hb
  unfold cmpD at h ⊢
  simp only at h ⊢
  by_cases hk : k1 = k2
  · subst hk
    rw [if_pos rfl] at h ⊢
    rcases ka with rfl | rfl | rfl | rfl
    · exact absurd h (by simp)
    · cases b1 <;> cases b2
      · exact absurd h (by simp [cmpT])
      · exact ⟨lexB_lt _ _ (show (32 : UInt8).toNat < (33 : UInt8).toNat by decide), lexB_gt _ _ (show (32 : UInt8).toNat < (33 : UInt8).toNat by decide), rfl⟩
      · exact absurd h (by simp [cmpT, rankT])
      · exact absurd h (by simp [cmpT])
    · rw [if_neg (by decide), if_pos rfl] at h ⊢
      have hlt : n1 < n2 := by
        unfold cmpT at h
        split at h
        · assumption
        · split at h <;> exact absurd h (by decide)
      have e1 := be8_is (n1 + 9223372036854775808).toNat (by omega)
      have e2 := be8_is (n2 + 9223372036854775808).toNat (by omega)
      have := be_lt 8 (n1 + 9223372036854775808).toNat (n2 + 9223372036854775808).toNat s t (by rw [show (256 : Nat) ^ 8 = 18446744073709551616 by decide]; omega) (by rw [show (256 : Nat) ^ 8 = 18446744073709551616 by decide]; omega) (by omega)
      show lexB (48 :: be8 _ ++ s) (48 :: be8 _ ++ t) = -1 ∧ lexB (48 :: be8 _ ++ t) (48 :: be8 _ ++ s) = 1 ∧ cmpT n1 n2 = -1
      rw [e1, e2, List.cons_append, List.cons_append, lexB_eq, lexB_eq]
      exact ⟨this.1, this.2, cmpT_lt hlt⟩
    · rw [if_neg (by decide), if_neg (by decide), if_pos rfl] at h ⊢
      have hlt : Op.bytesLess s1.toList s2.toList = true := by
        rw [cmpS_eq] at h
        split at h
        · assumption
        · split at h <;> exact absurd h (by decide)
      have := txt_lt s1.data.toList s2.data.toList s t (by rw [Lib.toList_data, Lib.toList_data] at hlt; exact hlt)
      show lexB (64 :: (s1.data.toList.flatMap escZ ++ [0, 1]) ++ s) (64 :: (s2.data.toList.flatMap escZ ++ [0, 1]) ++ t) = -1 ∧ lexB (64 :: (s2.data.toList.flatMap escZ ++ [0, 1]) ++ t) (64 :: (s1.data.toList.flatMap escZ ++ [0, 1]) ++ s) = 1 ∧ cmpS s1 s2 = -1
      rw [List.cons_append, List.cons_append, lexB_eq, lexB_eq, List.append_assoc, List.append_assoc]
      exact ⟨this.1, this.2, by rw [cmpS_eq, if_pos hlt]⟩
  · rw [if_neg hk] at h ⊢
    have hlt : k1 < k2 := by
      unfold cmpT at h
      split at h
      · assumption
      · split at h <;> exact absurd h (by decide)
    refine and_assoc.1 ⟨?_, cmpT_lt hlt⟩
    rcases ka with rfl | rfl | rfl | rfl <;> rcases kb with rfl | rfl | rfl | rfl <;> first | exact absurd hlt (by decide) | skip
    · cases b2
      · exact ⟨lexB_lt _ _ (show (16 : UInt8).toNat < (32 : UInt8).toNat by decide), lexB_gt _ _ (show (16 : UInt8).toNat < (32 : UInt8).toNat by decide)⟩
      · exact ⟨lexB_lt _ _ (show (16 : UInt8).toNat < (33 : UInt8).toNat by decide), lexB_gt _ _ (show (16 : UInt8).toNat < (33 : UInt8).toNat by decide)⟩
    · exact ⟨lexB_lt _ _ (show (16 : UInt8).toNat < (48 : UInt8).toNat by decide), lexB_gt _ _ (show (16 : UInt8).toNat < (48 : UInt8).toNat by decide)⟩
    · exact ⟨lexB_lt _ _ (show (16 : UInt8).toNat < (64 : UInt8).toNat by decide), lexB_gt _ _ (show (16 : UInt8).toNat < (64 : UInt8).toNat by decide)⟩
    · cases b1
      · exact ⟨lexB_lt _ _ (show (32 : UInt8).toNat < (48 : UInt8).toNat by decide), lexB_gt _ _ (show (32 : UInt8).toNat < (48 : UInt8).toNat by decide)⟩
      · exact ⟨lexB_lt _ _ (show (33 : UInt8).toNat < (48 : UInt8).toNat by decide), lexB_gt _ _ (show (33 : UInt8).toNat < (48 : UInt8).toNat by decide)⟩
    · cases b1
      · exact ⟨lexB_lt _ _ (show (32 : UInt8).toNat < (64 : UInt8).toNat by decide), lexB_gt _ _ (show (32 : UInt8).toNat < (64 : UInt8).toNat by decide)⟩
      · exact ⟨lexB_lt _ _ (show (33 : UInt8).toNat < (64 : UInt8).toNat by decide), lexB_gt _ _ (show (33 : UInt8).toNat < (64 : UInt8).toNat by decide)⟩
    · exact ⟨lexB_lt _ _ (show (48 : UInt8).toNat < (64 : UInt8).toNat by decide), lexB_gt _ _ (show (48 : UInt8).toNat < (64 : UInt8).toNat by decide)⟩
theorem put_ne {d : Dat} (h : d.check = 0) : putT d ≠ [] := by
  obtain ⟨hk, _⟩ := datum_form h
  unfold putT
  rcases hk with q | q | q | q <;> rw [q] <;> simp
theorem key_ord : ∀ l m : List Dat, (∀ d ∈ l, d.check = 0 ∧ InD d) → (∀ d ∈ m, d.check = 0 ∧ InD d) → lexB (keyT l) (keyT m) = cmpR l m
  | [], [], _, _ => rfl
  | [], b :: m, _, hm => by
    unfold keyT
    rw [List.flatMap_cons]
    obtain ⟨c, x, e⟩ := List.exists_cons_of_ne_nil (put_ne (hm b (List.mem_cons_self ..)).1)
    rw [e]
    rfl
  | a :: l, [], hl, _ => by
    unfold keyT
    rw [List.flatMap_cons]
    obtain ⟨c, x, e⟩ := List.exists_cons_of_ne_nil (put_ne (hl a (List.mem_cons_self ..)).1)
    rw [e]
    rfl
  | a :: l, b :: m, hl, hm => by
    have ha := hl a (List.mem_cons_self ..)
    have hb := hm b (List.mem_cons_self ..)
    have ih := key_ord l m (fun d hd => hl d (List.mem_cons_of_mem _ hd)) (fun d hd => hm d (List.mem_cons_of_mem _ hd))
    unfold keyT at ih ⊢
    rw [List.flatMap_cons, List.flatMap_cons]
    unfold cmpR
    by_cases h : cmpD a b = 0
    · rw [if_pos h]
      have e : a = b := (cmpD_zero ha.1 hb.1).1 h
      rw [e, lexB_same]
      exact ih
    · rw [if_neg h]
      rcases Int.lt_or_gt_of_ne h with q | q
      · obtain ⟨h1, _, h3⟩ := put_lt ha.1 hb.1 ha.2 hb.2 q (l.flatMap putT) (m.flatMap putT)
        rw [h1, h3]
      · have q' : cmpD b a < 0 := by rw [cmpD_neg]; omega
        obtain ⟨_, h2, h3⟩ := put_lt hb.1 ha.1 hb.2 ha.2 q' (m.flatMap putT) (l.flatMap putT)
        rw [h2, cmpD_neg, h3]
        rfl
theorem row_zero : ∀ l m : List Dat, (∀ d ∈ l, d.check = 0 ∧ InD d) → (∀ d ∈ m, d.check = 0 ∧ InD d) → cmpR l m = 0 → l = m
  | [], [], _, _, _ => rfl
  | [], _ :: _, _, _, h => absurd h (by unfold cmpR; decide)
  | _ :: _, [], _, _, h => absurd h (by unfold cmpR; decide)
  | a :: l, b :: m, hl, hm, h => by
    unfold cmpR at h
    by_cases q : cmpD a b = 0
    · rw [if_pos q] at h
      rw [(cmpD_zero (hl a (List.mem_cons_self ..)).1 (hm b (List.mem_cons_self ..)).1).1 q, row_zero l m (fun d hd => hl d (List.mem_cons_of_mem _ hd)) (fun d hd => hm d (List.mem_cons_of_mem _ hd)) h]
    · rw [if_neg q] at h
      exact absurd h q
theorem key_inj {l m : List Dat} (hl : ∀ d ∈ l, d.check = 0 ∧ InD d) (hm : ∀ d ∈ m, d.check = 0 ∧ InD d) (h : keyT l = keyT m) : l = m :=
  row_zero l m hl hm (by rw [← key_ord l m hl hm, h]; exact lexB_refl _)
end Go.Proofs.YtngeioghihbkeaaDoor
