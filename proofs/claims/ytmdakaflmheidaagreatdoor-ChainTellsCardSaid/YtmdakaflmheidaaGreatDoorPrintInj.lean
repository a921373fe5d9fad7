/- Times that are written alike are the same. Plain. -/
import Derived.Test.YtmdakaflmheidaaGreatDoorPrintB
import Derived.Test.YtmdakaflmheidaaGreatDoorChainLaw
namespace Go.Proofs.YtmdakaflmheidaaGreatDoor
open Go.RowKit

theorem digit_val {r : Nat} (h : r < 10) : (UInt8.ofNat (48 + r)).toNat = 48 + r := by
  rw [UInt8.toNat_ofNat']
  omega
def isDig (c : UInt8) : Prop := 48 ≤ c.toNat ∧ c.toNat ≤ 57
theorem digits_fine : ∀ (f u : Nat), u ≤ f → ∀ c ∈ Lib.decDigits u, isDig c
  | f, u, h => by
    intro c hc
    unfold isDig
    unfold Lib.decDigits at hc
    split at hc
    · simp only [List.mem_singleton] at hc
      subst hc
      rw [digit_val (by omega)]
      omega
    · rcases List.mem_append.1 hc with h1 | h1
      · match f, h with
        | 0, h => omega
        | f + 1, h => exact digits_fine f (u / 10) (by omega) c h1
      · simp only [List.mem_singleton] at h1
        subst h1
        rw [digit_val (by omega)]
        omega
def decVal (l : List UInt8) : Nat := l.foldl (fun a c => 10 * a + (c.toNat - 48)) 0
theorem val_digits : ∀ (f u : Nat), u ≤ f → decVal (Lib.decDigits u) = u
  | f, u, h => by
    unfold Lib.decDigits
    split
    · simp only [decVal, List.foldl_cons, List.foldl_nil]
      rw [digit_val (by omega)]
      omega
    · match f, h with
      | 0, h => omega
      | f + 1, h =>
        have ih := val_digits f (u / 10) (by omega)
        unfold decVal at ih ⊢
        rw [List.foldl_append, ih]
        simp only [List.foldl_cons, List.foldl_nil]
        rw [digit_val (by omega)]
        omega
theorem digits_inj {u v : Nat} (h : Lib.decDigits u = Lib.decDigits v) : u = v := by
  rw [← val_digits u u (Nat.le_refl _), ← val_digits v v (Nat.le_refl _), h]
theorem run_inj : ∀ {A B : List UInt8} {c d : UInt8} {x y : List UInt8}, (∀ z ∈ A, isDig z) → (∀ z ∈ B, isDig z) → ¬ isDig c → ¬ isDig d → A ++ c :: x = B ++ d :: y → A = B ∧ c = d ∧ x = y
  | [], [], c, d, x, y, _, _, _, _, h => by injection h with h1 h2; exact ⟨rfl, h1, h2⟩
  | [], b :: B, c, d, x, y, _, hB, hc, _, h => by injection h with h1 _; exact absurd (h1 ▸ hB b (by simp)) hc
  | a :: A, [], c, d, x, y, hA, _, _, hd, h => by injection h with h1 _; exact absurd (h1 ▸ hA a (by simp)) hd
  | a :: A, b :: B, c, d, x, y, hA, hB, hc, hd, h => by
    injection h with h1 h2
    obtain ⟨e1, e2, e3⟩ := run_inj (fun z hz => hA z (List.mem_cons_of_mem _ hz)) (fun z hz => hB z (List.mem_cons_of_mem _ hz)) hc hd h2
    exact ⟨by rw [h1, e1], e2, e3⟩
theorem dec_inj {a b : Int} (ha : 0 ≤ a) (hb : 0 ≤ b) {c d : UInt8} {x y : List UInt8} (hc : ¬ isDig c) (hd : ¬ isDig d) (h : Lib.decDigits a.toNat ++ c :: x = Lib.decDigits b.toNat ++ d :: y) : a = b ∧ c = d ∧ x = y := by
  obtain ⟨e1, e2, e3⟩ := run_inj (digits_fine _ _ (Nat.le_refl _)) (digits_fine _ _ (Nat.le_refl _)) hc hd h
  have := digits_inj e1
  exact ⟨by omega, e2, e3⟩
/-- the counters behind the first -/
def restL : List Int → List UInt8
  | [] => [41, 0]
  | y :: r => 44 :: (Lib.decDigits y.toNat ++ restL r)
theorem nd40 : ¬ isDig 40 := by unfold isDig; decide
theorem nd41 : ¬ isDig 41 := by unfold isDig; decide
theorem nd44 : ¬ isDig 44 := by unfold isDig; decide
theorem nd0 : ¬ isDig 0 := by unfold isDig; decide
theorem rest_head (l : List Int) : ∃ c x, restL l = c :: x ∧ ¬ isDig c := by
  cases l with
  | nil => exact ⟨41, _, rfl, nd41⟩
  | cons y r => exact ⟨44, _, rfl, nd44⟩
theorem rest_inj : ∀ {l m : List Int}, (∀ x ∈ l, 0 ≤ x) → (∀ x ∈ m, 0 ≤ x) → restL l = restL m → l = m
  | [], [], _, _, _ => rfl
  | [], y :: m, _, _, h => by unfold restL at h; injection h with h1 _; exact absurd h1 (by decide)
  | x :: l, [], _, _, h => by unfold restL at h; injection h with h1 _; exact absurd h1 (by decide)
  | x :: l, y :: m, hl, hm, h => by
    rw [restL, restL] at h
    injection h with _ h
    obtain ⟨c, p, e1, nc⟩ := rest_head l
    obtain ⟨d, q, e2, nd⟩ := rest_head m
    rw [e1, e2] at h
    obtain ⟨h1, h2, h3⟩ := dec_inj (hl x (by simp)) (hm y (by simp)) nc nd h
    rw [h1, rest_inj (fun z hz => hl z (List.mem_cons_of_mem _ hz)) (fun z hz => hm z (List.mem_cons_of_mem _ hz)) (by rw [e1, e2, h2, h3])]
theorem tail_rest (r : List Int) : Lib.joinTail [44] ((r.map digB).map (·.data.toList)) ++ [41, 0] = restL r := by
  induction r with
  | nil => rfl
  | cons y r ih =>
    rw [restL, ← ih]
    unfold Lib.joinTail digB
    simp
/-- a time's text, with an end -/
def prL (v : TV) : List UInt8 := match v.2 with | [] => Lib.decDigits v.1.toNat ++ [0] | x :: r => Lib.decDigits v.1.toNat ++ 40 :: (Lib.decDigits x.toNat ++ restL r)
theorem prT_list (v : TV) : (prT v.1 v.2).data.toList ++ [0] = prL v := by
  obtain ⟨e, l⟩ := v
  cases l with
  | nil => simp [prT, prL, digB]
  | cons x r =>
    show (prT e (x :: r)).data.toList ++ [0] = Lib.decDigits e.toNat ++ 40 :: (Lib.decDigits x.toNat ++ restL r)
    rw [prT_is e (x :: r) (by simp)]
    unfold printT
    rw [List.map_cons, List.map_cons, Lib.join_cons, ← tail_rest]
    simp [digB]
theorem prL_inj {v u : TV} (hv : 0 ≤ v.1 ∧ ∀ x ∈ v.2, 0 ≤ x) (hu : 0 ≤ u.1 ∧ ∀ x ∈ u.2, 0 ≤ x) (h : prL v = prL u) : v = u := by
  obtain ⟨e, l⟩ := v
  obtain ⟨f, m⟩ := u
  unfold prL at h
  cases l with
  | nil =>
    cases m with
    | nil =>
      have h1 := (dec_inj hv.1 hu.1 nd0 nd0 h).1
      simp only at h1
      rw [h1]
    | cons y m => exact absurd (dec_inj hv.1 hu.1 nd0 nd40 h).2.1 (by decide)
  | cons x l =>
    cases m with
    | nil => exact absurd (dec_inj hv.1 hu.1 nd40 nd0 h).2.1 (by decide)
    | cons y m =>
      obtain ⟨h1, _, h3⟩ := dec_inj hv.1 hu.1 nd40 nd40 h
      obtain ⟨c, p, e1, nc⟩ := rest_head l
      obtain ⟨d, q, e2, nd⟩ := rest_head m
      rw [e1, e2] at h3
      obtain ⟨k1, k2, k3⟩ := dec_inj (hv.2 x (by simp)) (hu.2 y (by simp)) nc nd h3
      have := rest_inj (fun z hz => hv.2 z (List.mem_cons_of_mem _ hz)) (fun z hz => hu.2 z (List.mem_cons_of_mem _ hz)) (show restL l = restL m by rw [e1, e2, k2, k3])
      simp only at h1
      rw [h1, k1, this]
theorem prT_inj {v u : TV} (hv : 0 ≤ v.1 ∧ ∀ x ∈ v.2, 0 ≤ x) (hu : 0 ≤ u.1 ∧ ∀ x ∈ u.2, 0 ≤ x) (h : (prT v.1 v.2).data.toList = (prT u.1 u.2).data.toList) : v = u :=
  prL_inj hv hu (by rw [← prT_list, ← prT_list, h])
end Go.Proofs.YtmdakaflmheidaaGreatDoor
