/- The plain law of penstockref01.long and Runes: a text has no runes just if it is no UTF-8. penstockref01.long: what it answers. penstockref01.Runes: what it answers. Conditions: each theorem states its own. -/
import Derived.Lib.ValidLaws
import Derived.Test.YtngeioghihbkeaaDoorGood
import Derived.Test.YtngeioghihbkeaaDoorBase
namespace Go.Proofs.YtngeioghihbkeaaDoor

/-- what 'long' answers at bytes b0 b1 b2 b3, of which m are left -/
def longT (m b0 b1 b2 b3 : Nat) : Nat :=
  if b0 < 128 then 1
  else if b0 < 194 then 0
  else if b0 < 224 then (if m < 2 ∨ b1 < 128 ∨ 192 ≤ b1 then 0 else 2)
  else if b0 < 240 then (if m < 3 ∨ b1 < 128 ∨ 192 ≤ b1 ∨ b2 < 128 ∨ 192 ≤ b2 then 0 else
    if (b0 - 224) * 4096 + (b1 - 128) * 64 + (b2 - 128) < 2048 ∨ 55296 ≤ (b0 - 224) * 4096 + (b1 - 128) * 64 + (b2 - 128) ∧ (b0 - 224) * 4096 + (b1 - 128) * 64 + (b2 - 128) < 57344 then 0 else 3)
  else if b0 < 245 then (if m < 4 ∨ b1 < 128 ∨ 192 ≤ b1 ∨ b2 < 128 ∨ 192 ≤ b2 ∨ b3 < 128 ∨ 192 ≤ b3 then 0 else
    if (b0 - 240) * 262144 + (b1 - 128) * 4096 + (b2 - 128) * 64 + (b3 - 128) < 65536 ∨ 1114111 < (b0 - 240) * 262144 + (b1 - 128) * 4096 + (b2 - 128) * 64 + (b3 - 128) then 0 else 4)
  else 0
/-- the same of a list's head -/
def longL (l : List UInt8) : Nat := longT l.length (l.getD 0 0).toNat (l.getD 1 0).toNat (l.getD 2 0).toNat (l.getD 3 0).toNat
def Agree (k : Nat) (d : Nat × Nat) : Prop := (k = 0 ∧ d = (65533, 1)) ∨ (k ≠ 0 ∧ d.2 = k ∧ ¬ (d.1 = 65533 ∧ d.2 = 1))

set_option maxHeartbeats 1000000 in
theorem agree1 (n b0 b1 b2 b3 : Nat) (h : b0 < 128) : Agree (longT n b0 b1 b2 b3) (Lib.decodeN n b0 b1 b2 b3) := by
  unfold longT Lib.decodeN
  rw [if_pos h, if_pos h]
  right
  refine ⟨by omega, rfl, ?_⟩
  simp only
  omega
set_option maxHeartbeats 1000000 in
theorem agree0 (n b0 b1 b2 b3 : Nat) (h : (128 ≤ b0 ∧ b0 < 194) ∨ (245 ≤ b0 ∧ b0 < 256)) : Agree (longT n b0 b1 b2 b3) (Lib.decodeN n b0 b1 b2 b3) := by
  rw [Lib.decodeN_bad n b0 b1 b2 b3 h]
  left
  refine ⟨?_, rfl⟩
  unfold longT
  repeat' split
  all_goals omega
theorem long2 (n b0 b1 b2 b3 : Nat) (h : 194 ≤ b0) (h' : b0 < 224) : longT n b0 b1 b2 b3 = if n < 2 ∨ b1 < 128 ∨ 192 ≤ b1 then 0 else 2 := by
  unfold longT
  rw [if_neg (show ¬ b0 < 128 by omega), if_neg (show ¬ b0 < 194 by omega), if_pos h']
theorem dec2 (n b0 b1 b2 b3 : Nat) (h : 194 ≤ b0) (h' : b0 < 224) : Lib.decodeN n b0 b1 b2 b3 = if 1 < n ∧ b1 / 64 = 2 then (if b0 % 32 * 64 + b1 % 64 ≥ 128 then (b0 % 32 * 64 + b1 % 64, 2) else (65533, 1)) else (65533, 1) := by
  unfold Lib.decodeN
  rw [if_neg (show ¬ b0 < 128 by omega), if_neg (show ¬ (b0 / 16 = 14 ∧ (1 < n ∧ b1 / 64 = 2) ∧ 2 < n ∧ b2 / 64 = 2) by omega), if_neg (show ¬ (b0 / 8 = 30 ∧ (1 < n ∧ b1 / 64 = 2) ∧ (2 < n ∧ b2 / 64 = 2) ∧ 3 < n ∧ b3 / 64 = 2) by omega)]
  by_cases hh : 1 < n ∧ b1 / 64 = 2
  · rw [if_pos ⟨by omega, hh⟩, if_pos hh]
  · rw [if_neg (fun x => hh x.2), if_neg hh]
theorem agree2 (n b0 b1 b2 b3 : Nat) (h : 194 ≤ b0) (h' : b0 < 224) (h1 : b1 < 256) : Agree (longT n b0 b1 b2 b3) (Lib.decodeN n b0 b1 b2 b3) := by
  rw [long2 n b0 b1 b2 b3 h h', dec2 n b0 b1 b2 b3 h h']
  by_cases hh : 1 < n ∧ b1 / 64 = 2
  · rw [if_neg (show ¬ (n < 2 ∨ b1 < 128 ∨ 192 ≤ b1) by omega), if_pos hh, if_pos (show b0 % 32 * 64 + b1 % 64 ≥ 128 by omega)]
    exact .inr ⟨by omega, rfl, by simp⟩
  · rw [if_pos (show n < 2 ∨ b1 < 128 ∨ 192 ≤ b1 by omega), if_neg hh]; exact .inl ⟨rfl, rfl⟩
theorem long3 (n b0 b1 b2 b3 : Nat) (h : 224 ≤ b0) (h' : b0 < 240) : longT n b0 b1 b2 b3 = if n < 3 ∨ b1 < 128 ∨ 192 ≤ b1 ∨ b2 < 128 ∨ 192 ≤ b2 then 0 else
    if (b0 - 224) * 4096 + (b1 - 128) * 64 + (b2 - 128) < 2048 ∨ 55296 ≤ (b0 - 224) * 4096 + (b1 - 128) * 64 + (b2 - 128) ∧ (b0 - 224) * 4096 + (b1 - 128) * 64 + (b2 - 128) < 57344 then 0 else 3 := by
  unfold longT
  rw [if_neg (show ¬ b0 < 128 by omega), if_neg (show ¬ b0 < 194 by omega), if_neg (show ¬ b0 < 224 by omega), if_pos h']
theorem dec3 (n b0 b1 b2 b3 : Nat) (h : 224 ≤ b0) (h' : b0 < 240) : Lib.decodeN n b0 b1 b2 b3 = if (1 < n ∧ b1 / 64 = 2) ∧ (2 < n ∧ b2 / 64 = 2) then
    (if b0 % 16 * 4096 + b1 % 64 * 64 + b2 % 64 ≥ 2048 ∧ (b0 % 16 * 4096 + b1 % 64 * 64 + b2 % 64 < 55296 ∨ (57344 ≤ b0 % 16 * 4096 + b1 % 64 * 64 + b2 % 64 ∧ b0 % 16 * 4096 + b1 % 64 * 64 + b2 % 64 ≤ 1114111))
     then (b0 % 16 * 4096 + b1 % 64 * 64 + b2 % 64, 3) else (65533, 1)) else (65533, 1) := by
  unfold Lib.decodeN
  rw [if_neg (show ¬ b0 < 128 by omega), if_neg (show ¬ (b0 / 32 = 6 ∧ (1 < n ∧ b1 / 64 = 2)) by omega), if_neg (show ¬ (b0 / 8 = 30 ∧ (1 < n ∧ b1 / 64 = 2) ∧ (2 < n ∧ b2 / 64 = 2) ∧ 3 < n ∧ b3 / 64 = 2) by omega)]
  by_cases hh : (1 < n ∧ b1 / 64 = 2) ∧ (2 < n ∧ b2 / 64 = 2)
  · rw [if_pos (show b0 / 16 = 14 ∧ (1 < n ∧ b1 / 64 = 2) ∧ 2 < n ∧ b2 / 64 = 2 from ⟨by omega, hh⟩), if_pos hh]
  · rw [if_neg (show ¬ (b0 / 16 = 14 ∧ (1 < n ∧ b1 / 64 = 2) ∧ 2 < n ∧ b2 / 64 = 2) from fun x => hh x.2), if_neg hh]
theorem agree3 (n b0 b1 b2 b3 : Nat) (h : 224 ≤ b0) (h' : b0 < 240) (h1 : b1 < 256) (h2 : b2 < 256) : Agree (longT n b0 b1 b2 b3) (Lib.decodeN n b0 b1 b2 b3) := by
  rw [long3 n b0 b1 b2 b3 h h', dec3 n b0 b1 b2 b3 h h']
  by_cases hh : (1 < n ∧ b1 / 64 = 2) ∧ (2 < n ∧ b2 / 64 = 2)
  · rw [if_neg (show ¬ (n < 3 ∨ b1 < 128 ∨ 192 ≤ b1 ∨ b2 < 128 ∨ 192 ≤ b2) by omega), if_pos hh]
    have e : b0 % 16 * 4096 + b1 % 64 * 64 + b2 % 64 = (b0 - 224) * 4096 + (b1 - 128) * 64 + (b2 - 128) := by omega
    rw [e]
    have hv : (b0 - 224) * 4096 + (b1 - 128) * 64 + (b2 - 128) < 65536 := by omega
    obtain ⟨v, e2⟩ : ∃ v, (b0 - 224) * 4096 + (b1 - 128) * 64 + (b2 - 128) = v := ⟨_, rfl⟩
    rw [e2] at hv ⊢
    clear e e2
    by_cases hg : v < 2048 ∨ 55296 ≤ v ∧ v < 57344
    · rw [if_pos hg, if_neg (by omega)]; exact .inl ⟨rfl, rfl⟩
    · rw [if_neg hg, if_pos (by omega)]; exact .inr ⟨by omega, rfl, by simp⟩
  · rw [if_pos (show n < 3 ∨ b1 < 128 ∨ 192 ≤ b1 ∨ b2 < 128 ∨ 192 ≤ b2 by omega), if_neg hh]; exact .inl ⟨rfl, rfl⟩
theorem long4 (n b0 b1 b2 b3 : Nat) (h : 240 ≤ b0) (h' : b0 < 245) : longT n b0 b1 b2 b3 = if n < 4 ∨ b1 < 128 ∨ 192 ≤ b1 ∨ b2 < 128 ∨ 192 ≤ b2 ∨ b3 < 128 ∨ 192 ≤ b3 then 0 else
    if (b0 - 240) * 262144 + (b1 - 128) * 4096 + (b2 - 128) * 64 + (b3 - 128) < 65536 ∨ 1114111 < (b0 - 240) * 262144 + (b1 - 128) * 4096 + (b2 - 128) * 64 + (b3 - 128) then 0 else 4 := by
  unfold longT
  rw [if_neg (show ¬ b0 < 128 by omega), if_neg (show ¬ b0 < 194 by omega), if_neg (show ¬ b0 < 224 by omega), if_neg (show ¬ b0 < 240 by omega), if_pos h']
theorem dec4 (n b0 b1 b2 b3 : Nat) (h : 240 ≤ b0) (h' : b0 < 248) : Lib.decodeN n b0 b1 b2 b3 = if (1 < n ∧ b1 / 64 = 2) ∧ (2 < n ∧ b2 / 64 = 2) ∧ (3 < n ∧ b3 / 64 = 2) then
    (if b0 % 8 * 262144 + b1 % 64 * 4096 + b2 % 64 * 64 + b3 % 64 ≥ 65536 ∧ (b0 % 8 * 262144 + b1 % 64 * 4096 + b2 % 64 * 64 + b3 % 64 < 55296 ∨ (57344 ≤ b0 % 8 * 262144 + b1 % 64 * 4096 + b2 % 64 * 64 + b3 % 64 ∧ b0 % 8 * 262144 + b1 % 64 * 4096 + b2 % 64 * 64 + b3 % 64 ≤ 1114111))
     then (b0 % 8 * 262144 + b1 % 64 * 4096 + b2 % 64 * 64 + b3 % 64, 4) else (65533, 1)) else (65533, 1) := by
  unfold Lib.decodeN
  rw [if_neg (show ¬ b0 < 128 by omega), if_neg (show ¬ (b0 / 32 = 6 ∧ (1 < n ∧ b1 / 64 = 2)) by omega), if_neg (show ¬ (b0 / 16 = 14 ∧ (1 < n ∧ b1 / 64 = 2) ∧ 2 < n ∧ b2 / 64 = 2) by omega)]
  by_cases hh : (1 < n ∧ b1 / 64 = 2) ∧ (2 < n ∧ b2 / 64 = 2) ∧ (3 < n ∧ b3 / 64 = 2)
  · rw [if_pos (show b0 / 8 = 30 ∧ (1 < n ∧ b1 / 64 = 2) ∧ (2 < n ∧ b2 / 64 = 2) ∧ 3 < n ∧ b3 / 64 = 2 from ⟨by omega, hh⟩), if_pos hh]
  · rw [if_neg (show ¬ (b0 / 8 = 30 ∧ (1 < n ∧ b1 / 64 = 2) ∧ (2 < n ∧ b2 / 64 = 2) ∧ 3 < n ∧ b3 / 64 = 2) from fun x => hh x.2), if_neg hh]
theorem agree4 (n b0 b1 b2 b3 : Nat) (h : 240 ≤ b0) (h' : b0 < 245) (h1 : b1 < 256) (h2 : b2 < 256) (h3 : b3 < 256) : Agree (longT n b0 b1 b2 b3) (Lib.decodeN n b0 b1 b2 b3) := by
  rw [long4 n b0 b1 b2 b3 h h', dec4 n b0 b1 b2 b3 h (by omega)]
  by_cases hh : (1 < n ∧ b1 / 64 = 2) ∧ (2 < n ∧ b2 / 64 = 2) ∧ (3 < n ∧ b3 / 64 = 2)
  · rw [if_neg (show ¬ (n < 4 ∨ b1 < 128 ∨ 192 ≤ b1 ∨ b2 < 128 ∨ 192 ≤ b2 ∨ b3 < 128 ∨ 192 ≤ b3) by omega), if_pos hh]
    have e : b0 % 8 * 262144 + b1 % 64 * 4096 + b2 % 64 * 64 + b3 % 64 = (b0 - 240) * 262144 + (b1 - 128) * 4096 + (b2 - 128) * 64 + (b3 - 128) := by omega
    rw [e]
    obtain ⟨v, e2⟩ : ∃ v, (b0 - 240) * 262144 + (b1 - 128) * 4096 + (b2 - 128) * 64 + (b3 - 128) = v := ⟨_, rfl⟩
    rw [e2]
    clear e e2
    by_cases hg : v < 65536 ∨ 1114111 < v
    · rw [if_pos hg, if_neg (by omega)]; exact .inl ⟨rfl, rfl⟩
    · rw [if_neg hg, if_pos (by omega)]; exact .inr ⟨by omega, rfl, by simp⟩
  · rw [if_pos (show n < 4 ∨ b1 < 128 ∨ 192 ≤ b1 ∨ b2 < 128 ∨ 192 ≤ b2 ∨ b3 < 128 ∨ 192 ≤ b3 by omega), if_neg hh]; exact .inl ⟨rfl, rfl⟩
theorem agree_any (n b0 b1 b2 b3 : Nat) (h0 : b0 < 256) (h1 : b1 < 256) (h2 : b2 < 256) (h3 : b3 < 256) : Agree (longT n b0 b1 b2 b3) (Lib.decodeN n b0 b1 b2 b3) := by
  by_cases c1 : b0 < 128
  · exact agree1 n b0 b1 b2 b3 c1
  by_cases c2 : b0 < 194
  · exact agree0 n b0 b1 b2 b3 (.inl ⟨by omega, c2⟩)
  by_cases c3 : b0 < 224
  · exact agree2 n b0 b1 b2 b3 (by omega) c3 h1
  by_cases c4 : b0 < 240
  · exact agree3 n b0 b1 b2 b3 (by omega) c4 h1 h2
  by_cases c5 : b0 < 245
  · exact agree4 n b0 b1 b2 b3 (by omega) c5 h1 h2 h3
  · exact agree0 n b0 b1 b2 b3 (.inr ⟨by omega, h0⟩)
theorem agree_list (l : List UInt8) : Agree (longL l) (Lib.decodeL l) := by
  rw [Lib.decodeL_N]
  exact agree_any _ _ _ _ _ (l.getD 0 0).toNat_lt (l.getD 1 0).toNat_lt (l.getD 2 0).toNat_lt (l.getD 3 0).toNat_lt

/-- how many runes; none: it is no UTF-8 -/
def runesG : Nat → List UInt8 → Option Nat
  | 0, _ => some 0
  | f + 1, l => if l = [] then some 0 else if longL l = 0 then none else (runesG f (l.drop (longL l))).map (· + 1)
def runesO (l : List UInt8) : Option Nat := runesG l.length l
theorem longL_le (l : List UInt8) (h : l ≠ []) : longL l ≤ l.length := by
  have hl : 0 < l.length := List.length_pos_iff.2 h
  unfold longL longT
  repeat' split
  all_goals omega
theorem runesG_nil : ∀ f, runesG f [] = some 0
  | 0 => rfl
  | _ + 1 => by simp [runesG]
theorem runesG_fuel : ∀ (n m : Nat) (l : List UInt8), l.length ≤ n → l.length ≤ m → runesG n l = runesG m l
  | 0, m, l, hn, _ => by
    have : l = [] := List.eq_nil_of_length_eq_zero (by omega)
    subst this
    rw [runesG_nil, runesG_nil]
  | n + 1, 0, l, _, hm => by
    have : l = [] := List.eq_nil_of_length_eq_zero (by omega)
    subst this
    rw [runesG_nil, runesG_nil]
  | n + 1, m + 1, l, hn, hm => by
    unfold runesG
    by_cases hne : l = []
    · simp [hne]
    · have hl : 0 < l.length := List.length_pos_iff.2 hne
      by_cases h0 : longL l = 0
      · simp [hne, h0]
      · rw [if_neg hne, if_neg hne, if_neg h0, if_neg h0, runesG_fuel n m (l.drop (longL l)) (by rw [List.length_drop]; omega) (by rw [List.length_drop]; omega)]
theorem runesO_nil : runesO [] = some 0 := rfl
theorem runesO_bad {l : List UInt8} (hne : l ≠ []) (h : longL l = 0) : runesO l = none := by
  obtain ⟨n, hn⟩ : ∃ n, l.length = n + 1 := ⟨l.length - 1, by have := List.length_pos_iff.2 hne; omega⟩
  unfold runesO
  rw [hn]
  unfold runesG
  rw [if_neg hne, if_pos h]
theorem runesO_step {l : List UInt8} (hne : l ≠ []) (h : longL l ≠ 0) : runesO l = (runesO (l.drop (longL l))).map (· + 1) := by
  have hl : 0 < l.length := List.length_pos_iff.2 hne
  obtain ⟨n, hn⟩ : ∃ n, l.length = n + 1 := ⟨l.length - 1, by omega⟩
  have e : runesG n (l.drop (longL l)) = runesG (l.drop (longL l)).length (l.drop (longL l)) := runesG_fuel n _ _ (by rw [List.length_drop]; omega) (Nat.le_refl _)
  unfold runesO
  rw [hn, ← e]
  show (if l = [] then some 0 else if longL l = 0 then none else (runesG n (l.drop (longL l))).map (· + 1)) = _
  rw [if_neg hne, if_neg h]
theorem runes_valid_aux : ∀ (f : Nat) (l : List UInt8), l.length ≤ f → (runesO l).isSome = Lib.validD l
  | 0, l, h => by
    have : l = [] := List.eq_nil_of_length_eq_zero (by omega)
    subst this
    rfl
  | f + 1, l, h => by
    by_cases hne : l = []
    · subst hne; rfl
    · have hl : 0 < l.length := List.length_pos_iff.2 hne
      rw [Lib.validD_step l hne]
      rcases agree_list l with ⟨h0, hd⟩ | ⟨h0, hd, hn⟩
      · rw [runesO_bad hne h0, hd]; rfl
      · rw [runesO_step hne h0, if_neg hn, hd, Option.isSome_map, runes_valid_aux f _ (by rw [List.length_drop]; omega)]
theorem runes_valid (l : List UInt8) : (runesO l).isSome = Lib.validD l := runes_valid_aux _ l (Nat.le_refl _)
/-- what Runes answers -/
def runesT (s : ByteArray) : Int := match runesO s.data.toList with | some n => n | none => -1
theorem runesT_neg (s : ByteArray) : (runesT s < 0) ↔ validB s = false := by
  unfold runesT validB
  rw [← runes_valid]
  cases runesO s.data.toList with
  | none => simp
  | some n => simp
theorem runesG_le : ∀ (f : Nat) (l : List UInt8) (n : Nat), runesG f l = some n → n ≤ f
  | 0, l, n, h => by simp [runesG] at h; omega
  | f + 1, l, n, h => by
    unfold runesG at h
    split at h
    · simp at h; omega
    · split at h
      · cases h
      · obtain ⟨m, hm, e⟩ := Option.map_eq_some_iff.1 h
        have := runesG_le f _ m hm
        omega
end Go.Proofs.YtngeioghihbkeaaDoor
namespace Go.Proofs.YtngeioghihbkeaaDoor
open Go.RowKit

section
variable (s : ByteArray) (k : Nat) (w : World) (hk : k < s.size)
set_option maxRecDepth 100000 in
set_option maxHeartbeats 600000 in
theorem long_one (h : s[k].toNat < 128) : Calls Tryd.prog 134 #[.string s, .int .i64 k] w fun e w' => e = .returned (.int .i64 1) ∧ w = w' := by
  go_enter Tryd.func134, Tryd.ntmps134
  go_wp2
  go_ret
  exact ⟨rfl, rfl⟩
set_option maxRecDepth 100000 in
set_option maxHeartbeats 600000 in
theorem long_bad1 (h : 128 ≤ s[k].toNat) (h' : s[k].toNat < 194) : Calls Tryd.prog 134 #[.string s, .int .i64 k] w fun e w' => e = .returned (.int .i64 0) ∧ w = w' := by
  go_enter Tryd.func134, Tryd.ntmps134
  go_wp2
  go_ret
  exact ⟨rfl, rfl⟩
set_option maxRecDepth 100000 in
set_option maxHeartbeats 600000 in
theorem long_bad2 (h : 245 ≤ s[k].toNat) : Calls Tryd.prog 134 #[.string s, .int .i64 k] w fun e w' => e = .returned (.int .i64 0) ∧ w = w' := by
  go_enter Tryd.func134, Tryd.ntmps134
  go_wp2
  go_ret
  exact ⟨rfl, rfl⟩
set_option maxRecDepth 100000 in
set_option maxHeartbeats 600000 in
theorem long2_short (hs : s.size ≤ 140737488355328) (h : 194 ≤ s[k].toNat) (h' : s[k].toNat < 224) (hl : s.size < k + 2) : Calls Tryd.prog 134 #[.string s, .int .i64 k] w fun e w' => e = .returned (.int .i64 0) ∧ w = w' := by
  go_enter Tryd.func134, Tryd.ntmps134
  go_wp2
  go_ret
  exact ⟨rfl, rfl⟩
set_option maxRecDepth 100000 in
set_option maxHeartbeats 600000 in
theorem long2_lo1 (hs : s.size ≤ 140737488355328) (h : 194 ≤ s[k].toNat) (h' : s[k].toNat < 224) (hl : k + 2 ≤ s.size)  (c : s[k + 1].toNat < 128) : Calls Tryd.prog 134 #[.string s, .int .i64 k] w fun e w' => e = .returned (.int .i64 0) ∧ w = w' := by
  go_enter Tryd.func134, Tryd.ntmps134
  go_wp2
  go_rounds 2
  go_ret
  exact ⟨rfl, rfl⟩
set_option maxRecDepth 100000 in
set_option maxHeartbeats 600000 in
theorem long2_hi1 (hs : s.size ≤ 140737488355328) (h : 194 ≤ s[k].toNat) (h' : s[k].toNat < 224) (hl : k + 2 ≤ s.size)  (c : 192 ≤ s[k + 1].toNat) : Calls Tryd.prog 134 #[.string s, .int .i64 k] w fun e w' => e = .returned (.int .i64 0) ∧ w = w' := by
  go_enter Tryd.func134, Tryd.ntmps134
  go_wp2
  go_rounds 2
  go_ret
  exact ⟨rfl, rfl⟩
set_option maxRecDepth 100000 in
set_option maxHeartbeats 600000 in
theorem long2_ok (hs : s.size ≤ 140737488355328) (h : 194 ≤ s[k].toNat) (h' : s[k].toNat < 224) (hl : k + 2 ≤ s.size) (c1 : 128 ≤ s[k + 1].toNat) (d1 : s[k + 1].toNat < 192) : Calls Tryd.prog 134 #[.string s, .int .i64 k] w fun e w' => e = .returned (.int .i64 2) ∧ w = w' := by
  go_enter Tryd.func134, Tryd.ntmps134
  go_wp2
  go_rounds 2
  go_ret
  exact ⟨rfl, rfl⟩
set_option maxRecDepth 100000 in
set_option maxHeartbeats 600000 in
theorem long3_short (hs : s.size ≤ 140737488355328) (h : 224 ≤ s[k].toNat) (h' : s[k].toNat < 240) (hl : s.size < k + 3) : Calls Tryd.prog 134 #[.string s, .int .i64 k] w fun e w' => e = .returned (.int .i64 0) ∧ w = w' := by
  go_enter Tryd.func134, Tryd.ntmps134
  go_wp2
  go_ret
  exact ⟨rfl, rfl⟩
set_option maxRecDepth 100000 in
set_option maxHeartbeats 600000 in
theorem long3_lo1 (hs : s.size ≤ 140737488355328) (h : 224 ≤ s[k].toNat) (h' : s[k].toNat < 240) (hl : k + 3 ≤ s.size)  (c : s[k + 1].toNat < 128) : Calls Tryd.prog 134 #[.string s, .int .i64 k] w fun e w' => e = .returned (.int .i64 0) ∧ w = w' := by
  go_enter Tryd.func134, Tryd.ntmps134
  go_wp2
  go_rounds 3
  go_ret
  exact ⟨rfl, rfl⟩
set_option maxRecDepth 100000 in
set_option maxHeartbeats 600000 in
theorem long3_hi1 (hs : s.size ≤ 140737488355328) (h : 224 ≤ s[k].toNat) (h' : s[k].toNat < 240) (hl : k + 3 ≤ s.size)  (c : 192 ≤ s[k + 1].toNat) : Calls Tryd.prog 134 #[.string s, .int .i64 k] w fun e w' => e = .returned (.int .i64 0) ∧ w = w' := by
  go_enter Tryd.func134, Tryd.ntmps134
  go_wp2
  go_rounds 3
  go_ret
  exact ⟨rfl, rfl⟩
set_option maxRecDepth 100000 in
set_option maxHeartbeats 600000 in
theorem long3_lo2 (hs : s.size ≤ 140737488355328) (h : 224 ≤ s[k].toNat) (h' : s[k].toNat < 240) (hl : k + 3 ≤ s.size) (c1 : 128 ≤ s[k + 1].toNat) (d1 : s[k + 1].toNat < 192) (c : s[k + 2].toNat < 128) : Calls Tryd.prog 134 #[.string s, .int .i64 k] w fun e w' => e = .returned (.int .i64 0) ∧ w = w' := by
  go_enter Tryd.func134, Tryd.ntmps134
  go_wp2
  go_rounds 3
  go_ret
  exact ⟨rfl, rfl⟩
set_option maxRecDepth 100000 in
set_option maxHeartbeats 600000 in
theorem long3_hi2 (hs : s.size ≤ 140737488355328) (h : 224 ≤ s[k].toNat) (h' : s[k].toNat < 240) (hl : k + 3 ≤ s.size) (c1 : 128 ≤ s[k + 1].toNat) (d1 : s[k + 1].toNat < 192) (c : 192 ≤ s[k + 2].toNat) : Calls Tryd.prog 134 #[.string s, .int .i64 k] w fun e w' => e = .returned (.int .i64 0) ∧ w = w' := by
  go_enter Tryd.func134, Tryd.ntmps134
  go_wp2
  go_rounds 3
  go_ret
  exact ⟨rfl, rfl⟩
set_option maxRecDepth 100000 in
set_option maxHeartbeats 600000 in
theorem long3_small (hs : s.size ≤ 140737488355328) (h : 224 ≤ s[k].toNat) (h' : s[k].toNat < 240) (hl : k + 3 ≤ s.size) (c1 : 128 ≤ s[k + 1].toNat) (d1 : s[k + 1].toNat < 192) (c2 : 128 ≤ s[k + 2].toNat) (d2 : s[k + 2].toNat < 192) (v : 64 * (64 * ((s[k].toNat : Int) - 224) + (s[k + 1].toNat : Int) - 128) + (s[k + 2].toNat : Int) - 128 < 2048) : Calls Tryd.prog 134 #[.string s, .int .i64 k] w fun e w' => e = .returned (.int .i64 0) ∧ w = w' := by
  go_enter Tryd.func134, Tryd.ntmps134
  go_wp2
  go_rounds 3
  go_ret
  exact ⟨rfl, rfl⟩
set_option maxRecDepth 100000 in
set_option maxHeartbeats 600000 in
theorem long3_half (hs : s.size ≤ 140737488355328) (h : 224 ≤ s[k].toNat) (h' : s[k].toNat < 240) (hl : k + 3 ≤ s.size) (c1 : 128 ≤ s[k + 1].toNat) (d1 : s[k + 1].toNat < 192) (c2 : 128 ≤ s[k + 2].toNat) (d2 : s[k + 2].toNat < 192) (v : 55296 ≤ 64 * (64 * ((s[k].toNat : Int) - 224) + (s[k + 1].toNat : Int) - 128) + (s[k + 2].toNat : Int) - 128) (v' : 64 * (64 * ((s[k].toNat : Int) - 224) + (s[k + 1].toNat : Int) - 128) + (s[k + 2].toNat : Int) - 128 < 57344) : Calls Tryd.prog 134 #[.string s, .int .i64 k] w fun e w' => e = .returned (.int .i64 0) ∧ w = w' := by
  go_enter Tryd.func134, Tryd.ntmps134
  go_wp2
  go_rounds 3
  go_ret
  exact ⟨rfl, rfl⟩
set_option maxRecDepth 100000 in
set_option maxHeartbeats 600000 in
theorem long3_ok1 (hs : s.size ≤ 140737488355328) (h : 224 ≤ s[k].toNat) (h' : s[k].toNat < 240) (hl : k + 3 ≤ s.size) (c1 : 128 ≤ s[k + 1].toNat) (d1 : s[k + 1].toNat < 192) (c2 : 128 ≤ s[k + 2].toNat) (d2 : s[k + 2].toNat < 192) (v : 2048 ≤ 64 * (64 * ((s[k].toNat : Int) - 224) + (s[k + 1].toNat : Int) - 128) + (s[k + 2].toNat : Int) - 128) (v' : 64 * (64 * ((s[k].toNat : Int) - 224) + (s[k + 1].toNat : Int) - 128) + (s[k + 2].toNat : Int) - 128 < 55296) : Calls Tryd.prog 134 #[.string s, .int .i64 k] w fun e w' => e = .returned (.int .i64 3) ∧ w = w' := by
  go_enter Tryd.func134, Tryd.ntmps134
  go_wp2
  go_rounds 3
  go_ret
  exact ⟨rfl, rfl⟩
set_option maxRecDepth 100000 in
set_option maxHeartbeats 600000 in
theorem long3_ok2 (hs : s.size ≤ 140737488355328) (h : 224 ≤ s[k].toNat) (h' : s[k].toNat < 240) (hl : k + 3 ≤ s.size) (c1 : 128 ≤ s[k + 1].toNat) (d1 : s[k + 1].toNat < 192) (c2 : 128 ≤ s[k + 2].toNat) (d2 : s[k + 2].toNat < 192) (v : 57344 ≤ 64 * (64 * ((s[k].toNat : Int) - 224) + (s[k + 1].toNat : Int) - 128) + (s[k + 2].toNat : Int) - 128) : Calls Tryd.prog 134 #[.string s, .int .i64 k] w fun e w' => e = .returned (.int .i64 3) ∧ w = w' := by
  go_enter Tryd.func134, Tryd.ntmps134
  go_wp2
  go_rounds 3
  go_ret
  exact ⟨rfl, rfl⟩
set_option maxRecDepth 100000 in
set_option maxHeartbeats 600000 in
theorem long4_short (hs : s.size ≤ 140737488355328) (h : 240 ≤ s[k].toNat) (h' : s[k].toNat < 245) (hl : s.size < k + 4) : Calls Tryd.prog 134 #[.string s, .int .i64 k] w fun e w' => e = .returned (.int .i64 0) ∧ w = w' := by
  go_enter Tryd.func134, Tryd.ntmps134
  go_wp2
  go_ret
  exact ⟨rfl, rfl⟩
set_option maxRecDepth 100000 in
set_option maxHeartbeats 600000 in
theorem long4_lo1 (hs : s.size ≤ 140737488355328) (h : 240 ≤ s[k].toNat) (h' : s[k].toNat < 245) (hl : k + 4 ≤ s.size)  (c : s[k + 1].toNat < 128) : Calls Tryd.prog 134 #[.string s, .int .i64 k] w fun e w' => e = .returned (.int .i64 0) ∧ w = w' := by
  go_enter Tryd.func134, Tryd.ntmps134
  go_wp2
  go_rounds 4
  go_ret
  exact ⟨rfl, rfl⟩
set_option maxRecDepth 100000 in
set_option maxHeartbeats 600000 in
theorem long4_hi1 (hs : s.size ≤ 140737488355328) (h : 240 ≤ s[k].toNat) (h' : s[k].toNat < 245) (hl : k + 4 ≤ s.size)  (c : 192 ≤ s[k + 1].toNat) : Calls Tryd.prog 134 #[.string s, .int .i64 k] w fun e w' => e = .returned (.int .i64 0) ∧ w = w' := by
  go_enter Tryd.func134, Tryd.ntmps134
  go_wp2
  go_rounds 4
  go_ret
  exact ⟨rfl, rfl⟩
set_option maxRecDepth 100000 in
set_option maxHeartbeats 600000 in
theorem long4_lo2 (hs : s.size ≤ 140737488355328) (h : 240 ≤ s[k].toNat) (h' : s[k].toNat < 245) (hl : k + 4 ≤ s.size) (c1 : 128 ≤ s[k + 1].toNat) (d1 : s[k + 1].toNat < 192) (c : s[k + 2].toNat < 128) : Calls Tryd.prog 134 #[.string s, .int .i64 k] w fun e w' => e = .returned (.int .i64 0) ∧ w = w' := by
  go_enter Tryd.func134, Tryd.ntmps134
  go_wp2
  go_rounds 4
  go_ret
  exact ⟨rfl, rfl⟩
set_option maxRecDepth 100000 in
set_option maxHeartbeats 600000 in
theorem long4_hi2 (hs : s.size ≤ 140737488355328) (h : 240 ≤ s[k].toNat) (h' : s[k].toNat < 245) (hl : k + 4 ≤ s.size) (c1 : 128 ≤ s[k + 1].toNat) (d1 : s[k + 1].toNat < 192) (c : 192 ≤ s[k + 2].toNat) : Calls Tryd.prog 134 #[.string s, .int .i64 k] w fun e w' => e = .returned (.int .i64 0) ∧ w = w' := by
  go_enter Tryd.func134, Tryd.ntmps134
  go_wp2
  go_rounds 4
  go_ret
  exact ⟨rfl, rfl⟩
set_option maxRecDepth 100000 in
set_option maxHeartbeats 600000 in
theorem long4_lo3 (hs : s.size ≤ 140737488355328) (h : 240 ≤ s[k].toNat) (h' : s[k].toNat < 245) (hl : k + 4 ≤ s.size) (c1 : 128 ≤ s[k + 1].toNat) (d1 : s[k + 1].toNat < 192) (c2 : 128 ≤ s[k + 2].toNat) (d2 : s[k + 2].toNat < 192) (c : s[k + 3].toNat < 128) : Calls Tryd.prog 134 #[.string s, .int .i64 k] w fun e w' => e = .returned (.int .i64 0) ∧ w = w' := by
  go_enter Tryd.func134, Tryd.ntmps134
  go_wp2
  go_rounds 4
  go_ret
  exact ⟨rfl, rfl⟩
set_option maxRecDepth 100000 in
set_option maxHeartbeats 600000 in
theorem long4_hi3 (hs : s.size ≤ 140737488355328) (h : 240 ≤ s[k].toNat) (h' : s[k].toNat < 245) (hl : k + 4 ≤ s.size) (c1 : 128 ≤ s[k + 1].toNat) (d1 : s[k + 1].toNat < 192) (c2 : 128 ≤ s[k + 2].toNat) (d2 : s[k + 2].toNat < 192) (c : 192 ≤ s[k + 3].toNat) : Calls Tryd.prog 134 #[.string s, .int .i64 k] w fun e w' => e = .returned (.int .i64 0) ∧ w = w' := by
  go_enter Tryd.func134, Tryd.ntmps134
  go_wp2
  go_rounds 4
  go_ret
  exact ⟨rfl, rfl⟩
set_option maxRecDepth 100000 in
set_option maxHeartbeats 600000 in
theorem long4_small (hs : s.size ≤ 140737488355328) (h : 240 ≤ s[k].toNat) (h' : s[k].toNat < 245) (hl : k + 4 ≤ s.size) (c1 : 128 ≤ s[k + 1].toNat) (d1 : s[k + 1].toNat < 192) (c2 : 128 ≤ s[k + 2].toNat) (d2 : s[k + 2].toNat < 192) (c3 : 128 ≤ s[k + 3].toNat) (d3 : s[k + 3].toNat < 192) (v : 64 * (64 * (64 * ((s[k].toNat : Int) - 240) + (s[k + 1].toNat : Int) - 128) + (s[k + 2].toNat : Int) - 128) + (s[k + 3].toNat : Int) - 128 < 65536) : Calls Tryd.prog 134 #[.string s, .int .i64 k] w fun e w' => e = .returned (.int .i64 0) ∧ w = w' := by
  go_enter Tryd.func134, Tryd.ntmps134
  go_wp2
  go_rounds 4
  go_ret
  exact ⟨rfl, rfl⟩
set_option maxRecDepth 100000 in
set_option maxHeartbeats 600000 in
theorem long4_great (hs : s.size ≤ 140737488355328) (h : 240 ≤ s[k].toNat) (h' : s[k].toNat < 245) (hl : k + 4 ≤ s.size) (c1 : 128 ≤ s[k + 1].toNat) (d1 : s[k + 1].toNat < 192) (c2 : 128 ≤ s[k + 2].toNat) (d2 : s[k + 2].toNat < 192) (c3 : 128 ≤ s[k + 3].toNat) (d3 : s[k + 3].toNat < 192) (v : 1114111 < 64 * (64 * (64 * ((s[k].toNat : Int) - 240) + (s[k + 1].toNat : Int) - 128) + (s[k + 2].toNat : Int) - 128) + (s[k + 3].toNat : Int) - 128) : Calls Tryd.prog 134 #[.string s, .int .i64 k] w fun e w' => e = .returned (.int .i64 0) ∧ w = w' := by
  go_enter Tryd.func134, Tryd.ntmps134
  go_wp2
  go_rounds 4
  go_ret
  exact ⟨rfl, rfl⟩
set_option maxRecDepth 100000 in
set_option maxHeartbeats 600000 in
theorem long4_ok (hs : s.size ≤ 140737488355328) (h : 240 ≤ s[k].toNat) (h' : s[k].toNat < 245) (hl : k + 4 ≤ s.size) (c1 : 128 ≤ s[k + 1].toNat) (d1 : s[k + 1].toNat < 192) (c2 : 128 ≤ s[k + 2].toNat) (d2 : s[k + 2].toNat < 192) (c3 : 128 ≤ s[k + 3].toNat) (d3 : s[k + 3].toNat < 192) (v : 65536 ≤ 64 * (64 * (64 * ((s[k].toNat : Int) - 240) + (s[k + 1].toNat : Int) - 128) + (s[k + 2].toNat : Int) - 128) + (s[k + 3].toNat : Int) - 128) (v' : 64 * (64 * (64 * ((s[k].toNat : Int) - 240) + (s[k + 1].toNat : Int) - 128) + (s[k + 2].toNat : Int) - 128) + (s[k + 3].toNat : Int) - 128 ≤ 1114111) : Calls Tryd.prog 134 #[.string s, .int .i64 k] w fun e w' => e = .returned (.int .i64 4) ∧ w = w' := by
  go_enter Tryd.func134, Tryd.ntmps134
  go_wp2
  go_rounds 4
  go_ret
  exact ⟨rfl, rfl⟩
end
theorem at_drop (s : ByteArray) (k i : Nat) (h : k + i < s.size) : (s.data.toList.drop k).getD i 0 = s[k + i] := by
  have h' : k + i < s.data.toList.length := by simpa using h
  rw [List.getD_eq_getElem?_getD, List.getElem?_drop, List.getElem?_eq_getElem h']
  rfl
theorem len_drop (s : ByteArray) (k : Nat) : (s.data.toList.drop k).length = s.size - k := by simp
theorem long_any (s : ByteArray) (k : Nat) (w : World) (hs : s.size ≤ 140737488355328) (hk : k < s.size) :
    Calls Tryd.prog 134 #[.string s, .int .i64 k] w fun e w' => e = .returned (.int .i64 (longL (s.data.toList.drop k) : Nat)) ∧ w = w' := by
  have e0 : (s.data.toList.drop k).getD 0 0 = s[k] := at_drop s k 0 hk
  unfold longL
  rw [e0, len_drop]
  generalize hb1 : (s.data.toList.drop k).getD 1 0 = b1
  generalize hb2 : (s.data.toList.drop k).getD 2 0 = b2
  generalize hb3 : (s.data.toList.drop k).getD 3 0 = b3
  by_cases a1 : s[k].toNat < 128
  · rw [show longT (s.size - k) s[k].toNat b1.toNat b2.toNat b3.toNat = 1 by unfold longT; rw [if_pos a1]]; exact long_one s k w hk a1
  by_cases a2 : s[k].toNat < 194
  · rw [show longT (s.size - k) s[k].toNat b1.toNat b2.toNat b3.toNat = 0 by unfold longT; rw [if_neg a1, if_pos a2]]; exact long_bad1 s k w hk (by omega) a2
  by_cases a3 : s[k].toNat < 224
  · rw [long2 _ _ _ _ _ (by omega) a3]
    by_cases l : k + 2 ≤ s.size
    · rw [at_drop s k 1 (by omega)] at hb1
      subst hb1
      by_cases c1 : s[k + 1].toNat < 128
      · rw [if_pos (by omega)]; exact long2_lo1 s k w hk hs (by omega) a3 l c1
      by_cases d1 : 192 ≤ s[k + 1].toNat
      · rw [if_pos (by omega)]; exact long2_hi1 s k w hk hs (by omega) a3 l d1
      rw [if_neg (by omega)]; exact long2_ok s k w hk hs (by omega) a3 l (by omega) (by omega)
    · rw [if_pos (by omega)]; exact long2_short s k w hk hs (by omega) a3 (by omega)
  by_cases a4 : s[k].toNat < 240
  · rw [long3 _ _ _ _ _ (by omega) a4]
    by_cases l : k + 3 ≤ s.size
    · rw [at_drop s k 1 (by omega)] at hb1
      rw [at_drop s k 2 (by omega)] at hb2
      subst hb1 hb2
      by_cases c1 : s[k + 1].toNat < 128
      · rw [if_pos (by omega)]; exact long3_lo1 s k w hk hs (by omega) a4 l c1
      by_cases d1 : 192 ≤ s[k + 1].toNat
      · rw [if_pos (by omega)]; exact long3_hi1 s k w hk hs (by omega) a4 l d1
      by_cases c2 : s[k + 2].toNat < 128
      · rw [if_pos (by omega)]; exact long3_lo2 s k w hk hs (by omega) a4 l (by omega) (by omega) c2
      by_cases d2 : 192 ≤ s[k + 2].toNat
      · rw [if_pos (by omega)]; exact long3_hi2 s k w hk hs (by omega) a4 l (by omega) (by omega) d2
      rw [if_neg (show ¬ (s.size - k < 3 ∨ s[k + 1].toNat < 128 ∨ 192 ≤ s[k + 1].toNat ∨ s[k + 2].toNat < 128 ∨ 192 ≤ s[k + 2].toNat) by omega)]
      by_cases v1 : 64 * (64 * ((s[k].toNat : Int) - 224) + (s[k + 1].toNat : Int) - 128) + (s[k + 2].toNat : Int) - 128 < 2048
      · rw [if_pos (by omega)]; exact long3_small s k w hk hs (by omega) a4 l (by omega) (by omega) (by omega) (by omega) v1
      by_cases v2 : 64 * (64 * ((s[k].toNat : Int) - 224) + (s[k + 1].toNat : Int) - 128) + (s[k + 2].toNat : Int) - 128 < 55296
      · rw [if_neg (by omega)]; exact long3_ok1 s k w hk hs (by omega) a4 l (by omega) (by omega) (by omega) (by omega) (by omega) v2
      by_cases v3 : 64 * (64 * ((s[k].toNat : Int) - 224) + (s[k + 1].toNat : Int) - 128) + (s[k + 2].toNat : Int) - 128 < 57344
      · rw [if_pos (by omega)]; exact long3_half s k w hk hs (by omega) a4 l (by omega) (by omega) (by omega) (by omega) (by omega) v3
      · rw [if_neg (by omega)]; exact long3_ok2 s k w hk hs (by omega) a4 l (by omega) (by omega) (by omega) (by omega) (by omega)
    · rw [if_pos (by omega)]; exact long3_short s k w hk hs (by omega) a4 (by omega)
  by_cases a5 : s[k].toNat < 245
  · rw [long4 _ _ _ _ _ (by omega) a5]
    by_cases l : k + 4 ≤ s.size
    · rw [at_drop s k 1 (by omega)] at hb1
      rw [at_drop s k 2 (by omega)] at hb2
      rw [at_drop s k 3 (by omega)] at hb3
      subst hb1 hb2 hb3
      by_cases c1 : s[k + 1].toNat < 128
      · rw [if_pos (by omega)]; exact long4_lo1 s k w hk hs (by omega) a5 l c1
      by_cases d1 : 192 ≤ s[k + 1].toNat
      · rw [if_pos (by omega)]; exact long4_hi1 s k w hk hs (by omega) a5 l d1
      by_cases c2 : s[k + 2].toNat < 128
      · rw [if_pos (by omega)]; exact long4_lo2 s k w hk hs (by omega) a5 l (by omega) (by omega) c2
      by_cases d2 : 192 ≤ s[k + 2].toNat
      · rw [if_pos (by omega)]; exact long4_hi2 s k w hk hs (by omega) a5 l (by omega) (by omega) d2
      by_cases c3 : s[k + 3].toNat < 128
      · rw [if_pos (by omega)]; exact long4_lo3 s k w hk hs (by omega) a5 l (by omega) (by omega) (by omega) (by omega) c3
      by_cases d3 : 192 ≤ s[k + 3].toNat
      · rw [if_pos (by omega)]; exact long4_hi3 s k w hk hs (by omega) a5 l (by omega) (by omega) (by omega) (by omega) d3
      rw [if_neg (show ¬ (s.size - k < 4 ∨ s[k + 1].toNat < 128 ∨ 192 ≤ s[k + 1].toNat ∨ s[k + 2].toNat < 128 ∨ 192 ≤ s[k + 2].toNat ∨ s[k + 3].toNat < 128 ∨ 192 ≤ s[k + 3].toNat) by omega)]
      by_cases v1 : 64 * (64 * (64 * ((s[k].toNat : Int) - 240) + (s[k + 1].toNat : Int) - 128) + (s[k + 2].toNat : Int) - 128) + (s[k + 3].toNat : Int) - 128 < 65536
      · rw [if_pos (by omega)]; exact long4_small s k w hk hs (by omega) a5 l (by omega) (by omega) (by omega) (by omega) (by omega) (by omega) v1
      by_cases v2 : 1114111 < 64 * (64 * (64 * ((s[k].toNat : Int) - 240) + (s[k + 1].toNat : Int) - 128) + (s[k + 2].toNat : Int) - 128) + (s[k + 3].toNat : Int) - 128
      · rw [if_pos (by omega)]; exact long4_great s k w hk hs (by omega) a5 l (by omega) (by omega) (by omega) (by omega) (by omega) (by omega) v2
      · rw [if_neg (by omega)]; exact long4_ok s k w hk hs (by omega) a5 l (by omega) (by omega) (by omega) (by omega) (by omega) (by omega) (by omega) (by omega)
    · rw [if_pos (by omega)]; exact long4_short s k w hk hs (by omega) a5 (by omega)
  · rw [show longT (s.size - k) s[k].toNat b1.toNat b2.toNat b3.toNat = 0 by unfold longT; rw [if_neg a1, if_neg a2, if_neg a3, if_neg a4, if_neg a5]]; exact long_bad2 s k w hk (by omega)
end Go.Proofs.YtngeioghihbkeaaDoor
namespace Go.Proofs.YtngeioghihbkeaaDoor
open Go.RowKit

theorem map_map_add (o : Option Nat) (n : Nat) : (o.map (· + 1)).map (· + n) = o.map (· + (n + 1)) := by
  cases o with
  | none => rfl
  | some m => simp; omega
theorem drop_ne {s : ByteArray} {k : Nat} (h : k < s.size) : s.data.toList.drop k ≠ [] := by
  intro e
  have := congrArg List.length e
  rw [len_drop] at this
  simp at this
  omega
theorem runesT_none {s : ByteArray} (h : runesO s.data.toList = none) : runesT s = -1 := by unfold runesT; rw [h]
theorem runesT_some {s : ByteArray} {n : Nat} (h : runesO s.data.toList = some n) : runesT s = n := by unfold runesT; rw [h]

set_option maxRecDepth 100000 in
set_option maxHeartbeats 800000 in
theorem runes_any (s : ByteArray) (w : World) (hs : s.size ≤ 140737488355328) : Calls Tryd.prog 106 #[.string s] w fun e w' => e = .returned (.int .i64 (runesT s)) ∧ w = w' := by
  go_enter Tryd.func106, Tryd.ntmps106
  go_wp2
  go_loop [3, 4] (fun u v => ∃ k n : Nat, k ≤ s.size ∧ n ≤ k ∧ u = .int .i64 n ∧ v = .int .i64 k ∧ Hid (runesO s.data.toList = (runesO (s.data.toList.drop k)).map (· + n))) (fun _ v => s.size - (intOf v).toNat)
  case atStart => exact ⟨0, 0, Nat.zero_le _, Nat.le_refl _, rfl, rfl, Lib.hid (by simp)⟩
  case round =>
    obtain ⟨k, n, hk, hn, rfl, rfl, hr⟩ := hrel
    by_cases hlt : k < s.size
    · obtain ⟨q, hq⟩ : ∃ q, longL (s.data.toList.drop k) = q := ⟨_, rfl⟩
      have hle := longL_le (s.data.toList.drop k) (drop_ne hlt)
      rw [hq, len_drop] at hle
      have hL := long_any s k w hs hlt
      rw [hq] at hL
      have HL := Lib.hid hL
      clear hL
      by_cases h0 : q = 0
      · subst h0
        have hT : runesT s = -1 := runesT_none (by rw [hr.out, runesO_bad (drop_ne hlt) hq]; rfl)
        have HT := Lib.hid hT
        clear hT hq hle hr
        go_wp2_with (go_at_call 134; refine HL.out.mono ?_; rintro e w' ⟨rfl, rfl⟩)
        go_ret
        exact ⟨ret_int HT.out.symm, rfl⟩
      · have hT : runesO s.data.toList = (runesO (s.data.toList.drop (k + q))).map (· + (n + 1)) := by
          rw [hr.out, runesO_step (drop_ne hlt) (by rw [hq]; exact h0), hq, List.drop_drop, map_map_add]
        have HT := Lib.hid hT
        have z0 : ((q : Int) == 0) = false := by simpa using h0
        clear hT hq hr h0
        go_wp2_with (go_at_call 134; refine HL.out.mono ?_; rintro e w' ⟨rfl, rfl⟩)
        go_round
        case rel => exact ⟨k + q, n + 1, by omega, by simp at z0; omega, by go_num, by go_num, HT⟩
        case measure => simp [intOf]; simp at z0; omega
    · have e1 : k = s.size := by omega
      have hT : runesT s = n := runesT_some (by
        have h := hr.out
        rw [e1, List.drop_of_length_le (by simp), runesO_nil] at h
        rw [h]; simp)
      have HT := Lib.hid hT
      clear hT e1 hr
      go_wp2
      go_ret
      exact ⟨ret_int HT.out.symm, rfl⟩
theorem runes_at {r : Int} (s : ByteArray) (w : World) (h : Hid (runesT s = r)) (hs : s.size ≤ 140737488355328) : Calls Tryd.prog 106 #[.string s] w fun e w' => e = .returned (.int .i64 r) ∧ w = w' := h.out ▸ runes_any s w hs
theorem runes_empty : runesT ⟨#[]⟩ = 0 := rfl
end Go.Proofs.YtngeioghihbkeaaDoor
