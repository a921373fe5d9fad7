/- The plain law of penstockref01.long and Runes: a text has no runes just if it is no UTF-8. Conditions: none. -/
import Derived.Lib.ValidLaws
import Derived.Test.YtobgfegdfcpgfaaDoorGood
namespace Go.Proofs.YtobgfegdfcpgfaaDoor

/-- what 'long' answers at bytes b0 b1 b2 b3, of which m are left -/
def longT (m b0 b1 b2 b3 : Nat) : Nat :=
  if b0 < 128 then 1
  else if b0 < 194 then 0
  else if b0 < 224 then (if m < 2 ∨ b1 < 128 ∨ 192 ≤ b1 then 0 else 2)
  else if b0 < 240 then (if m < 3 ∨ b1 < 128 ∨ 192 ≤ b1 ∨ b2 < 128 ∨ 192 ≤ b2 then 0 else
    if (b0 - 224) * 4096 + (b1 - 128) * 64 + (b2 - 128) < 2048 ∨ 55296 ≤ (b0 - 224) * 4096 + (b1 - 128) * 64 + (b2 - 128) ∧ (b0 - 224) * 4096 + (b1 - 128) * 64 + (b2 - 128) < 57344 then 0 else 3)
  else if b0 < 245 then (if m < 4 ∨ b1 < 128 ∨ 192 ≤ b1 ∨ b2 < 128 ∨ 192 ≤ b2 ∨ b3 < 128 ∨ 192 ≤ b3 then 0 else
    if (b0 - 240) * 262144 + (b1 - 128) * 4096 + (b2 - 128) * 64 + (b3 - 128) < 65536 ∨ 1114111 < (b0 - 240) * 262144 + (b1 - 128) * 4096 + (b2 - 128) * 64 + (b3 - 128) then 0 else 4)
  else 0
/-- the same of a list's head -/
def longL (l : List UInt8) : Nat := longT l.length (l.getD 0 0).toNat (l.getD 1 0).toNat (l.getD 2 0).toNat (l.getD 3 0).toNat
def Agree (k : Nat) (d : Nat × Nat) : Prop := (k = 0 ∧ d = (65533, 1)) ∨ (k ≠ 0 ∧ d.2 = k ∧ ¬ (d.1 = 65533 ∧ d.2 = 1))

set_option maxHeartbeats 1000000 in
theorem agree1 (n b0 b1 b2 b3 : Nat) (h : b0 < 128) : Agree (longT n b0 b1 b2 b3) (Lib.decodeN n b0 b1 b2 b3) := by
  unfold longT Lib.decodeN
  rw [if_pos h, if_pos h]
  right
  refine ⟨by omega, rfl, ?_⟩
  simp only
  omega
set_option maxHeartbeats 1000000 in
theorem agree0 (n b0 b1 b2 b3 : Nat) (h : (128 ≤ b0 ∧ b0 < 194) ∨ (245 ≤ b0 ∧ b0 < 256)) : Agree (longT n b0 b1 b2 b3) (Lib.decodeN n b0 b1 b2 b3) := by
  rw [Lib.decodeN_bad n b0 b1 b2 b3 h]
  left
  refine ⟨?_, rfl⟩
  unfold longT
  repeat' split
  all_goals omega
theorem long2 (n b0 b1 b2 b3 : Nat) (h : 194 ≤ b0) (h' : b0 < 224) : longT n b0 b1 b2 b3 = if n < 2 ∨ b1 < 128 ∨ 192 ≤ b1 then 0 else 2 := by
  unfold longT
  rw [if_neg (show ¬ b0 < 128 by omega), if_neg (show ¬ b0 < 194 by omega), if_pos h']
theorem dec2 (n b0 b1 b2 b3 : Nat) (h : 194 ≤ b0) (h' : b0 < 224) : Lib.decodeN n b0 b1 b2 b3 = if 1 < n ∧ b1 / 64 = 2 then (if b0 % 32 * 64 + b1 % 64 ≥ 128 then (b0 % 32 * 64 + b1 % 64, 2) else (65533, 1)) else (65533, 1) := by
  unfold Lib.decodeN
  rw [if_neg (show ¬ b0 < 128 by omega), if_neg (show ¬ (b0 / 16 = 14 ∧ (1 < n ∧ b1 / 64 = 2) ∧ 2 < n ∧ b2 / 64 = 2) by omega), if_neg (show ¬ (b0 / 8 = 30 ∧ (1 < n ∧ b1 / 64 = 2) ∧ (2 < n ∧ b2 / 64 = 2) ∧ 3 < n ∧ b3 / 64 = 2) by omega)]
  by_cases hh : 1 < n ∧ b1 / 64 = 2
  · rw [if_pos ⟨by omega, hh⟩, if_pos hh]
  · rw [if_neg (fun x => hh x.2), if_neg hh]
theorem agree2 (n b0 b1 b2 b3 : Nat) (h : 194 ≤ b0) (h' : b0 < 224) (h1 : b1 < 256) : Agree (longT n b0 b1 b2 b3) (Lib.decodeN n b0 b1 b2 b3) := by
  rw [long2 n b0 b1 b2 b3 h h', dec2 n b0 b1 b2 b3 h h']
  by_cases hh : 1 < n ∧ b1 / 64 = 2
  · rw [if_neg (show ¬ (n < 2 ∨ b1 < 128 ∨ 192 ≤ b1) by omega), if_pos hh, if_pos (show b0 % 32 * 64 + b1 % 64 ≥ 128 by omega)]
    exact .inr ⟨by omega, rfl, by simp⟩
  · rw [if_pos (show n < 2 ∨ b1 < 128 ∨ 192 ≤ b1 by omega), if_neg hh]; exact .inl ⟨rfl, rfl⟩
theorem long3 (n b0 b1 b2 b3 : Nat) (h : 224 ≤ b0) (h' : b0 < 240) : longT n b0 b1 b2 b3 = if n < 3 ∨ b1 < 128 ∨ 192 ≤ b1 ∨ b2 < 128 ∨ 192 ≤ b2 then 0 else
    if (b0 - 224) * 4096 + (b1 - 128) * 64 + (b2 - 128) < 2048 ∨ 55296 ≤ (b0 - 224) * 4096 + (b1 - 128) * 64 + (b2 - 128) ∧ (b0 - 224) * 4096 + (b1 - 128) * 64 + (b2 - 128) < 57344 then 0 else 3 := by
  unfold longT
  rw [if_neg (show ¬ b0 < 128 by omega), if_neg (show ¬ b0 < 194 by omega), if_neg (show ¬ b0 < 224 by omega), if_pos h']
theorem dec3 (n b0 b1 b2 b3 : Nat) (h : 224 ≤ b0) (h' : b0 < 240) : Lib.decodeN n b0 b1 b2 b3 = if (1 < n ∧ b1 / 64 = 2) ∧ (2 < n ∧ b2 / 64 = 2) then
    (if b0 % 16 * 4096 + b1 % 64 * 64 + b2 % 64 ≥ 2048 ∧ (b0 % 16 * 4096 + b1 % 64 * 64 + b2 % 64 < 55296 ∨ (57344 ≤ b0 % 16 * 4096 + b1 % 64 * 64 + b2 % 64 ∧ b0 % 16 * 4096 + b1 % 64 * 64 + b2 % 64 ≤ 1114111))
     then (b0 % 16 * 4096 + b1 % 64 * 64 + b2 % 64, 3) else (65533, 1)) else (65533, 1) := by
  unfold Lib.decodeN
  rw [if_neg (show ¬ b0 < 128 by omega), if_neg (show ¬ (b0 / 32 = 6 ∧ (1 < n ∧ b1 / 64 = 2)) by omega), if_neg (show ¬ (b0 / 8 = 30 ∧ (1 < n ∧ b1 / 64 = 2) ∧ (2 < n ∧ b2 / 64 = 2) ∧ 3 < n ∧ b3 / 64 = 2) by omega)]
  by_cases hh : (1 < n ∧ b1 / 64 = 2) ∧ (2 < n ∧ b2 / 64 = 2)
  · rw [if_pos (show b0 / 16 = 14 ∧ (1 < n ∧ b1 / 64 = 2) ∧ 2 < n ∧ b2 / 64 = 2 from ⟨by omega, hh⟩), if_pos hh]
  · rw [if_neg (show ¬ (b0 / 16 = 14 ∧ (1 < n ∧ b1 / 64 = 2) ∧ 2 < n ∧ b2 / 64 = 2) from fun x => hh x.2), if_neg hh]
theorem agree3 (n b0 b1 b2 b3 : Nat) (h : 224 ≤ b0) (h' : b0 < 240) (h1 : b1 < 256) (h2 : b2 < 256) : Agree (longT n b0 b1 b2 b3) (Lib.decodeN n b0 b1 b2 b3) := by
  rw [long3 n b0 b1 b2 b3 h h', dec3 n b0 b1 b2 b3 h h']
  by_cases hh : (1 < n ∧ b1 / 64 = 2) ∧ (2 < n ∧ b2 / 64 = 2)
  · rw [if_neg (show ¬ (n < 3 ∨ b1 < 128 ∨ 192 ≤ b1 ∨ b2 < 128 ∨ 192 ≤ b2) by omega), if_pos hh]
    have e : b0 % 16 * 4096 + b1 % 64 * 64 + b2 % 64 = (b0 - 224) * 4096 + (b1 - 128) * 64 + (b2 - 128) := by omega
    rw [e]
    have hv : (b0 - 224) * 4096 + (b1 - 128) * 64 + (b2 - 128) < 65536 := by omega
    obtain ⟨v, e2⟩ : ∃ v, (b0 - 224) * 4096 + (b1 - 128) * 64 + (b2 - 128) = v := ⟨_, rfl⟩
    rw [e2] at hv ⊢
    clear e e2
    by_cases hg : v < 2048 ∨ 55296 ≤ v ∧ v < 57344
    · rw [if_pos hg, if_neg (by omega)]; exact .inl ⟨rfl, rfl⟩
    · rw [if_neg hg, if_pos (by omega)]; exact .inr ⟨by omega, rfl, by simp⟩
  · rw [if_pos (show n < 3 ∨ b1 < 128 ∨ 192 ≤ b1 ∨ b2 < 128 ∨ 192 ≤ b2 by omega), if_neg hh]; exact .inl ⟨rfl, rfl⟩
theorem long4 (n b0 b1 b2 b3 : Nat) (h : 240 ≤ b0) (h' : b0 < 245) : longT n b0 b1 b2 b3 = if n < 4 ∨ b1 < 128 ∨ 192 ≤ b1 ∨ b2 < 128 ∨ 192 ≤ b2 ∨ b3 < 128 ∨ 192 ≤ b3 then 0 else
    if (b0 - 240) * 262144 + (b1 - 128) * 4096 + (b2 - 128) * 64 + (b3 - 128) < 65536 ∨ 1114111 < (b0 - 240) * 262144 + (b1 - 128) * 4096 + (b2 - 128) * 64 + (b3 - 128) then 0 else 4 := by
  unfold longT
  rw [if_neg (show ¬ b0 < 128 by omega), if_neg (show ¬ b0 < 194 by omega), if_neg (show ¬ b0 < 224 by omega), if_neg (show ¬ b0 < 240 by omega), if_pos h']
theorem dec4 (n b0 b1 b2 b3 : Nat) (h : 240 ≤ b0) (h' : b0 < 248) : Lib.decodeN n b0 b1 b2 b3 = if (1 < n ∧ b1 / 64 = 2) ∧ (2 < n ∧ b2 / 64 = 2) ∧ (3 < n ∧ b3 / 64 = 2) then
    (if b0 % 8 * 262144 + b1 % 64 * 4096 + b2 % 64 * 64 + b3 % 64 ≥ 65536 ∧ (b0 % 8 * 262144 + b1 % 64 * 4096 + b2 % 64 * 64 + b3 % 64 < 55296 ∨ (57344 ≤ b0 % 8 * 262144 + b1 % 64 * 4096 + b2 % 64 * 64 + b3 % 64 ∧ b0 % 8 * 262144 + b1 % 64 * 4096 + b2 % 64 * 64 + b3 % 64 ≤ 1114111))
     then (b0 % 8 * 262144 + b1 % 64 * 4096 + b2 % 64 * 64 + b3 % 64, 4) else (65533, 1)) else (65533, 1) := by
  unfold Lib.decodeN
  rw [if_neg (show ¬ b0 < 128 by omega), if_neg (show ¬ (b0 / 32 = 6 ∧ (1 < n ∧ b1 / 64 = 2)) by omega), if_neg (show ¬ (b0 / 16 = 14 ∧ (1 < n ∧ b1 / 64 = 2) ∧ 2 < n ∧ b2 / 64 = 2) by omega)]
  by_cases hh : (1 < n ∧ b1 / 64 = 2) ∧ (2 < n ∧ b2 / 64 = 2) ∧ (3 < n ∧ b3 / 64 = 2)
  · rw [if_pos (show b0 / 8 = 30 ∧ (1 < n ∧ b1 / 64 = 2) ∧ (2 < n ∧ b2 / 64 = 2) ∧ 3 < n ∧ b3 / 64 = 2 from ⟨by omega, hh⟩), if_pos hh]
  · rw [if_neg (show ¬ (b0 / 8 = 30 ∧ (1 < n ∧ b1 / 64 = 2) ∧ (2 < n ∧ b2 / 64 = 2) ∧ 3 < n ∧ b3 / 64 = 2) from fun x => hh x.2), if_neg hh]
theorem agree4 (n b0 b1 b2 b3 : Nat) (h : 240 ≤ b0) (h' : b0 < 245) (h1 : b1 < 256) (h2 : b2 < 256) (h3 : b3 < 256) : Agree (longT n b0 b1 b2 b3) (Lib.decodeN n b0 b1 b2 b3) := by
  rw [long4 n b0 b1 b2 b3 h h', dec4 n b0 b1 b2 b3 h (by omega)]
  by_cases hh : (1 < n ∧ b1 / 64 = 2) ∧ (2 < n ∧ b2 / 64 = 2) ∧ (3 < n ∧ b3 / 64 = 2)
  · rw [if_neg (show ¬ (n < 4 ∨ b1 < 128 ∨ 192 ≤ b1 ∨ b2 < 128 ∨ 192 ≤ b2 ∨ b3 < 128 ∨ 192 ≤ b3) by omega), if_pos hh]
    have e : b0 % 8 * 262144 + b1 % 64 * 4096 + b2 % 64 * 64 + b3 % 64 = (b0 - 240) * 262144 + (b1 - 128) * 4096 + (b2 - 128) * 64 + (b3 - 128) := by omega
    rw [e]
    obtain ⟨v, e2⟩ : ∃ v, (b0 - 240) * 262144 + (b1 - 128) * 4096 + (b2 - 128) * 64 + (b3 - 128) = v := ⟨_, rfl⟩
    rw [e2]
    clear e e2
    by_cases hg : v < 65536 ∨ 1114111 < v
    · rw [if_pos hg, if_neg (by omega)]; exact .inl ⟨rfl, rfl⟩
    · rw [if_neg hg, if_pos (by omega)]; exact .inr ⟨by omega, rfl, by simp⟩
  · rw [if_pos (show n < 4 ∨ b1 < 128 ∨ 192 ≤ b1 ∨ b2 < 128 ∨ 192 ≤ b2 ∨ b3 < 128 ∨ 192 ≤ b3 by omega), if_neg hh]; exact .inl ⟨rfl, rfl⟩
theorem agree_any (n b0 b1 b2 b3 : Nat) (h0 : b0 < 256) (h1 : b1 < 256) (h2 : b2 < 256) (h3 : b3 < 256) : Agree (longT n b0 b1 b2 b3) (Lib.decodeN n b0 b1 b2 b3) := by
  by_cases c1 : b0 < 128
  · exact agree1 n b0 b1 b2 b3 c1
  by_cases c2 : b0 < 194
  · exact agree0 n b0 b1 b2 b3 (.inl ⟨by omega, c2⟩)
  by_cases c3 : b0 < 224
  · exact agree2 n b0 b1 b2 b3 (by omega) c3 h1
  by_cases c4 : b0 < 240
  · exact agree3 n b0 b1 b2 b3 (by omega) c4 h1 h2
  by_cases c5 : b0 < 245
  · exact agree4 n b0 b1 b2 b3 (by omega) c5 h1 h2 h3
  · exact agree0 n b0 b1 b2 b3 (.inr ⟨by omega, h0⟩)
theorem agree_list (l : List UInt8) : Agree (longL l) (Lib.decodeL l) := by
  rw [Lib.decodeL_N]
  exact agree_any _ _ _ _ _ (l.getD 0 0).toNat_lt (l.getD 1 0).toNat_lt (l.getD 2 0).toNat_lt (l.getD 3 0).toNat_lt

/-- how many runes; none: it is no UTF-8 -/
def runesG : Nat → List UInt8 → Option Nat
  | 0, _ => some 0
  | f + 1, l => if l = [] then some 0 else if longL l = 0 then none else (runesG f (l.drop (longL l))).map (· + 1)
def runesO (l : List UInt8) : Option Nat := runesG l.length l
theorem longL_le (l : List UInt8) (h : l ≠ []) : longL l ≤ l.length := by
  have hl : 0 < l.length := List.length_pos_iff.2 h
  unfold longL longT
  repeat' split
  all_goals omega
theorem runesG_nil : ∀ f, runesG f [] = some 0
  | 0 => rfl
  | _ + 1 => by simp [runesG]
theorem runesG_fuel : ∀ (n m : Nat) (l : List UInt8), l.length ≤ n → l.length ≤ m → runesG n l = runesG m l
  | 0, m, l, hn, _ => by
    have : l = [] := List.eq_nil_of_length_eq_zero (by omega)
    subst this
    rw [runesG_nil, runesG_nil]
  | n + 1, 0, l, _, hm => by
    have : l = [] := List.eq_nil_of_length_eq_zero (by omega)
    subst this
    rw [runesG_nil, runesG_nil]
  | n + 1, m + 1, l, hn, hm => by
    unfold runesG
    by_cases hne : l = []
    · simp [hne]
    · have hl : 0 < l.length := List.length_pos_iff.2 hne
      by_cases h0 : longL l = 0
      · simp [hne, h0]
      · rw [if_neg hne, if_neg hne, if_neg h0, if_neg h0, runesG_fuel n m (l.drop (longL l)) (by rw [List.length_drop]; omega) (by rw [List.length_drop]; omega)]
theorem runesO_nil : runesO [] = some 0 := rfl
theorem runesO_bad {l : List UInt8} (hne : l ≠ []) (h : longL l = 0) : runesO l = none := by
  obtain ⟨n, hn⟩ : ∃ n, l.length = n + 1 := ⟨l.length - 1, by have := List.length_pos_iff.2 hne; omega⟩
  unfold runesO
  rw [hn]
  unfold runesG
  rw [if_neg hne, if_pos h]
theorem runesO_step {l : List UInt8} (hne : l ≠ []) (h : longL l ≠ 0) : runesO l = (runesO (l.drop (longL l))).map (· + 1) := by
  have hl : 0 < l.length := List.length_pos_iff.2 hne
  obtain ⟨n, hn⟩ : ∃ n, l.length = n + 1 := ⟨l.length - 1, by omega⟩
  have e : runesG n (l.drop (longL l)) = runesG (l.drop (longL l)).length (l.drop (longL l)) := runesG_fuel n _ _ (by rw [List.length_drop]; omega) (Nat.le_refl _)
  unfold runesO
  rw [hn, ← e]
  show (if l = [] then some 0 else if longL l = 0 then none else (runesG n (l.drop (longL l))).map (· + 1)) = _
  rw [if_neg hne, if_neg h]
theorem runes_valid_aux : ∀ (f : Nat) (l : List UInt8), l.length ≤ f → (runesO l).isSome = Lib.validD l
  | 0, l, h => by
    have : l = [] := List.eq_nil_of_length_eq_zero (by omega)
    subst this
    rfl
  | f + 1, l, h => by
    by_cases hne : l = []
    · subst hne; rfl
    · have hl : 0 < l.length := List.length_pos_iff.2 hne
      rw [Lib.validD_step l hne]
      rcases agree_list l with ⟨h0, hd⟩ | ⟨h0, hd, hn⟩
      · rw [runesO_bad hne h0, hd]; rfl
      · rw [runesO_step hne h0, if_neg hn, hd, Option.isSome_map, runes_valid_aux f _ (by rw [List.length_drop]; omega)]
theorem runes_valid (l : List UInt8) : (runesO l).isSome = Lib.validD l := runes_valid_aux _ l (Nat.le_refl _)
/-- what Runes answers -/
def runesT (s : ByteArray) : Int := match runesO s.data.toList with | some n => n | none => -1
theorem runesT_neg (s : ByteArray) : (runesT s < 0) ↔ validB s = false := by
  unfold runesT validB
  rw [← runes_valid]
  cases runesO s.data.toList with
  | none => simp
  | some n => simp
theorem runesG_le : ∀ (f : Nat) (l : List UInt8) (n : Nat), runesG f l = some n → n ≤ f
  | 0, l, n, h => by simp [runesG] at h; omega
  | f + 1, l, n, h => by
    unfold runesG at h
    split at h
    · simp at h; omega
    · split at h
      · cases h
      · obtain ⟨m, hm, e⟩ := Option.map_eq_some_iff.1 h
        have := runesG_le f _ m hm
        omega
end Go.Proofs.YtobgfegdfcpgfaaDoor
