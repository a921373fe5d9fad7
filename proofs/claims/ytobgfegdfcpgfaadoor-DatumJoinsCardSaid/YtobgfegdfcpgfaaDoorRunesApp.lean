/- The plain law of DatumJoins: texts side by side. Conditions: none. -/
import Derived.Test.YtobgfegdfcpgfaaDoorDText
namespace Go.Proofs.YtobgfegdfcpgfaaDoor
open Go.RowKit

theorem longT_more {n n' b0 b1 b2 b3 c1 c2 c3 : Nat} (hn : longT n b0 b1 b2 b3 ≠ 0) (hnn : n ≤ n') (e1 : 1 < n → c1 = b1) (e2 : 2 < n → c2 = b2) (e3 : 3 < n → c3 = b3) : longT n' b0 c1 c2 c3 = longT n b0 b1 b2 b3 := by
  by_cases h1 : b0 < 128
  · unfold longT; rw [if_pos h1, if_pos h1]
  by_cases h2 : b0 < 194
  · exfalso; apply hn; unfold longT; rw [if_neg h1, if_pos h2]
  by_cases h3 : b0 < 224
  · rw [long2 _ _ _ _ _ (by omega) h3] at hn ⊢
    rw [long2 _ _ _ _ _ (by omega) h3]
    by_cases hh : n < 2 ∨ b1 < 128 ∨ 192 ≤ b1
    · rw [if_pos hh] at hn; exact absurd rfl hn
    · obtain rfl := e1 (by omega)
      rw [if_neg hh, if_neg (by omega)]
  by_cases h4 : b0 < 240
  · rw [long3 _ _ _ _ _ (by omega) h4] at hn ⊢
    rw [long3 _ _ _ _ _ (by omega) h4]
    by_cases hh : n < 3 ∨ b1 < 128 ∨ 192 ≤ b1 ∨ b2 < 128 ∨ 192 ≤ b2
    · rw [if_pos hh] at hn; exact absurd rfl hn
    · obtain rfl := e1 (by omega)
      obtain rfl := e2 (by omega)
      rw [if_neg hh, if_neg (show ¬ (n' < 3 ∨ c1 < 128 ∨ 192 ≤ c1 ∨ c2 < 128 ∨ 192 ≤ c2) by omega)]
  by_cases h5 : b0 < 245
  · rw [long4 _ _ _ _ _ (by omega) h5] at hn ⊢
    rw [long4 _ _ _ _ _ (by omega) h5]
    by_cases hh : n < 4 ∨ b1 < 128 ∨ 192 ≤ b1 ∨ b2 < 128 ∨ 192 ≤ b2 ∨ b3 < 128 ∨ 192 ≤ b3
    · rw [if_pos hh] at hn; exact absurd rfl hn
    · obtain rfl := e1 (by omega)
      obtain rfl := e2 (by omega)
      obtain rfl := e3 (by omega)
      rw [if_neg hh, if_neg (show ¬ (n' < 4 ∨ c1 < 128 ∨ 192 ≤ c1 ∨ c2 < 128 ∨ 192 ≤ c2 ∨ c3 < 128 ∨ 192 ≤ c3) by omega)]
  · exfalso; apply hn; unfold longT; rw [if_neg h1, if_neg h2, if_neg h3, if_neg h4, if_neg h5]
theorem getD_left (l m : List UInt8) (i : Nat) (h : i < l.length) : (l ++ m).getD i 0 = l.getD i 0 := by
  rw [List.getD_eq_getElem?_getD, List.getD_eq_getElem?_getD, List.getElem?_append_left h]
theorem longL_append {l : List UInt8} (m : List UInt8) (hl : l ≠ []) (h : longL l ≠ 0) : longL (l ++ m) = longL l := by
  have hp : 0 < l.length := List.length_pos_iff.2 hl
  unfold longL at h ⊢
  rw [getD_left l m 0 hp]
  exact longT_more h (by simp) (fun q => by rw [getD_left l m 1 q]) (fun q => by rw [getD_left l m 2 q]) (fun q => by rw [getD_left l m 3 q])
theorem runes_append_aux (m : List UInt8) : ∀ (f : Nat) (l : List UInt8) (n : Nat), l.length ≤ f → runesO l = some n → runesO (l ++ m) = (runesO m).map (· + n)
  | 0, l, n, hf, h => by
    have : l = [] := List.eq_nil_of_length_eq_zero (by omega)
    subst this
    rw [runesO_nil] at h
    obtain rfl : 0 = n := by simpa using h
    simp
  | f + 1, l, n, hf, h => by
    by_cases hne : l = []
    · subst hne
      rw [runesO_nil] at h
      obtain rfl : 0 = n := by simpa using h
      simp
    · have hL : longL l ≠ 0 := by
        intro h0
        rw [runesO_bad hne h0] at h
        cases h
      have hle := longL_le l hne
      rw [runesO_step hne hL] at h
      obtain ⟨k, hk, e⟩ := Option.map_eq_some_iff.1 h
      have ih := runes_append_aux m f (l.drop (longL l)) k (by rw [List.length_drop]; omega) hk
      have hA := longL_append m hne hL
      rw [runesO_step (l := l ++ m) (by simp [hne]) (by rw [hA]; exact hL), hA, List.drop_append_of_le_length hle, ih]
      subst e
      cases runesO m with
      | none => rfl
      | some j => simp; omega
theorem data_append (a b : ByteArray) : (a ++ b).data.toList = a.data.toList ++ b.data.toList := by simp
theorem runes_append {a b : ByteArray} {n k : Nat} (h : runesO a.data.toList = some n) (h2 : runesO b.data.toList = some k) : runesO (a ++ b).data.toList = some (k + n) := by
  rw [data_append, runes_append_aux _ _ _ _ (Nat.le_refl _) h, h2]
  rfl
theorem valid_of_runes {s : ByteArray} {n : Nat} (h : runesO s.data.toList = some n) : validB s = true := by
  unfold validB
  rw [← runes_valid, h]
  rfl
theorem size_add (a b : ByteArray) : (a ++ b).size = a.size + b.size := by simp
theorem less_prefix : ∀ l m : List UInt8, Op.bytesLess (l ++ m) l = false
  | [], [] => rfl
  | [], _ :: _ => by simp [Op.bytesLess]
  | a :: l, m => by
    have h : ¬ a < a := by rw [UInt8.lt_iff_toNat_lt]; omega
    simp [Op.bytesLess, h, less_prefix l m]
theorem cmpS_prefix (a b : ByteArray) : (b = ⟨#[]⟩ ∧ cmpS a (a ++ b) = 0) ∨ (¬ b.toList = [] ∧ cmpS a (a ++ b) = -1) := by
  have e : (a ++ b).toList = a.toList ++ b.toList := by rw [Lib.toList_data, Lib.toList_data, Lib.toList_data, data_append]
  rw [cmpS_eq, e, less_prefix]
  by_cases h : b.toList = []
  · left
    refine ⟨empty_iff.1 h, ?_⟩
    rw [h, List.append_nil, less_irrefl]
    rfl
  · right
    refine ⟨h, ?_⟩
    cases h1 : Op.bytesLess a.toList (a.toList ++ b.toList) with
    | true => rfl
    | false =>
      have := less_total _ _ h1 (less_prefix _ _)
      exact absurd (List.self_eq_append_right.1 this) h
/-- a text that may be -/
theorem check_text {s : ByteArray} (hv : validB s = true) (hs : s.size ≤ 1000) : checkT 4 false 0 s = 0 := by
  rw [checkT_on (by simp), hv, if_pos rfl, if_neg (by omega)]
theorem ok_text {s : ByteArray} (h : checkT 4 false 0 s = 0) : okD 4 (Dat.text s) = true := by
  unfold okD
  rw [decide_eq_true_iff]
  exact ⟨h, .inl rfl⟩
theorem con_texts {s t : ByteArray} (h : checkT 4 false 0 s = 0) (k : checkT 4 false 0 t = 0) (hs : s.size + t.size ≤ 1000) : conR (Dat.text s) (Dat.text t) = (Dat.text (s ++ t), 0) := by
  unfold conR applyR
  have ho : ofT 4 [Dat.text s, Dat.text t] = (false, 0) := by
    unfold ofT
    simp only [List.all_cons, List.all_nil, ok_text h, ok_text k, Bool.and_true, if_true]
    rfl
  rw [ho]
  show conT s t = _
  unfold conT
  rw [if_neg (by omega)]
theorem len_text {s : ByteArray} {n : Nat} (h : checkT 4 false 0 s = 0) (hn : runesO s.data.toList = some n) : lenR (Dat.text s) = (Dat.int n, 0) := by
  unfold lenR applyR
  have ho : ofT 4 [Dat.text s] = (false, 0) := by
    unfold ofT
    simp only [List.all_cons, List.all_nil, ok_text h, Bool.and_true, if_true]
    rfl
  rw [ho]
  show (Dat.int (runesT s), 0) = _
  unfold runesT
  rw [hn]
end Go.Proofs.YtobgfegdfcpgfaaDoor
