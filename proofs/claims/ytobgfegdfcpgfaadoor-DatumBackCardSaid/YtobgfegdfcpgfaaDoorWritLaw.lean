/- The plain law of DatumWritten: what is written has no control byte, an even number of quotes, just if it is a text more than none, and tells the datum. Conditions: none. -/
import Derived.Test.YtobgfegdfcpgfaaDoorDPrint
namespace Go.Proofs.YtobgfegdfcpgfaaDoor
open Go.RowKit

def fine (x : UInt8) : Bool := decide (32 ≤ x.toNat ∧ x.toNat ≠ 127)
theorem esc_fine (c : UInt8) : (esc c).all fine = true := by
  have key : ∀ j : Fin 256, (esc (UInt8.ofNat j.val)).all fine = true := by decide +kernel
  have := key ⟨c.toNat, c.toNat_lt⟩
  simpa using this
theorem esc_count (c : UInt8) : (esc c).count 39 % 2 = 0 := by
  have key : ∀ j : Fin 256, (esc (UInt8.ofNat j.val)).count 39 % 2 = 0 := by decide +kernel
  have := key ⟨c.toNat, c.toNat_lt⟩
  simpa using this
theorem flat_fine : ∀ l : List UInt8, (l.flatMap esc).all fine = true
  | [] => rfl
  | c :: l => by rw [List.flatMap_cons, List.all_append, esc_fine, flat_fine l]; rfl
theorem flat_count : ∀ l : List UInt8, (l.flatMap esc).count 39 % 2 = 0
  | [] => rfl
  | c :: l => by
    have h1 := esc_count c
    have h2 := flat_count l
    rw [List.flatMap_cons, List.count_append]
    omega
theorem quoted_fine (l : List UInt8) : (quotedT l).all fine = true := by
  unfold quotedT
  rw [List.all_cons, List.all_append, flat_fine]
  rfl
theorem quoted_count (l : List UInt8) : (quotedT l).count 39 % 2 = 0 ∧ 0 < (quotedT l).count 39 := by
  have h := flat_count l
  unfold quotedT
  rw [List.count_cons, List.count_append]
  simp
  omega
/-! ### what is written is read again -/
def hexV (h : UInt8) : Nat := if h.toNat < 58 then h.toNat - 48 else h.toNat - 87
def dec1 : List UInt8 → Option (UInt8 × List UInt8)
  | [] => none
  | c :: x => if c = 39 then (match x with | _ :: y => some (39, y) | [] => none) else if c = 92 then
      (match x with
        | d :: y => if d = 92 then some (92, y) else if d = 110 then some (10, y) else if d = 114 then some (13, y) else if d = 116 then some (9, y) else
            (match y with | h :: l :: z => some (UInt8.ofNat (16 * hexV h + hexV l), z) | _ => none)
        | [] => none) else some (c, x)
theorem hex_back (c : UInt8) : UInt8.ofNat (16 * hexV (hexD (c.toNat / 16)) + hexV (hexD (c.toNat % 16))) = c := by
  have key : ∀ j : Fin 256, UInt8.ofNat (16 * hexV (hexD (j.val / 16)) + hexV (hexD (j.val % 16))) = UInt8.ofNat j.val := by decide +kernel
  have := key ⟨c.toNat, c.toNat_lt⟩
  simpa using this
theorem dec_esc (c : UInt8) (x : List UInt8) : dec1 (esc c ++ x) = some (c, x) := by
  unfold esc
  by_cases h1 : c = 39
  · subst h1; rfl
  rw [if_neg h1]
  by_cases h2 : c = 92
  · subst h2; rfl
  rw [if_neg h2]
  by_cases h3 : c = 10
  · subst h3; rfl
  rw [if_neg h3]
  by_cases h4 : c = 13
  · subst h4; rfl
  rw [if_neg h4]
  by_cases h5 : c = 9
  · subst h5; rfl
  rw [if_neg h5]
  by_cases h6 : c < 32 ∨ c = 127
  · rw [if_pos h6]
    have e := hex_back c
    show (some (UInt8.ofNat (16 * hexV (hexD (c.toNat / 16)) + hexV (hexD (c.toNat % 16))), x) : Option (UInt8 × List UInt8)) = _
    rw [e]
  · rw [if_neg h6]
    show (if c = 39 then _ else if c = 92 then _ else some (c, x)) = _
    rw [if_neg h1, if_neg h2]
theorem flat_inj : ∀ l m : List UInt8, l.flatMap esc = m.flatMap esc → l = m
  | [], [], _ => rfl
  | [], c :: m, h => by
    have := dec_esc c (m.flatMap esc)
    rw [← List.flatMap_cons, ← h] at this
    cases this
  | c :: l, [], h => by
    have := dec_esc c (l.flatMap esc)
    rw [← List.flatMap_cons, h] at this
    cases this
  | c :: l, d :: m, h => by
    have h1 := dec_esc c (l.flatMap esc)
    have h2 := dec_esc d (m.flatMap esc)
    rw [← List.flatMap_cons] at h1 h2
    rw [h, h2] at h1
    injection h1 with h1
    injection h1 with e1 e2
    rw [e1, flat_inj l m e2.symm]
theorem quoted_inj {l m : List UInt8} (h : quotedT l = quotedT m) : l = m := by
  unfold quotedT at h
  injection h with _ h
  exact flat_inj l m (List.append_cancel_right h)
/-! ### numbers -/
theorem digit_val {r : Nat} (h : r < 10) : (UInt8.ofNat (48 + r)).toNat = 48 + r := by
  rw [UInt8.toNat_ofNat']
  omega
theorem digits_fine : ∀ (f u : Nat), u ≤ f → ∀ c ∈ Lib.decDigits u, 48 ≤ c.toNat ∧ c.toNat ≤ 57
  | f, u, h => by
    intro c hc
    unfold Lib.decDigits at hc
    split at hc
    · simp only [List.mem_singleton] at hc
      subst hc
      rw [digit_val (by omega)]
      omega
    · rcases List.mem_append.1 hc with h1 | h1
      · match f, h with
        | 0, h => omega
        | f + 1, h => exact digits_fine f (u / 10) (by omega) c h1
      · simp only [List.mem_singleton] at h1
        subst h1
        rw [digit_val (by omega)]
        omega
def val (l : List UInt8) : Nat := l.foldl (fun a c => 10 * a + (c.toNat - 48)) 0
theorem val_digits : ∀ (f u : Nat), u ≤ f → val (Lib.decDigits u) = u
  | f, u, h => by
    unfold Lib.decDigits
    split
    · simp only [val, List.foldl_cons, List.foldl_nil]
      rw [digit_val (by omega)]
      omega
    · match f, h with
      | 0, h => omega
      | f + 1, h =>
        have ih := val_digits f (u / 10) (by omega)
        unfold val at ih ⊢
        rw [List.foldl_append, ih]
        simp only [List.foldl_cons, List.foldl_nil]
        rw [digit_val (by omega)]
        omega
theorem digits_inj {u v : Nat} (h : Lib.decDigits u = Lib.decDigits v) : u = v := by
  rw [← val_digits u u (Nat.le_refl _), ← val_digits v v (Nat.le_refl _), h]
theorem digits_ne (u : Nat) : Lib.decDigits u ≠ [] := by
  unfold Lib.decDigits
  split <;> simp
theorem digits_head {u : Nat} {c : UInt8} {x : List UInt8} (h : Lib.decDigits u = c :: x) : 48 ≤ c.toNat ∧ c.toNat ≤ 57 := digits_fine u u (Nat.le_refl _) c (by rw [h]; simp)
theorem itoa_inj {n m : Int} (h : Lib.itoa n = Lib.itoa m) : n = m := by
  unfold Lib.itoa at h
  split at h <;> split at h
  · injection h with _ h
    have := digits_inj h
    omega
  · have := digits_head h.symm
    simp at this
  · have := digits_head h
    simp at this
  · have := digits_inj h
    omega
theorem itoa_all (n : Int) : ∀ c ∈ Lib.itoa n, 45 ≤ c.toNat ∧ c.toNat ≤ 57 := by
  unfold Lib.itoa
  split
  · intro c hc
    rcases List.mem_cons.1 hc with rfl | h
    · decide
    · have := digits_fine _ _ (Nat.le_refl _) c h
      omega
  · intro c hc
    have := digits_fine _ _ (Nat.le_refl _) c hc
    omega
theorem itoa_ne (n : Int) : Lib.itoa n ≠ [] := by
  unfold Lib.itoa
  split
  · simp
  · exact digits_ne _
/-! ### all data -/
/-- the bytes that are written -/
def printL (k : Int) (b : Bool) (n : Int) (s : ByteArray) : List UInt8 := if k = 2 then Lib.formatBool b else if k = 3 then Lib.itoa n else if k = 4 then quotedT s.data.toList else [110, 117, 108, 108]
theorem printT_on {k n : Int} {b : Bool} {s : ByteArray} (h : checkT k b n s = 0) : printT k b n s = ⟨(printL k b n s).toArray⟩ := by
  unfold printT printL
  rw [if_pos h]
  repeat' split
  all_goals rfl
theorem printL_fine (k n : Int) (b : Bool) (s : ByteArray) : (printL k b n s).all fine = true := by
  unfold printL
  split
  · cases b <;> rfl
  · split
    · rw [List.all_eq_true]
      intro c hc
      have := itoa_all n c hc
      unfold fine
      rw [decide_eq_true_iff]
      omega
    · split
      · exact quoted_fine _
      · rfl
theorem printL_count (k n : Int) (b : Bool) (s : ByteArray) : (printL k b n s).count 39 % 2 = 0 ∧ (0 < (printL k b n s).count 39 ↔ k = 4) := by
  unfold printL
  by_cases h2 : k = 2
  · rw [if_pos h2]
    cases b
    · exact ⟨rfl, by rw [show (Lib.formatBool false).count 39 = 0 from rfl]; omega⟩
    · exact ⟨rfl, by rw [show (Lib.formatBool true).count 39 = 0 from rfl]; omega⟩
  rw [if_neg h2]
  by_cases h3 : k = 3
  · rw [if_pos h3]
    have h0 : (Lib.itoa n).count 39 = 0 := by
      rw [List.count_eq_zero]
      intro h
      have := itoa_all n 39 h
      have e : (39 : UInt8).toNat = 39 := rfl
      omega
    rw [h0]
    omega
  rw [if_neg h3]
  by_cases h4 : k = 4
  · rw [if_pos h4]
    have := quoted_count s.data.toList
    omega
  · rw [if_neg h4]
    rw [show ([110, 117, 108, 108] : List UInt8).count 39 = 0 from rfl]
    omega
theorem printL_ne (k n : Int) (b : Bool) (s : ByteArray) : printL k b n s ≠ [] := by
  unfold printL
  split
  · cases b <;> decide
  · split
    · exact itoa_ne n
    · split
      · simp [quotedT]
      · simp
/-- which kind the first byte tells -/
def kindOf (c : UInt8) : Int := if c = 116 ∨ c = 102 then 2 else if c = 39 then 4 else if c = 110 then 1 else 3
theorem printL_kind {k n : Int} {b : Bool} {s : ByteArray} (hk : k = 1 ∨ k = 2 ∨ k = 3 ∨ k = 4) : ∃ c x, printL k b n s = c :: x ∧ kindOf c = k := by
  unfold printL
  rcases hk with rfl | rfl | rfl | rfl
  · exact ⟨110, _, rfl, rfl⟩
  · cases b
    · exact ⟨102, _, rfl, rfl⟩
    · exact ⟨116, _, rfl, rfl⟩
  · rw [if_neg (by omega), if_pos rfl]
    obtain ⟨c, x, h⟩ := List.exists_cons_of_ne_nil (itoa_ne n)
    refine ⟨c, x, h, ?_⟩
    have hc := itoa_all n c (by rw [h]; simp)
    have ne : ∀ d : UInt8, ¬ (45 ≤ d.toNat ∧ d.toNat ≤ 57) → ¬ c = d := fun d hd e => hd (e ▸ hc)
    unfold kindOf
    have n1 := ne 116 (by decide)
    have n2 := ne 102 (by decide)
    rw [if_neg (fun q => q.elim n1 n2), if_neg (ne 39 (by decide)), if_neg (ne 110 (by decide))]
  · exact ⟨39, _, rfl, rfl⟩
theorem bool_inj {a b : Bool} (h : Lib.formatBool a = Lib.formatBool b) : a = b := by
  cases a <;> cases b <;> first | rfl | exact absurd h (by decide)
theorem data_inj {x y : ByteArray} (h : x.data.toList = y.data.toList) : x = y := by
  obtain ⟨⟨x⟩⟩ := x
  obtain ⟨⟨y⟩⟩ := y
  simp at h
  rw [h]
theorem printL_inj {ka na kb nb : Int} {ba bb : Bool} {sa sb : ByteArray} (ha : checkT ka ba na sa = 0) (hb : checkT kb bb nb sb = 0) (h : printL ka ba na sa = printL kb bb nb sb) : (⟨ka, ba, na, sa⟩ : Dat) = ⟨kb, bb, nb, sb⟩ := by
  obtain ⟨hk, a1, a2, a3⟩ := form_of ha
  obtain ⟨hk2, b1, b2, b3⟩ := form_of hb
  obtain ⟨c, x, e1, k1⟩ := printL_kind (b := ba) (n := na) (s := sa) hk
  obtain ⟨d, y, e2, k2⟩ := printL_kind (b := bb) (n := nb) (s := sb) hk2
  have hcd : c = d := by rw [e1, e2] at h; injection h
  obtain rfl : ka = kb := by rw [← k1, ← k2, hcd]
  clear e1 e2 k1 k2 hcd
  unfold printL at h
  rcases hk with rfl | rfl | rfl | rfl
  · rw [a1 (by omega), a2 (by omega), a3 (by omega), b1 (by omega), b2 (by omega), b3 (by omega)]
  · rw [if_pos rfl, if_pos rfl] at h
    rw [bool_inj h, a2 (by omega), a3 (by omega), b2 (by omega), b3 (by omega)]
  · rw [if_neg (by omega), if_pos rfl, if_neg (by omega), if_pos rfl] at h
    rw [itoa_inj h, a1 (by omega), a3 (by omega), b1 (by omega), b3 (by omega)]
  · rw [if_neg (by omega), if_neg (by omega), if_pos rfl, if_neg (by omega), if_neg (by omega), if_pos rfl] at h
    rw [data_inj (quoted_inj h), a1 (by omega), a2 (by omega), b1 (by omega), b2 (by omega)]
theorem printL_len {k n : Int} {b : Bool} {s : ByteArray} (h : checkT k b n s = 0) (hn : -9223372036854775808 ≤ n ∧ n ≤ 9223372036854775807) : (printL k b n s).length ≤ 100000 := by
  unfold printL
  split
  · cases b <;> decide
  · split
    · unfold Lib.itoa
      have p : (10 : Nat) ^ 20 = 100000000000000000000 := by decide
      split
      · have := digits_len 19 n.natAbs (by omega)
        rw [List.length_cons]
        omega
      · have := digits_len 19 n.toNat (by omega)
        omega
    · split
      · have h1 := size_of_check h
        have h2 := flat_len s.data.toList
        have h3 : s.data.toList.length = s.size := by simp
        unfold quotedT
        rw [List.length_cons, List.length_append, List.length_singleton]
        omega
      · simp
end Go.Proofs.YtobgfegdfcpgfaaDoor
