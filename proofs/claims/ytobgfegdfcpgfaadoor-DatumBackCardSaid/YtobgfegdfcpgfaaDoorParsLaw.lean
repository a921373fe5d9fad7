/- The plain law of reading a quoted text: one step of it, the loop's invariant. Conditions: none. -/
import Derived.Test.YtobgfegdfcpgfaaDoorWritLaw
namespace Go.Proofs.YtobgfegdfcpgfaaDoor
open Go.RowKit

def hexOk (h : UInt8) : Bool := decide ((48 ≤ h.toNat ∧ h.toNat ≤ 57) ∨ (97 ≤ h.toNat ∧ h.toNat ≤ 102))
/-- one byte read from a quoted text -/
def decQ : List UInt8 → Option (UInt8 × List UInt8)
  | [] => none
  | c :: x => if c = 39 then (match x with | d :: y => (if d = 39 then some (39, y) else none) | [] => none) else if c = 92 then
      (match x with
        | d :: y => if d = 92 then some (92, y) else if d = 110 then some (10, y) else if d = 114 then some (13, y) else if d = 116 then some (9, y) else if d = 120 then
            (match y with | h :: l :: z => (if hexOk h && hexOk l then some (UInt8.ofNat (16 * hexV h + hexV l), z) else none) | _ => none) else none
        | [] => none) else some (c, x)
theorem hex_ok (c : UInt8) : (hexOk (hexD (c.toNat / 16)) && hexOk (hexD (c.toNat % 16))) = true := by
  have key : ∀ j : Fin 256, (hexOk (hexD (j.val / 16)) && hexOk (hexD (j.val % 16))) = true := by decide +kernel
  have := key ⟨c.toNat, c.toNat_lt⟩
  simpa using this
theorem decQ_esc (c : UInt8) (x : List UInt8) : decQ (esc c ++ x) = some (c, x) := by
  unfold esc
  by_cases h1 : c = 39
  · subst h1; rfl
  rw [if_neg h1]
  by_cases h2 : c = 92
  · subst h2; rfl
  rw [if_neg h2]
  by_cases h3 : c = 10
  · subst h3; rfl
  rw [if_neg h3]
  by_cases h4 : c = 13
  · subst h4; rfl
  rw [if_neg h4]
  by_cases h5 : c = 9
  · subst h5; rfl
  rw [if_neg h5]
  by_cases h6 : c < 32 ∨ c = 127
  · rw [if_pos h6]
    have e := hex_back c
    have o := hex_ok c
    show (if hexOk (hexD (c.toNat / 16)) && hexOk (hexD (c.toNat % 16)) then some (UInt8.ofNat (16 * hexV (hexD (c.toNat / 16)) + hexV (hexD (c.toNat % 16))), x) else none : Option (UInt8 × List UInt8)) = _
    rw [if_pos o, e]
  · rw [if_neg h6]
    show (if c = 39 then _ else if c = 92 then _ else some (c, x)) = _
    rw [if_neg h1, if_neg h2]
theorem esc_ne (c : UInt8) : esc c ≠ [] := by
  intro h
  have := decQ_esc c []
  rw [h] at this
  cases this
/-- what has been read, and what is still to be read -/
def Rd (S acc rest : List UInt8) : Prop := ∀ x, S = x.flatMap esc → ∃ y, rest = y.flatMap esc ∧ x = acc ++ y
theorem rd_start (S : List UInt8) : Rd S [] S := fun x h => ⟨x, h, rfl⟩
theorem rd_end {S acc : List UInt8} (h : Rd S acc []) (x : List UInt8) (hx : S = x.flatMap esc) : acc = x := by
  obtain ⟨y, hy, e⟩ := h x hx
  cases y with
  | nil => rw [e, List.append_nil]
  | cons c y =>
    rw [List.flatMap_cons] at hy
    exact absurd (List.append_eq_nil_iff.1 hy.symm).1 (esc_ne c)
theorem rd_step {S acc rest z : List UInt8} {a : UInt8} (h : Rd S acc rest) (hne : rest ≠ []) (hd : ∀ b u, decQ rest = some (b, u) → b = a ∧ u = z) : Rd S (acc ++ [a]) z := by
  intro x hx
  obtain ⟨y, hy, e⟩ := h x hx
  cases y with
  | nil => exact absurd hy hne
  | cons c y =>
    rw [List.flatMap_cons] at hy
    obtain ⟨e1, e2⟩ := hd c (y.flatMap esc) (by rw [hy, decQ_esc])
    exact ⟨y, e2.symm, by rw [e, e1, List.append_assoc]; rfl⟩
theorem rd_fail {S acc rest : List UInt8} (h : Rd S acc rest) (hne : rest ≠ []) (hd : decQ rest = none) (x : List UInt8) : ¬ S = x.flatMap esc := by
  intro hx
  obtain ⟨y, hy, e⟩ := h x hx
  cases y with
  | nil => exact hne hy
  | cons c y =>
    rw [List.flatMap_cons] at hy
    rw [hy, decQ_esc] at hd
    cases hd
/-- what a reading of a quoted text answers, as far as it must be known -/
def Unq (s t : ByteArray) (b : Bool) : Prop := ∀ x : List UInt8, s.data.toList = x.flatMap esc → t.data.toList = x ∧ b = true
theorem tail_list (r : ByteArray) (k : Nat) : (r.extract k r.size).data.toList = r.data.toList.drop k := by
  rw [ByteArray.data_extract, Array.toList_extract]
  have e : r.data.toList.length = r.size := by simp
  unfold List.extract
  rw [List.take_of_length_le]
  rw [List.length_drop, e]
  exact Nat.le_refl _
theorem unq_fail {s t : ByteArray} {b : Bool} {acc rest : List UInt8} (h : Rd s.data.toList acc rest) (hne : rest ≠ []) (hd : decQ rest = none) : Unq s t b := fun x hx => absurd hx (rd_fail h hne hd x)
end Go.Proofs.YtobgfegdfcpgfaaDoor
