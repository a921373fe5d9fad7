/- A time as it is written, by the program and by the document: both the same. Conditions: the table of powers of ten stands; not too many counters. -/
import Derived.Test.YtmdakaflmheidaaGreatDoorFmtU
import Derived.Test.YtmdakaflmheidaaGreatDoorDigLen
namespace Go.Proofs.YtmdakaflmheidaaGreatDoor
open Go.RowKit

/-! ### plain -/
def digB (x : Int) : ByteArray := ⟨(Lib.decDigits x.toNat).toArray⟩
theorem digB_size {x : Int} (h1 : x ≤ 18446744073709551615) : (digB x).size ≤ 20 := by
  have h := digits_len 19 x.toNat (by have : (10 : Nat) ^ 20 = 100000000000000000000 := by decide
                                      omega)
  simpa [digB, ByteArray.size] using h
/-- what the document's Print has behind k counters -/
def prK (e : Int) (l : List Int) : Nat → ByteArray
  | 0 => digB e
  | k + 1 => prK e l k ++ ⟨#[if k = 0 then 40 else 44]⟩ ++ digB (l.getD k 0)
def prT (e : Int) (l : List Int) : ByteArray := if l = [] then digB e else prK e l l.length ++ ⟨#[41]⟩
theorem prK_size {e : Int} {l : List Int} (he : e ≤ 18446744073709551615) (u : U32 l) : ∀ k, (prK e l k).size ≤ 20 + 21 * k
  | 0 => digB_size he
  | k + 1 => by
    have h1 := prK_size he u k
    have h2 := digB_size (x := l.getD k 0) (by have := (u.getD k).2; omega)
    show (prK e l k ++ ⟨#[if k = 0 then 40 else 44]⟩ ++ digB (l.getD k 0)).size ≤ _
    rw [ByteArray.size_append, ByteArray.size_append]
    have : (⟨#[if k = 0 then 40 else 44]⟩ : ByteArray).size = 1 := rfl
    omega
theorem join_snoc (sep : List UInt8) (xs : List (List UInt8)) (x : List UInt8) (h : xs ≠ []) : Lib.join (xs ++ [x]) sep = Lib.join xs sep ++ (sep ++ x) := by
  cases xs with
  | nil => exact absurd rfl h
  | cons y r =>
    rw [List.cons_append, Lib.join_cons, Lib.join_cons]
    unfold Lib.joinTail
    rw [List.map_append, List.flatten_append, List.append_assoc]
    simp
theorem prK_join (e : Int) (l : List Int) : ∀ k, k < l.length → prK e l (k + 1) = digB e ++ ⟨#[40]⟩ ++ ⟨(Lib.join (((l.take (k + 1)).map digB).map (·.data.toList)) [44]).toArray⟩
  | 0, h => by
    have e1 : l.take 1 = [l.getD 0 0] := by
      cases l with
      | nil => simp at h
      | cons a r => rfl
    show digB e ++ ⟨#[40]⟩ ++ digB (l.getD 0 0) = _
    rw [show (0 : Nat) + 1 = 1 from rfl, e1, List.map_cons, List.map_nil, List.map_cons, List.map_nil, Lib.join_one]
  | k + 1, h => by
    have ih := prK_join e l k (by omega)
    have e1 : l.take (k + 1 + 1) = l.take (k + 1) ++ [l.getD (k + 1) 0] := take_succ_getD _ _ h
    have hne : (((l.take (k + 1)).map digB).map (·.data.toList)) ≠ [] := by
      intro h0
      have := congrArg List.length h0
      rw [List.length_map, List.length_map, List.length_take, List.length_nil] at this
      omega
    show prK e l (k + 1) ++ ⟨#[if k + 1 = 0 then 40 else 44]⟩ ++ digB (l.getD (k + 1) 0) = _
    rw [ih, if_neg (by omega), e1, List.map_append, List.map_append, List.map_cons, List.map_nil, List.map_cons, List.map_nil, join_snoc _ _ _ hne]
    generalize Lib.join (((l.take (k + 1)).map digB).map (·.data.toList)) [44] = J
    generalize digB (l.getD (k + 1) 0) = D
    apply ByteArray.ext
    apply Array.toList_inj.1
    simp
theorem prT_is (e : Int) (l : List Int) (h : l ≠ []) : prT e l = printT digB e l := by
  unfold prT printT
  rw [if_neg h]
  obtain ⟨k, hk⟩ : ∃ k, l.length = k + 1 := ⟨l.length - 1, by have := List.length_pos_iff.2 h; omega⟩
  rw [hk, prK_join e l k (by omega), ← hk, List.take_length]

/-! ### the program -/
/-- numbers of 64 bits as they are written; nothing else -/
def digC (x : Int) : ByteArray := if x ≤ 18446744073709551615 then digB x else ⟨#[]⟩
theorem digC_size (x : Int) : (digC x).size ≤ 20 := by
  unfold digC
  split
  · exact digB_size (by assumption)
  · exact Nat.zero_le _
theorem digC_in {x : Int} (h : x ≤ 18446744073709551615) : digC x = digB x := if_pos h
theorem print_any (e : Int) (A : Option Addr) (n c : Nat) (l : List Int) (w : World) (h : Sl w 1 A n c (wds l)) (u : U32 l) (he : 0 ≤ e ∧ e ≤ 18446744073709551615) (hn : n ≤ 1000) (G : Pow w) :
    Calls Tryz.prog 35 #[.agg #[.int .u64 e, .slice A n c]] w fun r w' => r = .returned (.string (prT e l)) ∧ Ext w w' := by
  have hl := h.wlen
  have fm : ∀ (x : Int) (W : World), Ext w W → (0 ≤ x ∧ x ≤ 18446744073709551615) → Calls Tryz.prog 73 #[.int .u64 x, .int .i64 10] W fun r w' => r = .returned (.string (digC x)) ∧ Ext W w' := by
    intro x W X hx
    rw [digC_in hx.2]
    obtain ⟨m, rfl⟩ := Int.eq_ofNat_of_zero_le hx.1
    exact formatUint_any m W (by omega) (G.ext X)
  by_cases h0 : n = 0
  · subst h0
    have hnil : l = [] := List.eq_nil_of_length_eq_zero hl
    have := print_none e A c digC w (Lib.hid fun x W X hx => fm x W X (hx ▸ he))
    rw [digC_in he.2] at this
    subst hnil
    exact this
  · have hne : l ≠ [] := fun h9 => by subst h9; simp at hl; omega
    have := print_some e A n c l digC w h u hn (by omega) digC_size (Lib.hid fun x W X hx => fm x W X (by
      rcases hx with rfl | hx
      · exact he
      · have := u x hx; omega))
    rw [prT_is e l hne]
    have e1 : l.map digC = l.map digB := List.map_congr_left fun x hx => digC_in (by have := u x hx; omega)
    have e2 : printT digC e l = printT digB e l := by unfold printT; rw [e1, digC_in he.2]
    rw [← e2]
    exact this
/-! ### the document -/
end Go.Proofs.YtmdakaflmheidaaGreatDoor
