/- The plain law of reading a datum: what text tells which datum. Conditions: none. -/
import Derived.Test.YtobgfegdfcpgfaaDoorUnq
import Derived.Test.YtobgfegdfcpgfaaDoorRingLaw
namespace Go.Proofs.YtobgfegdfcpgfaaDoor
open Go.RowKit

/-! ### numbers -/
def fold10 (a : Nat) (l : List UInt8) : Nat := l.foldl (fun a c => 10 * a + (c.toNat - 48)) a
theorem fold_le : ∀ (l : List UInt8) (a : Nat), a ≤ fold10 a l
  | [], a => Nat.le_refl _
  | c :: l, a => by
    have := fold_le l (10 * a + (c.toNat - 48))
    show a ≤ fold10 (10 * a + (c.toNat - 48)) l
    omega
theorem parseU_digits {M : Nat} (hM : M < 18446744073709551616) : ∀ (l : List UInt8) (a : Nat), (∀ c ∈ l, 48 ≤ c.toNat ∧ c.toNat ≤ 57) → fold10 a l ≤ M → Lib.parseUintM M a l = .ok (fold10 a l)
  | [], a, _, _ => rfl
  | c :: l, a, hd, hl => by
    have h1 := hd c (List.mem_cons_self ..)
    have h2 : fold10 (10 * a + (c.toNat - 48)) l ≤ M := hl
    have h3 := fold_le l (10 * a + (c.toNat - 48))
    have e : a * 10 + (c.toNat - 48) = 10 * a + (c.toNat - 48) := by omega
    show (if 48 ≤ c.toNat ∧ c.toNat ≤ 57 then _ else _) = _
    rw [if_pos h1, if_neg (by omega), if_neg (by omega), e]
    exact parseU_digits hM l _ (fun c hc => hd c (List.mem_cons_of_mem _ hc)) h2
theorem parseU_dec {M u : Nat} (hM : M < 18446744073709551616) (hu : u ≤ M) : Lib.parseUintM M 0 (Lib.decDigits u) = .ok u := by
  have e : fold10 0 (Lib.decDigits u) = u := val_digits u u (Nat.le_refl _)
  rw [parseU_digits hM _ 0 (digits_fine u u (Nat.le_refl _)) (by rw [e]; exact hu), e]
theorem parse_itoa {n : Int} (h : In64 n) : Lib.parseIntB 64 (Lib.itoa n) = .ok n := by
  obtain ⟨h1, h2⟩ := h
  have eC : (2 : Nat) ^ (64 - 1) = 9223372036854775808 := by decide
  have eM : (2 : Nat) ^ 64 - 1 = 18446744073709551615 := by decide
  unfold Lib.itoa
  split
  · rename_i hn
    have q := parseU_dec (M := 18446744073709551615) (u := n.natAbs) (by omega) (by omega)
    have e45 : (45 : UInt8).toNat = 45 := rfl
    simp only [Lib.parseIntB, Lib.parseUintB, eM, eC, e45]
    simp [digits_ne, q]
    rw [if_neg (by omega)]
    congr 1
    omega
  · rename_i hn
    have q := parseU_dec (M := 18446744073709551615) (u := n.toNat) (by omega) (by omega)
    obtain ⟨c, x, e⟩ := List.exists_cons_of_ne_nil (digits_ne n.toNat)
    have hc := digits_head e
    rw [e] at q ⊢
    simp only [Lib.parseIntB, Lib.parseUintB, eM, eC]
    rw [if_neg (show ¬ (c.toNat = 43 ∨ c.toNat = 45) by omega)]
    first | rw [q] | rw [if_neg (List.cons_ne_nil _ _), q]
    have n45 : ¬ c.toNat = 45 := by omega
    simp [n45]
    rw [if_neg (by omega)]
    congr 1
    omega
/-! ### data -/
def Ok (d : Dat) : Prop := checkT d.k d.b d.n d.s = 0 ∧ In64 d.n
/-- d is the one datum, if any, that is written so -/
def Cand (s : ByteArray) (d : Dat) : Prop := ∀ x : Dat, Ok x → printT x.k x.b x.n x.s = s → x = d
def NoCand (s : ByteArray) : Prop := ∀ x : Dat, Ok x → ¬ printT x.k x.b x.n x.s = s
/-- what reading a text answers -/
def ParseRel (s : ByteArray) (d : Dat) (e : Int) : Prop := (e = 0 ∧ Ok d ∧ printT d.k d.b d.n d.s = s) ∨ (e = 13 ∧ d = Dat.zero ∧ NoCand s)
theorem print_inj {x y : Dat} (hx : Ok x) (hy : Ok y) (h : printT x.k x.b x.n x.s = printT y.k y.b y.n y.s) : x = y := by
  rw [printT_on hx.1, printT_on hy.1] at h
  have h' : printL x.k x.b x.n x.s = printL y.k y.b y.n y.s := by
    have := congrArg (fun b : ByteArray => b.data.toList) h
    simpa using this
  exact printL_inj hx.1 hy.1 h'
theorem cand_of {s : ByteArray} {d : Dat} (hd : Ok d) (h : printT d.k d.b d.n d.s = s) : Cand s d := fun x hx hs => print_inj hx hd (hs.trans h.symm)
theorem parse_on {s : ByteArray} {d : Dat} (hd : Ok d) (h : printT d.k d.b d.n d.s = s) : ParseRel s d 0 := .inl ⟨rfl, hd, h⟩
theorem parse_off {s : ByteArray} {d : Dat} (hc : Cand s d) (h : ¬ (Ok d ∧ printT d.k d.b d.n d.s = s)) : ParseRel s Dat.zero 13 := .inr ⟨rfl, rfl, fun x hx hs => h (by rw [← hc x hx hs]; exact ⟨hx, hs⟩)⟩
theorem rel_unique {s : ByteArray} {d x : Dat} {e f : Int} (h : ParseRel s d e) (k : ParseRel s x f) : d = x ∧ e = f := by
  rcases h with ⟨rfl, h1, h2⟩ | ⟨rfl, rfl, h3⟩ <;> rcases k with ⟨rfl, k1, k2⟩ | ⟨rfl, rfl, k3⟩
  · exact ⟨print_inj h1 k1 (h2.trans k2.symm), rfl⟩
  · exact absurd h2 (k3 _ h1)
  · exact absurd k2 (h3 _ k1)
  · exact ⟨rfl, rfl⟩
theorem list_of {x : Dat} {s : ByteArray} (hx : Ok x) (h : printT x.k x.b x.n x.s = s) : s.data.toList = printL x.k x.b x.n x.s := by
  rw [← h, printT_on hx.1]
  done
/-- a text between quotes tells a text, or nothing -/
theorem cand_text {s t : ByteArray} {m : List UInt8} {ok : Bool} (hs : s.data.toList = 39 :: (m ++ [39])) (hu : ∀ x : List UInt8, m = x.flatMap esc → t.data.toList = x ∧ ok = true) : ∀ x : Dat, Ok x → printT x.k x.b x.n x.s = s → x = ⟨4, false, 0, t⟩ ∧ ok = true := by
  intro x hx hp
  have hl := list_of hx hp
  obtain ⟨hk, a1, a2, a3⟩ := form_of hx.1
  obtain ⟨c, y, e1, k1⟩ := printL_kind (b := x.b) (n := x.n) (s := x.s) hk
  have hc : c = 39 := by rw [e1, hs] at hl; injection hl with hl; exact hl.symm
  have h4 : x.k = 4 := by rw [← k1, hc]; rfl
  have hq : printL x.k x.b x.n x.s = quotedT x.s.data.toList := by
    rw [h4]
    rfl
  rw [hq, hs] at hl
  unfold quotedT at hl
  injection hl with _ hl
  obtain ⟨e2, e3⟩ := hu _ (List.append_cancel_right hl)
  refine ⟨?_, e3⟩
  have e4 : x.s = t := data_inj e2.symm
  obtain ⟨k, b, n, z⟩ := x
  simp only at h4 e4 a1 a2
  subst h4 e4
  rw [a1 (by omega), a2 (by omega)]
/-- a text that is none of the words, and not between quotes, tells a number, or nothing -/
theorem cand_num {s : ByteArray} (h1 : ¬ s.data.toList = [110, 117, 108, 108]) (h2 : ¬ s.data.toList = Lib.formatBool true) (h3 : ¬ s.data.toList = Lib.formatBool false) (h4 : ∀ m, ¬ s.data.toList = 39 :: (m ++ [39])) :
    ∀ x : Dat, Ok x → printT x.k x.b x.n x.s = s → ∃ v, parseOk s v ∧ x = ⟨3, false, v, ⟨#[]⟩⟩ := by
  intro x hx hp
  have hl := list_of hx hp
  obtain ⟨hk, a1, a2, a3⟩ := form_of hx.1
  obtain ⟨hok, hn⟩ := hx
  obtain ⟨k, b, n, z⟩ := x
  simp only at hk a1 a2 a3 hl hn
  rcases hk with rfl | rfl | rfl | rfl
  · exact absurd hl h1
  · cases b
    · exact absurd hl h3
    · exact absurd hl h2
  · refine ⟨n, ?_, ?_⟩
    · unfold parseOk
      rw [hl]
      exact parse_itoa hn
    · rw [a1 (by omega), a3 (by omega)]
  · exact absurd hl (h4 _)
end Go.Proofs.YtobgfegdfcpgfaaDoor
