/- The plain law of DatumWritten: what is written has no control byte, an even number of quotes, just if it is a text more than none, and tells the datum. The plain law of reading a quoted text: one step of it, the loop's invariant. strconv.ParseInt at base 10, 64 bits; the worlds in which it answers. internal/strconv.ParseUint at base 16, 8 bits, of two bytes. strconv.ParseUint at base 16, 8 bits, of two bytes. datum.unquoted of any text: what it answers, as far as it must be known. datum.null, boolean, number, text; what a datum's function answers. The plain law of reading a datum: what text tells which datum. datum.Parse: what it answers. datum.Parse of a text that is none of the words and not between quotes: what it answers. datum.Parse of a text between quotes: what it answers. What ParseInt reads lies in int64; texts that are none of the words. A text between quotes, told by its size, its first and its last byte. datum.Parse of any text: what it answers. datum.Parse once more: in the form that walks use. Conditions: each theorem states its own. -/
import Derived.Test.YtngeioghihbkeaaGreatDoorRowPrnAll
import Derived.Test.YtngeioghihbkeaaGreatDoorShelfP
import Derived.Stop.LaidErr
import Derived.Lib.ParseIntBMem
import Derived.Test.YtngeioghihbkeaaGreatDoorDDat
import Derived.Test.YtngeioghihbkeaaGreatDoorChkLaw
namespace Go.Proofs.YtngeioghihbkeaaGreatDoor
open Go.RowKit

def fine (x : UInt8) : Bool := decide (32 ≤ x.toNat ∧ x.toNat ≠ 127)
theorem esc_fine (c : UInt8) : (esc c).all fine = true := by
  have key : ∀ j : Fin 256, (esc (UInt8.ofNat j.val)).all fine = true := by decide +kernel
  have := key ⟨c.toNat, c.toNat_lt⟩
  simpa using this
theorem esc_count (c : UInt8) : (esc c).count 39 % 2 = 0 := by
  have key : ∀ j : Fin 256, (esc (UInt8.ofNat j.val)).count 39 % 2 = 0 := by decide +kernel
  have := key ⟨c.toNat, c.toNat_lt⟩
  simpa using this
theorem flat_fine : ∀ l : List UInt8, (l.flatMap esc).all fine = true
  | [] => rfl
  | c :: l => by rw [List.flatMap_cons, List.all_append, esc_fine, flat_fine l]; rfl
theorem flat_count : ∀ l : List UInt8, (l.flatMap esc).count 39 % 2 = 0
  | [] => rfl
  | c :: l => by
    have h1 := esc_count c
    have h2 := flat_count l
    rw [List.flatMap_cons, List.count_append]
    omega
theorem quoted_fine (l : List UInt8) : (quotedT l).all fine = true := by
  unfold quotedT
  rw [List.all_cons, List.all_append, flat_fine]
  rfl
theorem quoted_count (l : List UInt8) : (quotedT l).count 39 % 2 = 0 ∧ 0 < (quotedT l).count 39 := by
  have h := flat_count l
  unfold quotedT
  rw [List.count_cons, List.count_append]
  simp
  omega
/-! ### what is written is read again -/
def hexV (h : UInt8) : Nat := if h.toNat < 58 then h.toNat - 48 else h.toNat - 87
def dec1 : List UInt8 → Option (UInt8 × List UInt8)
  | [] => none
  | c :: x => if c = 39 then (match x with | _ :: y => some (39, y) | [] => none) else if c = 92 then
      (match x with
        | d :: y => if d = 92 then some (92, y) else if d = 110 then some (10, y) else if d = 114 then some (13, y) else if d = 116 then some (9, y) else
            (match y with | h :: l :: z => some (UInt8.ofNat (16 * hexV h + hexV l), z) | _ => none)
        | [] => none) else some (c, x)
theorem hex_back (c : UInt8) : UInt8.ofNat (16 * hexV (hexD (c.toNat / 16)) + hexV (hexD (c.toNat % 16))) = c := by
  have key : ∀ j : Fin 256, UInt8.ofNat (16 * hexV (hexD (j.val / 16)) + hexV (hexD (j.val % 16))) = UInt8.ofNat j.val := by decide +kernel
  have := key ⟨c.toNat, c.toNat_lt⟩
  simpa using this
theorem dec_esc (c : UInt8) (x : List UInt8) : dec1 (esc c ++ x) = some (c, x) := by
  unfold esc
  by_cases h1 : c = 39
  · subst h1; rfl
  rw [if_neg h1]
  by_cases h2 : c = 92
  · subst h2; rfl
  rw [if_neg h2]
  by_cases h3 : c = 10
  · subst h3; rfl
  rw [if_neg h3]
  by_cases h4 : c = 13
  · subst h4; rfl
  rw [if_neg h4]
  by_cases h5 : c = 9
  · subst h5; rfl
  rw [if_neg h5]
  by_cases h6 : c < 32 ∨ c = 127
  · rw [if_pos h6]
    have e := hex_back c
    show (some (UInt8.ofNat (16 * hexV (hexD (c.toNat / 16)) + hexV (hexD (c.toNat % 16))), x) : Option (UInt8 × List UInt8)) = _
    rw [e]
  · rw [if_neg h6]
    show (if c = 39 then _ else if c = 92 then _ else some (c, x)) = _
    rw [if_neg h1, if_neg h2]
theorem flat_inj : ∀ l m : List UInt8, l.flatMap esc = m.flatMap esc → l = m
  | [], [], _ => rfl
  | [], c :: m, h => by
    have := dec_esc c (m.flatMap esc)
    rw [← List.flatMap_cons, ← h] at this
    cases this
  | c :: l, [], h => by
    have := dec_esc c (l.flatMap esc)
    rw [← List.flatMap_cons, h] at this
    cases this
  | c :: l, d :: m, h => by
    have h1 := dec_esc c (l.flatMap esc)
    have h2 := dec_esc d (m.flatMap esc)
    rw [← List.flatMap_cons] at h1 h2
    rw [h, h2] at h1
    injection h1 with h1
    injection h1 with e1 e2
    rw [e1, flat_inj l m e2.symm]
theorem quoted_inj {l m : List UInt8} (h : quotedT l = quotedT m) : l = m := by
  unfold quotedT at h
  injection h with _ h
  exact flat_inj l m (List.append_cancel_right h)
/-! ### numbers -/
theorem digit_val {r : Nat} (h : r < 10) : (UInt8.ofNat (48 + r)).toNat = 48 + r := by
  rw [UInt8.toNat_ofNat']
  omega
theorem digits_fine : ∀ (f u : Nat), u ≤ f → ∀ c ∈ Lib.decDigits u, 48 ≤ c.toNat ∧ c.toNat ≤ 57
  | f, u, h => by
    intro c hc
    unfold Lib.decDigits at hc
    split at hc
    · simp only [List.mem_singleton] at hc
      subst hc
      rw [digit_val (by omega)]
      omega
    · rcases List.mem_append.1 hc with h1 | h1
      · match f, h with
        | 0, h => omega
        | f + 1, h => exact digits_fine f (u / 10) (by omega) c h1
      · simp only [List.mem_singleton] at h1
        subst h1
        rw [digit_val (by omega)]
        omega
def val (l : List UInt8) : Nat := l.foldl (fun a c => 10 * a + (c.toNat - 48)) 0
theorem val_digits : ∀ (f u : Nat), u ≤ f → val (Lib.decDigits u) = u
  | f, u, h => by
    unfold Lib.decDigits
    split
    · simp only [val, List.foldl_cons, List.foldl_nil]
      rw [digit_val (by omega)]
      omega
    · match f, h with
      | 0, h => omega
      | f + 1, h =>
        have ih := val_digits f (u / 10) (by omega)
        unfold val at ih ⊢
        rw [List.foldl_append, ih]
        simp only [List.foldl_cons, List.foldl_nil]
        rw [digit_val (by omega)]
        omega
theorem digits_inj {u v : Nat} (h : Lib.decDigits u = Lib.decDigits v) : u = v := by
  rw [← val_digits u u (Nat.le_refl _), ← val_digits v v (Nat.le_refl _), h]
theorem digits_ne (u : Nat) : Lib.decDigits u ≠ [] := by
  unfold Lib.decDigits
  split <;> simp
theorem digits_head {u : Nat} {c : UInt8} {x : List UInt8} (h : Lib.decDigits u = c :: x) : 48 ≤ c.toNat ∧ c.toNat ≤ 57 := digits_fine u u (Nat.le_refl _) c (by rw [h]; simp)
theorem itoa_inj {n m : Int} (h : Lib.itoa n = Lib.itoa m) : n = m := by
  unfold Lib.itoa at h
  split at h <;> split at h
  · injection h with _ h
    have := digits_inj h
    omega
  · have := digits_head h.symm
    simp at this
  · have := digits_head h
    simp at this
  · have := digits_inj h
    omega
theorem itoa_all (n : Int) : ∀ c ∈ Lib.itoa n, 45 ≤ c.toNat ∧ c.toNat ≤ 57 := by
  unfold Lib.itoa
  split
  · intro c hc
    rcases List.mem_cons.1 hc with rfl | h
    · decide
    · have := digits_fine _ _ (Nat.le_refl _) c h
      omega
  · intro c hc
    have := digits_fine _ _ (Nat.le_refl _) c hc
    omega
theorem itoa_ne (n : Int) : Lib.itoa n ≠ [] := by
  unfold Lib.itoa
  split
  · simp
  · exact digits_ne _
/-! ### all data -/
/-- the bytes that are written -/
def printL (k : Int) (b : Bool) (n : Int) (s : ByteArray) : List UInt8 := if k = 2 then Lib.formatBool b else if k = 3 then Lib.itoa n else if k = 4 then quotedT s.data.toList else [110, 117, 108, 108]
theorem printT_on {k n : Int} {b : Bool} {s : ByteArray} (h : checkT k b n s = 0) : printT k b n s = ⟨(printL k b n s).toArray⟩ := by
  unfold printT printL
  rw [if_pos h]
  repeat' split
  all_goals rfl
theorem printL_fine (k n : Int) (b : Bool) (s : ByteArray) : (printL k b n s).all fine = true := by
  unfold printL
  split
  · cases b <;> rfl
  · split
    · rw [List.all_eq_true]
      intro c hc
      have := itoa_all n c hc
      unfold fine
      rw [decide_eq_true_iff]
      omega
    · split
      · exact quoted_fine _
      · rfl
theorem printL_count (k n : Int) (b : Bool) (s : ByteArray) : (printL k b n s).count 39 % 2 = 0 ∧ (0 < (printL k b n s).count 39 ↔ k = 4) := by
  unfold printL
  by_cases h2 : k = 2
  · rw [if_pos h2]
    cases b
    · exact ⟨rfl, by rw [show (Lib.formatBool false).count 39 = 0 from rfl]; omega⟩
    · exact ⟨rfl, by rw [show (Lib.formatBool true).count 39 = 0 from rfl]; omega⟩
  rw [if_neg h2]
  by_cases h3 : k = 3
  · rw [if_pos h3]
    have h0 : (Lib.itoa n).count 39 = 0 := by
      rw [List.count_eq_zero]
      intro h
      have := itoa_all n 39 h
      have e : (39 : UInt8).toNat = 39 := rfl
      omega
    rw [h0]
    omega
  rw [if_neg h3]
  by_cases h4 : k = 4
  · rw [if_pos h4]
    have := quoted_count s.data.toList
    omega
  · rw [if_neg h4]
    rw [show ([110, 117, 108, 108] : List UInt8).count 39 = 0 from rfl]
    omega
theorem printL_ne (k n : Int) (b : Bool) (s : ByteArray) : printL k b n s ≠ [] := by
  unfold printL
  split
  · cases b <;> decide
  · split
    · exact itoa_ne n
    · split
      · simp [quotedT]
      · simp
/-- which kind the first byte tells -/
def kindOf (c : UInt8) : Int := if c = 116 ∨ c = 102 then 2 else if c = 39 then 4 else if c = 110 then 1 else 3
theorem printL_kind {k n : Int} {b : Bool} {s : ByteArray} (hk : k = 1 ∨ k = 2 ∨ k = 3 ∨ k = 4) : ∃ c x, printL k b n s = c :: x ∧ kindOf c = k := by
  unfold printL
  rcases hk with rfl | rfl | rfl | rfl
  · exact ⟨110, _, rfl, rfl⟩
  · cases b
    · exact ⟨102, _, rfl, rfl⟩
    · exact ⟨116, _, rfl, rfl⟩
  · rw [if_neg (by omega), if_pos rfl]
    obtain ⟨c, x, h⟩ := List.exists_cons_of_ne_nil (itoa_ne n)
    refine ⟨c, x, h, ?_⟩
    have hc := itoa_all n c (by rw [h]; simp)
    have ne : ∀ d : UInt8, ¬ (45 ≤ d.toNat ∧ d.toNat ≤ 57) → ¬ c = d := fun d hd e => hd (e ▸ hc)
    unfold kindOf
    have n1 := ne 116 (by decide)
    have n2 := ne 102 (by decide)
    rw [if_neg (fun q => q.elim n1 n2), if_neg (ne 39 (by decide)), if_neg (ne 110 (by decide))]
  · exact ⟨39, _, rfl, rfl⟩
theorem bool_inj {a b : Bool} (h : Lib.formatBool a = Lib.formatBool b) : a = b := by
  cases a <;> cases b <;> first | rfl | exact absurd h (by decide)
theorem data_inj {x y : ByteArray} (h : x.data.toList = y.data.toList) : x = y := by
  obtain ⟨⟨x⟩⟩ := x
  obtain ⟨⟨y⟩⟩ := y
  simp at h
  rw [h]
theorem printL_inj {ka na kb nb : Int} {ba bb : Bool} {sa sb : ByteArray} (ha : checkT ka ba na sa = 0) (hb : checkT kb bb nb sb = 0) (h : printL ka ba na sa = printL kb bb nb sb) : (⟨ka, ba, na, sa⟩ : Dat) = ⟨kb, bb, nb, sb⟩ := by
  obtain ⟨hk, a1, a2, a3⟩ := form_of ha
  obtain ⟨hk2, b1, b2, b3⟩ := form_of hb
  obtain ⟨c, x, e1, k1⟩ := printL_kind (b := ba) (n := na) (s := sa) hk
  obtain ⟨d, y, e2, k2⟩ := printL_kind (b := bb) (n := nb) (s := sb) hk2
  have hcd : c = d := by rw [e1, e2] at h; injection h
  obtain rfl : ka = kb := by rw [← k1, ← k2, hcd]
  clear e1 e2 k1 k2 hcd
  unfold printL at h
  rcases hk with rfl | rfl | rfl | rfl
  · rw [a1 (by omega), a2 (by omega), a3 (by omega), b1 (by omega), b2 (by omega), b3 (by omega)]
  · rw [if_pos rfl, if_pos rfl] at h
    rw [bool_inj h, a2 (by omega), a3 (by omega), b2 (by omega), b3 (by omega)]
  · rw [if_neg (by omega), if_pos rfl, if_neg (by omega), if_pos rfl] at h
    rw [itoa_inj h, a1 (by omega), a3 (by omega), b1 (by omega), b3 (by omega)]
  · rw [if_neg (by omega), if_neg (by omega), if_pos rfl, if_neg (by omega), if_neg (by omega), if_pos rfl] at h
    rw [data_inj (quoted_inj h), a1 (by omega), a2 (by omega), b1 (by omega), b2 (by omega)]
theorem printL_len {k n : Int} {b : Bool} {s : ByteArray} (h : checkT k b n s = 0) (hn : -9223372036854775808 ≤ n ∧ n ≤ 9223372036854775807) : (printL k b n s).length ≤ 100000 := by
  unfold printL
  split
  · cases b <;> decide
  · split
    · unfold Lib.itoa
      have p : (10 : Nat) ^ 20 = 100000000000000000000 := by decide
      split
      · have := digits_len 19 n.natAbs (by omega)
        rw [List.length_cons]
        omega
      · have := digits_len 19 n.toNat (by omega)
        omega
    · split
      · have h1 := size_of_check h
        have h2 := flat_len s.data.toList
        have h3 : s.data.toList.length = s.size := by simp
        unfold quotedT
        rw [List.length_cons, List.length_append, List.length_singleton]
        omega
      · simp
end Go.Proofs.YtngeioghihbkeaaGreatDoor
namespace Go.Proofs.YtngeioghihbkeaaGreatDoor
open Go.RowKit

def hexOk (h : UInt8) : Bool := decide ((48 ≤ h.toNat ∧ h.toNat ≤ 57) ∨ (97 ≤ h.toNat ∧ h.toNat ≤ 102))
/-- one byte read from a quoted text -/
def decQ : List UInt8 → Option (UInt8 × List UInt8)
  | [] => none
  | c :: x => if c = 39 then (match x with | d :: y => (if d = 39 then some (39, y) else none) | [] => none) else if c = 92 then
      (match x with
        | d :: y => if d = 92 then some (92, y) else if d = 110 then some (10, y) else if d = 114 then some (13, y) else if d = 116 then some (9, y) else if d = 120 then
            (match y with | h :: l :: z => (if hexOk h && hexOk l then some (UInt8.ofNat (16 * hexV h + hexV l), z) else none) | _ => none) else none
        | [] => none) else some (c, x)
theorem hex_ok (c : UInt8) : (hexOk (hexD (c.toNat / 16)) && hexOk (hexD (c.toNat % 16))) = true := by
  have key : ∀ j : Fin 256, (hexOk (hexD (j.val / 16)) && hexOk (hexD (j.val % 16))) = true := by decide +kernel
  have := key ⟨c.toNat, c.toNat_lt⟩
  simpa using this
theorem decQ_esc (c : UInt8) (x : List UInt8) : decQ (esc c ++ x) = some (c, x) := by
  unfold esc
  by_cases h1 : c = 39
  · subst h1; rfl
  rw [if_neg h1]
  by_cases h2 : c = 92
  · subst h2; rfl
  rw [if_neg h2]
  by_cases h3 : c = 10
  · subst h3; rfl
  rw [if_neg h3]
  by_cases h4 : c = 13
  · subst h4; rfl
  rw [if_neg h4]
  by_cases h5 : c = 9
  · subst h5; rfl
  rw [if_neg h5]
  by_cases h6 : c < 32 ∨ c = 127
  · rw [if_pos h6]
    have e := hex_back c
    have o := hex_ok c
    show (if hexOk (hexD (c.toNat / 16)) && hexOk (hexD (c.toNat % 16)) then some (UInt8.ofNat (16 * hexV (hexD (c.toNat / 16)) + hexV (hexD (c.toNat % 16))), x) else none : Option (UInt8 × List UInt8)) = _
    rw [if_pos o, e]
  · rw [if_neg h6]
    show (if c = 39 then _ else if c = 92 then _ else some (c, x)) = _
    rw [if_neg h1, if_neg h2]
theorem esc_ne (c : UInt8) : esc c ≠ [] := by
  intro h
  have := decQ_esc c []
  rw [h] at this
  cases this
/-- what has been read, and what is still to be read -/
def Rd (S acc rest : List UInt8) : Prop := ∀ x, S = x.flatMap esc → ∃ y, rest = y.flatMap esc ∧ x = acc ++ y
theorem rd_start (S : List UInt8) : Rd S [] S := fun x h => ⟨x, h, rfl⟩
theorem rd_end {S acc : List UInt8} (h : Rd S acc []) (x : List UInt8) (hx : S = x.flatMap esc) : acc = x := by
  obtain ⟨y, hy, e⟩ := h x hx
  cases y with
  | nil => rw [e, List.append_nil]
  | cons c y =>
    rw [List.flatMap_cons] at hy
    exact absurd (List.append_eq_nil_iff.1 hy.symm).1 (esc_ne c)
theorem rd_step {S acc rest z : List UInt8} {a : UInt8} (h : Rd S acc rest) (hne : rest ≠ []) (hd : ∀ b u, decQ rest = some (b, u) → b = a ∧ u = z) : Rd S (acc ++ [a]) z := by
  intro x hx
  obtain ⟨y, hy, e⟩ := h x hx
  cases y with
  | nil => exact absurd hy hne
  | cons c y =>
    rw [List.flatMap_cons] at hy
    obtain ⟨e1, e2⟩ := hd c (y.flatMap esc) (by rw [hy, decQ_esc])
    exact ⟨y, e2.symm, by rw [e, e1, List.append_assoc]; rfl⟩
theorem rd_fail {S acc rest : List UInt8} (h : Rd S acc rest) (hne : rest ≠ []) (hd : decQ rest = none) (x : List UInt8) : ¬ S = x.flatMap esc := by
  intro hx
  obtain ⟨y, hy, e⟩ := h x hx
  cases y with
  | nil => exact hne hy
  | cons c y =>
    rw [List.flatMap_cons] at hy
    rw [hy, decQ_esc] at hd
    cases hd
/-- what a reading of a quoted text answers, as far as it must be known -/
def Unq (s t : ByteArray) (b : Bool) : Prop := ∀ x : List UInt8, s.data.toList = x.flatMap esc → t.data.toList = x ∧ b = true
theorem tail_list (r : ByteArray) (k : Nat) : (r.extract k r.size).data.toList = r.data.toList.drop k := by
  rw [ByteArray.data_extract, Array.toList_extract]
  have e : r.data.toList.length = r.size := by simp
  unfold List.extract
  rw [List.take_of_length_le]
  rw [List.length_drop, e]
  exact Nat.le_refl _
theorem unq_fail {s t : ByteArray} {b : Bool} {acc rest : List UInt8} (h : Rd s.data.toList acc rest) (hne : rest ≠ []) (hd : decQ rest = none) : Unq s t b := fun x hx => absurd hx (rd_fail h hne hd x)
end Go.Proofs.YtngeioghihbkeaaGreatDoor
namespace Go.Proofs.YtngeioghihbkeaaGreatDoor
open Go.RowKit

theorem bytesExt (w : World) (e : TypeId) (s : ByteArray) : Ext w (Lib.bytesWorld w e s) :=
  ⟨rfl, rfl, rfl, by rw [Lib.bytesWorld_size]; omega, fun k hk => Lib.bytesWorld_at_old w e s k hk⟩
/-- the two errors' variables stand, and the library's functions that read tables answer -/
structure Good3 (w : World) : Prop where
  good : Good2 w
  syn : ∃ t p, w.cell? ⟨2, 0, none⟩ = some (.iface t p)
  ran : ∃ t p, w.cell? ⟨3, 0, none⟩ = some (.iface t p)
theorem Good3.ext {w w' : World} (h : Good3 w) (x : Ext w w') : Good3 w' := by
  obtain ⟨t, p, h1⟩ := h.syn
  obtain ⟨u, q, h2⟩ := h.ran
  exact ⟨h.good.ext x, ⟨t, p, x.cell h1⟩, ⟨u, q, x.cell h2⟩⟩
def parseOk (s : ByteArray) (v : Int) : Prop := Lib.parseIntB 64 s.data.toList = .ok v
theorem parseInt_any (s : ByteArray) (w : World) (hs : s.size ≤ 281474976710656) (G : Good3 w) :
    Calls Tryz.prog 34 #[.string s, .int .i64 10, .int .i64 64] w fun e w' => ((∃ v, parseOk s v ∧ e = .returned (.tuple #[.int .i64 v, .nilIface])) ∨ ((∀ v, ¬ parseOk s v) ∧ ∃ n t p, e = .returned (.tuple #[.int .i64 n, .iface t p]))) ∧ Ext w w' := by
  obtain ⟨t, p, h1⟩ := G.syn
  obtain ⟨u, q, h2⟩ := G.ran
  rcases hp : Lib.parseIntB 64 s.data.toList with v | _ | _
  · refine (Any.strconv_ParseInt_10_at64_ok Tryz.laysPIpub s (by omega) v hp w).mono ?_
    rintro e w' ⟨rfl, hw⟩
    refine ⟨.inl ⟨v, hp, rfl⟩, ?_⟩
    rcases hw with rfl | ⟨t, rfl⟩
    · exact Ext.refl _
    · exact bytesExt _ _ _
  · refine (Any.strconv_ParseInt_10_at64_syntax Tryz.laysPIpub s hs hp _ w h1 (.inr ⟨_, _, rfl⟩)).mono ?_
    rintro e w' ⟨N, rfl, _, _, hx⟩
    exact ⟨.inr ⟨fun v hv => (by unfold parseOk at hv; rw [hp] at hv; exact nomatch hv), _, _, _, rfl⟩, hx⟩
  · refine (Any.strconv_ParseInt_10_at64_range Tryz.laysPIpub s hs hp _ w h2 (.inr ⟨_, _, rfl⟩)).mono ?_
    rintro e w' ⟨N, rfl, _, _, hx⟩
    exact ⟨.inr ⟨fun v hv => (by unfold parseOk at hv; rw [hp] at hv; exact nomatch hv), _, _, _, rfl⟩, hx⟩
end Go.Proofs.YtngeioghihbkeaaGreatDoor
namespace Go.Proofs.YtngeioghihbkeaaGreatDoor
open Go.RowKit

/-! ### two hexadecimal digits -/
def lowI (c : UInt8) : Int := bits .or .u8 (c.toNat : Int) 32
theorem low_hex (c : UInt8) : (97 ≤ c.toNat ∧ c.toNat ≤ 102 → lowI c = c.toNat) ∧ 0 ≤ lowI c ∧ lowI c < 256 := by
  have key : ∀ j : Fin 256, (97 ≤ j.val ∧ j.val ≤ 102 → bits .or .u8 (j.val : Int) 32 = j.val) ∧ 0 ≤ bits .or .u8 (j.val : Int) 32 ∧ bits .or .u8 (j.val : Int) 32 < 256 := by decide +kernel
  exact key ⟨c.toNat, c.toNat_lt⟩
set_option maxRecDepth 100000 in
set_option maxHeartbeats 400000 in
theorem lower_any (c : UInt8) (w : World) : Calls Tryz.prog 107 #[.int .u8 c.toNat] w fun e w' => e = .returned (.int .u8 (lowI c)) ∧ w = w' := by
  go_enter Tryz.func107, Tryz.ntmps107
  go_wp2
  go_ret
  exact ⟨rfl, rfl⟩
set_option maxRecDepth 100000 in
set_option maxHeartbeats 400000 in
theorem lower95 (w : World) : Calls Tryz.prog 107 #[.int .u8 95] w fun e w' => e = .returned (.int .u8 127) ∧ w = w' := by
  have e1 : bits .or .u8 95 32 = 127 := by decide +kernel
  go_enter Tryz.func107, Tryz.ntmps107
  go_wp2
  go_ret
  exact ⟨rfl, rfl⟩
/-- how far the number has been read -/
def HexAt (h l : UInt8) (k acc : Nat) : Prop := (k = 0 ∧ acc = 0) ∨ (k = 1 ∧ acc < 16 ∧ (hexOk h = true → acc = hexV h)) ∨ (k = 2 ∧ acc < 256 ∧ (hexOk h = true → hexOk l = true → acc = 16 * hexV h + hexV l))
theorem hexAt_step {h l : UInt8} {k acc d : Nat} {c : UInt8} (hk : k < 2) (hc : c = [h, l].getD k 0) (H : HexAt h l k acc) (hd : d < 16) (hv : hexOk c = true → d = hexV c) : HexAt h l (k + 1) (acc * 16 + d) := by
  subst hc
  rcases H with ⟨rfl, rfl⟩ | ⟨rfl, h1, h2⟩ | ⟨rfl, _⟩
  · exact .inr (.inl ⟨rfl, by omega, fun q => by rw [hv q]; simp⟩)
  · exact .inr (.inr ⟨rfl, by omega, fun q r => by rw [h2 q, hv r]; simp; omega⟩)
  · omega
theorem hexAt_lt {h l : UInt8} {k acc : Nat} (hk : k < 2) (H : HexAt h l k acc) : acc < 16 := by
  rcases H with ⟨rfl, rfl⟩ | ⟨rfl, h1, h2⟩ | ⟨rfl, _⟩ <;> omega
theorem not_hex {h l : UInt8} {k : Nat} {c : UInt8} (hk : k < 2) (hc : c = [h, l].getD k 0) (hn : hexOk c = false) : (hexOk h && hexOk l) = false := by
  subst hc
  rcases (by omega : k = 0 ∨ k = 1) with rfl | rfl
  · rw [show hexOk h = false from hn]; rfl
  · rw [show hexOk l = false from hn, Bool.and_false]
def HexOut (h l : UInt8) (e : Ending) : Prop := (∃ u : Nat, e = .returned (.tuple #[.int .u64 u, .nilIface]) ∧ ((hexOk h && hexOk l) = true → u = 16 * hexV h + hexV l)) ∨ ((hexOk h && hexOk l) = false ∧ e = .returned (.tuple #[.int .u64 0, .iface 126 (.int .i64 2)]))
set_option maxRecDepth 100000 in
set_option maxHeartbeats 16000000 in
theorem puHex (t : ByteArray) (h l : UInt8) (ht : t.data.toList = [h, l]) (w : World) :
    Calls Tryz.prog 84 #[.string t, .int .i64 16, .int .i64 8] w fun e w' => HexOut h l e ∧ Ext w w' := by
  have hsz : t.size = 2 := by
    have : t.data.toList.length = t.size := by simp
    rw [← this, ht]; rfl
  have hemp : t.toList.isEmpty = false := by
    rw [← decide_eq_emptyBytes]
    exact decide_eq_false (fun h => by rw [h] at hsz; cases hsz)
  have hcv := Lib.run_convert_string_bytes (P := Tryz.prog) w 9 33 5 t (u := .string) Tryz.underlying9 Tryz.underlying33 Tryz.underlying5
  have hB : ∀ j, j < t.size → (Lib.bytesWorld w 5 t).cell? ⟨w.heap.size, j, none⟩ = some (.int .u8 (t.data.toList.getD j 0).toNat) := fun j hj => Lib.bytesWorld_cell w 5 t j hj
  have x1 := bytesExt w 5 t
  obtain ⟨W1, hW1⟩ : ∃ W1, W1 = Lib.bytesWorld w 5 t := ⟨_, rfl⟩
  rw [← hW1] at hcv hB x1
  clear hW1
  rw [ht] at hB
  have hmv : IntKind.u64.wrap (IntKind.u64.wrap 256 - 1) = 255 := by
    rw [IntKind.wrap_u64, IntKind.wrap_u64]
    decide
  clear ht
  go_enter Tryz.func84, Tryz.ntmps84
  go_wp2
  go_loop [12, 13, 101] (fun vu vn vi => ∃ (k acc : Nat) (a : Int), vu = .bool false ∧ vn = .int .u64 a ∧ vi = .int .i64 k ∧ k ≤ 2 ∧ Hid (a = (acc : Int) ∧ HexAt h l k acc))
    (fun _ _ vi => 2 - (intOf vi).toNat)
  case atStart => exact ⟨0, 0, 0, rfl, rfl, rfl, by omega, Lib.hid ⟨rfl, .inl ⟨rfl, rfl⟩⟩⟩
  case round =>
    obtain ⟨k, acc, a, rfl, rfl, rfl, hk, hh⟩ := hrel
    obtain ⟨ha, hacc⟩ := hh.out
    clear hh
    by_cases hkn : k < 2
    · have hc := hB k (by omega)
      have a1 := hexAt_lt hkn hacc
      have a0 : 0 ≤ a := by omega
      have a2 : a < 16 := by omega
      have HA := Lib.hid hacc
      obtain ⟨c, hgc⟩ : ∃ c, c = [h, l].getD k 0 := ⟨_, rfl⟩
      rw [← hgc] at hc
      have hc256 : c.toNat < 256 := c.toNat_lt
      have HG := Lib.hid hgc
      clear hB hacc hgc
      by_cases hdig : 48 ≤ c.toNat ∧ c.toNat ≤ 57
      · obtain ⟨hd0, hd1⟩ := hdig
        have HN : Hid (a * 16 + ((c.toNat : Int) - 48) = ((acc * 16 + (c.toNat - 48) : Nat) : Int) ∧ HexAt h l (k + 1) (acc * 16 + (c.toNat - 48))) := Lib.hid ⟨by omega, hexAt_step hkn HG.out HA.out (by omega) (fun _ => by unfold hexV; rw [if_pos (by omega)])⟩
        clear ha a1
        go_wp2
        refine ⟨⟨k + 1, acc * 16 + (c.toNat - 48), a * 16 + ((c.toNat : Int) - 48), rfl, (by first | rfl | (congr 1; omega)), (by first | rfl | (congr 1; omega)), by omega, HN⟩, by simp [intOf]; omega⟩
      by_cases h95 : c.toNat = 95
      · have HNo : Hid ((hexOk h && hexOk l) = false) := Lib.hid (not_hex hkn HG.out (by unfold hexOk; rw [decide_eq_false_iff_not]; omega))
        have hcn : (c.toNat : Int) = 95 := by omega
        clear ha a1 hdig
        go_wp2_with (go_at_call 107; refine (lower95 _).mono ?_; rintro e w' ⟨rfl, rfl⟩)
        go_ret2
        exact ⟨.inr ⟨HNo.out, rfl⟩, x1⟩
      · obtain ⟨l1, l2, l3⟩ := low_hex c
        have zu : ((c.toNat : Int) == 95) = false := by simp; omega
        by_cases hlow : 97 ≤ lowI c ∧ lowI c ≤ 102
        · obtain ⟨hl0, hl1⟩ := hlow
          have HN : Hid (a * 16 + (lowI c - 97 + 10) = ((acc * 16 + (lowI c - 87).toNat : Nat) : Int) ∧ HexAt h l (k + 1) (acc * 16 + (lowI c - 87).toNat)) := Lib.hid ⟨by omega, hexAt_step hkn HG.out HA.out (by omega) (fun q => by
            unfold hexOk at q
            rw [decide_eq_true_iff] at q
            have := l1 (by omega)
            unfold hexV; rw [if_neg (by omega)]; omega)⟩
          clear ha a1 l1
          go_wp2_with (go_at_call 107; refine (lower_any c _).mono ?_; rintro e w' ⟨rfl, rfl⟩)
          all_goals refine ⟨⟨k + 1, acc * 16 + (lowI c - 87).toNat, a * 16 + (lowI c - 97 + 10), rfl, (by first | rfl | (congr 1; omega)), (by first | rfl | (congr 1; omega)), by omega, HN⟩, by simp [intOf]; omega⟩
        · have hno : (hexOk h && hexOk l) = false := not_hex hkn HG.out (by
            unfold hexOk
            rw [decide_eq_false_iff_not]
            intro q
            have := l1
            omega)
          have HNo := Lib.hid hno
          clear hno ha a1 l1
          have hlow' : lowI c < 97 ∨ 102 < lowI c := by omega
          rcases hlow' with hlow' | hlow'
          · clear hlow
            go_wp2_with (go_at_call 107; refine (lower_any c _).mono ?_; rintro e w' ⟨rfl, rfl⟩)
            all_goals go_ret2
            all_goals exact ⟨.inr ⟨HNo.out, rfl⟩, x1⟩
          · clear hlow
            go_wp2_with (go_at_call 107; refine (lower_any c _).mono ?_; rintro e w' ⟨rfl, rfl⟩)
            all_goals go_ret2
            all_goals exact ⟨.inr ⟨HNo.out, rfl⟩, x1⟩
    · have hkk : k = 2 := by omega
      subst hkk
      subst ha
      have HA := Lib.hid hacc
      clear hacc
      go_wp2
      go_ret2
      refine ⟨.inl ⟨acc, rfl, fun q => ?_⟩, x1⟩
      rw [Bool.and_eq_true] at q
      rcases HA.out with ⟨h1, _⟩ | ⟨h1, _⟩ | ⟨_, _, h2⟩
      · omega
      · omega
      · exact h2 q.1 q.2
end Go.Proofs.YtngeioghihbkeaaGreatDoor
namespace Go.Proofs.YtngeioghihbkeaaGreatDoor
open Go.RowKit

def PUOut (h l : UInt8) (e : Ending) : Prop := (∃ u : Nat, e = .returned (.tuple #[.int .u64 u, .nilIface]) ∧ ((hexOk h && hexOk l) = true → u = 16 * hexV h + hexV l)) ∨ ((hexOk h && hexOk l) = false ∧ ∃ (u : Nat) (t : TypeId) (p : Value), e = .returned (.tuple #[.int .u64 u, .iface t p]))
set_option maxRecDepth 100000 in
set_option maxHeartbeats 1000000 in
theorem parseUint_any (t : ByteArray) (h l : UInt8) (ht : t.data.toList = [h, l]) (w : World) (G : Good3 w) :
    Calls Tryz.prog 61 #[.string t, .int .i64 16, .int .i64 8] w fun e w' => PUOut h l e ∧ Ext w w' := by
  have hsz : t.size = 2 := by
    have : t.data.toList.length = t.size := by simp
    rw [← this, ht]; rfl
  have HT := Lib.hid ht
  clear ht
  go_enter Tryz.func61, Tryz.ntmps61
  go_wp2_with fail
  refine (puHex t h l HT.out _).mono ?_
  rintro e w1 ⟨he, x1⟩
  rcases he with ⟨u, rfl, hu⟩ | ⟨hn, rfl⟩
  · have HU := Lib.hid hu
    clear hu
    go_wp2
    go_ret2
    exact ⟨.inl ⟨u, rfl, HU.out⟩, x1⟩
  · obtain ⟨t2, p2, h2⟩ := (G.ext x1).syn
    have HN := Lib.hid hn
    clear hn
    go_wp2_with (go_at_call 63; refine (Any.strconv_toError_syntax Tryz.laysTE _ t 16 8 _ _ (by omega) h2 (.inr ⟨_, _, rfl⟩)).mono ?_; rintro e w2 ⟨N, rfl, _, _, x2⟩)
    go_ret2
    exact ⟨.inr ⟨HN.out, _, _, _, rfl⟩, Ext.trans x1 x2⟩
end Go.Proofs.YtngeioghihbkeaaGreatDoor
namespace Go.Proofs.YtngeioghihbkeaaGreatDoor
open Go.RowKit

def strLen : Value → Nat | .string r => r.size | _ => 0
def UnqOut (s : ByteArray) (e : Ending) : Prop := ∃ (t : ByteArray) (b : Bool), e = .returned (.tuple #[.string t, .bool b]) ∧ Unq s t b ∧ t.size ≤ s.size
theorem unqFail {s : ByteArray} {acc rest : List UInt8} (h : Rd s.data.toList acc rest) (hne : rest ≠ []) (hd : decQ rest = none) : UnqOut s (.returned (.tuple #[.string ⟨#[]⟩, .bool false])) := ⟨_, _, rfl, unq_fail h hne hd, Nat.zero_le _⟩
theorem empty_no {r : ByteArray} (h : 0 < r.size) : r.toList.isEmpty = false := by
  rw [← decide_eq_emptyBytes]
  exact decide_eq_false (fun e => by rw [e] at h; exact absurd h (by decide))
theorem empty_yes {r : ByteArray} (h : ¬ 0 < r.size) : r.toList.isEmpty = true := by
  rw [← decide_eq_emptyBytes]
  refine decide_eq_true ?_
  obtain ⟨⟨l⟩⟩ := r
  cases l with
  | nil => rfl
  | cons a l => exact absurd (Nat.succ_pos _) h
theorem head_list {r : ByteArray} (h : 0 < r.size) : r.data.toList = r[0] :: r.data.toList.drop 1 := by
  have e : r.data.toList.length = r.size := by simp
  have := List.drop_eq_getElem_cons (l := r.data.toList) (i := 0) (by omega)
  rw [List.drop_zero] at this
  rw [this]
  simp
  rfl
theorem empty_list {r : ByteArray} (h : ¬ 0 < r.size) : r.data.toList = [] := by
  have e : r.data.toList.length = r.size := by simp
  exact List.eq_nil_of_length_eq_zero (by omega)
def UnqRel (s : ByteArray) (w : World) (u : Value) (wr : World) : Prop := ∃ (r : ByteArray) (acc : List UInt8), u = .string r ∧ r.size + acc.length ≤ s.size ∧ Lib.IsBuilder 95 5 w.heap.size w.heap.size (Lib.byteCells acc) wr ∧ Ext w wr ∧ Rd s.data.toList acc r.data.toList
theorem unq_rel {s r q : ByteArray} {acc : List UInt8} {a : UInt8} {w w1 w2 : World} (HR : Rd s.data.toList acc r.data.toList) (hne : 0 < r.size) (hd : ∀ b u, decQ r.data.toList = some (b, u) → b = a ∧ u = q.data.toList) (hsz : q.size + (acc.length + 1) ≤ s.size)
    (hw : Written w.heap.size w.heap.size (Lib.byteCells acc ++ [.int .u8 (a.toNat : Int)]) w1 w2) (x : Ext w w1) : UnqRel s w (.string q) w2 := by
  refine ⟨q, acc ++ [a], rfl, by rw [List.length_append]; exact hsz, .inr ?_, Below.trans x hw.2, rd_step HR (fun h => ?_) hd⟩
  · rw [cells_append]
    exact hw.1
  · have e : r.data.toList.length = r.size := by simp
    rw [h] at e
    exact absurd hne (by rw [← e]; decide)
theorem ne_nil {r : ByteArray} {c : UInt8} {x : List UInt8} (h : r.data.toList = c :: x) : r.data.toList ≠ [] := by rw [h]; exact List.cons_ne_nil _ _
theorem of_nat {c : UInt8} (d : UInt8) (h : c.toNat = d.toNat) : c = d := UInt8.toNat_inj.1 h
theorem no_nat {c : UInt8} (d : UInt8) (h : ¬ c.toNat = d.toNat) : ¬ c = d := fun e => h (by rw [e])
theorem some_pair {a b : UInt8} {x y : List UInt8} (h : (some (a, x) : Option (UInt8 × List UInt8)) = some (b, y)) : b = a ∧ y = x := by
  injection h with h
  injection h with h1 h2
  exact ⟨h1.symm, h2.symm⟩
theorem take2 {q : ByteArray} {h l : UInt8} {z : List UInt8} (hq : q.data.toList = h :: l :: z) : (q.extract 0 2).data.toList = [h, l] := by
  rw [ByteArray.data_extract, Array.toList_extract]
  unfold List.extract
  rw [hq]
  rfl
theorem decQ_plain {c : UInt8} {x : List UInt8} (h39 : ¬ c = 39) (h92 : ¬ c = 92) : decQ (c :: x) = some (c, x) := by
  simp only [decQ, if_neg h39, if_neg h92]
theorem decQ_no {d : UInt8} {y : List UInt8} (h1 : ¬ d = 92) (h2 : ¬ d = 110) (h3 : ¬ d = 114) (h4 : ¬ d = 116) (h5 : ¬ d = 120) : decQ (92 :: d :: y) = none := by
  show (if d = 92 then _ else if d = 110 then _ else if d = 114 then _ else if d = 116 then _ else if d = 120 then _ else none) = none
  rw [if_neg h1, if_neg h2, if_neg h3, if_neg h4, if_neg h5]
theorem decQ_q {d : UInt8} {y : List UInt8} (h : ¬ d = 39) : decQ (39 :: d :: y) = none := by
  show (if d = 39 then _ else none) = none
  exact if_neg h
theorem hex_pair {x y b : UInt8} {u : Nat} {z v : List UInt8} (hu : (hexOk x && hexOk y) = true → u = 16 * hexV x + hexV y) (h : (if hexOk x && hexOk y then some (UInt8.ofNat (16 * hexV x + hexV y), z) else none : Option (UInt8 × List UInt8)) = some (b, v)) : b = UInt8.ofNat u ∧ v = z := by
  by_cases hh : (hexOk x && hexOk y) = true
  · rw [if_pos hh, ← hu hh] at h
    exact some_pair h
  · rw [if_neg hh] at h
    exact nomatch h
theorem of_u8 (u : Nat) : IntKind.u8.wrap (u : Int) = ((UInt8.ofNat u).toNat : Int) := by
  rw [IntKind.wrap_u8, UInt8.toNat_ofNat']
  omega

set_option maxRecDepth 100000 in
set_option maxHeartbeats 4000000 in
theorem unquoted_any (s : ByteArray) (w : World) (hs : s.size ≤ 140737488355328) (G : Good3 w) :
    Calls Tryz.prog 32 #[.string s] w fun e w' => UnqOut s e ∧ Ext w w' := by
  go_enter Tryz.func32, Tryz.ntmps32
  go_wp2
  go_loopw [0] (fun u wr => UnqRel s w u wr) (fun u _ => strLen u)
  case atStart => exact ⟨s, [], rfl, by simp, fresh_builder w, (Ext.refl w).alloc _, rd_start _⟩
  case round =>
    obtain ⟨r, acc, rfl, hr, hb, er, hR⟩ := hrel
    have HR := Lib.hid hR
    clear hR
    have HB := Lib.hid hb
    have hsz := er.size
    clear hb
    by_cases h0 : 0 < r.size
    · have hz2 := empty_no h0
      have HP : Hid (0 < r.size ∧ True) := Lib.hid ⟨h0, trivial⟩
      have HL := Lib.hid (head_list h0)
      have HT1 := Lib.hid (tail_list r 1)
      have hqa : (r.extract 1 r.size).size < r.size := by simp; omega
      have hqb : r.size ≤ (r.extract 1 r.size).size + 1 := by simp; omega
      have HLc0 : Hid (r.data.toList = r[0] :: (r.extract 1 r.size).data.toList) := Lib.hid (by rw [HT1.out]; exact HL.out)
      have hc256 : r[0].toNat < 256 := r[0].toNat_lt
      go_wp2
      refine wp_region_ord [0,1,0,4,3,31] (.flo [0,1,2,3,4,5] (.fin)) (by kernel_rfl) (by kernel_rfl) (by intro _ _ d _ _ h; cases d <;> exact h) ?_
      (refine ord_flo (pick_cons rfl (pick_cons rfl (pick_cons rfl (pick_cons rfl (pick_cons rfl (pick_cons rfl pick_nil)))))) ?_; (repeat (go_big_quiet_step (fail))); refine wpQuiet_nil ?_; show ordWalk _ _ _ _ _ _ _)
      refine ord_fin ?_
      obtain ⟨w1, hw1⟩ : ∃ w1, w1 = wr.drew := ⟨_, rfl⟩
      have HB1 : Hid (Lib.IsBuilder 95 5 w.heap.size w.heap.size (Lib.byteCells acc) w1) := Lib.hid (by rw [hw1]; exact HB.out)
      have X1 : Hid (Ext w w1) := Lib.hid (by rw [hw1]; exact er.drew)
      have hs1 := X1.out.size
      rw [← hw1]
      clear hw1 HB
      obtain ⟨q, hqq⟩ : ∃ q, q = r.extract 1 r.size := ⟨_, rfl⟩
      rw [← hqq] at hqa hqb HLc0 ⊢
      have HLc := HLc0
      clear hqq HLc0 HL HT1
      by_cases hc39 : r[0].toNat = 39
      · have ec : r[0] = 39 := of_nat 39 hc39
        have HEc := Lib.hid ec
        clear ec
        have zr39 : ((r[0].toNat : Int) == 39) = true := by simp; omega
        have yr39 : ((r[0].toNat : Int) != 39) = false := by simp; omega
        have zr92 : ((r[0].toNat : Int) == 92) = false := by simp; omega
        have pr92 : ¬ (r[0].toNat : Int) = 92 := by omega
        have yr92 : ((r[0].toNat : Int) != 92) = true := by simp; omega
        by_cases h1 : 0 < q.size
        · skip
          have hz3 := empty_no h1
          obtain ⟨q2, hq2⟩ : ∃ q2, q2 = q.extract 1 q.size := ⟨_, rfl⟩
          have hqs : q2.size < q.size := by rw [hq2]; simp; omega
          have hqt : q.size ≤ q2.size + 1 := by rw [hq2]; simp; omega
          have HLd : Hid (q.data.toList = q[0] :: q2.data.toList) := Lib.hid (by rw [hq2, tail_list q 1]; exact head_list h1)
          have hq3 : q.extract 1 q.size = q2 := hq2.symm
          clear hq2
          have hd256 : q[0].toNat < 256 := q[0].toNat_lt
          by_cases hd39 : q[0].toNat = 39
          · have HEd := Lib.hid (of_nat 39 hd39)
            have zq39 : ((q[0].toNat : Int) == 39) = true := by simp; omega
            have yq39 : ((q[0].toNat : Int) != 39) = false := by simp; omega
            have zq92 : ((q[0].toNat : Int) == 92) = false := by simp; omega
            have pq92 : ¬ (q[0].toNat : Int) = 92 := by omega
            have yq92 : ((q[0].toNat : Int) != 92) = true := by simp; omega
            have zq110 : ((q[0].toNat : Int) == 110) = false := by simp; omega
            have pq110 : ¬ (q[0].toNat : Int) = 110 := by omega
            have yq110 : ((q[0].toNat : Int) != 110) = true := by simp; omega
            have zq114 : ((q[0].toNat : Int) == 114) = false := by simp; omega
            have pq114 : ¬ (q[0].toNat : Int) = 114 := by omega
            have yq114 : ((q[0].toNat : Int) != 114) = true := by simp; omega
            have zq116 : ((q[0].toNat : Int) == 116) = false := by simp; omega
            have pq116 : ¬ (q[0].toNat : Int) = 116 := by omega
            have yq116 : ((q[0].toNat : Int) != 116) = true := by simp; omega
            have zq120 : ((q[0].toNat : Int) == 120) = false := by simp; omega
            have pq120 : ¬ (q[0].toNat : Int) = 120 := by omega
            have yq120 : ((q[0].toNat : Int) != 120) = true := by simp; omega
            go_wp2_with (go_at_call 60; refine (writeByte_any w.heap.size w.heap.size _ 39  _ HB1.out (by rw [Lib.byteCells_length]; omega) (by omega)).mono ?_; rintro e w2 ⟨rfl, hw2⟩)
            go_roundw
            case rel => exact unq_rel (a := (39 : UInt8)) HR.out HP.out.1 (fun b u h => some_pair (by rw [HLc.out, HLd.out, HEc.out, HEd.out] at h; exact h)) (by omega) (by exact hw2) (by exact X1.out)
            case measure => simp only [strLen]; omega
          · have HNd := Lib.hid (no_nat 39 hd39)
            have zq39 : ((q[0].toNat : Int) == 39) = false := by simp; omega
            have pq39 : ¬ (q[0].toNat : Int) = 39 := by omega
            have yq39 : ((q[0].toNat : Int) != 39) = true := by simp; omega
            go_wp2
            go_ret2
            exact ⟨unqFail HR.out (ne_nil HLc.out) (by rw [HLc.out, HLd.out, HEc.out]; exact decQ_q HNd.out), X1.out⟩
        · have hz3 := empty_yes h1
          have HE := Lib.hid (empty_list h1)
          go_wp2
          go_ret2
          exact ⟨unqFail HR.out (ne_nil HLc.out) (by rw [HLc.out, HE.out, HEc.out]; rfl), X1.out⟩
      have HN39 := Lib.hid (no_nat 39 hc39)
      by_cases hc92 : r[0].toNat = 92
      · have ec : r[0] = 92 := of_nat 92 hc92
        have HEc := Lib.hid ec
        clear ec
        have zr39 : ((r[0].toNat : Int) == 39) = false := by simp; omega
        have pr39 : ¬ (r[0].toNat : Int) = 39 := by omega
        have yr39 : ((r[0].toNat : Int) != 39) = true := by simp; omega
        have zr92 : ((r[0].toNat : Int) == 92) = true := by simp; omega
        have yr92 : ((r[0].toNat : Int) != 92) = false := by simp; omega
        by_cases h1 : 0 < q.size
        · skip
          have hz3 := empty_no h1
          obtain ⟨q2, hq2⟩ : ∃ q2, q2 = q.extract 1 q.size := ⟨_, rfl⟩
          have hqs : q2.size < q.size := by rw [hq2]; simp; omega
          have hqt : q.size ≤ q2.size + 1 := by rw [hq2]; simp; omega
          have HLd : Hid (q.data.toList = q[0] :: q2.data.toList) := Lib.hid (by rw [hq2, tail_list q 1]; exact head_list h1)
          have hq3 : q.extract 1 q.size = q2 := hq2.symm
          clear hq2
          have hd256 : q[0].toNat < 256 := q[0].toNat_lt
          by_cases hd110 : q[0].toNat = 110
          · have HEd := Lib.hid (of_nat 110 hd110)
            have zq39 : ((q[0].toNat : Int) == 39) = false := by simp; omega
            have pq39 : ¬ (q[0].toNat : Int) = 39 := by omega
            have yq39 : ((q[0].toNat : Int) != 39) = true := by simp; omega
            have zq92 : ((q[0].toNat : Int) == 92) = false := by simp; omega
            have pq92 : ¬ (q[0].toNat : Int) = 92 := by omega
            have yq92 : ((q[0].toNat : Int) != 92) = true := by simp; omega
            have zq110 : ((q[0].toNat : Int) == 110) = true := by simp; omega
            have yq110 : ((q[0].toNat : Int) != 110) = false := by simp; omega
            have zq114 : ((q[0].toNat : Int) == 114) = false := by simp; omega
            have pq114 : ¬ (q[0].toNat : Int) = 114 := by omega
            have yq114 : ((q[0].toNat : Int) != 114) = true := by simp; omega
            have zq116 : ((q[0].toNat : Int) == 116) = false := by simp; omega
            have pq116 : ¬ (q[0].toNat : Int) = 116 := by omega
            have yq116 : ((q[0].toNat : Int) != 116) = true := by simp; omega
            have zq120 : ((q[0].toNat : Int) == 120) = false := by simp; omega
            have pq120 : ¬ (q[0].toNat : Int) = 120 := by omega
            have yq120 : ((q[0].toNat : Int) != 120) = true := by simp; omega
            have zrq : ((r[0].toNat : Int) != (q[0].toNat : Int)) = true := by simp; omega
            go_wp2_with (go_at_call 60; refine (writeByte_any w.heap.size w.heap.size _ 10  _ HB1.out (by rw [Lib.byteCells_length]; omega) (by omega)).mono ?_; rintro e w2 ⟨rfl, hw2⟩)
            go_roundw
            case rel => exact unq_rel (a := (10 : UInt8)) HR.out HP.out.1 (fun b u h => some_pair (by rw [HLc.out, HLd.out, HEc.out, HEd.out] at h; exact h)) (by omega) (by exact hw2) (by exact X1.out)
            case measure => simp only [strLen]; omega
          have HN110 := Lib.hid (no_nat 110 hd110)
          by_cases hd114 : q[0].toNat = 114
          · have HEd := Lib.hid (of_nat 114 hd114)
            have zq39 : ((q[0].toNat : Int) == 39) = false := by simp; omega
            have pq39 : ¬ (q[0].toNat : Int) = 39 := by omega
            have yq39 : ((q[0].toNat : Int) != 39) = true := by simp; omega
            have zq92 : ((q[0].toNat : Int) == 92) = false := by simp; omega
            have pq92 : ¬ (q[0].toNat : Int) = 92 := by omega
            have yq92 : ((q[0].toNat : Int) != 92) = true := by simp; omega
            have zq110 : ((q[0].toNat : Int) == 110) = false := by simp; omega
            have pq110 : ¬ (q[0].toNat : Int) = 110 := by omega
            have yq110 : ((q[0].toNat : Int) != 110) = true := by simp; omega
            have zq114 : ((q[0].toNat : Int) == 114) = true := by simp; omega
            have yq114 : ((q[0].toNat : Int) != 114) = false := by simp; omega
            have zq116 : ((q[0].toNat : Int) == 116) = false := by simp; omega
            have pq116 : ¬ (q[0].toNat : Int) = 116 := by omega
            have yq116 : ((q[0].toNat : Int) != 116) = true := by simp; omega
            have zq120 : ((q[0].toNat : Int) == 120) = false := by simp; omega
            have pq120 : ¬ (q[0].toNat : Int) = 120 := by omega
            have yq120 : ((q[0].toNat : Int) != 120) = true := by simp; omega
            have zrq : ((r[0].toNat : Int) != (q[0].toNat : Int)) = true := by simp; omega
            go_wp2_with (go_at_call 60; refine (writeByte_any w.heap.size w.heap.size _ 13  _ HB1.out (by rw [Lib.byteCells_length]; omega) (by omega)).mono ?_; rintro e w2 ⟨rfl, hw2⟩)
            go_roundw
            case rel => exact unq_rel (a := (13 : UInt8)) HR.out HP.out.1 (fun b u h => some_pair (by rw [HLc.out, HLd.out, HEc.out, HEd.out] at h; exact h)) (by omega) (by exact hw2) (by exact X1.out)
            case measure => simp only [strLen]; omega
          have HN114 := Lib.hid (no_nat 114 hd114)
          by_cases hd116 : q[0].toNat = 116
          · have HEd := Lib.hid (of_nat 116 hd116)
            have zq39 : ((q[0].toNat : Int) == 39) = false := by simp; omega
            have pq39 : ¬ (q[0].toNat : Int) = 39 := by omega
            have yq39 : ((q[0].toNat : Int) != 39) = true := by simp; omega
            have zq92 : ((q[0].toNat : Int) == 92) = false := by simp; omega
            have pq92 : ¬ (q[0].toNat : Int) = 92 := by omega
            have yq92 : ((q[0].toNat : Int) != 92) = true := by simp; omega
            have zq110 : ((q[0].toNat : Int) == 110) = false := by simp; omega
            have pq110 : ¬ (q[0].toNat : Int) = 110 := by omega
            have yq110 : ((q[0].toNat : Int) != 110) = true := by simp; omega
            have zq114 : ((q[0].toNat : Int) == 114) = false := by simp; omega
            have pq114 : ¬ (q[0].toNat : Int) = 114 := by omega
            have yq114 : ((q[0].toNat : Int) != 114) = true := by simp; omega
            have zq116 : ((q[0].toNat : Int) == 116) = true := by simp; omega
            have yq116 : ((q[0].toNat : Int) != 116) = false := by simp; omega
            have zq120 : ((q[0].toNat : Int) == 120) = false := by simp; omega
            have pq120 : ¬ (q[0].toNat : Int) = 120 := by omega
            have yq120 : ((q[0].toNat : Int) != 120) = true := by simp; omega
            have zrq : ((r[0].toNat : Int) != (q[0].toNat : Int)) = true := by simp; omega
            go_wp2_with (go_at_call 60; refine (writeByte_any w.heap.size w.heap.size _ 9  _ HB1.out (by rw [Lib.byteCells_length]; omega) (by omega)).mono ?_; rintro e w2 ⟨rfl, hw2⟩)
            go_roundw
            case rel => exact unq_rel (a := (9 : UInt8)) HR.out HP.out.1 (fun b u h => some_pair (by rw [HLc.out, HLd.out, HEc.out, HEd.out] at h; exact h)) (by omega) (by exact hw2) (by exact X1.out)
            case measure => simp only [strLen]; omega
          have HN116 := Lib.hid (no_nat 116 hd116)
          by_cases hd92 : q[0].toNat = 92
          · have HEd := Lib.hid (of_nat 92 hd92)
            have zq39 : ((q[0].toNat : Int) == 39) = false := by simp; omega
            have pq39 : ¬ (q[0].toNat : Int) = 39 := by omega
            have yq39 : ((q[0].toNat : Int) != 39) = true := by simp; omega
            have zq92 : ((q[0].toNat : Int) == 92) = true := by simp; omega
            have yq92 : ((q[0].toNat : Int) != 92) = false := by simp; omega
            have zq110 : ((q[0].toNat : Int) == 110) = false := by simp; omega
            have pq110 : ¬ (q[0].toNat : Int) = 110 := by omega
            have yq110 : ((q[0].toNat : Int) != 110) = true := by simp; omega
            have zq114 : ((q[0].toNat : Int) == 114) = false := by simp; omega
            have pq114 : ¬ (q[0].toNat : Int) = 114 := by omega
            have yq114 : ((q[0].toNat : Int) != 114) = true := by simp; omega
            have zq116 : ((q[0].toNat : Int) == 116) = false := by simp; omega
            have pq116 : ¬ (q[0].toNat : Int) = 116 := by omega
            have yq116 : ((q[0].toNat : Int) != 116) = true := by simp; omega
            have zq120 : ((q[0].toNat : Int) == 120) = false := by simp; omega
            have pq120 : ¬ (q[0].toNat : Int) = 120 := by omega
            have yq120 : ((q[0].toNat : Int) != 120) = true := by simp; omega
            have zrq : ((r[0].toNat : Int) != (q[0].toNat : Int)) = false := by simp; omega
            go_wp2_with (go_at_call 60; refine (writeByte_any w.heap.size w.heap.size _ 92  _ HB1.out (by rw [Lib.byteCells_length]; omega) (by omega)).mono ?_; rintro e w2 ⟨rfl, hw2⟩)
            go_roundw
            case rel => exact unq_rel (a := (92 : UInt8)) HR.out HP.out.1 (fun b u h => some_pair (by rw [HLc.out, HLd.out, HEc.out, HEd.out] at h; exact h)) (by omega) (by exact hw2) (by exact X1.out)
            case measure => simp only [strLen]; omega
          have HN92 := Lib.hid (no_nat 92 hd92)
          by_cases hd39 : q[0].toNat = 39
          · have HEd := Lib.hid (of_nat 39 hd39)
            have zq39 : ((q[0].toNat : Int) == 39) = true := by simp; omega
            have yq39 : ((q[0].toNat : Int) != 39) = false := by simp; omega
            have zq92 : ((q[0].toNat : Int) == 92) = false := by simp; omega
            have pq92 : ¬ (q[0].toNat : Int) = 92 := by omega
            have yq92 : ((q[0].toNat : Int) != 92) = true := by simp; omega
            have zq110 : ((q[0].toNat : Int) == 110) = false := by simp; omega
            have pq110 : ¬ (q[0].toNat : Int) = 110 := by omega
            have yq110 : ((q[0].toNat : Int) != 110) = true := by simp; omega
            have zq114 : ((q[0].toNat : Int) == 114) = false := by simp; omega
            have pq114 : ¬ (q[0].toNat : Int) = 114 := by omega
            have yq114 : ((q[0].toNat : Int) != 114) = true := by simp; omega
            have zq116 : ((q[0].toNat : Int) == 116) = false := by simp; omega
            have pq116 : ¬ (q[0].toNat : Int) = 116 := by omega
            have yq116 : ((q[0].toNat : Int) != 116) = true := by simp; omega
            have zq120 : ((q[0].toNat : Int) == 120) = false := by simp; omega
            have pq120 : ¬ (q[0].toNat : Int) = 120 := by omega
            have yq120 : ((q[0].toNat : Int) != 120) = true := by simp; omega
            have zrq : ((r[0].toNat : Int) != (q[0].toNat : Int)) = true := by simp; omega
            go_wp2
            go_ret2
            exact ⟨unqFail HR.out (ne_nil HLc.out) (by rw [HLc.out, HLd.out, HEc.out, HEd.out]; rfl), X1.out⟩
          by_cases hd120 : q[0].toNat = 120
          · have HEd := Lib.hid (of_nat 120 hd120)
            have zq39 : ((q[0].toNat : Int) == 39) = false := by simp; omega
            have pq39 : ¬ (q[0].toNat : Int) = 39 := by omega
            have yq39 : ((q[0].toNat : Int) != 39) = true := by simp; omega
            have zq92 : ((q[0].toNat : Int) == 92) = false := by simp; omega
            have pq92 : ¬ (q[0].toNat : Int) = 92 := by omega
            have yq92 : ((q[0].toNat : Int) != 92) = true := by simp; omega
            have zq110 : ((q[0].toNat : Int) == 110) = false := by simp; omega
            have pq110 : ¬ (q[0].toNat : Int) = 110 := by omega
            have yq110 : ((q[0].toNat : Int) != 110) = true := by simp; omega
            have zq114 : ((q[0].toNat : Int) == 114) = false := by simp; omega
            have pq114 : ¬ (q[0].toNat : Int) = 114 := by omega
            have yq114 : ((q[0].toNat : Int) != 114) = true := by simp; omega
            have zq116 : ((q[0].toNat : Int) == 116) = false := by simp; omega
            have pq116 : ¬ (q[0].toNat : Int) = 116 := by omega
            have yq116 : ((q[0].toNat : Int) != 116) = true := by simp; omega
            have zq120 : ((q[0].toNat : Int) == 120) = true := by simp; omega
            have yq120 : ((q[0].toNat : Int) != 120) = false := by simp; omega
            by_cases h2 : q2.size < 2
            · skip
              have hz62 : decide ((q2.size : Int) < 2) = true := by simp; omega
              have HS : Hid (q2.data.toList = [] ∨ ∃ a, q2.data.toList = [a]) := Lib.hid (by have e : q2.data.toList.length = q2.size := (by simp); match q2.data.toList, e with | [], _ => exact .inl rfl | [a], _ => exact .inr ⟨a, rfl⟩ | _ :: _ :: _, e => simp at e; omega)
              go_wp2
              go_ret2
              exact ⟨unqFail HR.out (ne_nil HLc.out) (by rw [HLc.out, HLd.out, HEc.out, HEd.out]; rcases HS.out with h | ⟨a, h⟩ <;> rw [h] <;> rfl), X1.out⟩
            · have hz62 : decide ((q2.size : Int) < 2) = false := by simp; omega
              obtain ⟨x, y, z, hxy⟩ : ∃ x y z, q2.data.toList = x :: y :: z := by have e : q2.data.toList.length = q2.size := (by simp); match q2.data.toList, e with | [], e => simp at e; omega | [a], e => simp at e; omega | a :: b :: z, _ => exact ⟨a, b, z, rfl⟩
              have HXY := Lib.hid hxy
              have HTK := Lib.hid (take2 hxy)
              have HG := Lib.hid (G.ext X1.out)
              obtain ⟨q4, hq4⟩ : ∃ q4, q4 = q2.extract 2 q2.size := ⟨_, rfl⟩
              have hq4s : q4.size + 2 ≤ q2.size := by rw [hq4]; simp; omega
              have HLz : Hid (q4.data.toList = z) := Lib.hid (by rw [hq4, tail_list q2 2, hxy]; rfl)
              have hq5 : q2.extract 2 q2.size = q4 := hq4.symm
              clear hq4 hxy
              go_wp2_with fail
              refine (parseUint_any _ x y HTK.out _ HG.out).mono ?_
              rintro e w3 ⟨he, x3⟩
              have HB3 : Hid (Lib.IsBuilder 95 5 w.heap.size w.heap.size (Lib.byteCells acc) w3) := Lib.hid (HB1.out.imp (fun h => h.ext x3) (fun h => h.ext x3))
              have X3 : Hid (Ext w w3) := Lib.hid (Ext.trans X1.out x3)
              have hs3 := X3.out.size
              rcases he with ⟨u, rfl, hu⟩ | ⟨hn, u, t, p, rfl⟩
              · have HU := Lib.hid hu
                have hwr := of_u8 u
                clear hu
                go_wp2_with (go_at_call 60; refine (writeByte_any w.heap.size w.heap.size _ ((UInt8.ofNat u).toNat : Int) _ HB3.out (by rw [Lib.byteCells_length]; omega) (by omega)).mono ?_; rintro e w2 ⟨rfl, hw2⟩)
                go_roundw
                case rel => exact unq_rel (a := UInt8.ofNat u) HR.out HP.out.1 (fun b v h => by rw [HLc.out, HLd.out, HEc.out, HEd.out, HXY.out] at h; have h' : (if hexOk x && hexOk y then some (UInt8.ofNat (16 * hexV x + hexV y), z) else none : Option (UInt8 × List UInt8)) = some (b, v) := h; exact hex_pair HU.out (by rw [HLz.out]; exact h')) (by omega) (by exact hw2) (by exact X3.out)
                case measure => simp only [strLen]; omega
              · have HN := Lib.hid hn
                clear hn
                go_wp2
                go_ret2
                exact ⟨unqFail HR.out (ne_nil HLc.out) (by rw [HLc.out, HLd.out, HEc.out, HEd.out, HXY.out]; show (if hexOk x && hexOk y then _ else none : Option (UInt8 × List UInt8)) = none; rw [HN.out]; rfl), X3.out⟩
          have HN120 := Lib.hid (no_nat 120 hd120)
          have zq39 : ((q[0].toNat : Int) == 39) = false := by simp; omega
          have pq39 : ¬ (q[0].toNat : Int) = 39 := by omega
          have yq39 : ((q[0].toNat : Int) != 39) = true := by simp; omega
          have zq92 : ((q[0].toNat : Int) == 92) = false := by simp; omega
          have pq92 : ¬ (q[0].toNat : Int) = 92 := by omega
          have yq92 : ((q[0].toNat : Int) != 92) = true := by simp; omega
          have zq110 : ((q[0].toNat : Int) == 110) = false := by simp; omega
          have pq110 : ¬ (q[0].toNat : Int) = 110 := by omega
          have yq110 : ((q[0].toNat : Int) != 110) = true := by simp; omega
          have zq114 : ((q[0].toNat : Int) == 114) = false := by simp; omega
          have pq114 : ¬ (q[0].toNat : Int) = 114 := by omega
          have yq114 : ((q[0].toNat : Int) != 114) = true := by simp; omega
          have zq116 : ((q[0].toNat : Int) == 116) = false := by simp; omega
          have pq116 : ¬ (q[0].toNat : Int) = 116 := by omega
          have yq116 : ((q[0].toNat : Int) != 116) = true := by simp; omega
          have zq120 : ((q[0].toNat : Int) == 120) = false := by simp; omega
          have pq120 : ¬ (q[0].toNat : Int) = 120 := by omega
          have yq120 : ((q[0].toNat : Int) != 120) = true := by simp; omega
          go_wp2
          go_ret2
          exact ⟨unqFail HR.out (ne_nil HLc.out) (by rw [HLc.out, HLd.out, HEc.out]; exact decQ_no HN92.out HN110.out HN114.out HN116.out HN120.out), X1.out⟩
        · have hz3 := empty_yes h1
          have HE := Lib.hid (empty_list h1)
          go_wp2
          go_ret2
          exact ⟨unqFail HR.out (ne_nil HLc.out) (by rw [HLc.out, HE.out, HEc.out]; rfl), X1.out⟩
      have HN92 := Lib.hid (no_nat 92 hc92)
      have zr39 : ((r[0].toNat : Int) == 39) = false := by simp; omega
      have pr39 : ¬ (r[0].toNat : Int) = 39 := by omega
      have yr39 : ((r[0].toNat : Int) != 39) = true := by simp; omega
      have zr92 : ((r[0].toNat : Int) == 92) = false := by simp; omega
      have pr92 : ¬ (r[0].toNat : Int) = 92 := by omega
      have yr92 : ((r[0].toNat : Int) != 92) = true := by simp; omega
      go_wp2_with (go_at_call 60; refine (writeByte_any w.heap.size w.heap.size _ (r[0].toNat : Int) _ HB1.out (by rw [Lib.byteCells_length]; omega) (by omega)).mono ?_; rintro e w2 ⟨rfl, hw2⟩)
      go_roundw
      case rel => exact unq_rel (a := r[0]) HR.out HP.out.1 (fun b u h => some_pair (by rw [HLc.out, decQ_plain HN39.out HN92.out] at h; exact h)) (by omega) (by exact hw2) (by exact X1.out)
      case measure => simp only [strLen]; omega
    · have hz2 := empty_yes h0
      have HE : Hid (Rd s.data.toList acc []) := Lib.hid (by have := HR.out; rw [empty_list h0] at this; exact this)
      have X0 := Lib.hid er
      go_wp2_with (go_at_call 55; refine (string_any w.heap.size w.heap.size acc _ HB.out X0.out.size).mono ?_; rintro e w3 ⟨rfl, x3⟩)
      go_ret2
      exact ⟨⟨_, _, rfl, fun x hx => ⟨rd_end HE.out x hx, rfl⟩, (by show acc.toArray.size ≤ s.size; rw [List.size_toArray]; omega)⟩, Below.trans X0.out x3⟩
end Go.Proofs.YtngeioghihbkeaaGreatDoor
namespace Go.Proofs.YtngeioghihbkeaaGreatDoor
open Go.RowKit

def In64 (n : Int) : Prop := -9223372036854775808 ≤ n ∧ n ≤ 9223372036854775807
instance (n : Int) : Decidable (In64 n) := by unfold In64; exact inferInstance
def Out (w : World) (r : Dat × Int) (e : Ending) (w' : World) : Prop :=
  e = .returned (.tuple #[.agg #[.int .u8 r.1.k, .bool r.1.b, .int .i64 r.1.n, .string r.1.s], .int .u16 r.2]) ∧ Ext w w'
def Dat.null : Dat := ⟨1, false, 0, ⟨#[]⟩⟩
def Dat.int (n : Int) : Dat := ⟨3, false, n, ⟨#[]⟩⟩
def Dat.bool (b : Bool) : Dat := ⟨2, b, 0, ⟨#[]⟩⟩
def Dat.text (s : ByteArray) : Dat := ⟨4, false, 0, s⟩
theorem Bk.set4 {w : World} {g : Nat} {t : TypeId} {a b c d : Value} (h : Bk w g t #[a, b, c, d]) (u v x y : Value) :
    ((((w.setCell ⟨g, 0, none⟩ u).setCell ⟨g, 1, none⟩ v).setCell ⟨g, 2, none⟩ x).setCell ⟨g, 3, none⟩ y).cell? ⟨g, 0, none⟩ = some u ∧ ((((w.setCell ⟨g, 0, none⟩ u).setCell ⟨g, 1, none⟩ v).setCell ⟨g, 2, none⟩ x).setCell ⟨g, 3, none⟩ y).cell? ⟨g, 1, none⟩ = some v ∧
      ((((w.setCell ⟨g, 0, none⟩ u).setCell ⟨g, 1, none⟩ v).setCell ⟨g, 2, none⟩ x).setCell ⟨g, 3, none⟩ y).cell? ⟨g, 2, none⟩ = some x ∧ ((((w.setCell ⟨g, 0, none⟩ u).setCell ⟨g, 1, none⟩ v).setCell ⟨g, 2, none⟩ x).setCell ⟨g, 3, none⟩ y).cell? ⟨g, 3, none⟩ = some y := by
  have bb := (((h.set 0 u).set 1 v).set 2 x).set 3 y
  exact ⟨bb.cell 0, bb.cell 1, bb.cell 2, bb.cell 3⟩
theorem Ext.set4 {a w : World} (h : Ext a w) {g : Nat} (hp : a.heap.size ≤ g) (u v x y : Value) : Ext a ((((w.setCell ⟨g, 0, none⟩ u).setCell ⟨g, 1, none⟩ v).setCell ⟨g, 2, none⟩ x).setCell ⟨g, 3, none⟩ y) :=
  (((h.set (p := ⟨g, 0, none⟩) hp u).set (p := ⟨g, 1, none⟩) hp v).set (p := ⟨g, 2, none⟩) hp x).set (p := ⟨g, 3, none⟩) hp y

/-! ### small makers -/
set_option maxRecDepth 100000 in
set_option maxHeartbeats 400000 in
theorem null_any (w : World) : Calls Tryz.prog 30 #[] w fun e w' => e = .returned (.agg #[.int .u8 1, .bool false, .int .i64 0, .string ⟨#[]⟩]) ∧ Ext w w' := by
  go_enter Tryz.func30, Tryz.ntmps30
  go_wp2
  go_returns
  exact ⟨rfl, (Ext.refl w).alloc _⟩
set_option maxRecDepth 100000 in
set_option maxHeartbeats 400000 in
theorem boolean_any (b : Bool) (w : World) : Calls Tryz.prog 31 #[.bool b] w fun e w' => e = .returned (.agg #[.int .u8 2, .bool b, .int .i64 0, .string ⟨#[]⟩]) ∧ Ext w w' := by
  go_enter Tryz.func31, Tryz.ntmps31
  go_wp2
  go_returns
  exact ⟨rfl, (Ext.refl w).alloc _⟩
set_option maxRecDepth 100000 in
set_option maxHeartbeats 400000 in
theorem number_any (n : Int) (w : World) : Calls Tryz.prog 35 #[.int .i64 n] w fun e w' => e = .returned (.agg #[.int .u8 3, .bool false, .int .i64 n, .string ⟨#[]⟩]) ∧ Ext w w' := by
  go_enter Tryz.func35, Tryz.ntmps35
  go_wp2
  go_returns
  exact ⟨rfl, (Ext.refl w).alloc _⟩
set_option maxRecDepth 100000 in
set_option maxHeartbeats 400000 in
theorem text_any (s : ByteArray) (w : World) : Calls Tryz.prog 33 #[.string s] w fun e w' => e = .returned (.agg #[.int .u8 4, .bool false, .int .i64 0, .string s]) ∧ Ext w w' := by
  go_enter Tryz.func33, Tryz.ntmps33
  go_wp2
  go_returns
  exact ⟨rfl, (Ext.refl w).alloc _⟩
end Go.Proofs.YtngeioghihbkeaaGreatDoor
namespace Go.Proofs.YtngeioghihbkeaaGreatDoor
open Go.RowKit

/-! ### numbers -/
def fold10 (a : Nat) (l : List UInt8) : Nat := l.foldl (fun a c => 10 * a + (c.toNat - 48)) a
theorem fold_le : ∀ (l : List UInt8) (a : Nat), a ≤ fold10 a l
  | [], a => Nat.le_refl _
  | c :: l, a => by
    have := fold_le l (10 * a + (c.toNat - 48))
    show a ≤ fold10 (10 * a + (c.toNat - 48)) l
    omega
theorem parseU_digits {M : Nat} (hM : M < 18446744073709551616) : ∀ (l : List UInt8) (a : Nat), (∀ c ∈ l, 48 ≤ c.toNat ∧ c.toNat ≤ 57) → fold10 a l ≤ M → Lib.parseUintM M a l = .ok (fold10 a l)
  | [], a, _, _ => rfl
  | c :: l, a, hd, hl => by
    have h1 := hd c (List.mem_cons_self ..)
    have h2 : fold10 (10 * a + (c.toNat - 48)) l ≤ M := hl
    have h3 := fold_le l (10 * a + (c.toNat - 48))
    have e : a * 10 + (c.toNat - 48) = 10 * a + (c.toNat - 48) := by omega
    show (if 48 ≤ c.toNat ∧ c.toNat ≤ 57 then _ else _) = _
    rw [if_pos h1, if_neg (by omega), if_neg (by omega), e]
    exact parseU_digits hM l _ (fun c hc => hd c (List.mem_cons_of_mem _ hc)) h2
theorem parseU_dec {M u : Nat} (hM : M < 18446744073709551616) (hu : u ≤ M) : Lib.parseUintM M 0 (Lib.decDigits u) = .ok u := by
  have e : fold10 0 (Lib.decDigits u) = u := val_digits u u (Nat.le_refl _)
  rw [parseU_digits hM _ 0 (digits_fine u u (Nat.le_refl _)) (by rw [e]; exact hu), e]
theorem parse_itoa {n : Int} (h : In64 n) : Lib.parseIntB 64 (Lib.itoa n) = .ok n := by
  obtain ⟨h1, h2⟩ := h
  have eC : (2 : Nat) ^ (64 - 1) = 9223372036854775808 := by decide
  have eM : (2 : Nat) ^ 64 - 1 = 18446744073709551615 := by decide
  unfold Lib.itoa
  split
  · rename_i hn
    have q := parseU_dec (M := 18446744073709551615) (u := n.natAbs) (by omega) (by omega)
    have e45 : (45 : UInt8).toNat = 45 := rfl
    simp only [Lib.parseIntB, Lib.parseUintB, eM, eC, e45]
    simp [digits_ne, q]
    rw [if_neg (by omega)]
    congr 1
    omega
  · rename_i hn
    have q := parseU_dec (M := 18446744073709551615) (u := n.toNat) (by omega) (by omega)
    obtain ⟨c, x, e⟩ := List.exists_cons_of_ne_nil (digits_ne n.toNat)
    have hc := digits_head e
    rw [e] at q ⊢
    simp only [Lib.parseIntB, Lib.parseUintB, eM, eC]
    rw [if_neg (show ¬ (c.toNat = 43 ∨ c.toNat = 45) by omega)]
    first | rw [q] | rw [if_neg (List.cons_ne_nil _ _), q]
    have n45 : ¬ c.toNat = 45 := by omega
    simp [n45]
    rw [if_neg (by omega)]
    congr 1
    omega
/-! ### data -/
def Ok (d : Dat) : Prop := checkT d.k d.b d.n d.s = 0 ∧ In64 d.n
/-- d is the one datum, if any, that is written so -/
def Cand (s : ByteArray) (d : Dat) : Prop := ∀ x : Dat, Ok x → printT x.k x.b x.n x.s = s → x = d
def NoCand (s : ByteArray) : Prop := ∀ x : Dat, Ok x → ¬ printT x.k x.b x.n x.s = s
/-- what reading a text answers -/
def ParseRel (s : ByteArray) (d : Dat) (e : Int) : Prop := (e = 0 ∧ Ok d ∧ printT d.k d.b d.n d.s = s) ∨ (e = 13 ∧ d = Dat.zero ∧ NoCand s)
theorem print_inj {x y : Dat} (hx : Ok x) (hy : Ok y) (h : printT x.k x.b x.n x.s = printT y.k y.b y.n y.s) : x = y := by
  rw [printT_on hx.1, printT_on hy.1] at h
  have h' : printL x.k x.b x.n x.s = printL y.k y.b y.n y.s := by
    have := congrArg (fun b : ByteArray => b.data.toList) h
    simpa using this
  exact printL_inj hx.1 hy.1 h'
theorem cand_of {s : ByteArray} {d : Dat} (hd : Ok d) (h : printT d.k d.b d.n d.s = s) : Cand s d := fun x hx hs => print_inj hx hd (hs.trans h.symm)
theorem parse_on {s : ByteArray} {d : Dat} (hd : Ok d) (h : printT d.k d.b d.n d.s = s) : ParseRel s d 0 := .inl ⟨rfl, hd, h⟩
theorem parse_off {s : ByteArray} {d : Dat} (hc : Cand s d) (h : ¬ (Ok d ∧ printT d.k d.b d.n d.s = s)) : ParseRel s Dat.zero 13 := .inr ⟨rfl, rfl, fun x hx hs => h (by rw [← hc x hx hs]; exact ⟨hx, hs⟩)⟩
theorem rel_unique {s : ByteArray} {d x : Dat} {e f : Int} (h : ParseRel s d e) (k : ParseRel s x f) : d = x ∧ e = f := by
  rcases h with ⟨rfl, h1, h2⟩ | ⟨rfl, rfl, h3⟩ <;> rcases k with ⟨rfl, k1, k2⟩ | ⟨rfl, rfl, k3⟩
  · exact ⟨print_inj h1 k1 (h2.trans k2.symm), rfl⟩
  · exact absurd h2 (k3 _ h1)
  · exact absurd k2 (h3 _ k1)
  · exact ⟨rfl, rfl⟩
theorem list_of {x : Dat} {s : ByteArray} (hx : Ok x) (h : printT x.k x.b x.n x.s = s) : s.data.toList = printL x.k x.b x.n x.s := by
  rw [← h, printT_on hx.1]
  done
/-- a text between quotes tells a text, or nothing -/
theorem cand_text {s t : ByteArray} {m : List UInt8} {ok : Bool} (hs : s.data.toList = 39 :: (m ++ [39])) (hu : ∀ x : List UInt8, m = x.flatMap esc → t.data.toList = x ∧ ok = true) : ∀ x : Dat, Ok x → printT x.k x.b x.n x.s = s → x = ⟨4, false, 0, t⟩ ∧ ok = true := by
  intro x hx hp
  have hl := list_of hx hp
  obtain ⟨hk, a1, a2, a3⟩ := form_of hx.1
  obtain ⟨c, y, e1, k1⟩ := printL_kind (b := x.b) (n := x.n) (s := x.s) hk
  have hc : c = 39 := by rw [e1, hs] at hl; injection hl with hl; exact hl.symm
  have h4 : x.k = 4 := by rw [← k1, hc]; rfl
  have hq : printL x.k x.b x.n x.s = quotedT x.s.data.toList := by
    rw [h4]
    rfl
  rw [hq, hs] at hl
  unfold quotedT at hl
  injection hl with _ hl
  obtain ⟨e2, e3⟩ := hu _ (List.append_cancel_right hl)
  refine ⟨?_, e3⟩
  have e4 : x.s = t := data_inj e2.symm
  obtain ⟨k, b, n, z⟩ := x
  simp only at h4 e4 a1 a2
  subst h4 e4
  rw [a1 (by omega), a2 (by omega)]
/-- a text that is none of the words, and not between quotes, tells a number, or nothing -/
theorem cand_num {s : ByteArray} (h1 : ¬ s.data.toList = [110, 117, 108, 108]) (h2 : ¬ s.data.toList = Lib.formatBool true) (h3 : ¬ s.data.toList = Lib.formatBool false) (h4 : ∀ m, ¬ s.data.toList = 39 :: (m ++ [39])) :
    ∀ x : Dat, Ok x → printT x.k x.b x.n x.s = s → ∃ v, parseOk s v ∧ x = ⟨3, false, v, ⟨#[]⟩⟩ := by
  intro x hx hp
  have hl := list_of hx hp
  obtain ⟨hk, a1, a2, a3⟩ := form_of hx.1
  obtain ⟨hok, hn⟩ := hx
  obtain ⟨k, b, n, z⟩ := x
  simp only at hk a1 a2 a3 hl hn
  rcases hk with rfl | rfl | rfl | rfl
  · exact absurd hl h1
  · cases b
    · exact absurd hl h3
    · exact absurd hl h2
  · refine ⟨n, ?_, ?_⟩
    · unfold parseOk
      rw [hl]
      exact parse_itoa hn
    · rw [a1 (by omega), a3 (by omega)]
  · exact absurd hl (h4 _)
end Go.Proofs.YtngeioghihbkeaaGreatDoor
namespace Go.Proofs.YtngeioghihbkeaaGreatDoor
open Go.RowKit

theorem checkK {k n : Int} {b : Bool} {s : ByteArray} {c : Int} (w : World) (h : Hid (checkT k b n s = c)) (hs : s.size ≤ 140737488355328) (g : Good w) :
    Calls Tryz.prog 25 #[.agg #[.int .u8 k, .bool b, .int .i64 n, .string s]] w fun e w' => e = .returned (.int .u16 c) ∧ Ext w w' := h.out ▸ check_any k b n s w (by omega) g
theorem printK {k n : Int} {b : Bool} {s p : ByteArray} (w : World) (h : Hid (printT k b n s = p)) (hs : s.size ≤ 140737488355328) (hn : In64 n) (g : Good2 w) :
    Calls Tryz.prog 23 #[.agg #[.int .u8 k, .bool b, .int .i64 n, .string s]] w fun e w' => e = .returned (.string p) ∧ Ext w w' := h.out ▸ print_any k b n s w (by omega) hn g
set_option maxRecDepth 100000 in
set_option maxHeartbeats 2000000 in
theorem parse_null (w : World) (G : Good3 w) : Calls Tryz.prog 16 #[.string ⟨#[110, 117, 108, 108]⟩] w (Out w (⟨1, false, 0, ⟨#[]⟩⟩, 0)) := by
  have HC : Hid (checkT 1 false 0 ⟨#[]⟩ = 0) := Lib.hid (by decide +kernel)
  have HP : Hid (printT 1 false 0 ⟨#[]⟩ = ⟨#[110, 117, 108, 108]⟩) := Lib.hid (by decide +kernel)
  go_enter Tryz.func16, Tryz.ntmps16
  go_wp2_with (first
    | (go_at_call 30; refine (null_any _).mono ?_; rintro r w1 ⟨rfl, x1⟩; have X1 : Ext (w.alloc (.cells #[.int .u8 0, .bool false, .int .i64 0, .string ⟨#[]⟩] 47)) w1 := ((Ext.refl _).alloc _).trans x1; have bd : Bk w1 (w.heap.size + 1) 47 #[.int .u8 0, .bool false, .int .i64 0, .string ⟨#[]⟩] := (Bk.at (by simp)).ext x1; have s1 := X1.size; have bdf0 : w1.frozen? ⟨w.heap.size + 1, 0, none⟩ = false := bd.free 0; have bdf1 : w1.frozen? ⟨w.heap.size + 1, 1, none⟩ = false := bd.free 1; have bdf2 : w1.frozen? ⟨w.heap.size + 1, 2, none⟩ = false := bd.free 2; have bdf3 : w1.frozen? ⟨w.heap.size + 1, 3, none⟩ = false := bd.free 3; have bd0 : w1.cell? ⟨w.heap.size + 1, 0, none⟩ = some (.int .u8 (0)) := bd.cell 0; have bd1 : w1.cell? ⟨w.heap.size + 1, 1, none⟩ = some (.bool (false)) := bd.cell 1; have bd2 : w1.cell? ⟨w.heap.size + 1, 2, none⟩ = some (.int .i64 (0)) := bd.cell 2; have bd3 : w1.cell? ⟨w.heap.size + 1, 3, none⟩ = some (.string (⟨#[]⟩)) := bd.cell 3; have bd4 := bd.set4 (.int .u8 (1)) (.bool false) (.int .i64 0) (.string ⟨#[]⟩); have d0 := bd4.1; have d1 := bd4.2.1; have d2 := bd4.2.2.1; have d3 := bd4.2.2.2; have X1s := Lib.hid (X1.set4 (g := w.heap.size + 1) (by simp) (.int .u8 (1)) (.bool false) (.int .i64 0) (.string ⟨#[]⟩)); clear bd4)
    | (go_at_call 25; refine (checkK _ HC (by decide) (G.good.good.ext (((Ext.refl w).alloc _).trans X1s.out))).mono ?_; rintro r w2 ⟨rfl, x2⟩; have X2 : Ext (w.alloc (.cells #[.int .u8 0, .bool false, .int .i64 0, .string ⟨#[]⟩] 47)) w2 := X1s.out.trans x2; have be : Bk w2 (w.heap.size + 1) 47 #[.int .u8 1, .bool false, .int .i64 0, .string ⟨#[]⟩] := ((((bd.set 0 _).set 1 _).set 2 _).set 3 _).ext x2; have be0 : w2.cell? ⟨w.heap.size + 1, 0, none⟩ = some (.int .u8 (1)) := be.cell 0; have be1 : w2.cell? ⟨w.heap.size + 1, 1, none⟩ = some (.bool (false)) := be.cell 1; have be2 : w2.cell? ⟨w.heap.size + 1, 2, none⟩ = some (.int .i64 (0)) := be.cell 2; have be3 : w2.cell? ⟨w.heap.size + 1, 3, none⟩ = some (.string (⟨#[]⟩)) := be.cell 3)
    | (go_at_call 23; refine (printK _ HP (by decide) (by decide) (G.good.ext (((Ext.refl w).alloc _).trans X2))).mono ?_; rintro r w3 ⟨rfl, x3⟩; have X3 : Ext (w.alloc (.cells #[.int .u8 0, .bool false, .int .i64 0, .string ⟨#[]⟩] 47)) w3 := X2.trans x3; have bf : Bk w3 (w.heap.size + 1) 47 #[.int .u8 1, .bool false, .int .i64 0, .string ⟨#[]⟩] := be.ext x3; have bz : Bk w3 w.heap.size 47 #[.int .u8 0, .bool false, .int .i64 0, .string ⟨#[]⟩] := (Bk.new w _ _).ext X3; have bf0 : w3.cell? ⟨w.heap.size + 1, 0, none⟩ = some (.int .u8 (1)) := bf.cell 0; have bf1 : w3.cell? ⟨w.heap.size + 1, 1, none⟩ = some (.bool (false)) := bf.cell 1; have bf2 : w3.cell? ⟨w.heap.size + 1, 2, none⟩ = some (.int .i64 (0)) := bf.cell 2; have bf3 : w3.cell? ⟨w.heap.size + 1, 3, none⟩ = some (.string (⟨#[]⟩)) := bf.cell 3; have bzf0 : w3.frozen? ⟨w.heap.size, 0, none⟩ = false := bz.free 0; have bzf1 : w3.frozen? ⟨w.heap.size, 1, none⟩ = false := bz.free 1; have bzf2 : w3.frozen? ⟨w.heap.size, 2, none⟩ = false := bz.free 2; have bzf3 : w3.frozen? ⟨w.heap.size, 3, none⟩ = false := bz.free 3; have bz0 : w3.cell? ⟨w.heap.size, 0, none⟩ = some (.int .u8 (0)) := bz.cell 0; have bz1 : w3.cell? ⟨w.heap.size, 1, none⟩ = some (.bool (false)) := bz.cell 1; have bz2 : w3.cell? ⟨w.heap.size, 2, none⟩ = some (.int .i64 (0)) := bz.cell 2; have bz3 : w3.cell? ⟨w.heap.size, 3, none⟩ = some (.string (⟨#[]⟩)) := bz.cell 3))
  have q := bz.set4 (.int .u8 (1)) (.bool (false)) (.int .i64 (0)) (.string (⟨#[]⟩)); refine bodyPost_ret (v := .tuple #[.agg #[.int .u8 (1), .bool (false), .int .i64 (0), .string (⟨#[]⟩)], .int .u16 (0)]) (by simp [results, Tryz.results16, go_sem, q.1, q.2.1, q.2.2.1, q.2.2.2]) rfl ⟨rfl, Ext.set4 (((Ext.refl w).alloc _).trans X3) (by first | omega | simp) _ _ _ _⟩
set_option maxRecDepth 100000 in
set_option maxHeartbeats 2000000 in
theorem parse_true (w : World) (G : Good3 w) : Calls Tryz.prog 16 #[.string ⟨#[116, 114, 117, 101]⟩] w (Out w (⟨2, true, 0, ⟨#[]⟩⟩, 0)) := by
  have HC : Hid (checkT 2 true 0 ⟨#[]⟩ = 0) := Lib.hid (by decide +kernel)
  have HP : Hid (printT 2 true 0 ⟨#[]⟩ = ⟨#[116, 114, 117, 101]⟩) := Lib.hid (by decide +kernel)
  go_enter Tryz.func16, Tryz.ntmps16
  go_wp2_with (first
    | (go_at_call 31; refine (boolean_any _ _).mono ?_; rintro r w1 ⟨rfl, x1⟩; have X1 : Ext (w.alloc (.cells #[.int .u8 0, .bool false, .int .i64 0, .string ⟨#[]⟩] 47)) w1 := ((Ext.refl _).alloc _).trans x1; have bd : Bk w1 (w.heap.size + 1) 47 #[.int .u8 0, .bool false, .int .i64 0, .string ⟨#[]⟩] := (Bk.at (by simp)).ext x1; have s1 := X1.size; have bdf0 : w1.frozen? ⟨w.heap.size + 1, 0, none⟩ = false := bd.free 0; have bdf1 : w1.frozen? ⟨w.heap.size + 1, 1, none⟩ = false := bd.free 1; have bdf2 : w1.frozen? ⟨w.heap.size + 1, 2, none⟩ = false := bd.free 2; have bdf3 : w1.frozen? ⟨w.heap.size + 1, 3, none⟩ = false := bd.free 3; have bd0 : w1.cell? ⟨w.heap.size + 1, 0, none⟩ = some (.int .u8 (0)) := bd.cell 0; have bd1 : w1.cell? ⟨w.heap.size + 1, 1, none⟩ = some (.bool (false)) := bd.cell 1; have bd2 : w1.cell? ⟨w.heap.size + 1, 2, none⟩ = some (.int .i64 (0)) := bd.cell 2; have bd3 : w1.cell? ⟨w.heap.size + 1, 3, none⟩ = some (.string (⟨#[]⟩)) := bd.cell 3; have bd4 := bd.set4 (.int .u8 (2)) (.bool true) (.int .i64 0) (.string ⟨#[]⟩); have d0 := bd4.1; have d1 := bd4.2.1; have d2 := bd4.2.2.1; have d3 := bd4.2.2.2; have X1s := Lib.hid (X1.set4 (g := w.heap.size + 1) (by simp) (.int .u8 (2)) (.bool true) (.int .i64 0) (.string ⟨#[]⟩)); clear bd4)
    | (go_at_call 25; refine (checkK _ HC (by decide) (G.good.good.ext (((Ext.refl w).alloc _).trans X1s.out))).mono ?_; rintro r w2 ⟨rfl, x2⟩; have X2 : Ext (w.alloc (.cells #[.int .u8 0, .bool false, .int .i64 0, .string ⟨#[]⟩] 47)) w2 := X1s.out.trans x2; have be : Bk w2 (w.heap.size + 1) 47 #[.int .u8 2, .bool true, .int .i64 0, .string ⟨#[]⟩] := ((((bd.set 0 _).set 1 _).set 2 _).set 3 _).ext x2; have be0 : w2.cell? ⟨w.heap.size + 1, 0, none⟩ = some (.int .u8 (2)) := be.cell 0; have be1 : w2.cell? ⟨w.heap.size + 1, 1, none⟩ = some (.bool (true)) := be.cell 1; have be2 : w2.cell? ⟨w.heap.size + 1, 2, none⟩ = some (.int .i64 (0)) := be.cell 2; have be3 : w2.cell? ⟨w.heap.size + 1, 3, none⟩ = some (.string (⟨#[]⟩)) := be.cell 3)
    | (go_at_call 23; refine (printK _ HP (by decide) (by decide) (G.good.ext (((Ext.refl w).alloc _).trans X2))).mono ?_; rintro r w3 ⟨rfl, x3⟩; have X3 : Ext (w.alloc (.cells #[.int .u8 0, .bool false, .int .i64 0, .string ⟨#[]⟩] 47)) w3 := X2.trans x3; have bf : Bk w3 (w.heap.size + 1) 47 #[.int .u8 2, .bool true, .int .i64 0, .string ⟨#[]⟩] := be.ext x3; have bz : Bk w3 w.heap.size 47 #[.int .u8 0, .bool false, .int .i64 0, .string ⟨#[]⟩] := (Bk.new w _ _).ext X3; have bf0 : w3.cell? ⟨w.heap.size + 1, 0, none⟩ = some (.int .u8 (2)) := bf.cell 0; have bf1 : w3.cell? ⟨w.heap.size + 1, 1, none⟩ = some (.bool (true)) := bf.cell 1; have bf2 : w3.cell? ⟨w.heap.size + 1, 2, none⟩ = some (.int .i64 (0)) := bf.cell 2; have bf3 : w3.cell? ⟨w.heap.size + 1, 3, none⟩ = some (.string (⟨#[]⟩)) := bf.cell 3; have bzf0 : w3.frozen? ⟨w.heap.size, 0, none⟩ = false := bz.free 0; have bzf1 : w3.frozen? ⟨w.heap.size, 1, none⟩ = false := bz.free 1; have bzf2 : w3.frozen? ⟨w.heap.size, 2, none⟩ = false := bz.free 2; have bzf3 : w3.frozen? ⟨w.heap.size, 3, none⟩ = false := bz.free 3; have bz0 : w3.cell? ⟨w.heap.size, 0, none⟩ = some (.int .u8 (0)) := bz.cell 0; have bz1 : w3.cell? ⟨w.heap.size, 1, none⟩ = some (.bool (false)) := bz.cell 1; have bz2 : w3.cell? ⟨w.heap.size, 2, none⟩ = some (.int .i64 (0)) := bz.cell 2; have bz3 : w3.cell? ⟨w.heap.size, 3, none⟩ = some (.string (⟨#[]⟩)) := bz.cell 3))
  have q := bz.set4 (.int .u8 (2)) (.bool (true)) (.int .i64 (0)) (.string (⟨#[]⟩)); refine bodyPost_ret (v := .tuple #[.agg #[.int .u8 (2), .bool (true), .int .i64 (0), .string (⟨#[]⟩)], .int .u16 (0)]) (by simp [results, Tryz.results16, go_sem, q.1, q.2.1, q.2.2.1, q.2.2.2]) rfl ⟨rfl, Ext.set4 (((Ext.refl w).alloc _).trans X3) (by first | omega | simp) _ _ _ _⟩
set_option maxRecDepth 100000 in
set_option maxHeartbeats 2000000 in
theorem parse_false (w : World) (G : Good3 w) : Calls Tryz.prog 16 #[.string ⟨#[102, 97, 108, 115, 101]⟩] w (Out w (⟨2, false, 0, ⟨#[]⟩⟩, 0)) := by
  have HC : Hid (checkT 2 false 0 ⟨#[]⟩ = 0) := Lib.hid (by decide +kernel)
  have HP : Hid (printT 2 false 0 ⟨#[]⟩ = ⟨#[102, 97, 108, 115, 101]⟩) := Lib.hid (by decide +kernel)
  go_enter Tryz.func16, Tryz.ntmps16
  go_wp2_with (first
    | (go_at_call 31; refine (boolean_any _ _).mono ?_; rintro r w1 ⟨rfl, x1⟩; have X1 : Ext (w.alloc (.cells #[.int .u8 0, .bool false, .int .i64 0, .string ⟨#[]⟩] 47)) w1 := ((Ext.refl _).alloc _).trans x1; have bd : Bk w1 (w.heap.size + 1) 47 #[.int .u8 0, .bool false, .int .i64 0, .string ⟨#[]⟩] := (Bk.at (by simp)).ext x1; have s1 := X1.size; have bdf0 : w1.frozen? ⟨w.heap.size + 1, 0, none⟩ = false := bd.free 0; have bdf1 : w1.frozen? ⟨w.heap.size + 1, 1, none⟩ = false := bd.free 1; have bdf2 : w1.frozen? ⟨w.heap.size + 1, 2, none⟩ = false := bd.free 2; have bdf3 : w1.frozen? ⟨w.heap.size + 1, 3, none⟩ = false := bd.free 3; have bd0 : w1.cell? ⟨w.heap.size + 1, 0, none⟩ = some (.int .u8 (0)) := bd.cell 0; have bd1 : w1.cell? ⟨w.heap.size + 1, 1, none⟩ = some (.bool (false)) := bd.cell 1; have bd2 : w1.cell? ⟨w.heap.size + 1, 2, none⟩ = some (.int .i64 (0)) := bd.cell 2; have bd3 : w1.cell? ⟨w.heap.size + 1, 3, none⟩ = some (.string (⟨#[]⟩)) := bd.cell 3; have bd4 := bd.set4 (.int .u8 (2)) (.bool false) (.int .i64 0) (.string ⟨#[]⟩); have d0 := bd4.1; have d1 := bd4.2.1; have d2 := bd4.2.2.1; have d3 := bd4.2.2.2; have X1s := Lib.hid (X1.set4 (g := w.heap.size + 1) (by simp) (.int .u8 (2)) (.bool false) (.int .i64 0) (.string ⟨#[]⟩)); clear bd4)
    | (go_at_call 25; refine (checkK _ HC (by decide) (G.good.good.ext (((Ext.refl w).alloc _).trans X1s.out))).mono ?_; rintro r w2 ⟨rfl, x2⟩; have X2 : Ext (w.alloc (.cells #[.int .u8 0, .bool false, .int .i64 0, .string ⟨#[]⟩] 47)) w2 := X1s.out.trans x2; have be : Bk w2 (w.heap.size + 1) 47 #[.int .u8 2, .bool false, .int .i64 0, .string ⟨#[]⟩] := ((((bd.set 0 _).set 1 _).set 2 _).set 3 _).ext x2; have be0 : w2.cell? ⟨w.heap.size + 1, 0, none⟩ = some (.int .u8 (2)) := be.cell 0; have be1 : w2.cell? ⟨w.heap.size + 1, 1, none⟩ = some (.bool (false)) := be.cell 1; have be2 : w2.cell? ⟨w.heap.size + 1, 2, none⟩ = some (.int .i64 (0)) := be.cell 2; have be3 : w2.cell? ⟨w.heap.size + 1, 3, none⟩ = some (.string (⟨#[]⟩)) := be.cell 3)
    | (go_at_call 23; refine (printK _ HP (by decide) (by decide) (G.good.ext (((Ext.refl w).alloc _).trans X2))).mono ?_; rintro r w3 ⟨rfl, x3⟩; have X3 : Ext (w.alloc (.cells #[.int .u8 0, .bool false, .int .i64 0, .string ⟨#[]⟩] 47)) w3 := X2.trans x3; have bf : Bk w3 (w.heap.size + 1) 47 #[.int .u8 2, .bool false, .int .i64 0, .string ⟨#[]⟩] := be.ext x3; have bz : Bk w3 w.heap.size 47 #[.int .u8 0, .bool false, .int .i64 0, .string ⟨#[]⟩] := (Bk.new w _ _).ext X3; have bf0 : w3.cell? ⟨w.heap.size + 1, 0, none⟩ = some (.int .u8 (2)) := bf.cell 0; have bf1 : w3.cell? ⟨w.heap.size + 1, 1, none⟩ = some (.bool (false)) := bf.cell 1; have bf2 : w3.cell? ⟨w.heap.size + 1, 2, none⟩ = some (.int .i64 (0)) := bf.cell 2; have bf3 : w3.cell? ⟨w.heap.size + 1, 3, none⟩ = some (.string (⟨#[]⟩)) := bf.cell 3; have bzf0 : w3.frozen? ⟨w.heap.size, 0, none⟩ = false := bz.free 0; have bzf1 : w3.frozen? ⟨w.heap.size, 1, none⟩ = false := bz.free 1; have bzf2 : w3.frozen? ⟨w.heap.size, 2, none⟩ = false := bz.free 2; have bzf3 : w3.frozen? ⟨w.heap.size, 3, none⟩ = false := bz.free 3; have bz0 : w3.cell? ⟨w.heap.size, 0, none⟩ = some (.int .u8 (0)) := bz.cell 0; have bz1 : w3.cell? ⟨w.heap.size, 1, none⟩ = some (.bool (false)) := bz.cell 1; have bz2 : w3.cell? ⟨w.heap.size, 2, none⟩ = some (.int .i64 (0)) := bz.cell 2; have bz3 : w3.cell? ⟨w.heap.size, 3, none⟩ = some (.string (⟨#[]⟩)) := bz.cell 3))
  have q := bz.set4 (.int .u8 (2)) (.bool (false)) (.int .i64 (0)) (.string (⟨#[]⟩)); refine bodyPost_ret (v := .tuple #[.agg #[.int .u8 (2), .bool (false), .int .i64 (0), .string (⟨#[]⟩)], .int .u16 (0)]) (by simp [results, Tryz.results16, go_sem, q.1, q.2.1, q.2.2.1, q.2.2.2]) rfl ⟨rfl, Ext.set4 (((Ext.refl w).alloc _).trans X3) (by first | omega | simp) _ _ _ _⟩
end Go.Proofs.YtngeioghihbkeaaGreatDoor
namespace Go.Proofs.YtngeioghihbkeaaGreatDoor
open Go.RowKit

set_option maxRecDepth 100000 in
set_option maxHeartbeats 4000000 in
theorem parse_num_a (s : ByteArray) (w : World) (hs : s.size ≤ 140737488355328) (h1 : (s.toList == [110, 117, 108, 108]) = false) (h2 : (s.toList == [116, 114, 117, 101]) = false) (h3 : (s.toList == [102, 97, 108, 115, 101]) = false) (hc : ∀ x : Dat, Ok x → printT x.k x.b x.n x.s = s → ∃ v, parseOk s v ∧ x = ⟨3, false, v, ⟨#[]⟩⟩) (hv64 : ∀ v, parseOk s v → In64 v) (h4 : 2 ≤ s.size) (h5 : ¬ s[0].toNat = 39) (G : Good3 w) :
    Calls Tryz.prog 16 #[.string s] w fun e w' => ∃ d x, ParseRel s d x ∧ Out w (d, x) e w' := by
  have HC := Lib.hid hc
  have HV := Lib.hid hv64
  clear hc hv64
  have z5 : ((s[0].toNat : Int) == 39) = false := by simp; omega
  go_enter Tryz.func16, Tryz.ntmps16
  go_wp2_with fail
  refine (parseInt_any s _ (by omega) (G.ext (((Ext.refl w).alloc _).alloc _))).mono ?_
  rintro e w1 ⟨he, x1⟩
  have X1 : Ext (w.alloc (.cells #[.int .u8 0, .bool false, .int .i64 0, .string ⟨#[]⟩] 47)) w1 := ((Ext.refl _).alloc _).trans x1
  have bd : Bk w1 (w.heap.size + 1) 47 #[.int .u8 0, .bool false, .int .i64 0, .string ⟨#[]⟩] := (Bk.at (by simp)).ext x1
  have s1 := X1.size
  have bz : Bk w1 w.heap.size 47 #[.int .u8 0, .bool false, .int .i64 0, .string ⟨#[]⟩] := (Bk.new w _ _).ext X1
  rcases he with ⟨v, hv, rfl⟩ | ⟨hv, n, t, p, rfl⟩
  · have hn := HV.out v hv
    have hcand : Cand s ⟨3, false, v, ⟨#[]⟩⟩ := fun x hx hp => (by obtain ⟨u, q, e⟩ := HC.out x hx hp; obtain rfl : v = u := (by unfold parseOk at hv q; rw [hv] at q; injection q); exact e)
    have hck : checkT 3 false v ⟨#[]⟩ = 0 := by rw [checkT_on ⟨.inr (.inr (.inl rfl)), fun _ => rfl, fun h => absurd rfl h, fun _ => rfl⟩]; decide +kernel
    have HN := Lib.hid hn; have HK := Lib.hid hcand; have HC2 := Lib.hid hck
    clear hn hcand hck hv
    by_cases hp : printT 3 false v ⟨#[]⟩ = s
    · have HP := Lib.hid hp
      clear hp
      go_wp2_with (first
        | (go_at_call 35; refine (number_any _ _).mono ?_; rintro r w2 ⟨rfl, x2⟩; have Y1 : Ext (w.alloc (.cells #[.int .u8 0, .bool false, .int .i64 0, .string ⟨#[]⟩] 47)) w2 := X1.trans x2; have be : Bk w2 (w.heap.size + 1) 47 #[.int .u8 0, .bool false, .int .i64 0, .string ⟨#[]⟩] := bd.ext x2; have s2 := Y1.size; have bef0 : w2.frozen? ⟨w.heap.size + 1, 0, none⟩ = false := be.free 0; have bef1 : w2.frozen? ⟨w.heap.size + 1, 1, none⟩ = false := be.free 1; have bef2 : w2.frozen? ⟨w.heap.size + 1, 2, none⟩ = false := be.free 2; have bef3 : w2.frozen? ⟨w.heap.size + 1, 3, none⟩ = false := be.free 3; have be0 : w2.cell? ⟨w.heap.size + 1, 0, none⟩ = some (.int .u8 (0)) := be.cell 0; have be1 : w2.cell? ⟨w.heap.size + 1, 1, none⟩ = some (.bool (false)) := be.cell 1; have be2 : w2.cell? ⟨w.heap.size + 1, 2, none⟩ = some (.int .i64 (0)) := be.cell 2; have be3 : w2.cell? ⟨w.heap.size + 1, 3, none⟩ = some (.string (⟨#[]⟩)) := be.cell 3; have be4 := be.set4 (.int .u8 (3)) (.bool false) (.int .i64 v) (.string ⟨#[]⟩); have d0 := be4.1; have d1 := be4.2.1; have d2 := be4.2.2.1; have d3 := be4.2.2.2; have X1s := Lib.hid (Y1.set4 (g := w.heap.size + 1) (by simp) (.int .u8 (3)) (.bool false) (.int .i64 v) (.string ⟨#[]⟩)); clear be4)
        | (go_at_call 25; refine (checkK _ HC2 (by decide) (G.good.good.ext (((Ext.refl w).alloc _).trans X1s.out))).mono ?_; rintro r w3 ⟨rfl, x3⟩; have X2 : Ext (w.alloc (.cells #[.int .u8 0, .bool false, .int .i64 0, .string ⟨#[]⟩] 47)) w3 := X1s.out.trans x3; have bf : Bk w3 (w.heap.size + 1) 47 #[.int .u8 3, .bool false, .int .i64 v, .string ⟨#[]⟩] := ((((be.set 0 _).set 1 _).set 2 _).set 3 _).ext x3; have bf0 : w3.cell? ⟨w.heap.size + 1, 0, none⟩ = some (.int .u8 (3)) := bf.cell 0; have bf1 : w3.cell? ⟨w.heap.size + 1, 1, none⟩ = some (.bool (false)) := bf.cell 1; have bf2 : w3.cell? ⟨w.heap.size + 1, 2, none⟩ = some (.int .i64 (v)) := bf.cell 2; have bf3 : w3.cell? ⟨w.heap.size + 1, 3, none⟩ = some (.string (⟨#[]⟩)) := bf.cell 3)
        | (go_at_call 23; refine (printK _ HP (by decide) HN.out (G.good.ext (((Ext.refl w).alloc _).trans X2))).mono ?_; rintro r w4 ⟨rfl, x4⟩; have X3 : Ext (w.alloc (.cells #[.int .u8 0, .bool false, .int .i64 0, .string ⟨#[]⟩] 47)) w4 := X2.trans x4; have bg : Bk w4 (w.heap.size + 1) 47 #[.int .u8 3, .bool false, .int .i64 v, .string ⟨#[]⟩] := bf.ext x4; have bh : Bk w4 w.heap.size 47 #[.int .u8 0, .bool false, .int .i64 0, .string ⟨#[]⟩] := (Bk.new w _ _).ext X3; have bg0 : w4.cell? ⟨w.heap.size + 1, 0, none⟩ = some (.int .u8 (3)) := bg.cell 0; have bg1 : w4.cell? ⟨w.heap.size + 1, 1, none⟩ = some (.bool (false)) := bg.cell 1; have bg2 : w4.cell? ⟨w.heap.size + 1, 2, none⟩ = some (.int .i64 (v)) := bg.cell 2; have bg3 : w4.cell? ⟨w.heap.size + 1, 3, none⟩ = some (.string (⟨#[]⟩)) := bg.cell 3; have bhf0 : w4.frozen? ⟨w.heap.size, 0, none⟩ = false := bh.free 0; have bhf1 : w4.frozen? ⟨w.heap.size, 1, none⟩ = false := bh.free 1; have bhf2 : w4.frozen? ⟨w.heap.size, 2, none⟩ = false := bh.free 2; have bhf3 : w4.frozen? ⟨w.heap.size, 3, none⟩ = false := bh.free 3; have bh0 : w4.cell? ⟨w.heap.size, 0, none⟩ = some (.int .u8 (0)) := bh.cell 0; have bh1 : w4.cell? ⟨w.heap.size, 1, none⟩ = some (.bool (false)) := bh.cell 1; have bh2 : w4.cell? ⟨w.heap.size, 2, none⟩ = some (.int .i64 (0)) := bh.cell 2; have bh3 : w4.cell? ⟨w.heap.size, 3, none⟩ = some (.string (⟨#[]⟩)) := bh.cell 3))
      have q := bh.set4 (.int .u8 (3)) (.bool (false)) (.int .i64 (v)) (.string (⟨#[]⟩)); refine bodyPost_ret (v := .tuple #[.agg #[.int .u8 (3), .bool (false), .int .i64 (v), .string (⟨#[]⟩)], .int .u16 (0)]) (by simp [results, Tryz.results16, go_sem, q.1, q.2.1, q.2.2.1, q.2.2.2]) rfl ⟨⟨3, false, v, ⟨#[]⟩⟩, 0, parse_on ⟨HC2.out, HN.out⟩ HP.out, rfl, Ext.set4 (((Ext.refl w).alloc _).trans X3) (by first | omega | simp) _ _ _ _⟩
    · obtain ⟨p, hpp⟩ : ∃ p, printT 3 false v ⟨#[]⟩ = p := ⟨_, rfl⟩
      have HNo : Hid (¬ (Ok ⟨3, false, v, ⟨#[]⟩⟩ ∧ printT 3 false v ⟨#[]⟩ = s)) := Lib.hid fun h => hp h.2
      rw [hpp] at hp
      have HP := Lib.hid hpp
      have hpl : ¬ p.toList = s.toList := fun h => hp (data_inj (by rw [Lib.toList_data, Lib.toList_data] at h; exact h))
      have zp : (!(p.toList == s.toList)) = true := by simpa using hpl
      have zq : (p.toList == s.toList) = false := by simpa using hpl
      clear hpp
      go_wp2_with (first
        | (go_at_call 35; refine (number_any _ _).mono ?_; rintro r w2 ⟨rfl, x2⟩; have Y1 : Ext (w.alloc (.cells #[.int .u8 0, .bool false, .int .i64 0, .string ⟨#[]⟩] 47)) w2 := X1.trans x2; have be : Bk w2 (w.heap.size + 1) 47 #[.int .u8 0, .bool false, .int .i64 0, .string ⟨#[]⟩] := bd.ext x2; have s2 := Y1.size; have bef0 : w2.frozen? ⟨w.heap.size + 1, 0, none⟩ = false := be.free 0; have bef1 : w2.frozen? ⟨w.heap.size + 1, 1, none⟩ = false := be.free 1; have bef2 : w2.frozen? ⟨w.heap.size + 1, 2, none⟩ = false := be.free 2; have bef3 : w2.frozen? ⟨w.heap.size + 1, 3, none⟩ = false := be.free 3; have be0 : w2.cell? ⟨w.heap.size + 1, 0, none⟩ = some (.int .u8 (0)) := be.cell 0; have be1 : w2.cell? ⟨w.heap.size + 1, 1, none⟩ = some (.bool (false)) := be.cell 1; have be2 : w2.cell? ⟨w.heap.size + 1, 2, none⟩ = some (.int .i64 (0)) := be.cell 2; have be3 : w2.cell? ⟨w.heap.size + 1, 3, none⟩ = some (.string (⟨#[]⟩)) := be.cell 3; have be4 := be.set4 (.int .u8 (3)) (.bool false) (.int .i64 v) (.string ⟨#[]⟩); have d0 := be4.1; have d1 := be4.2.1; have d2 := be4.2.2.1; have d3 := be4.2.2.2; have X1s := Lib.hid (Y1.set4 (g := w.heap.size + 1) (by simp) (.int .u8 (3)) (.bool false) (.int .i64 v) (.string ⟨#[]⟩)); clear be4)
        | (go_at_call 25; refine (checkK _ HC2 (by decide) (G.good.good.ext (((Ext.refl w).alloc _).trans X1s.out))).mono ?_; rintro r w3 ⟨rfl, x3⟩; have X2 : Ext (w.alloc (.cells #[.int .u8 0, .bool false, .int .i64 0, .string ⟨#[]⟩] 47)) w3 := X1s.out.trans x3; have bf : Bk w3 (w.heap.size + 1) 47 #[.int .u8 3, .bool false, .int .i64 v, .string ⟨#[]⟩] := ((((be.set 0 _).set 1 _).set 2 _).set 3 _).ext x3; have bf0 : w3.cell? ⟨w.heap.size + 1, 0, none⟩ = some (.int .u8 (3)) := bf.cell 0; have bf1 : w3.cell? ⟨w.heap.size + 1, 1, none⟩ = some (.bool (false)) := bf.cell 1; have bf2 : w3.cell? ⟨w.heap.size + 1, 2, none⟩ = some (.int .i64 (v)) := bf.cell 2; have bf3 : w3.cell? ⟨w.heap.size + 1, 3, none⟩ = some (.string (⟨#[]⟩)) := bf.cell 3)
        | (go_at_call 23; refine (printK _ HP (by decide) HN.out (G.good.ext (((Ext.refl w).alloc _).trans X2))).mono ?_; rintro r w4 ⟨rfl, x4⟩; have X3 : Ext (w.alloc (.cells #[.int .u8 0, .bool false, .int .i64 0, .string ⟨#[]⟩] 47)) w4 := X2.trans x4; have bg : Bk w4 (w.heap.size + 1) 47 #[.int .u8 3, .bool false, .int .i64 v, .string ⟨#[]⟩] := bf.ext x4; have bh : Bk w4 w.heap.size 47 #[.int .u8 0, .bool false, .int .i64 0, .string ⟨#[]⟩] := (Bk.new w _ _).ext X3; have bg0 : w4.cell? ⟨w.heap.size + 1, 0, none⟩ = some (.int .u8 (3)) := bg.cell 0; have bg1 : w4.cell? ⟨w.heap.size + 1, 1, none⟩ = some (.bool (false)) := bg.cell 1; have bg2 : w4.cell? ⟨w.heap.size + 1, 2, none⟩ = some (.int .i64 (v)) := bg.cell 2; have bg3 : w4.cell? ⟨w.heap.size + 1, 3, none⟩ = some (.string (⟨#[]⟩)) := bg.cell 3; have bhf0 : w4.frozen? ⟨w.heap.size, 0, none⟩ = false := bh.free 0; have bhf1 : w4.frozen? ⟨w.heap.size, 1, none⟩ = false := bh.free 1; have bhf2 : w4.frozen? ⟨w.heap.size, 2, none⟩ = false := bh.free 2; have bhf3 : w4.frozen? ⟨w.heap.size, 3, none⟩ = false := bh.free 3; have bh0 : w4.cell? ⟨w.heap.size, 0, none⟩ = some (.int .u8 (0)) := bh.cell 0; have bh1 : w4.cell? ⟨w.heap.size, 1, none⟩ = some (.bool (false)) := bh.cell 1; have bh2 : w4.cell? ⟨w.heap.size, 2, none⟩ = some (.int .i64 (0)) := bh.cell 2; have bh3 : w4.cell? ⟨w.heap.size, 3, none⟩ = some (.string (⟨#[]⟩)) := bh.cell 3))
      have q := bh.set4 (.int .u8 (0)) (.bool (false)) (.int .i64 (0)) (.string (⟨#[]⟩)); refine bodyPost_ret (v := .tuple #[.agg #[.int .u8 (0), .bool (false), .int .i64 (0), .string (⟨#[]⟩)], .int .u16 (13)]) (by simp [results, Tryz.results16, go_sem, q.1, q.2.1, q.2.2.1, q.2.2.2]) rfl ⟨⟨0, false, 0, ⟨#[]⟩⟩, 13, parse_off HK.out HNo.out, rfl, Ext.set4 (((Ext.refl w).alloc _).trans X3) (by first | omega | simp) _ _ _ _⟩
  · have hN : Hid (NoCand s) := Lib.hid fun x hx hp => (by obtain ⟨v, q, _⟩ := HC.out x hx hp; exact hv v q)
    clear hv
    have bzf0 : w1.frozen? ⟨w.heap.size, 0, none⟩ = false := bz.free 0; have bzf1 : w1.frozen? ⟨w.heap.size, 1, none⟩ = false := bz.free 1; have bzf2 : w1.frozen? ⟨w.heap.size, 2, none⟩ = false := bz.free 2; have bzf3 : w1.frozen? ⟨w.heap.size, 3, none⟩ = false := bz.free 3
    have bz0 : w1.cell? ⟨w.heap.size, 0, none⟩ = some (.int .u8 (0)) := bz.cell 0; have bz1 : w1.cell? ⟨w.heap.size, 1, none⟩ = some (.bool (false)) := bz.cell 1; have bz2 : w1.cell? ⟨w.heap.size, 2, none⟩ = some (.int .i64 (0)) := bz.cell 2; have bz3 : w1.cell? ⟨w.heap.size, 3, none⟩ = some (.string (⟨#[]⟩)) := bz.cell 3
    go_wp2
    have q := bz.set4 (.int .u8 (0)) (.bool (false)) (.int .i64 (0)) (.string (⟨#[]⟩)); refine bodyPost_ret (v := .tuple #[.agg #[.int .u8 (0), .bool (false), .int .i64 (0), .string (⟨#[]⟩)], .int .u16 (13)]) (by simp [results, Tryz.results16, go_sem, q.1, q.2.1, q.2.2.1, q.2.2.2]) rfl ⟨⟨0, false, 0, ⟨#[]⟩⟩, 13, .inr ⟨rfl, rfl, hN.out⟩, rfl, Ext.set4 (((Ext.refl w).alloc _).trans X1) (by first | omega | simp) _ _ _ _⟩
set_option maxRecDepth 100000 in
set_option maxHeartbeats 4000000 in
theorem parse_num_c (s : ByteArray) (w : World) (hs : s.size ≤ 140737488355328) (h1 : (s.toList == [110, 117, 108, 108]) = false) (h2 : (s.toList == [116, 114, 117, 101]) = false) (h3 : (s.toList == [102, 97, 108, 115, 101]) = false) (hc : ∀ x : Dat, Ok x → printT x.k x.b x.n x.s = s → ∃ v, parseOk s v ∧ x = ⟨3, false, v, ⟨#[]⟩⟩) (hv64 : ∀ v, parseOk s v → In64 v) (h4 : s.size < 2) (G : Good3 w) :
    Calls Tryz.prog 16 #[.string s] w fun e w' => ∃ d x, ParseRel s d x ∧ Out w (d, x) e w' := by
  have HC := Lib.hid hc
  have HV := Lib.hid hv64
  clear hc hv64
  go_enter Tryz.func16, Tryz.ntmps16
  go_wp2_with fail
  refine (parseInt_any s _ (by omega) (G.ext (((Ext.refl w).alloc _).alloc _))).mono ?_
  rintro e w1 ⟨he, x1⟩
  have X1 : Ext (w.alloc (.cells #[.int .u8 0, .bool false, .int .i64 0, .string ⟨#[]⟩] 47)) w1 := ((Ext.refl _).alloc _).trans x1
  have bd : Bk w1 (w.heap.size + 1) 47 #[.int .u8 0, .bool false, .int .i64 0, .string ⟨#[]⟩] := (Bk.at (by simp)).ext x1
  have s1 := X1.size
  have bz : Bk w1 w.heap.size 47 #[.int .u8 0, .bool false, .int .i64 0, .string ⟨#[]⟩] := (Bk.new w _ _).ext X1
  rcases he with ⟨v, hv, rfl⟩ | ⟨hv, n, t, p, rfl⟩
  · have hn := HV.out v hv
    have hcand : Cand s ⟨3, false, v, ⟨#[]⟩⟩ := fun x hx hp => (by obtain ⟨u, q, e⟩ := HC.out x hx hp; obtain rfl : v = u := (by unfold parseOk at hv q; rw [hv] at q; injection q); exact e)
    have hck : checkT 3 false v ⟨#[]⟩ = 0 := by rw [checkT_on ⟨.inr (.inr (.inl rfl)), fun _ => rfl, fun h => absurd rfl h, fun _ => rfl⟩]; decide +kernel
    have HN := Lib.hid hn; have HK := Lib.hid hcand; have HC2 := Lib.hid hck
    clear hn hcand hck hv
    by_cases hp : printT 3 false v ⟨#[]⟩ = s
    · have HP := Lib.hid hp
      clear hp
      go_wp2_with (first
        | (go_at_call 35; refine (number_any _ _).mono ?_; rintro r w2 ⟨rfl, x2⟩; have Y1 : Ext (w.alloc (.cells #[.int .u8 0, .bool false, .int .i64 0, .string ⟨#[]⟩] 47)) w2 := X1.trans x2; have be : Bk w2 (w.heap.size + 1) 47 #[.int .u8 0, .bool false, .int .i64 0, .string ⟨#[]⟩] := bd.ext x2; have s2 := Y1.size; have bef0 : w2.frozen? ⟨w.heap.size + 1, 0, none⟩ = false := be.free 0; have bef1 : w2.frozen? ⟨w.heap.size + 1, 1, none⟩ = false := be.free 1; have bef2 : w2.frozen? ⟨w.heap.size + 1, 2, none⟩ = false := be.free 2; have bef3 : w2.frozen? ⟨w.heap.size + 1, 3, none⟩ = false := be.free 3; have be0 : w2.cell? ⟨w.heap.size + 1, 0, none⟩ = some (.int .u8 (0)) := be.cell 0; have be1 : w2.cell? ⟨w.heap.size + 1, 1, none⟩ = some (.bool (false)) := be.cell 1; have be2 : w2.cell? ⟨w.heap.size + 1, 2, none⟩ = some (.int .i64 (0)) := be.cell 2; have be3 : w2.cell? ⟨w.heap.size + 1, 3, none⟩ = some (.string (⟨#[]⟩)) := be.cell 3; have be4 := be.set4 (.int .u8 (3)) (.bool false) (.int .i64 v) (.string ⟨#[]⟩); have d0 := be4.1; have d1 := be4.2.1; have d2 := be4.2.2.1; have d3 := be4.2.2.2; have X1s := Lib.hid (Y1.set4 (g := w.heap.size + 1) (by simp) (.int .u8 (3)) (.bool false) (.int .i64 v) (.string ⟨#[]⟩)); clear be4)
        | (go_at_call 25; refine (checkK _ HC2 (by decide) (G.good.good.ext (((Ext.refl w).alloc _).trans X1s.out))).mono ?_; rintro r w3 ⟨rfl, x3⟩; have X2 : Ext (w.alloc (.cells #[.int .u8 0, .bool false, .int .i64 0, .string ⟨#[]⟩] 47)) w3 := X1s.out.trans x3; have bf : Bk w3 (w.heap.size + 1) 47 #[.int .u8 3, .bool false, .int .i64 v, .string ⟨#[]⟩] := ((((be.set 0 _).set 1 _).set 2 _).set 3 _).ext x3; have bf0 : w3.cell? ⟨w.heap.size + 1, 0, none⟩ = some (.int .u8 (3)) := bf.cell 0; have bf1 : w3.cell? ⟨w.heap.size + 1, 1, none⟩ = some (.bool (false)) := bf.cell 1; have bf2 : w3.cell? ⟨w.heap.size + 1, 2, none⟩ = some (.int .i64 (v)) := bf.cell 2; have bf3 : w3.cell? ⟨w.heap.size + 1, 3, none⟩ = some (.string (⟨#[]⟩)) := bf.cell 3)
        | (go_at_call 23; refine (printK _ HP (by decide) HN.out (G.good.ext (((Ext.refl w).alloc _).trans X2))).mono ?_; rintro r w4 ⟨rfl, x4⟩; have X3 : Ext (w.alloc (.cells #[.int .u8 0, .bool false, .int .i64 0, .string ⟨#[]⟩] 47)) w4 := X2.trans x4; have bg : Bk w4 (w.heap.size + 1) 47 #[.int .u8 3, .bool false, .int .i64 v, .string ⟨#[]⟩] := bf.ext x4; have bh : Bk w4 w.heap.size 47 #[.int .u8 0, .bool false, .int .i64 0, .string ⟨#[]⟩] := (Bk.new w _ _).ext X3; have bg0 : w4.cell? ⟨w.heap.size + 1, 0, none⟩ = some (.int .u8 (3)) := bg.cell 0; have bg1 : w4.cell? ⟨w.heap.size + 1, 1, none⟩ = some (.bool (false)) := bg.cell 1; have bg2 : w4.cell? ⟨w.heap.size + 1, 2, none⟩ = some (.int .i64 (v)) := bg.cell 2; have bg3 : w4.cell? ⟨w.heap.size + 1, 3, none⟩ = some (.string (⟨#[]⟩)) := bg.cell 3; have bhf0 : w4.frozen? ⟨w.heap.size, 0, none⟩ = false := bh.free 0; have bhf1 : w4.frozen? ⟨w.heap.size, 1, none⟩ = false := bh.free 1; have bhf2 : w4.frozen? ⟨w.heap.size, 2, none⟩ = false := bh.free 2; have bhf3 : w4.frozen? ⟨w.heap.size, 3, none⟩ = false := bh.free 3; have bh0 : w4.cell? ⟨w.heap.size, 0, none⟩ = some (.int .u8 (0)) := bh.cell 0; have bh1 : w4.cell? ⟨w.heap.size, 1, none⟩ = some (.bool (false)) := bh.cell 1; have bh2 : w4.cell? ⟨w.heap.size, 2, none⟩ = some (.int .i64 (0)) := bh.cell 2; have bh3 : w4.cell? ⟨w.heap.size, 3, none⟩ = some (.string (⟨#[]⟩)) := bh.cell 3))
      have q := bh.set4 (.int .u8 (3)) (.bool (false)) (.int .i64 (v)) (.string (⟨#[]⟩)); refine bodyPost_ret (v := .tuple #[.agg #[.int .u8 (3), .bool (false), .int .i64 (v), .string (⟨#[]⟩)], .int .u16 (0)]) (by simp [results, Tryz.results16, go_sem, q.1, q.2.1, q.2.2.1, q.2.2.2]) rfl ⟨⟨3, false, v, ⟨#[]⟩⟩, 0, parse_on ⟨HC2.out, HN.out⟩ HP.out, rfl, Ext.set4 (((Ext.refl w).alloc _).trans X3) (by first | omega | simp) _ _ _ _⟩
    · obtain ⟨p, hpp⟩ : ∃ p, printT 3 false v ⟨#[]⟩ = p := ⟨_, rfl⟩
      have HNo : Hid (¬ (Ok ⟨3, false, v, ⟨#[]⟩⟩ ∧ printT 3 false v ⟨#[]⟩ = s)) := Lib.hid fun h => hp h.2
      rw [hpp] at hp
      have HP := Lib.hid hpp
      have hpl : ¬ p.toList = s.toList := fun h => hp (data_inj (by rw [Lib.toList_data, Lib.toList_data] at h; exact h))
      have zp : (!(p.toList == s.toList)) = true := by simpa using hpl
      have zq : (p.toList == s.toList) = false := by simpa using hpl
      clear hpp
      go_wp2_with (first
        | (go_at_call 35; refine (number_any _ _).mono ?_; rintro r w2 ⟨rfl, x2⟩; have Y1 : Ext (w.alloc (.cells #[.int .u8 0, .bool false, .int .i64 0, .string ⟨#[]⟩] 47)) w2 := X1.trans x2; have be : Bk w2 (w.heap.size + 1) 47 #[.int .u8 0, .bool false, .int .i64 0, .string ⟨#[]⟩] := bd.ext x2; have s2 := Y1.size; have bef0 : w2.frozen? ⟨w.heap.size + 1, 0, none⟩ = false := be.free 0; have bef1 : w2.frozen? ⟨w.heap.size + 1, 1, none⟩ = false := be.free 1; have bef2 : w2.frozen? ⟨w.heap.size + 1, 2, none⟩ = false := be.free 2; have bef3 : w2.frozen? ⟨w.heap.size + 1, 3, none⟩ = false := be.free 3; have be0 : w2.cell? ⟨w.heap.size + 1, 0, none⟩ = some (.int .u8 (0)) := be.cell 0; have be1 : w2.cell? ⟨w.heap.size + 1, 1, none⟩ = some (.bool (false)) := be.cell 1; have be2 : w2.cell? ⟨w.heap.size + 1, 2, none⟩ = some (.int .i64 (0)) := be.cell 2; have be3 : w2.cell? ⟨w.heap.size + 1, 3, none⟩ = some (.string (⟨#[]⟩)) := be.cell 3; have be4 := be.set4 (.int .u8 (3)) (.bool false) (.int .i64 v) (.string ⟨#[]⟩); have d0 := be4.1; have d1 := be4.2.1; have d2 := be4.2.2.1; have d3 := be4.2.2.2; have X1s := Lib.hid (Y1.set4 (g := w.heap.size + 1) (by simp) (.int .u8 (3)) (.bool false) (.int .i64 v) (.string ⟨#[]⟩)); clear be4)
        | (go_at_call 25; refine (checkK _ HC2 (by decide) (G.good.good.ext (((Ext.refl w).alloc _).trans X1s.out))).mono ?_; rintro r w3 ⟨rfl, x3⟩; have X2 : Ext (w.alloc (.cells #[.int .u8 0, .bool false, .int .i64 0, .string ⟨#[]⟩] 47)) w3 := X1s.out.trans x3; have bf : Bk w3 (w.heap.size + 1) 47 #[.int .u8 3, .bool false, .int .i64 v, .string ⟨#[]⟩] := ((((be.set 0 _).set 1 _).set 2 _).set 3 _).ext x3; have bf0 : w3.cell? ⟨w.heap.size + 1, 0, none⟩ = some (.int .u8 (3)) := bf.cell 0; have bf1 : w3.cell? ⟨w.heap.size + 1, 1, none⟩ = some (.bool (false)) := bf.cell 1; have bf2 : w3.cell? ⟨w.heap.size + 1, 2, none⟩ = some (.int .i64 (v)) := bf.cell 2; have bf3 : w3.cell? ⟨w.heap.size + 1, 3, none⟩ = some (.string (⟨#[]⟩)) := bf.cell 3)
        | (go_at_call 23; refine (printK _ HP (by decide) HN.out (G.good.ext (((Ext.refl w).alloc _).trans X2))).mono ?_; rintro r w4 ⟨rfl, x4⟩; have X3 : Ext (w.alloc (.cells #[.int .u8 0, .bool false, .int .i64 0, .string ⟨#[]⟩] 47)) w4 := X2.trans x4; have bg : Bk w4 (w.heap.size + 1) 47 #[.int .u8 3, .bool false, .int .i64 v, .string ⟨#[]⟩] := bf.ext x4; have bh : Bk w4 w.heap.size 47 #[.int .u8 0, .bool false, .int .i64 0, .string ⟨#[]⟩] := (Bk.new w _ _).ext X3; have bg0 : w4.cell? ⟨w.heap.size + 1, 0, none⟩ = some (.int .u8 (3)) := bg.cell 0; have bg1 : w4.cell? ⟨w.heap.size + 1, 1, none⟩ = some (.bool (false)) := bg.cell 1; have bg2 : w4.cell? ⟨w.heap.size + 1, 2, none⟩ = some (.int .i64 (v)) := bg.cell 2; have bg3 : w4.cell? ⟨w.heap.size + 1, 3, none⟩ = some (.string (⟨#[]⟩)) := bg.cell 3; have bhf0 : w4.frozen? ⟨w.heap.size, 0, none⟩ = false := bh.free 0; have bhf1 : w4.frozen? ⟨w.heap.size, 1, none⟩ = false := bh.free 1; have bhf2 : w4.frozen? ⟨w.heap.size, 2, none⟩ = false := bh.free 2; have bhf3 : w4.frozen? ⟨w.heap.size, 3, none⟩ = false := bh.free 3; have bh0 : w4.cell? ⟨w.heap.size, 0, none⟩ = some (.int .u8 (0)) := bh.cell 0; have bh1 : w4.cell? ⟨w.heap.size, 1, none⟩ = some (.bool (false)) := bh.cell 1; have bh2 : w4.cell? ⟨w.heap.size, 2, none⟩ = some (.int .i64 (0)) := bh.cell 2; have bh3 : w4.cell? ⟨w.heap.size, 3, none⟩ = some (.string (⟨#[]⟩)) := bh.cell 3))
      have q := bh.set4 (.int .u8 (0)) (.bool (false)) (.int .i64 (0)) (.string (⟨#[]⟩)); refine bodyPost_ret (v := .tuple #[.agg #[.int .u8 (0), .bool (false), .int .i64 (0), .string (⟨#[]⟩)], .int .u16 (13)]) (by simp [results, Tryz.results16, go_sem, q.1, q.2.1, q.2.2.1, q.2.2.2]) rfl ⟨⟨0, false, 0, ⟨#[]⟩⟩, 13, parse_off HK.out HNo.out, rfl, Ext.set4 (((Ext.refl w).alloc _).trans X3) (by first | omega | simp) _ _ _ _⟩
  · have hN : Hid (NoCand s) := Lib.hid fun x hx hp => (by obtain ⟨v, q, _⟩ := HC.out x hx hp; exact hv v q)
    clear hv
    have bzf0 : w1.frozen? ⟨w.heap.size, 0, none⟩ = false := bz.free 0; have bzf1 : w1.frozen? ⟨w.heap.size, 1, none⟩ = false := bz.free 1; have bzf2 : w1.frozen? ⟨w.heap.size, 2, none⟩ = false := bz.free 2; have bzf3 : w1.frozen? ⟨w.heap.size, 3, none⟩ = false := bz.free 3
    have bz0 : w1.cell? ⟨w.heap.size, 0, none⟩ = some (.int .u8 (0)) := bz.cell 0; have bz1 : w1.cell? ⟨w.heap.size, 1, none⟩ = some (.bool (false)) := bz.cell 1; have bz2 : w1.cell? ⟨w.heap.size, 2, none⟩ = some (.int .i64 (0)) := bz.cell 2; have bz3 : w1.cell? ⟨w.heap.size, 3, none⟩ = some (.string (⟨#[]⟩)) := bz.cell 3
    go_wp2
    have q := bz.set4 (.int .u8 (0)) (.bool (false)) (.int .i64 (0)) (.string (⟨#[]⟩)); refine bodyPost_ret (v := .tuple #[.agg #[.int .u8 (0), .bool (false), .int .i64 (0), .string (⟨#[]⟩)], .int .u16 (13)]) (by simp [results, Tryz.results16, go_sem, q.1, q.2.1, q.2.2.1, q.2.2.2]) rfl ⟨⟨0, false, 0, ⟨#[]⟩⟩, 13, .inr ⟨rfl, rfl, hN.out⟩, rfl, Ext.set4 (((Ext.refl w).alloc _).trans X1) (by first | omega | simp) _ _ _ _⟩
set_option maxRecDepth 100000 in
set_option maxHeartbeats 4000000 in
theorem parse_num_b (s : ByteArray) (w : World) (hs : s.size ≤ 140737488355328) (h1 : (s.toList == [110, 117, 108, 108]) = false) (h2 : (s.toList == [116, 114, 117, 101]) = false) (h3 : (s.toList == [102, 97, 108, 115, 101]) = false) (hc : ∀ x : Dat, Ok x → printT x.k x.b x.n x.s = s → ∃ v, parseOk s v ∧ x = ⟨3, false, v, ⟨#[]⟩⟩) (hv64 : ∀ v, parseOk s v → In64 v) (h4 : 2 ≤ s.size) (h5 : s[0].toNat = 39) (h6 : ¬ s[s.size - 1].toNat = 39) (G : Good3 w) :
    Calls Tryz.prog 16 #[.string s] w fun e w' => ∃ d x, ParseRel s d x ∧ Out w (d, x) e w' := by
  have HC := Lib.hid hc
  have HV := Lib.hid hv64
  clear hc hv64
  have z5 : ((s[0].toNat : Int) == 39) = true := by simp; omega
  have z6 : ((s[s.size - 1].toNat : Int) == 39) = false := by simp; omega
  go_enter Tryz.func16, Tryz.ntmps16
  go_wp2_with fail
  refine (parseInt_any s _ (by omega) (G.ext (((Ext.refl w).alloc _).alloc _))).mono ?_
  rintro e w1 ⟨he, x1⟩
  have X1 : Ext (w.alloc (.cells #[.int .u8 0, .bool false, .int .i64 0, .string ⟨#[]⟩] 47)) w1 := ((Ext.refl _).alloc _).trans x1
  have bd : Bk w1 (w.heap.size + 1) 47 #[.int .u8 0, .bool false, .int .i64 0, .string ⟨#[]⟩] := (Bk.at (by simp)).ext x1
  have s1 := X1.size
  have bz : Bk w1 w.heap.size 47 #[.int .u8 0, .bool false, .int .i64 0, .string ⟨#[]⟩] := (Bk.new w _ _).ext X1
  rcases he with ⟨v, hv, rfl⟩ | ⟨hv, n, t, p, rfl⟩
  · have hn := HV.out v hv
    have hcand : Cand s ⟨3, false, v, ⟨#[]⟩⟩ := fun x hx hp => (by obtain ⟨u, q, e⟩ := HC.out x hx hp; obtain rfl : v = u := (by unfold parseOk at hv q; rw [hv] at q; injection q); exact e)
    have hck : checkT 3 false v ⟨#[]⟩ = 0 := by rw [checkT_on ⟨.inr (.inr (.inl rfl)), fun _ => rfl, fun h => absurd rfl h, fun _ => rfl⟩]; decide +kernel
    have HN := Lib.hid hn; have HK := Lib.hid hcand; have HC2 := Lib.hid hck
    clear hn hcand hck hv
    by_cases hp : printT 3 false v ⟨#[]⟩ = s
    · have HP := Lib.hid hp
      clear hp
      go_wp2_with (first
        | (go_at_call 35; refine (number_any _ _).mono ?_; rintro r w2 ⟨rfl, x2⟩; have Y1 : Ext (w.alloc (.cells #[.int .u8 0, .bool false, .int .i64 0, .string ⟨#[]⟩] 47)) w2 := X1.trans x2; have be : Bk w2 (w.heap.size + 1) 47 #[.int .u8 0, .bool false, .int .i64 0, .string ⟨#[]⟩] := bd.ext x2; have s2 := Y1.size; have bef0 : w2.frozen? ⟨w.heap.size + 1, 0, none⟩ = false := be.free 0; have bef1 : w2.frozen? ⟨w.heap.size + 1, 1, none⟩ = false := be.free 1; have bef2 : w2.frozen? ⟨w.heap.size + 1, 2, none⟩ = false := be.free 2; have bef3 : w2.frozen? ⟨w.heap.size + 1, 3, none⟩ = false := be.free 3; have be0 : w2.cell? ⟨w.heap.size + 1, 0, none⟩ = some (.int .u8 (0)) := be.cell 0; have be1 : w2.cell? ⟨w.heap.size + 1, 1, none⟩ = some (.bool (false)) := be.cell 1; have be2 : w2.cell? ⟨w.heap.size + 1, 2, none⟩ = some (.int .i64 (0)) := be.cell 2; have be3 : w2.cell? ⟨w.heap.size + 1, 3, none⟩ = some (.string (⟨#[]⟩)) := be.cell 3; have be4 := be.set4 (.int .u8 (3)) (.bool false) (.int .i64 v) (.string ⟨#[]⟩); have d0 := be4.1; have d1 := be4.2.1; have d2 := be4.2.2.1; have d3 := be4.2.2.2; have X1s := Lib.hid (Y1.set4 (g := w.heap.size + 1) (by simp) (.int .u8 (3)) (.bool false) (.int .i64 v) (.string ⟨#[]⟩)); clear be4)
        | (go_at_call 25; refine (checkK _ HC2 (by decide) (G.good.good.ext (((Ext.refl w).alloc _).trans X1s.out))).mono ?_; rintro r w3 ⟨rfl, x3⟩; have X2 : Ext (w.alloc (.cells #[.int .u8 0, .bool false, .int .i64 0, .string ⟨#[]⟩] 47)) w3 := X1s.out.trans x3; have bf : Bk w3 (w.heap.size + 1) 47 #[.int .u8 3, .bool false, .int .i64 v, .string ⟨#[]⟩] := ((((be.set 0 _).set 1 _).set 2 _).set 3 _).ext x3; have bf0 : w3.cell? ⟨w.heap.size + 1, 0, none⟩ = some (.int .u8 (3)) := bf.cell 0; have bf1 : w3.cell? ⟨w.heap.size + 1, 1, none⟩ = some (.bool (false)) := bf.cell 1; have bf2 : w3.cell? ⟨w.heap.size + 1, 2, none⟩ = some (.int .i64 (v)) := bf.cell 2; have bf3 : w3.cell? ⟨w.heap.size + 1, 3, none⟩ = some (.string (⟨#[]⟩)) := bf.cell 3)
        | (go_at_call 23; refine (printK _ HP (by decide) HN.out (G.good.ext (((Ext.refl w).alloc _).trans X2))).mono ?_; rintro r w4 ⟨rfl, x4⟩; have X3 : Ext (w.alloc (.cells #[.int .u8 0, .bool false, .int .i64 0, .string ⟨#[]⟩] 47)) w4 := X2.trans x4; have bg : Bk w4 (w.heap.size + 1) 47 #[.int .u8 3, .bool false, .int .i64 v, .string ⟨#[]⟩] := bf.ext x4; have bh : Bk w4 w.heap.size 47 #[.int .u8 0, .bool false, .int .i64 0, .string ⟨#[]⟩] := (Bk.new w _ _).ext X3; have bg0 : w4.cell? ⟨w.heap.size + 1, 0, none⟩ = some (.int .u8 (3)) := bg.cell 0; have bg1 : w4.cell? ⟨w.heap.size + 1, 1, none⟩ = some (.bool (false)) := bg.cell 1; have bg2 : w4.cell? ⟨w.heap.size + 1, 2, none⟩ = some (.int .i64 (v)) := bg.cell 2; have bg3 : w4.cell? ⟨w.heap.size + 1, 3, none⟩ = some (.string (⟨#[]⟩)) := bg.cell 3; have bhf0 : w4.frozen? ⟨w.heap.size, 0, none⟩ = false := bh.free 0; have bhf1 : w4.frozen? ⟨w.heap.size, 1, none⟩ = false := bh.free 1; have bhf2 : w4.frozen? ⟨w.heap.size, 2, none⟩ = false := bh.free 2; have bhf3 : w4.frozen? ⟨w.heap.size, 3, none⟩ = false := bh.free 3; have bh0 : w4.cell? ⟨w.heap.size, 0, none⟩ = some (.int .u8 (0)) := bh.cell 0; have bh1 : w4.cell? ⟨w.heap.size, 1, none⟩ = some (.bool (false)) := bh.cell 1; have bh2 : w4.cell? ⟨w.heap.size, 2, none⟩ = some (.int .i64 (0)) := bh.cell 2; have bh3 : w4.cell? ⟨w.heap.size, 3, none⟩ = some (.string (⟨#[]⟩)) := bh.cell 3))
      have q := bh.set4 (.int .u8 (3)) (.bool (false)) (.int .i64 (v)) (.string (⟨#[]⟩)); refine bodyPost_ret (v := .tuple #[.agg #[.int .u8 (3), .bool (false), .int .i64 (v), .string (⟨#[]⟩)], .int .u16 (0)]) (by simp [results, Tryz.results16, go_sem, q.1, q.2.1, q.2.2.1, q.2.2.2]) rfl ⟨⟨3, false, v, ⟨#[]⟩⟩, 0, parse_on ⟨HC2.out, HN.out⟩ HP.out, rfl, Ext.set4 (((Ext.refl w).alloc _).trans X3) (by first | omega | simp) _ _ _ _⟩
    · obtain ⟨p, hpp⟩ : ∃ p, printT 3 false v ⟨#[]⟩ = p := ⟨_, rfl⟩
      have HNo : Hid (¬ (Ok ⟨3, false, v, ⟨#[]⟩⟩ ∧ printT 3 false v ⟨#[]⟩ = s)) := Lib.hid fun h => hp h.2
      rw [hpp] at hp
      have HP := Lib.hid hpp
      have hpl : ¬ p.toList = s.toList := fun h => hp (data_inj (by rw [Lib.toList_data, Lib.toList_data] at h; exact h))
      have zp : (!(p.toList == s.toList)) = true := by simpa using hpl
      have zq : (p.toList == s.toList) = false := by simpa using hpl
      clear hpp
      go_wp2_with (first
        | (go_at_call 35; refine (number_any _ _).mono ?_; rintro r w2 ⟨rfl, x2⟩; have Y1 : Ext (w.alloc (.cells #[.int .u8 0, .bool false, .int .i64 0, .string ⟨#[]⟩] 47)) w2 := X1.trans x2; have be : Bk w2 (w.heap.size + 1) 47 #[.int .u8 0, .bool false, .int .i64 0, .string ⟨#[]⟩] := bd.ext x2; have s2 := Y1.size; have bef0 : w2.frozen? ⟨w.heap.size + 1, 0, none⟩ = false := be.free 0; have bef1 : w2.frozen? ⟨w.heap.size + 1, 1, none⟩ = false := be.free 1; have bef2 : w2.frozen? ⟨w.heap.size + 1, 2, none⟩ = false := be.free 2; have bef3 : w2.frozen? ⟨w.heap.size + 1, 3, none⟩ = false := be.free 3; have be0 : w2.cell? ⟨w.heap.size + 1, 0, none⟩ = some (.int .u8 (0)) := be.cell 0; have be1 : w2.cell? ⟨w.heap.size + 1, 1, none⟩ = some (.bool (false)) := be.cell 1; have be2 : w2.cell? ⟨w.heap.size + 1, 2, none⟩ = some (.int .i64 (0)) := be.cell 2; have be3 : w2.cell? ⟨w.heap.size + 1, 3, none⟩ = some (.string (⟨#[]⟩)) := be.cell 3; have be4 := be.set4 (.int .u8 (3)) (.bool false) (.int .i64 v) (.string ⟨#[]⟩); have d0 := be4.1; have d1 := be4.2.1; have d2 := be4.2.2.1; have d3 := be4.2.2.2; have X1s := Lib.hid (Y1.set4 (g := w.heap.size + 1) (by simp) (.int .u8 (3)) (.bool false) (.int .i64 v) (.string ⟨#[]⟩)); clear be4)
        | (go_at_call 25; refine (checkK _ HC2 (by decide) (G.good.good.ext (((Ext.refl w).alloc _).trans X1s.out))).mono ?_; rintro r w3 ⟨rfl, x3⟩; have X2 : Ext (w.alloc (.cells #[.int .u8 0, .bool false, .int .i64 0, .string ⟨#[]⟩] 47)) w3 := X1s.out.trans x3; have bf : Bk w3 (w.heap.size + 1) 47 #[.int .u8 3, .bool false, .int .i64 v, .string ⟨#[]⟩] := ((((be.set 0 _).set 1 _).set 2 _).set 3 _).ext x3; have bf0 : w3.cell? ⟨w.heap.size + 1, 0, none⟩ = some (.int .u8 (3)) := bf.cell 0; have bf1 : w3.cell? ⟨w.heap.size + 1, 1, none⟩ = some (.bool (false)) := bf.cell 1; have bf2 : w3.cell? ⟨w.heap.size + 1, 2, none⟩ = some (.int .i64 (v)) := bf.cell 2; have bf3 : w3.cell? ⟨w.heap.size + 1, 3, none⟩ = some (.string (⟨#[]⟩)) := bf.cell 3)
        | (go_at_call 23; refine (printK _ HP (by decide) HN.out (G.good.ext (((Ext.refl w).alloc _).trans X2))).mono ?_; rintro r w4 ⟨rfl, x4⟩; have X3 : Ext (w.alloc (.cells #[.int .u8 0, .bool false, .int .i64 0, .string ⟨#[]⟩] 47)) w4 := X2.trans x4; have bg : Bk w4 (w.heap.size + 1) 47 #[.int .u8 3, .bool false, .int .i64 v, .string ⟨#[]⟩] := bf.ext x4; have bh : Bk w4 w.heap.size 47 #[.int .u8 0, .bool false, .int .i64 0, .string ⟨#[]⟩] := (Bk.new w _ _).ext X3; have bg0 : w4.cell? ⟨w.heap.size + 1, 0, none⟩ = some (.int .u8 (3)) := bg.cell 0; have bg1 : w4.cell? ⟨w.heap.size + 1, 1, none⟩ = some (.bool (false)) := bg.cell 1; have bg2 : w4.cell? ⟨w.heap.size + 1, 2, none⟩ = some (.int .i64 (v)) := bg.cell 2; have bg3 : w4.cell? ⟨w.heap.size + 1, 3, none⟩ = some (.string (⟨#[]⟩)) := bg.cell 3; have bhf0 : w4.frozen? ⟨w.heap.size, 0, none⟩ = false := bh.free 0; have bhf1 : w4.frozen? ⟨w.heap.size, 1, none⟩ = false := bh.free 1; have bhf2 : w4.frozen? ⟨w.heap.size, 2, none⟩ = false := bh.free 2; have bhf3 : w4.frozen? ⟨w.heap.size, 3, none⟩ = false := bh.free 3; have bh0 : w4.cell? ⟨w.heap.size, 0, none⟩ = some (.int .u8 (0)) := bh.cell 0; have bh1 : w4.cell? ⟨w.heap.size, 1, none⟩ = some (.bool (false)) := bh.cell 1; have bh2 : w4.cell? ⟨w.heap.size, 2, none⟩ = some (.int .i64 (0)) := bh.cell 2; have bh3 : w4.cell? ⟨w.heap.size, 3, none⟩ = some (.string (⟨#[]⟩)) := bh.cell 3))
      have q := bh.set4 (.int .u8 (0)) (.bool (false)) (.int .i64 (0)) (.string (⟨#[]⟩)); refine bodyPost_ret (v := .tuple #[.agg #[.int .u8 (0), .bool (false), .int .i64 (0), .string (⟨#[]⟩)], .int .u16 (13)]) (by simp [results, Tryz.results16, go_sem, q.1, q.2.1, q.2.2.1, q.2.2.2]) rfl ⟨⟨0, false, 0, ⟨#[]⟩⟩, 13, parse_off HK.out HNo.out, rfl, Ext.set4 (((Ext.refl w).alloc _).trans X3) (by first | omega | simp) _ _ _ _⟩
  · have hN : Hid (NoCand s) := Lib.hid fun x hx hp => (by obtain ⟨v, q, _⟩ := HC.out x hx hp; exact hv v q)
    clear hv
    have bzf0 : w1.frozen? ⟨w.heap.size, 0, none⟩ = false := bz.free 0; have bzf1 : w1.frozen? ⟨w.heap.size, 1, none⟩ = false := bz.free 1; have bzf2 : w1.frozen? ⟨w.heap.size, 2, none⟩ = false := bz.free 2; have bzf3 : w1.frozen? ⟨w.heap.size, 3, none⟩ = false := bz.free 3
    have bz0 : w1.cell? ⟨w.heap.size, 0, none⟩ = some (.int .u8 (0)) := bz.cell 0; have bz1 : w1.cell? ⟨w.heap.size, 1, none⟩ = some (.bool (false)) := bz.cell 1; have bz2 : w1.cell? ⟨w.heap.size, 2, none⟩ = some (.int .i64 (0)) := bz.cell 2; have bz3 : w1.cell? ⟨w.heap.size, 3, none⟩ = some (.string (⟨#[]⟩)) := bz.cell 3
    go_wp2
    have q := bz.set4 (.int .u8 (0)) (.bool (false)) (.int .i64 (0)) (.string (⟨#[]⟩)); refine bodyPost_ret (v := .tuple #[.agg #[.int .u8 (0), .bool (false), .int .i64 (0), .string (⟨#[]⟩)], .int .u16 (13)]) (by simp [results, Tryz.results16, go_sem, q.1, q.2.1, q.2.2.1, q.2.2.2]) rfl ⟨⟨0, false, 0, ⟨#[]⟩⟩, 13, .inr ⟨rfl, rfl, hN.out⟩, rfl, Ext.set4 (((Ext.refl w).alloc _).trans X1) (by first | omega | simp) _ _ _ _⟩
end Go.Proofs.YtngeioghihbkeaaGreatDoor
namespace Go.Proofs.YtngeioghihbkeaaGreatDoor
open Go.RowKit

set_option maxRecDepth 100000 in
set_option maxHeartbeats 4000000 in
theorem parse_text (s : ByteArray) (w : World) (hs : s.size ≤ 140737488355328) (h1 : (s.toList == [110, 117, 108, 108]) = false) (h2 : (s.toList == [116, 114, 117, 101]) = false) (h3 : (s.toList == [102, 97, 108, 115, 101]) = false) (h4 : 2 ≤ s.size) (h5 : s[0].toNat = 39) (h6 : s[s.size - 1].toNat = 39)
    (hc : ∀ (t : ByteArray) (ok : Bool), Unq (s.extract 1 (s.size - 1)) t ok → ∀ x : Dat, Ok x → printT x.k x.b x.n x.s = s → x = ⟨4, false, 0, t⟩ ∧ ok = true) (G : Good3 w) :
    Calls Tryz.prog 16 #[.string s] w fun e w' => ∃ d x, ParseRel s d x ∧ Out w (d, x) e w' := by
  have z5 : ((s[0].toNat : Int) == 39) = true := by simp; omega
  have z6 : ((s[s.size - 1].toNat : Int) == 39) = true := by simp; omega
  have hz : (s.extract 1 (s.size - 1)).size ≤ s.size := by simp; omega
  have HZ := Lib.hid hz
  have HC := Lib.hid hc
  clear hc hz
  go_enter Tryz.func16, Tryz.ntmps16
  go_wp2_with fail
  refine (unquoted_any _ _ (by have := HZ.out; omega) (G.ext (((Ext.refl w).alloc _).alloc _))).mono ?_
  rintro e w1 ⟨⟨t, ok, rfl, hu, ht⟩, x1⟩
  have HU := Lib.hid (HC.out t ok hu)
  have ht4 : t.size ≤ 140737488355328 := by have := HZ.out; omega
  have HT := Lib.hid ht4
  clear hu ht ht4
  have X1 : Ext (w.alloc (.cells #[.int .u8 0, .bool false, .int .i64 0, .string ⟨#[]⟩] 47)) w1 := ((Ext.refl _).alloc _).trans x1
  have bd : Bk w1 (w.heap.size + 1) 47 #[.int .u8 0, .bool false, .int .i64 0, .string ⟨#[]⟩] := (Bk.at (by simp)).ext x1
  have s1 := X1.size
  have bz : Bk w1 w.heap.size 47 #[.int .u8 0, .bool false, .int .i64 0, .string ⟨#[]⟩] := (Bk.new w _ _).ext X1
  cases ok
  · have hN : Hid (NoCand s) := Lib.hid fun x hx hp => (by cases (HU.out x hx hp).2)
    have bzf0 : w1.frozen? ⟨w.heap.size, 0, none⟩ = false := bz.free 0; have bzf1 : w1.frozen? ⟨w.heap.size, 1, none⟩ = false := bz.free 1; have bzf2 : w1.frozen? ⟨w.heap.size, 2, none⟩ = false := bz.free 2; have bzf3 : w1.frozen? ⟨w.heap.size, 3, none⟩ = false := bz.free 3
    have bz0 : w1.cell? ⟨w.heap.size, 0, none⟩ = some (.int .u8 (0)) := bz.cell 0; have bz1 : w1.cell? ⟨w.heap.size, 1, none⟩ = some (.bool (false)) := bz.cell 1; have bz2 : w1.cell? ⟨w.heap.size, 2, none⟩ = some (.int .i64 (0)) := bz.cell 2; have bz3 : w1.cell? ⟨w.heap.size, 3, none⟩ = some (.string (⟨#[]⟩)) := bz.cell 3
    go_wp2
    have q := bz.set4 (.int .u8 (0)) (.bool (false)) (.int .i64 (0)) (.string (⟨#[]⟩)); refine bodyPost_ret (v := .tuple #[.agg #[.int .u8 (0), .bool (false), .int .i64 (0), .string (⟨#[]⟩)], .int .u16 (13)]) (by simp [results, Tryz.results16, go_sem, q.1, q.2.1, q.2.2.1, q.2.2.2]) rfl ⟨⟨0, false, 0, ⟨#[]⟩⟩, 13, .inr ⟨rfl, rfl, hN.out⟩, rfl, Ext.set4 (((Ext.refl w).alloc _).trans X1) (by first | omega | simp) _ _ _ _⟩
  · have HK : Hid (Cand s ⟨4, false, 0, t⟩) := Lib.hid fun x hx hp => (HU.out x hx hp).1
    have hn : In64 0 := by decide
    have HN := Lib.hid hn
    clear hn
    by_cases hk : checkT 4 false 0 t = 0
    · have HC2 := Lib.hid hk
      clear hk
      by_cases hp : printT 4 false 0 t = s
      · have HP := Lib.hid hp
        clear hp
        go_wp2_with (first
        | (go_at_call 33; refine (text_any _ _).mono ?_; rintro r w2 ⟨rfl, x2⟩; have Y1 : Ext (w.alloc (.cells #[.int .u8 0, .bool false, .int .i64 0, .string ⟨#[]⟩] 47)) w2 := X1.trans x2; have be : Bk w2 (w.heap.size + 1) 47 #[.int .u8 0, .bool false, .int .i64 0, .string ⟨#[]⟩] := bd.ext x2; have s2 := Y1.size; have bef0 : w2.frozen? ⟨w.heap.size + 1, 0, none⟩ = false := be.free 0; have bef1 : w2.frozen? ⟨w.heap.size + 1, 1, none⟩ = false := be.free 1; have bef2 : w2.frozen? ⟨w.heap.size + 1, 2, none⟩ = false := be.free 2; have bef3 : w2.frozen? ⟨w.heap.size + 1, 3, none⟩ = false := be.free 3; have be0 : w2.cell? ⟨w.heap.size + 1, 0, none⟩ = some (.int .u8 (0)) := be.cell 0; have be1 : w2.cell? ⟨w.heap.size + 1, 1, none⟩ = some (.bool (false)) := be.cell 1; have be2 : w2.cell? ⟨w.heap.size + 1, 2, none⟩ = some (.int .i64 (0)) := be.cell 2; have be3 : w2.cell? ⟨w.heap.size + 1, 3, none⟩ = some (.string (⟨#[]⟩)) := be.cell 3; have be4 := be.set4 (.int .u8 (4)) (.bool false) (.int .i64 0) (.string t); have d0 := be4.1; have d1 := be4.2.1; have d2 := be4.2.2.1; have d3 := be4.2.2.2; have X1s := Lib.hid (Y1.set4 (g := w.heap.size + 1) (by simp) (.int .u8 (4)) (.bool false) (.int .i64 0) (.string t)); clear be4)
        | (go_at_call 25; refine (checkK _ HC2 HT.out (G.good.good.ext (((Ext.refl w).alloc _).trans X1s.out))).mono ?_; rintro r w3 ⟨rfl, x3⟩; have X2 : Ext (w.alloc (.cells #[.int .u8 0, .bool false, .int .i64 0, .string ⟨#[]⟩] 47)) w3 := X1s.out.trans x3; have bf : Bk w3 (w.heap.size + 1) 47 #[.int .u8 4, .bool false, .int .i64 0, .string t] := ((((be.set 0 _).set 1 _).set 2 _).set 3 _).ext x3; have bf0 : w3.cell? ⟨w.heap.size + 1, 0, none⟩ = some (.int .u8 (4)) := bf.cell 0; have bf1 : w3.cell? ⟨w.heap.size + 1, 1, none⟩ = some (.bool (false)) := bf.cell 1; have bf2 : w3.cell? ⟨w.heap.size + 1, 2, none⟩ = some (.int .i64 (0)) := bf.cell 2; have bf3 : w3.cell? ⟨w.heap.size + 1, 3, none⟩ = some (.string (t)) := bf.cell 3)
        | (go_at_call 23; refine (printK _ HP HT.out HN.out (G.good.ext (((Ext.refl w).alloc _).trans X2))).mono ?_; rintro r w4 ⟨rfl, x4⟩; have X3 : Ext (w.alloc (.cells #[.int .u8 0, .bool false, .int .i64 0, .string ⟨#[]⟩] 47)) w4 := X2.trans x4; have bg : Bk w4 (w.heap.size + 1) 47 #[.int .u8 4, .bool false, .int .i64 0, .string t] := bf.ext x4; have bh : Bk w4 w.heap.size 47 #[.int .u8 0, .bool false, .int .i64 0, .string ⟨#[]⟩] := (Bk.new w _ _).ext X3; have bg0 : w4.cell? ⟨w.heap.size + 1, 0, none⟩ = some (.int .u8 (4)) := bg.cell 0; have bg1 : w4.cell? ⟨w.heap.size + 1, 1, none⟩ = some (.bool (false)) := bg.cell 1; have bg2 : w4.cell? ⟨w.heap.size + 1, 2, none⟩ = some (.int .i64 (0)) := bg.cell 2; have bg3 : w4.cell? ⟨w.heap.size + 1, 3, none⟩ = some (.string (t)) := bg.cell 3; have bhf0 : w4.frozen? ⟨w.heap.size, 0, none⟩ = false := bh.free 0; have bhf1 : w4.frozen? ⟨w.heap.size, 1, none⟩ = false := bh.free 1; have bhf2 : w4.frozen? ⟨w.heap.size, 2, none⟩ = false := bh.free 2; have bhf3 : w4.frozen? ⟨w.heap.size, 3, none⟩ = false := bh.free 3; have bh0 : w4.cell? ⟨w.heap.size, 0, none⟩ = some (.int .u8 (0)) := bh.cell 0; have bh1 : w4.cell? ⟨w.heap.size, 1, none⟩ = some (.bool (false)) := bh.cell 1; have bh2 : w4.cell? ⟨w.heap.size, 2, none⟩ = some (.int .i64 (0)) := bh.cell 2; have bh3 : w4.cell? ⟨w.heap.size, 3, none⟩ = some (.string (⟨#[]⟩)) := bh.cell 3))
        have q := bh.set4 (.int .u8 (4)) (.bool (false)) (.int .i64 (0)) (.string (t)); refine bodyPost_ret (v := .tuple #[.agg #[.int .u8 (4), .bool (false), .int .i64 (0), .string (t)], .int .u16 (0)]) (by simp [results, Tryz.results16, go_sem, q.1, q.2.1, q.2.2.1, q.2.2.2]) rfl ⟨⟨4, false, 0, t⟩, 0, parse_on ⟨HC2.out, HN.out⟩ HP.out, rfl, Ext.set4 (((Ext.refl w).alloc _).trans X3) (by first | omega | simp) _ _ _ _⟩
      · obtain ⟨p, hpp⟩ : ∃ p, printT 4 false 0 t = p := ⟨_, rfl⟩
        have HNo : Hid (¬ (Ok ⟨4, false, 0, t⟩ ∧ printT 4 false 0 t = s)) := Lib.hid fun h => hp h.2
        rw [hpp] at hp
        have HP := Lib.hid hpp
        have hpl : ¬ p.toList = s.toList := fun h => hp (data_inj (by rw [Lib.toList_data, Lib.toList_data] at h; exact h))
        have zp : (!(p.toList == s.toList)) = true := by simpa using hpl
        have zq : (p.toList == s.toList) = false := by simpa using hpl
        clear hpp
        go_wp2_with (first
        | (go_at_call 33; refine (text_any _ _).mono ?_; rintro r w2 ⟨rfl, x2⟩; have Y1 : Ext (w.alloc (.cells #[.int .u8 0, .bool false, .int .i64 0, .string ⟨#[]⟩] 47)) w2 := X1.trans x2; have be : Bk w2 (w.heap.size + 1) 47 #[.int .u8 0, .bool false, .int .i64 0, .string ⟨#[]⟩] := bd.ext x2; have s2 := Y1.size; have bef0 : w2.frozen? ⟨w.heap.size + 1, 0, none⟩ = false := be.free 0; have bef1 : w2.frozen? ⟨w.heap.size + 1, 1, none⟩ = false := be.free 1; have bef2 : w2.frozen? ⟨w.heap.size + 1, 2, none⟩ = false := be.free 2; have bef3 : w2.frozen? ⟨w.heap.size + 1, 3, none⟩ = false := be.free 3; have be0 : w2.cell? ⟨w.heap.size + 1, 0, none⟩ = some (.int .u8 (0)) := be.cell 0; have be1 : w2.cell? ⟨w.heap.size + 1, 1, none⟩ = some (.bool (false)) := be.cell 1; have be2 : w2.cell? ⟨w.heap.size + 1, 2, none⟩ = some (.int .i64 (0)) := be.cell 2; have be3 : w2.cell? ⟨w.heap.size + 1, 3, none⟩ = some (.string (⟨#[]⟩)) := be.cell 3; have be4 := be.set4 (.int .u8 (4)) (.bool false) (.int .i64 0) (.string t); have d0 := be4.1; have d1 := be4.2.1; have d2 := be4.2.2.1; have d3 := be4.2.2.2; have X1s := Lib.hid (Y1.set4 (g := w.heap.size + 1) (by simp) (.int .u8 (4)) (.bool false) (.int .i64 0) (.string t)); clear be4)
        | (go_at_call 25; refine (checkK _ HC2 HT.out (G.good.good.ext (((Ext.refl w).alloc _).trans X1s.out))).mono ?_; rintro r w3 ⟨rfl, x3⟩; have X2 : Ext (w.alloc (.cells #[.int .u8 0, .bool false, .int .i64 0, .string ⟨#[]⟩] 47)) w3 := X1s.out.trans x3; have bf : Bk w3 (w.heap.size + 1) 47 #[.int .u8 4, .bool false, .int .i64 0, .string t] := ((((be.set 0 _).set 1 _).set 2 _).set 3 _).ext x3; have bf0 : w3.cell? ⟨w.heap.size + 1, 0, none⟩ = some (.int .u8 (4)) := bf.cell 0; have bf1 : w3.cell? ⟨w.heap.size + 1, 1, none⟩ = some (.bool (false)) := bf.cell 1; have bf2 : w3.cell? ⟨w.heap.size + 1, 2, none⟩ = some (.int .i64 (0)) := bf.cell 2; have bf3 : w3.cell? ⟨w.heap.size + 1, 3, none⟩ = some (.string (t)) := bf.cell 3)
        | (go_at_call 23; refine (printK _ HP HT.out HN.out (G.good.ext (((Ext.refl w).alloc _).trans X2))).mono ?_; rintro r w4 ⟨rfl, x4⟩; have X3 : Ext (w.alloc (.cells #[.int .u8 0, .bool false, .int .i64 0, .string ⟨#[]⟩] 47)) w4 := X2.trans x4; have bg : Bk w4 (w.heap.size + 1) 47 #[.int .u8 4, .bool false, .int .i64 0, .string t] := bf.ext x4; have bh : Bk w4 w.heap.size 47 #[.int .u8 0, .bool false, .int .i64 0, .string ⟨#[]⟩] := (Bk.new w _ _).ext X3; have bg0 : w4.cell? ⟨w.heap.size + 1, 0, none⟩ = some (.int .u8 (4)) := bg.cell 0; have bg1 : w4.cell? ⟨w.heap.size + 1, 1, none⟩ = some (.bool (false)) := bg.cell 1; have bg2 : w4.cell? ⟨w.heap.size + 1, 2, none⟩ = some (.int .i64 (0)) := bg.cell 2; have bg3 : w4.cell? ⟨w.heap.size + 1, 3, none⟩ = some (.string (t)) := bg.cell 3; have bhf0 : w4.frozen? ⟨w.heap.size, 0, none⟩ = false := bh.free 0; have bhf1 : w4.frozen? ⟨w.heap.size, 1, none⟩ = false := bh.free 1; have bhf2 : w4.frozen? ⟨w.heap.size, 2, none⟩ = false := bh.free 2; have bhf3 : w4.frozen? ⟨w.heap.size, 3, none⟩ = false := bh.free 3; have bh0 : w4.cell? ⟨w.heap.size, 0, none⟩ = some (.int .u8 (0)) := bh.cell 0; have bh1 : w4.cell? ⟨w.heap.size, 1, none⟩ = some (.bool (false)) := bh.cell 1; have bh2 : w4.cell? ⟨w.heap.size, 2, none⟩ = some (.int .i64 (0)) := bh.cell 2; have bh3 : w4.cell? ⟨w.heap.size, 3, none⟩ = some (.string (⟨#[]⟩)) := bh.cell 3))
        have q := bh.set4 (.int .u8 (0)) (.bool (false)) (.int .i64 (0)) (.string (⟨#[]⟩)); refine bodyPost_ret (v := .tuple #[.agg #[.int .u8 (0), .bool (false), .int .i64 (0), .string (⟨#[]⟩)], .int .u16 (13)]) (by simp [results, Tryz.results16, go_sem, q.1, q.2.1, q.2.2.1, q.2.2.2]) rfl ⟨⟨0, false, 0, ⟨#[]⟩⟩, 13, parse_off HK.out HNo.out, rfl, Ext.set4 (((Ext.refl w).alloc _).trans X3) (by first | omega | simp) _ _ _ _⟩
    · obtain ⟨c, hcc⟩ : ∃ c, checkT 4 false 0 t = c := ⟨_, rfl⟩
      have HNo : Hid (¬ (Ok ⟨4, false, 0, t⟩ ∧ printT 4 false 0 t = s)) := Lib.hid fun h => hk h.1.1
      rw [hcc] at hk
      have HC2 := Lib.hid hcc
      have zc : (c != 0) = true := by simpa using hk
      have zd : (c == 0) = false := by simpa using hk
      clear hcc
      go_wp2_with (first
        | (go_at_call 33; refine (text_any _ _).mono ?_; rintro r w2 ⟨rfl, x2⟩; have Y1 : Ext (w.alloc (.cells #[.int .u8 0, .bool false, .int .i64 0, .string ⟨#[]⟩] 47)) w2 := X1.trans x2; have be : Bk w2 (w.heap.size + 1) 47 #[.int .u8 0, .bool false, .int .i64 0, .string ⟨#[]⟩] := bd.ext x2; have s2 := Y1.size; have bef0 : w2.frozen? ⟨w.heap.size + 1, 0, none⟩ = false := be.free 0; have bef1 : w2.frozen? ⟨w.heap.size + 1, 1, none⟩ = false := be.free 1; have bef2 : w2.frozen? ⟨w.heap.size + 1, 2, none⟩ = false := be.free 2; have bef3 : w2.frozen? ⟨w.heap.size + 1, 3, none⟩ = false := be.free 3; have be0 : w2.cell? ⟨w.heap.size + 1, 0, none⟩ = some (.int .u8 (0)) := be.cell 0; have be1 : w2.cell? ⟨w.heap.size + 1, 1, none⟩ = some (.bool (false)) := be.cell 1; have be2 : w2.cell? ⟨w.heap.size + 1, 2, none⟩ = some (.int .i64 (0)) := be.cell 2; have be3 : w2.cell? ⟨w.heap.size + 1, 3, none⟩ = some (.string (⟨#[]⟩)) := be.cell 3; have be4 := be.set4 (.int .u8 (4)) (.bool false) (.int .i64 0) (.string t); have d0 := be4.1; have d1 := be4.2.1; have d2 := be4.2.2.1; have d3 := be4.2.2.2; have X1s := Lib.hid (Y1.set4 (g := w.heap.size + 1) (by simp) (.int .u8 (4)) (.bool false) (.int .i64 0) (.string t)); clear be4)
        | (go_at_call 25; refine (checkK _ HC2 HT.out (G.good.good.ext (((Ext.refl w).alloc _).trans X1s.out))).mono ?_; rintro r w3 ⟨rfl, x3⟩; have X2 : Ext (w.alloc (.cells #[.int .u8 0, .bool false, .int .i64 0, .string ⟨#[]⟩] 47)) w3 := X1s.out.trans x3; have bf : Bk w3 (w.heap.size + 1) 47 #[.int .u8 4, .bool false, .int .i64 0, .string t] := ((((be.set 0 _).set 1 _).set 2 _).set 3 _).ext x3; have bf0 : w3.cell? ⟨w.heap.size + 1, 0, none⟩ = some (.int .u8 (4)) := bf.cell 0; have bf1 : w3.cell? ⟨w.heap.size + 1, 1, none⟩ = some (.bool (false)) := bf.cell 1; have bf2 : w3.cell? ⟨w.heap.size + 1, 2, none⟩ = some (.int .i64 (0)) := bf.cell 2; have bf3 : w3.cell? ⟨w.heap.size + 1, 3, none⟩ = some (.string (t)) := bf.cell 3; have bh : Bk w3 w.heap.size 47 #[.int .u8 0, .bool false, .int .i64 0, .string ⟨#[]⟩] := (Bk.new w _ _).ext X2; have bhf0 : w3.frozen? ⟨w.heap.size, 0, none⟩ = false := bh.free 0; have bhf1 : w3.frozen? ⟨w.heap.size, 1, none⟩ = false := bh.free 1; have bhf2 : w3.frozen? ⟨w.heap.size, 2, none⟩ = false := bh.free 2; have bhf3 : w3.frozen? ⟨w.heap.size, 3, none⟩ = false := bh.free 3; have bh0 : w3.cell? ⟨w.heap.size, 0, none⟩ = some (.int .u8 (0)) := bh.cell 0; have bh1 : w3.cell? ⟨w.heap.size, 1, none⟩ = some (.bool (false)) := bh.cell 1; have bh2 : w3.cell? ⟨w.heap.size, 2, none⟩ = some (.int .i64 (0)) := bh.cell 2; have bh3 : w3.cell? ⟨w.heap.size, 3, none⟩ = some (.string (⟨#[]⟩)) := bh.cell 3))
      have q := bh.set4 (.int .u8 (0)) (.bool (false)) (.int .i64 (0)) (.string (⟨#[]⟩)); refine bodyPost_ret (v := .tuple #[.agg #[.int .u8 (0), .bool (false), .int .i64 (0), .string (⟨#[]⟩)], .int .u16 (13)]) (by simp [results, Tryz.results16, go_sem, q.1, q.2.1, q.2.2.1, q.2.2.2]) rfl ⟨⟨0, false, 0, ⟨#[]⟩⟩, 13, parse_off HK.out HNo.out, rfl, Ext.set4 (((Ext.refl w).alloc _).trans X2) (by first | omega | simp) _ _ _ _⟩
end Go.Proofs.YtngeioghihbkeaaGreatDoor
namespace Go.Proofs.YtngeioghihbkeaaGreatDoor
open Go.RowKit
theorem parse_in {s : ByteArray} {v : Int} (h : parseOk s v) : In64 v := by
  unfold parseOk Lib.parseIntB at h
  split at h
  · cases h
  · simp only at h
    split at h
    · cases h
    · cases h
    · rename_i c r u hu
      have eC : (2 : Nat) ^ (64 - 1) = 9223372036854775808 := by decide
      rw [eC] at h
      unfold In64
      split at h
      · cases h
      · split at h
        · cases h
        · injection h with h
          split at h <;> omega
theorem word_no {s : ByteArray} {l : List UInt8} (h : ¬ s = ⟨l.toArray⟩) : (s.toList == l) = false := by
  have : ¬ s.toList = l := fun e => h (data_inj (by rw [Lib.toList_data] at e; rw [e]))
  simpa using this
end Go.Proofs.YtngeioghihbkeaaGreatDoor
namespace Go.Proofs.YtngeioghihbkeaaGreatDoor
open Go.RowKit
theorem last_list {s : ByteArray} (h : 0 < s.size) : ∃ t, s.data.toList = t ++ [s[s.size - 1]] ∧ t = s.data.toList.take (s.size - 1) := by
  have e : s.data.toList.length = s.size := by simp
  refine ⟨_, ?_, rfl⟩
  have := List.take_succ_eq_append_getElem (l := s.data.toList) (i := s.size - 1) (by omega)
  rw [show s.size - 1 + 1 = s.size by omega, List.take_of_length_le (by omega)] at this
  rw [this]
  simp
  rfl
theorem quote_last {s : ByteArray} {m : List UInt8} (h0 : 0 < s.size) (h : s.data.toList = 39 :: (m ++ [39])) : 2 ≤ s.size ∧ s[0].toNat = 39 ∧ s[s.size - 1].toNat = 39 := by
  have e : s.data.toList.length = s.size := by simp
  obtain ⟨t, h1, _⟩ := last_list h0
  refine ⟨by rw [← e, h]; simp, ?_, ?_⟩
  · have := head_list h0
    rw [h] at this
    injection this with q _
    rw [← q]; rfl
  · rw [h, ← List.cons_append] at h1
    have := (List.append_inj' h1 rfl).2
    injection this with q _
    rw [← q]; rfl
theorem mid_list (s : ByteArray) : (s.extract 1 (s.size - 1)).data.toList = (s.data.toList.take (s.size - 1)).drop 1 := by
  rw [ByteArray.data_extract, Array.toList_extract]
  unfold List.extract
  rw [List.drop_take]
theorem quote_of {s : ByteArray} (h2 : 2 ≤ s.size) (h5 : s[0].toNat = 39) (h6 : s[s.size - 1].toNat = 39) : s.data.toList = 39 :: ((s.extract 1 (s.size - 1)).data.toList ++ [39]) := by
  have e : s.data.toList.length = s.size := by simp
  obtain ⟨t, h1, ht⟩ := last_list (show 0 < s.size by omega)
  have h0 := head_list (show 0 < s.size by omega)
  rw [mid_list, ← ht]
  have e5 : s[0] = 39 := UInt8.toNat_inj.1 h5
  have e6 : s[s.size - 1] = 39 := UInt8.toNat_inj.1 h6
  rw [e6] at h1
  rw [e5] at h0
  have hl : t.length = s.size - 1 := by rw [ht, List.length_take]; omega
  cases t with
  | nil => simp at hl; omega
  | cons a t =>
    rw [h1] at h0 ⊢
    rw [List.cons_append] at h0 ⊢
    injection h0 with q _
    rw [q]
    rfl
end Go.Proofs.YtngeioghihbkeaaGreatDoor
namespace Go.Proofs.YtngeioghihbkeaaGreatDoor
open Go.RowKit
theorem parse_any (s : ByteArray) (w : World) (hs : s.size ≤ 140737488355328) (G : Good3 w) :
    Calls Tryz.prog 16 #[.string s] w fun e w' => ∃ d x, ParseRel s d x ∧ Out w (d, x) e w' := by
  by_cases w1 : s = ⟨#[110, 117, 108, 108]⟩
  · subst w1
    exact (parse_null w G).mono fun _ _ h => ⟨_, _, parse_on ⟨by decide +kernel, by decide⟩ (by decide +kernel), h⟩
  by_cases w2 : s = ⟨#[116, 114, 117, 101]⟩
  · subst w2
    exact (parse_true w G).mono fun _ _ h => ⟨_, _, parse_on ⟨by decide +kernel, by decide⟩ (by decide +kernel), h⟩
  by_cases w3 : s = ⟨#[102, 97, 108, 115, 101]⟩
  · subst w3
    exact (parse_false w G).mono fun _ _ h => ⟨_, _, parse_on ⟨by decide +kernel, by decide⟩ (by decide +kernel), h⟩
  have h1 := word_no (l := [110, 117, 108, 108]) w1
  have h2 := word_no (l := [116, 114, 117, 101]) w2
  have h3 := word_no (l := [102, 97, 108, 115, 101]) w3
  have n1 : ¬ s.data.toList = [110, 117, 108, 108] := fun e => w1 (data_inj e)
  have n2 : ¬ s.data.toList = Lib.formatBool true := fun e => w2 (data_inj e)
  have n3 : ¬ s.data.toList = Lib.formatBool false := fun e => w3 (data_inj e)
  have pos : ∀ m, s.data.toList = 39 :: (m ++ [39]) → 0 < s.size := fun m e => by
    have q : s.data.toList.length = s.size := by simp
    rw [e] at q
    simp at q
    omega
  by_cases h4 : 2 ≤ s.size
  · by_cases h5 : s[0].toNat = 39
    · by_cases h6 : s[s.size - 1].toNat = 39
      · exact parse_text s w hs h1 h2 h3 h4 h5 h6 (fun t ok hu => cand_text (quote_of h4 h5 h6) hu) G
      · exact parse_num_b s w hs h1 h2 h3 (cand_num n1 n2 n3 (fun m e => h6 (quote_last (pos m e) e).2.2)) (fun _ => parse_in) h4 h5 h6 G
    · exact parse_num_a s w hs h1 h2 h3 (cand_num n1 n2 n3 (fun m e => h5 (quote_last (pos m e) e).2.1)) (fun _ => parse_in) h4 h5 G
  · exact parse_num_c s w hs h1 h2 h3 (cand_num n1 n2 n3 (fun m e => h4 (quote_last (pos m e) e).1)) (fun _ => parse_in) (by omega) G
end Go.Proofs.YtngeioghihbkeaaGreatDoor
namespace Go.Proofs.YtngeioghihbkeaaGreatDoor
open Go.RowKit

theorem parse_at (s t : ByteArray) (k n x : Int) (b : Bool) (w : World) (hs : s.size ≤ 140737488355328) (h : Hid (ParseRel s ⟨k, b, n, t⟩ x)) (G : Good3 w) :
    Calls Tryz.prog 16 #[.string s] w fun e w' => e = .returned (.tuple #[.agg #[.int .u8 k, .bool b, .int .i64 n, .string t], .int .u16 x]) ∧ Ext w w' :=
  (parse_any s w hs G).mono fun e w' ⟨d, y, h1, h2, h3⟩ => by
    obtain ⟨rfl, rfl⟩ := rel_unique h1 h.out
    exact ⟨h2, h3⟩
theorem rel_exists (s : ByteArray) : (∃ d : Dat, ParseRel s d 0 ∧ Ok d ∧ printT d.k d.b d.n d.s = s) ∨ ParseRel s Dat.zero 13 := by
  by_cases h : ∃ d : Dat, Ok d ∧ printT d.k d.b d.n d.s = s
  · obtain ⟨d, h1, h2⟩ := h
    exact .inl ⟨d, parse_on h1 h2, h1, h2⟩
  · exact .inr (.inr ⟨rfl, rfl, fun x h1 h2 => h ⟨x, h1, h2⟩⟩)
end Go.Proofs.YtngeioghihbkeaaGreatDoor
