/- penstocklaw02.known. Conditions: the library's tables stand. -/
import Derived.Test.YtngeioghihbkeaaDoorSumAll
import Derived.Test.YtngeioghihbkeaaDoorRefMks
namespace Go.Proofs.YtngeioghihbkeaaDoor
open Go.RowKit

theorem rowCmp_lit {v : Int} (A1 A2 : Option Addr) (c1 c2 n1 n2 : Nat) (l m : List Dat) (w : World) (hv : Hid (cmpR l m = v)) (e1 : Hid (n1 = l.length)) (e2 : Hid (n2 = m.length)) (h1 : Hid (Rw w A1 c1 l)) (h2 : Hid (Rw w A2 c2 m)) :
    Calls Tryd.prog 14 #[.slice A1 n1 c1, .slice A2 n2 c2] w fun e w' => e = .returned (.int .i64 v) ∧ Ext w w' := hv.out ▸ rowCmp_any A1 A2 c1 c2 n1 n2 l m w e1.out e2.out h1.out h2.out
theorem sl_alloc (w : World) (t : TypeId) (cs : Array Value) (xs : List Value) (size n : Nat) (hc : cs.toList = xs) (hl : xs.length = n * size) (hn : n ≤ 1000) : Sl (w.alloc (.cells cs t)) size (some ⟨w.heap.size, 0, none⟩) n n xs :=
  ⟨hl, Nat.le_refl _, by unfold maxLen; omega, (fun h => nomatch h), fun _ => ⟨_, rfl, fun j x hx => cells_at w t cs j x (by rw [hc]; exact hx)⟩⟩
def one_ (n : Int) : Dat := ⟨3, false, n, ⟨#[]⟩⟩
def oneC (n : Int) : Array Value := #[.int .u8 3, .bool false, .int .i64 n, .string ⟨#[]⟩]
theorem rw_one (w : World) (n : Int) : Rw (w.alloc (.cells (oneC n) 91)) (some ⟨w.heap.size, 0, none⟩) 1 [one_ n] := sl_alloc w _ _ _ 4 1 rfl rfl (by decide)
theorem one_in {A : Option Addr} {c : Nat} {n k : Int} (hn : n = 1 ∨ n = 2) (hk : -100 ≤ k ∧ k ≤ 100) : InC ⟨A, c, [one_ n], k⟩ := by
  refine ⟨fun d hd => ?_, fun d hd => ?_, by show -9223372036854775808 ≤ k ∧ k ≤ 9223372036854775807; omega, (show 1 ≤ 1000000 by decide)⟩
  · rw [List.mem_singleton.1 hd]; show (0 : Nat) ≤ _; exact Nat.zero_le _
  · rw [List.mem_singleton.1 hd]; show -9223372036854775808 ≤ n ∧ n ≤ 9223372036854775807; omega
theorem one_ok {n : Int} (hn : n = 1 ∨ n = 2) : checkR [one_ n] = 0 := by
  rcases hn with rfl | rfl <;> decide +kernel
def knownL (a b : Addr) : List Ct := [⟨some a, 1, [one_ 1], 2⟩, ⟨some b, 1, [one_ 2], 1⟩, ⟨some a, 1, [one_ 1], -1⟩, ⟨some b, 1, [one_ 2], -1⟩]
theorem known_sum (a b : Addr) : sumV ((knownL a b).map valC) = [([one_ 1], 1)] := by kernel_rfl
theorem sum_lit (A : Option Addr) (c : Nat) (L : List Ct) (w : World) (n : Nat) (h0 : 0 < n) (hn : Hid (n = L.length)) (h20 : n < 20) (h : Hid (Cin w A c L)) (hin : Hid (∀ x ∈ L, InC x)) (hok : Hid (∀ x ∈ L, checkR x.l = 0)) (G : Good w) :
    Calls Tryd.prog 18 #[.slice A n c] w (SumRes w L) := sum_plain A c n L w h0 hn.out (by omega) h.out hin.out hok.out G
theorem known_in (a b : Addr) : ∀ x ∈ knownL a b, InC x := by
  intro x hx
  simp only [knownL, List.mem_cons, List.not_mem_nil, or_false] at hx
  rcases hx with rfl | rfl | rfl | rfl
  · exact one_in (.inl rfl) (by decide)
  · exact one_in (.inr rfl) (by decide)
  · exact one_in (.inl rfl) (by decide)
  · exact one_in (.inr rfl) (by decide)
theorem known_ok (a b : Addr) : ∀ x ∈ knownL a b, checkR x.l = 0 := by
  intro x hx
  simp only [knownL, List.mem_cons, List.not_mem_nil, or_false] at hx
  rcases hx with rfl | rfl | rfl | rfl
  · exact one_ok (.inl rfl)
  · exact one_ok (.inr rfl)
  · exact one_ok (.inl rfl)
  · exact one_ok (.inr rfl)
theorem known_cin {w : World} {a b : Addr} (ha : Rw w (some a) 1 [one_ 1]) (hb : Rw w (some b) 1 [one_ 2]) :
    Cin (w.alloc (.cells #[.slice (some a) 1 1, .int .i64 2, .slice (some b) 1 1, .int .i64 1, .slice (some a) 1 1, .int .i64 (-1), .slice (some b) 1 1, .int .i64 (-1)] 32)) (some ⟨w.heap.size, 0, none⟩) 4 (knownL a b) := by
  refine ⟨sl_alloc w _ _ _ 2 4 rfl rfl (by decide), fun x hx => Rw.ext ?_ ((Ext.refl w).alloc _)⟩
  simp only [knownL, List.mem_cons, List.not_mem_nil, or_false] at hx
  rcases hx with rfl | rfl | rfl | rfl <;> first | exact ha | exact hb
theorem known_res {w w' : World} {e : Ending} {L : List Ct} (hL : sumV (L.map valC) = [([one_ 1], 1)]) (h : SumRes w L e w') : ∃ g A c c', e = .returned (.slice (some ⟨g, 0, none⟩) 1 c) ∧ w'.cell? ⟨g, 0, none⟩ = some (.slice A 1 c') ∧ w'.cell? ⟨g, 1, none⟩ = some (.int .i64 1) ∧ Rw w' A c' [one_ 1] ∧ Ext w w' := by
  obtain ⟨A, m, c, R, rfl, rfl, h3, h4, _, h5, h6⟩ := h
  rw [hL] at h5
  cases R with
  | nil => exact nomatch h5
  | cons x R =>
    cases R with
    | cons y R => exact absurd (congrArg List.length h5) (by simp)
    | nil =>
      obtain ⟨XA, Xc, Xl, Xk⟩ := x
      injection h5 with h5 _
      have e1 : Xl = [one_ 1] := congrArg Prod.fst h5
      have e2 : Xk = 1 := congrArg Prod.snd h5
      subst e1 e2
      obtain ⟨g, rfl, _, _, _, hc, _⟩ := h3.form Nat.zero_lt_one
      exact ⟨g, XA, c, Xc, rfl, hc 0 _ rfl, hc 1 _ rfl, (h4 _ (List.mem_cons_self ..)).1.rw, h6⟩
set_option maxRecDepth 100000 in
set_option maxHeartbeats 4000000 in
theorem known_true (w : World) (G : Good w) : Calls Tryd.prog 13 #[] w fun e w' => e = .returned (.bool true) ∧ Ext w w' := by
  have HC1 : Hid (cmpR [one_ 1] [one_ 1] = 0) := Lib.hid (by decide +kernel)
  have HC2 : Hid (cmpR [one_ 1] [one_ 2] = -1) := Lib.hid (by decide +kernel)
  have H1 : Hid (1 = ([one_ 1] : List Dat).length) := Lib.hid rfl
  have H2 : Hid (1 = ([one_ 2] : List Dat).length) := Lib.hid rfl
  have m1 : True := trivial
  go_enter Tryd.func13, Tryd.ntmps13
  go_wp2_with (first
    | (have z := m1; clear z m1; go_at_call 52; refine (refInt_any _ _).mono ?_; rintro e w1 ⟨rfl, x1⟩; have m2 : True := trivial)
    | (have z := m2; clear z m2; go_at_call 52; refine (refInt_any _ _).mono ?_; rintro e w2 ⟨rfl, x2⟩; have E2 : Ext w w2 := (x1.alloc _).trans x2; have s2 := x2.size; have R1 := Lib.hid ((rw_one w1 1).ext x2); have R1a := Lib.hid (R1.out.ext ((Ext.refl w2).alloc (.cells (oneC 2) 91))); have R2a := Lib.hid (rw_one w2 2); have HCI := Lib.hid (known_cin R1a.out R2a.out); have m3 : True := trivial)
    | (have z := m3; clear z m3; go_at_call 18; go_loud (refine (sum_lit _ 4 (knownL ⟨w1.heap.size, 0, none⟩ ⟨w2.heap.size, 0, none⟩) _ 4 (by decide) (Lib.hid rfl) (by decide) (Lib.hid (by have := HCI.out; simpa [oneC] using this)) (Lib.hid (known_in _ _)) (Lib.hid (known_ok _ _)) (G.ext ((E2.alloc _).alloc _))).mono ?_; rintro e w3 hs; obtain ⟨g, A3, c3, c4, rfl, g0, g1, r3, x3⟩ := known_res (known_sum _ _) hs; have R3 := Lib.hid r3; have X3 : Ext w2 w3 := (((Ext.refl w2).alloc _).alloc _).trans x3; have R1b := Lib.hid (R1.out.ext X3); have R2b := Lib.hid (R2a.out.ext (((Ext.refl _).alloc _).trans x3)); clear hs r3; have m4 : True := trivial))
    | (have z := m4; clear z m4; go_at_call 14; refine (rowCmp_lit A3 (some ⟨w1.heap.size, 0, none⟩) c4 1 1 1 [one_ 1] [one_ 1] _ HC1 H1 H1 R3 R1b).mono ?_; rintro e w4 ⟨rfl, x4⟩; have m5 : True := trivial)
    | (have z := m5; clear z m5; go_at_call 14; refine (rowCmp_lit (some ⟨w1.heap.size, 0, none⟩) (some ⟨w2.heap.size, 0, none⟩) 1 1 1 1 [one_ 1] [one_ 2] _ HC2 H1 H2 (Lib.hid (R1b.out.ext x4)) (Lib.hid (R2b.out.ext x4))).mono ?_; rintro e w5 ⟨rfl, x5⟩)
    | fail)
  go_ret
  exact ⟨rfl, (E2.trans X3).trans (x4.trans x5)⟩
end Go.Proofs.YtngeioghihbkeaaDoor
