/- What laws about times share: SameTime, SamePath of the same; two new lists of counters for the Book. Conditions: each theorem states its own. -/
import Derived.Test.YtilbfmfioopiiaaDoorBookW
import Derived.Test.YtilbfmfioopiiaaDoorKeepA
import Derived.Test.YtilbfmfioopiiaaDoorSame
import Derived.Test.YtilbfmfioopiiaaDoorWordsLent
import Derived.Test.YtilbfmfioopiiaaDoorKnown
namespace Go.Proofs.YtilbfmfioopiiaaDoor
open Go.RowKit

theorem sameTime_lit (e : Int) (A1 A2 : Option Addr) (n1 n2 c1 c2 : Nat) (l : List Int) (w : World) (h1 : Sl w 1 A1 n1 c1 (wds l)) (h2 : Sl w 1 A2 n2 c2 (wds l)) :
    Calls Tryd.prog 17 #[.agg #[.int .u64 e, .slice A1 n1 c1], .agg #[.int .u64 e, .slice A2 n2 c2]] w fun e w' => e = .returned (.bool true) ∧ Ext w w' :=
  (sameTime_any e e A1 A2 n1 n2 c1 c2 l l w h1 h2).mono fun e w' ⟨he, hx⟩ => ⟨he.trans (ret_bool (by simp)), hx⟩
theorem samePath_lit (L a : Int) (A1 A2 : Option Addr) (n1 n2 c1 c2 : Nat) (l : List Int) (w : World) (h1 : Sl w 1 A1 n1 c1 (wds l)) (h2 : Sl w 1 A2 n2 c2 (wds l)) :
    Calls Tryd.prog 18 #[.agg #[.int .i64 L, .int .u32 a, .slice A1 n1 c1], .agg #[.int .i64 L, .int .u32 a, .slice A2 n2 c2]] w fun e w' => e = .returned (.bool true) ∧ Ext w w' :=
  (samePath_any L a L a A1 A2 n1 n2 c1 c2 l l w h1 h2).mono fun e w' ⟨he, hx⟩ => ⟨he.trans (ret_bool (by simp)), hx⟩
theorem few_of {L : List En} (h1 : L.length ≤ 10000) (h2 : ∀ x ∈ L, x.n ≤ 1000000) : Few L := by
  refine ⟨h1, fun i hi => ?_⟩
  unfold ena
  rw [List.getD_eq_getElem?_getD, List.getElem?_eq_getElem hi]
  exact h2 _ (List.getElem_mem hi)
/-- two lists of counters, new: what Own wants -/
theorem two_lists {w : World} {B a1 a2 b1 b2 : Nat} {x y : En} {xs ys : List Value} (hx : KP w a1 b1 22 1 x xs) (hy : KP w a2 b2 22 1 y ys) (hB : B ≤ a1) (h1 : b1 ≤ a2) (h2 : B ≤ a2) :
    ∃ f, Lists w B 22 1 [x, y] f ∧ ∀ k, OwnS [x, y] k → (a1 ≤ k ∧ k < b1) ∨ (a2 ≤ k ∧ k < b2) := by
  have l := lists_of (w := w) (B := B) (P := [(x, xs), (y, ys)]) (e := 22) (size := 1) (fun p hp => by
    rcases List.mem_cons.1 hp with rfl | hp
    · exact hx.own.mono hB
    · rw [List.mem_singleton] at hp; subst hp; exact hy.own.mono h2) (List.pairwise_pair.2 fun k e1 e2 => by
      have := (hy.own.lt k e2).1; have := hx.top k e1; omega)
  refine ⟨_, l, fun k hk => ?_⟩
  obtain ⟨z, hz, hb⟩ := foot_mem hk
  rcases List.mem_cons.1 hz with rfl | hz
  · exact .inl ⟨(hx.own.lt k hb).1, hx.top k hb⟩
  · rw [List.mem_singleton] at hz; subst hz
    exact .inr ⟨(hy.own.lt k hb).1, hy.top k hb⟩
theorem KP.from {w : World} {B lo : Nat} {e : TypeId} {size n c : Nat} {A : Option Addr} {xs : List Value} (h : Own w B e size A n c xs) (hb : lo ≤ B) : KP w lo w.heap.size e size ⟨A, n, c⟩ xs := KP.of (h.mono hb)
end Go.Proofs.YtilbfmfioopiiaaDoor
