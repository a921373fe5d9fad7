/- What the laws on antichains share: at, New; lists that are known whole; what a map's turning leaves. Conditions: each theorem states its own. -/
import Derived.Test.YtmdakaflmheidaaGreatDoorChUpd
import Derived.Test.YtmdakaflmheidaaGreatDoorChIns
import Derived.Test.YtmdakaflmheidaaGreatDoorChAdv
import Derived.Test.YtmdakaflmheidaaGreatDoorSameTms
namespace Go.Proofs.YtmdakaflmheidaaGreatDoor
open Go.RowKit

theorem Sl.of_bk {w : World} {g n size : Nat} {T : TypeId} {cs : Array Value} {xs : List Value} (h : Bk w g T cs) (hs : cs.size = n * size) (hn : n ≤ 100000) (hx : cs.toList = xs) : Sl w size (some ⟨g, 0, none⟩) n n xs := by
  subst hx
  refine ⟨by simpa using hs, Nat.le_refl _, by unfold maxLen; omega, (fun h => nomatch h), fun _ => ⟨_, rfl, fun j u hu => ?_⟩⟩
  have hadd : (⟨g, 0, none⟩ : Addr).add j = ⟨g, j, none⟩ := by unfold Addr.add; split <;> simp_all
  rw [hadd, h.cell]
  simpa using hu
theorem word_of {w : World} {g : Nat} {v : Int} (h : Bk w g 74 #[.int .u32 v]) : Sl w 1 (some ⟨g, 0, none⟩) 1 1 (wds [v]) := Sl.of_bk h rfl (by omega) rfl
theorem tin_of {w : World} {g n : Nat} {cs : Array Value} {L : List Tm} (h : Bk w g 26 cs) (hx : cs.toList = tmsC L) (hn : n = L.length) (h9 : n ≤ 100000) (ls : ∀ x ∈ L, Sl w 1 x.A x.l.length x.c (wds x.l)) : Tin w (some ⟨g, 0, none⟩) n L := by
  subst hn
  exact ⟨Sl.of_bk h (by rw [← Array.length_toList, hx, tmsC_len]) h9 hx, ls⟩
theorem cin_of {w : World} {g n : Nat} {cs : Array Value} {L : List Cg} (h : Bk w g 29 cs) (hx : cs.toList = cgsC L) (hn : n = L.length) (h9 : n ≤ 100000) (ls : ∀ x ∈ L, Sl w 1 x.t.A x.t.l.length x.t.c (wds x.t.l)) : Cin w (some ⟨g, 0, none⟩) n L := by
  subst hn
  exact ⟨Sl.of_bk h (by rw [← Array.length_toList, hx, cgsC_len]) h9 hx, ls⟩
theorem Tin.turned {w w' : World} {b c : Nat} {A : Option Addr} {L : List Tm} (h : Tin w A c L) (u : Upd (fun k => k = b) w w') (hb : ∃ es cl, w.heap[b]? = some (.map es cl)) : Tin w' A c L := ⟨h.sl.turned (upd_turn u) hb, fun x hx => (h.ls x hx).turned (upd_turn u) hb⟩
theorem Cin.turned {w w' : World} {b c : Nat} {A : Option Addr} {L : List Cg} (h : Cin w A c L) (u : Upd (fun k => k = b) w w') (hb : ∃ es cl, w.heap[b]? = some (.map es cl)) : Cin w' A c L := ⟨h.sl.turned (upd_turn u) hb, fun x hx => (h.ls x hx).turned (upd_turn u) hb⟩
/-- what is read of a list of changes -/
theorem Cin.diff {w : World} {A : Option Addr} {c : Nat} {L : List Cg} {l : List CV} (h : Cin w A c L) (e : L.map Cg.cv = l) {i : Nat} {v : TV} {d : Int} (hi : l[i]? = some (v, d)) : ∃ ad, A = some ad ∧ w.cell? ⟨(ad.add (i * 3)).block, (ad.add (i * 3)).off + 2, none⟩ = some (.int .i64 d) := by
  subst e
  rw [List.getElem?_map] at hi
  cases hL : L[i]? with
  | none => rw [hL] at hi; simp at hi
  | some x =>
    rw [hL] at hi
    injection hi with hi
    obtain ⟨hlt, hx⟩ := List.getElem?_eq_some_iff.1 hL
    obtain ⟨ad, e1, _, _, e2⟩ := h.at hlt
    refine ⟨ad, e1, ?_⟩
    have : L.getD i Cg.zero = x := by rw [List.getD_eq_getElem?_getD, hL]; rfl
    rw [this] at e2
    rw [e2, show x.d = d from congrArg Prod.snd hi]
theorem len_of {L : List Cg} {l : List CV} {q : Nat} (h : q = L.length) (e : L.map Cg.cv = l) : q = l.length := by rw [← e, List.length_map, h]
set_option maxRecDepth 100000 in
set_option maxHeartbeats 400000 in
theorem at5_any (e : Int) (A : Option Addr) (n c : Nat) (w : World) :
    Calls Tryz.prog 34 #[.int .u64 e, .slice A n c] w fun r w' => r = .returned (.agg #[.int .u64 e, .slice A n c]) ∧ Ext w w' := by
  go_enter Tryz.func34, Tryz.ntmps34
  go_wp2
  go_returns
  exact ⟨rfl, (Ext.refl w).alloc _⟩
/-- what New leaves -/
def NewOut (w : World) (e : Ending) (w' : World) : Prop := e = .returned (.pointer (some ⟨w.heap.size + 1, 0, none⟩)) ∧ Bk w' (w.heap.size + 1) 72 #[.map (some w.heap.size)] ∧ MapC w' w.heap.size 0 (.map []) [] ∧ Ext w w'
set_option maxRecDepth 100000 in
set_option maxHeartbeats 400000 in
theorem new_any (w : World) : Calls Tryz.prog 5 #[] w (NewOut w) := by
  have hmm := @run_makeMap Tryz.prog
  go_enter Tryz.func5, Tryz.ntmps5
  go_wp2
  go_ret
  refine ⟨by simp, ?_, (MapC.new w).ext ((Ext.refl _).alloc _), ((Ext.refl w).alloc _).alloc _⟩
  exact Bk.at (by simp)
theorem advance_at {v : TV} (AL : Option Addr) (cL m : Nat) (L : List Tm) (e : Int) (A : Option Addr) (n c : Nat) (l : List Int) (w : World) (hv : Hid (advV (L.map Tm.v) (e, l) = v)) (hm : Hid (m = L.length)) (hL : Hid (Tin w AL cL L)) (fL : Hid (Fine L)) (ht : Hid (Sl w 1 A n c (wds l))) (u : U32 l) (h9 : m ≤ 1000000) (hn : n ≤ 100000) :
    Calls Tryz.prog 22 #[.slice AL m cL, .agg #[.int .u64 e, .slice A n c]] w (TimeR v w) := hv.out ▸ advance_any AL cL m L e A n c l w hm hL fL ht u h9 hn
theorem of_at {V : List TV} (AL : Option Addr) (cL m : Nat) (L : List Tm) (w : World) (hV : Hid (ofV (L.map Tm.v) = V)) (hm : Hid (m = L.length)) (hL : Hid (Tin w AL cL L)) (hi : Hid (∀ x ∈ L, x.l.length ≤ 1000000)) (h9 : m ≤ 1000000) :
    Calls Tryz.prog 19 #[.slice AL m cL] w (OfOut V w) := hV.out ▸ of_any AL cL m L w hm hL hi h9
theorem chjoin_at {V : List TV} (AL AM : Option Addr) (cL cM m n : Nat) (L M : List Tm) (w : World) (hV : Hid (joinV (L.map Tm.v) (M.map Tm.v) = V)) (hm : Hid (m = L.length)) (hn : Hid (n = M.length)) (hL : Hid (Tin w AL cL L)) (hM : Hid (Tin w AM cM M)) (fL : Hid (Fine L)) (fM : Hid (Fine M)) (hm9 : m ≤ 1000) (hn9 : n ≤ 1000) :
    Calls Tryz.prog 20 #[.slice AL m cL, .slice AM n cM] w (OfOut V w) := hV.out ▸ chjoin_any AL AM cL cM m n L M w hm hn hL hM fL fM hm9 hn9
theorem chleq_at {v : Bool} (AL AM : Option Addr) (cL cM m n : Nat) (L M : List Tm) (w : World) (hv : Hid (leqV (L.map Tm.v) (M.map Tm.v) = v)) (hm : Hid (m = L.length)) (hn : Hid (n = M.length)) (hL : Hid (Tin w AL cL L)) (hM : Hid (Tin w AM cM M)) :
    Calls Tryz.prog 23 #[.slice AL m cL, .slice AM n cM] w fun r w' => r = .returned (.bool v) ∧ Ext w w' := hv.out ▸ chleq_any AL AM cL cM m n L M w hm hn hL hM
theorem insert_at {V : List TV} (AL : Option Addr) (cL m : Nat) (L : List Tm) (e : Int) (A : Option Addr) (n c : Nat) (l : List Int) (w : World) (hV : Hid (ofV (L.map Tm.v ++ [(e, l)]) = V)) (hm : Hid (m = L.length)) (hL : Hid (Tin w AL cL L)) (ht : Hid (Sl w 1 A n c (wds l))) (hi : Hid (∀ x ∈ L, x.l.length ≤ 1000000)) (h9 : m ≤ 100000) (hn : n ≤ 1000000) :
    Calls Tryz.prog 21 #[.slice AL m cL, .agg #[.int .u64 e, .slice A n c]] w (OfOut V w) := hV.out ▸ insert_any AL cL m L e A n c l w hm hL ht hi h9 hn
theorem fine_len {L : List Tm} (h : Fine L) : ∀ x ∈ L, x.l.length ≤ 1000000 := fun x hx => Nat.le_trans (h x hx).2 (by omega)
theorem fine_of {L M : List Tm} {V : List TV} (h : Fine L) (hV : M.map Tm.v = V) (hs : ∀ v ∈ V, v ∈ L.map Tm.v) : Fine M := fun x hx => by
  obtain ⟨y, hy, e⟩ := List.mem_map.1 (hs x.v (hV ▸ List.mem_map.2 ⟨x, hx, rfl⟩))
  have e2 : y.l = x.l := congrArg Prod.snd e
  have := h y hy
  rwa [e2] at this
end Go.Proofs.YtmdakaflmheidaaGreatDoor
