/- chain.copied, slices.Clone at times; a list of times that grows by one. Conditions: the slices are as readings give them. -/
import Derived.Test.YtmdakaflmheidaaGreatDoorTms
import Derived.Test.YtmdakaflmheidaaGreatDoorSmallA
namespace Go.Proofs.YtmdakaflmheidaaGreatDoor
open Go.RowKit

def CopyOut (e : Int) (n : Nat) (l : List Int) (w : World) (r : Ending) (w' : World) : Prop := ∃ A' c', r = .returned (.agg #[.int .u64 e, .slice A' n c']) ∧ Own w' w.heap.size 74 1 A' n c' (wds l) ∧ Ext w w'
set_option maxRecDepth 100000 in
set_option maxHeartbeats 800000 in
theorem copied_any (e : Int) (A : Option Addr) (n c : Nat) (l : List Int) (w : World) (h : Hid (Sl w 1 A n c (wds l))) (hn : n ≤ 1000000) :
    Calls Tryz.prog 36 #[.agg #[.int .u64 e, .slice A n c]] w (CopyOut e n l w) := by
  go_enter Tryz.func36, Tryz.ntmps36
  go_wp2_with (go_at_call 75; refine (clone_words _ _ _ _ _ (h.out.ext (((Ext.refl w).alloc _).alloc _)) (wds_one l) (by omega)).mono ?_; rintro r w1 ⟨A', c', rfl, ho, x1⟩; have ba : Bk w1 w.heap.size 26 #[.int .u64 e, .slice A n c] := ((Bk.new w _ _).alloc _).ext x1; have bb : Bk w1 (w.heap.size + 1) 26 #[.int .u64 0, .slice none 0 0] := (Bk.at (by simp)).ext x1; have q0 : w1.cell? ⟨w.heap.size, 0, none⟩ = some (.int .u64 e) := ba.cell 0; have q1 : w1.cell? ⟨w.heap.size, 1, none⟩ = some (.slice A n c) := ba.cell 1; have f0 := ba.free 0; have f1 := ba.free 1; have q2 := bb.cell 0; have q3 := bb.cell 1; have f2 := bb.free 0; have f3 := bb.free 1; have HO := Lib.hid ho; clear ho; have BA := Lib.hid ba; clear ba; have BB := Lib.hid bb; clear bb)
  have bb2 := (BB.out.far (p := ⟨w.heap.size, 1, none⟩) (by simp) (.slice A' n c')).set2 (.int .u64 e) (.slice A' n c')
  refine bodyPost_ret (v := .agg #[.int .u64 e, .slice A' n c']) (by simp [results, Tryz.results36, go_sem, bb2.1, bb2.2]) rfl ⟨A', c', rfl, ?_, ?_⟩
  · exact (((HO.out.mono (by simp; omega)).far (HO.out.ne (by simp; omega)) _).far (HO.out.ne (by simp)) _).far (HO.out.ne (by simp)) _
  · have x2 := (((Ext.refl w).alloc _).alloc _).trans x1
    exact ((x2.set (by simp) _).set (by simp) _).set (by simp) _
set_option maxRecDepth 100000 in
set_option maxHeartbeats 400000 in
theorem clone_times (A : Option Addr) (n c : Nat) (L : List Tm) (w : World) (hm : Hid (n = L.length)) (h : Hid (Tin w A c L)) (hn : n ≤ 1000000) :
    Calls Tryz.prog 60 #[.slice A n c] w fun e w' => ∃ A' c', e = .returned (.slice A' n c') ∧ Own w' w.heap.size 26 2 A' n c' (tmsC L) ∧ Ext w w' := by
  have hs : Hid (Sl w 2 A n c (tmsC L)) := Lib.hid (by rw [hm.out]; exact h.out.sl)
  have hnil := fun (W : World) => Lib.run_eql_slice_nil (P := Tryz.prog) W 54 26 A n c 0 0 Tryz.underlying54
  rcases A with _ | a
  · obtain rfl : c = 0 := hs.out.2.2.2.1 rfl
    have hn0 : n = 0 := by have := hs.out.2.1; omega
    subst hn0
    have hx : tmsC L = [] := List.eq_nil_of_length_eq_zero (by simpa using hs.out.1)
    rw [hx]
    go_enter Tryz.func60, Tryz.ntmps60
    go_wp2
    go_ret
    exact ⟨none, 0, rfl, Own.nil _ _ _ _, Ext.refl _⟩
  · go_enter Tryz.func60, Tryz.ntmps60
    go_wp2_with (at_builtin; refine wpList_append_gen _ elemTimes w.heap.size _ _ (by rfl) (by rfl) _ 0 0 [] (by rfl) (Own.empty _ _ _ _ _) (some a) n c (tmsC L) (by rfl) (hs.out.ext ((Ext.refl w).alloc _)) (tmsC_one L) (by omega) (by omega) (by simp) ?_; intro A' c' w1 ho1 hg1 hk1)
    go_ret
    refine ⟨A', c', by simp, by simpa using ho1, ?_⟩
    exact ((Ext.refl w).alloc _).grown hg1 (by simp [blk])
/-- a time with counters of its own is put behind the others -/
theorem Tout.push {w w2 w3 : World} {B : Nat} {A A3 : Option Addr} {c c3 : Nat} {M : List Tm} (h : Tout w B A c M) (e2 : Ext w w2) {x : Tm} (ox : Own w2 w.heap.size 74 1 x.A x.l.length x.c (wds x.l)) (hB : B ≤ w.heap.size) (ob : Obj)
    (o3 : Own w3 B 26 2 A3 (M.length + 1) c3 (tmsC M ++ tmC x)) (g3 : (w2.alloc ob).grownBy w3 (blk A c)) (x3 : (A3 = A ∧ c3 = c) ∨ (blk A3 c3 = some (w2.alloc ob).heap.size ∧ Ext (w2.alloc ob) w3)) : Tout w3 B A3 c3 (M ++ [x]) := by
  have hsz := ((Ext.refl w2).alloc ob).size
  have hw := e2.size
  have kept : ∀ {k0 : Nat} {A' : Option Addr} {n' c' : Nat} {xs : List Value}, Own w2 k0 74 1 A' n' c' xs → (∀ k, blk A' c' = some k → blk A c ≠ some k) → Own w3 k0 74 1 A' n' c' xs := fun o hne => (o.alloc ob).kept g3 (by
    rename_i A' n' c' xs
    cases hb : blk A' c' with
    | none => exact .inl rfl
    | some k => exact .inr (fun e => hne k hb e.symm))
  have new3 : ∀ k, blk A3 c3 = some k → blk A c = some k ∨ w2.heap.size ≤ k := fun k hk => by
    rcases x3 with ⟨rfl, rfl⟩ | ⟨h1, _⟩
    · exact .inl hk
    · rw [h1] at hk; injection hk with hk; exact .inr (by omega)
  have xne : ∀ k, blk x.A x.c = some k → blk A c ≠ some k := fun k hk e => by have := (ox.lt k hk).1; have := (h.own.lt k e).2; omega
  refine ⟨by rw [tmsC_append, List.length_append]; show Own w3 B _ 2 A3 (M.length + 1) c3 (tmsC M ++ tmsC [x]); rw [show tmsC [x] = tmC x by simp [tmsC]]; exact o3, fun y hy => ?_, ?_⟩
  · rcases List.mem_append.1 hy with hy | hy
    · obtain ⟨h1, h2⟩ := h.ls y hy
      refine ⟨kept (h1.ext e2) h2, fun k hk e => ?_⟩
      rcases new3 k e with q | q
      · exact h2 k hk q
      · have := (h1.lt k hk).2; omega
    · rw [List.mem_singleton] at hy
      subst hy
      refine ⟨(kept ox xne).mono hB, fun k hk e => ?_⟩
      rcases new3 k e with q | q
      · exact xne k hk q
      · have := (ox.lt k hk).2; omega
  · refine List.pairwise_append.2 ⟨h.apart, List.pairwise_singleton _ _, fun y hy z hz k h1 h2 => ?_⟩
    rw [List.mem_singleton] at hz
    subst hz
    have := ((h.ls y hy).1.lt k h1).2
    have := (ox.lt k h2).1
    omega
end Go.Proofs.YtmdakaflmheidaaGreatDoor
