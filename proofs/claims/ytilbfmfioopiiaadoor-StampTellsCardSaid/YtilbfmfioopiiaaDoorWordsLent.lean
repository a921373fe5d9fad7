/- penstockref00.LentWords, WholeWords, SpoilWords, SameTime: what they answer. Conditions: the lists are as readings give them, and not too long. -/
import Derived.Test.YtilbfmfioopiiaaDoorAppFit
import Derived.Test.YtilbfmfioopiiaaDoorSmall
import Derived.Test.YtilbfmfioopiiaaDoorOwnLaw
import Derived.Deep.LoopGhost
namespace Go.Proofs.YtilbfmfioopiiaaDoor
open Go.RowKit

def madeWords (n : Nat) : Obj := .cells (madeCells #[.int .u32 0] (n * 1)) 22
theorem make_words (n : Nat) (hn : n ≤ 1000000000) (W : World) : (Instr.makeSlice 23 (.int .i64 0) (.int .i64 (n : Int))).run Tryd.prog W = .ok (.slice (some ⟨W.heap.size, 0, none⟩) 0 n) (W.alloc (madeWords n)) := by
  obtain ⟨i, hi, hz, hs, hb⟩ := info_parts elemWords.info
  have := run_make (P := Tryd.prog) (w := W) 23 22 i _ elemWords.under hi hz .i64 .i64 0 (n : Int) (Int.le_refl _) (by omega) (by rw [hb]; omega) (by omega)
  rw [hs] at this
  exact this
theorem own_words (W : World) (n : Nat) (hn : n ≤ 1000000000) : Own (W.alloc (madeWords n)) W.heap.size 22 1 (some ⟨W.heap.size, 0, none⟩) 0 n [] :=
  ⟨rfl, .inr ⟨W.heap.size, _, rfl, Nat.le_refl _, heap_alloc_new W _, Nat.zero_le _, by unfold maxLen; omega, size_madeCells _ _, rfl⟩⟩
def marksW : List Int := [771, 772]
def LentWR (w : World) (n : Nat) (l : List Int) (e : Ending) (w' : World) : Prop := ∃ g, e = .returned (.slice (some ⟨g, 0, none⟩) n (n + 2)) ∧ Own w' w.heap.size 22 1 (some ⟨g, 0, none⟩) (n + 2) (n + 2) (wds (l ++ marksW)) ∧ Ext w w'
set_option maxRecDepth 100000 in
set_option maxHeartbeats 2000000 in
theorem lentWords_any (A : Option Addr) (c n : Nat) (l : List Int) (w : World) (hn : Hid (n = l.length)) (h : Hid (Sl w 1 A n c (wds l))) (hs : n ≤ 1000000) :
    Calls Tryd.prog 7 #[.slice A n c] w (LentWR w n l) := by
  have hmk2 : ∀ W : World, (Instr.makeSlice 23 (.int .i64 0) (.int .i64 ((n : Int) + 2))).run Tryd.prog W = .ok (.slice (some ⟨W.heap.size, 0, none⟩) 0 (n + 2)) (W.alloc (madeWords (n + 2))) := make_words (n + 2) (by omega)
  have m1 : True := trivial
  go_enter Tryd.func7, Tryd.ntmps7
  go_wp2_with (first
    | (at_builtin; have mk := m1; clear m1; go_loud (refine wpList_append_fit _ elemWords w.heap.size _ _ rfl rfl w.heap.size 0 (n + 2) [] rfl (own_words w (n + 2) (by omega)) (by omega) A n c (wds l) rfl (h.out.ext ((Ext.refl w).alloc _)) (wds_one l) (by omega) ?_); intro w1 o1 g1; have O1 := Lib.hid o1; have X1 : Ext w w1 := ((Ext.refl w).alloc _).grown g1 (fun k e => by cases e; exact Nat.le_refl _); have m2 : True := trivial; clear o1 g1)
    | (at_builtin; have mk := m2; go_loud (refine wpList_append_fit _ elemWords w.heap.size _ _ rfl rfl w.heap.size n (n + 2) (wds l) rfl (by have := O1.out.alloc (.cells (#[.int .u32 771, .int .u32 772] : Array Value) 22); rwa [List.nil_append, Nat.zero_add] at this) (by omega) (some ⟨w1.heap.size, 0, none⟩) 2 2 (wds marksW) rfl (sl_alloc w1 _ _ _ 1 2 rfl rfl (by decide)) (wds_one marksW) (by omega) ?_); intro w2 o2 g2; have O2 := Lib.hid o2; have X2 : Ext w w2 := (X1.alloc _).grown g2 (fun k e => by cases e; exact Nat.le_refl _); clear o2 g2))
  go_ret
  exact ⟨w.heap.size, by simp, by have := O2.out; rwa [wds_append] at this, X2⟩
theorem words_left {w : World} {A : Option Addr} {n m c : Nat} {l k : List Int} (h : Sl w 1 A m c (wds (l ++ k))) (hn : n = l.length) (hm : n ≤ m) : Sl w 1 A n c (wds l) := by
  have := Sl.take (k := n) h hm
  rw [Nat.mul_one, wds_take, hn, List.take_left] at this
  rw [hn]
  exact this
set_option maxRecDepth 100000 in
set_option maxHeartbeats 2000000 in
theorem wholeWords_any (A1 A2 : Option Addr) (c1 c2 n m : Nat) (l : List Int) (w : World) (hn : Hid (n = l.length)) (hm : Hid (m = n)) (hs : n ≤ 1000000000) (h1 : Hid (Sl w 1 A1 (n + 2) c1 (wds (l ++ marksW)))) (h2 : Hid (Sl w 1 A2 m c2 (wds l))) :
    Calls Tryd.prog 11 #[.slice A1 n c1, .slice A2 m c2] w fun e w' => e = .returned (.bool true) ∧ Ext w w' := by
  have hmn := hm.out
  subst hmn
  have hc := h1.out.cap
  have hlen : ∀ q : Nat, (wds (l ++ marksW))[m + q]? = (wds marksW)[q]? := fun q => by rw [← wds_append, List.getElem?_append_right (by rw [wds_len, ← hn.out]; omega), wds_len, ← hn.out, Nat.add_sub_cancel_left]
  obtain ⟨ad, e1, hcl⟩ := h1.out.2.2.2.2 (by omega)
  subst e1
  have p0 : w.cell? (ad.add m) = some (.int .u32 771) := hcl m _ (hlen 0)
  have q0 : w.cell? (ad.add (m + 1)) = some (.int .u32 772) := hcl (m + 1) _ (hlen 1)
  have q0' : w.cell? ⟨ad.block, ad.off + (m + 1), none⟩ = some (.int .u32 772) := by
    have := q0
    unfold Addr.add at this
    rwa [if_neg (by omega)] at this
  have H1 := Lib.hid (words_left h1.out hn.out (by omega))
  have hcd : ¬ c1 < m + 2 := by omega
  clear hlen hcl
  go_enter Tryd.func11, Tryd.ntmps11
  go_wp2_with (go_at_call 39; refine (sameWords_any (some ad) A2 m m c1 c2 l l _ H1.out h2.out).mono ?_; rintro e w1 ⟨rfl, x1⟩)
  go_ret
  exact ⟨by simp, x1⟩
theorem Own.fullW {w : World} {B s n c : Nat} {e : TypeId} {A : Option Addr} {xs : List Value} (h : Own w B e s A n c xs) : ∃ ys, Own w B e s A c c ys := by
  rcases h.2 with ⟨rfl, rfl⟩ | ⟨g, cur, rfl, hb, hg, hnc, hcm, hcs, _⟩
  · exact ⟨[], Own.empty _ _ _ _ _⟩
  · refine ⟨cur.toList.take (c * s), ?_, .inr ⟨g, cur, rfl, hb, hg, Nat.le_refl _, hcm, hcs, rfl⟩⟩
    rw [List.length_take]
    have : cur.toList.length = c * s := by simpa using hcs
    omega
set_option maxRecDepth 100000 in
set_option maxHeartbeats 2000000 in
theorem spoilWords_any (A : Option Addr) (n nn c B : Nat) (xs : List Value) (w : World) (h : Hid (Own w B 22 1 A nn c xs)) (hn : n ≤ c) :
    Calls Tryd.prog 12 #[.slice A n c] w fun e w' => e = .returned (.tuple #[]) ∧ Upd (fun k => blk A c = some k) w w' := by
  have hc9 := h.out.le.2
  obtain ⟨ys, hy⟩ := h.out.fullW
  have HY := Lib.hid hy
  clear hy
  go_enter Tryd.func12, Tryd.ntmps12
  go_wp2
  go_loopg [3] c (fun z v wr => ∃ (i : Nat) (ys : List Value), z = c - i ∧ i ≤ c ∧ v = .int .i64 i ∧ Hid (Own wr B 22 1 A c c ys) ∧ Hid (Upd (fun k => blk A c = some k) w wr))
  case atStart => exact ⟨0, ys, rfl, Nat.zero_le _, rfl, HY, Lib.hid (Upd.refl _ _)⟩
  case round =>
    clear HY
    obtain ⟨i, ys, rfl, hi, rfl, HY, HU⟩ := hrel
    by_cases hlt : i < c
    · obtain ⟨g, eA, hb, _, _, hcl, hfz⟩ := HY.out.form (by omega)
      have hl : ys.length = c * 1 := HY.out.1
      subst eA
      have q0 : wr.cell? ⟨g, i, none⟩ = some (ys[i]'(by omega)) := hcl _ _ (List.getElem?_eq_getElem (by omega))
      have z0 := hfz i
      have HB := Lib.hid hb
      clear hcl hfz hb
      go_wp2
      go_roundg (c - (i + 1))
      case measure => omega
      case rel => exact ⟨i + 1, _, rfl, by omega, by go_num, Lib.hid (HY.out.put i (.int .u32 77)), Lib.hid (HU.out.setCell (p := ⟨g, i, none⟩) (.inl HB.out) _)⟩
    · go_wp2
      go_returns
      exact ⟨rfl, HU.out⟩
theorem sameTime_any (e1 e2 : Int) (A1 A2 : Option Addr) (n1 n2 c1 c2 : Nat) (l1 l2 : List Int) (w : World) (h1 : Sl w 1 A1 n1 c1 (wds l1)) (h2 : Sl w 1 A2 n2 c2 (wds l2)) :
    Calls Tryd.prog 17 #[.agg #[.int .u64 e1, .slice A1 n1 c1], .agg #[.int .u64 e2, .slice A2 n2 c2]] w fun e w' => e = .returned (.bool (decide (e1 = e2 ∧ l1 = l2))) ∧ Ext w w' := by
  by_cases k1 : e1 = e2
  · have q1 : (e1 == e2) = true := by simpa using k1
    go_enter Tryd.func17, Tryd.ntmps17
    go_wp2_with (go_at_call 39; refine (sameWords_any A1 A2 n1 n2 c1 c2 l1 l2 _ (h1.ext (((Ext.refl w).alloc _).alloc _)) (h2.ext (((Ext.refl w).alloc _).alloc _))).mono ?_; rintro r w1 ⟨rfl, x1⟩)
    refine bodyPost_ret (v := .bool (decide (l1 = l2))) (by simp only [results, Tryd.results17]; go_simp) rfl ?_
    exact ⟨by simp [k1], (((Ext.refl w).alloc _).alloc _).trans x1⟩
  · have q1 : (e1 == e2) = false := by simpa using k1
    go_enter Tryd.func17, Tryd.ntmps17
    go_wp2
    refine bodyPost_ret (v := .bool false) (by simp only [results, Tryd.results17]; go_simp) rfl ?_
    exact ⟨by simp [k1], (((Ext.refl w).alloc _).alloc _)⟩
end Go.Proofs.YtilbfmfioopiiaaDoor
