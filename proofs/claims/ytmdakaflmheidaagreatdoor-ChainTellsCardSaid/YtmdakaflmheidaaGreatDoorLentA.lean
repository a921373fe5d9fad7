/- Append with room; slices just built. penstockref00.LentWords, WholeWords, SpoilWords, SameTime: what they answer. penstockref00.LentTime, WholeTime. Conditions: each theorem states its own. -/
import Derived.Test.YtmdakaflmheidaaGreatDoorTwo
import Derived.Test.YtmdakaflmheidaaGreatDoorOrd
import Derived.Test.YtmdakaflmheidaaGreatDoorSmallA
import Derived.Test.YtmdakaflmheidaaGreatDoorSameTm
import Derived.Test.YtmdakaflmheidaaGreatDoorOwnLaw
import Derived.Deep.LoopGhost
import Derived.Test.YtmdakaflmheidaaGreatDoorKeepA
namespace Go.Proofs.YtmdakaflmheidaaGreatDoor
open Go.RowKit

theorem run_append_stay {P : Program} (w : World) {t ty e size bytes : Nat} {z : Value} (E : Elem P t e size bytes z) (base g n c0 : Nat) (xs : List Value) (hown : Own w base e size (some ⟨g, 0, none⟩) n c0 xs) (hc : 0 < c0)
    (ad : Addr) (m c : Nat) (news : List Value) (hr : Sl w size (some ad) m c news) (hm : 0 < m) (h1 : ∀ u ∈ news, u.oneCell' = true) (hroom : n + m ≤ c0) :
    ∃ w', (Builtin.append_ #[t, t] ty #[.slice (some ⟨g, 0, none⟩) n c0, .slice (some ad) m c]).run P w = .ok (.slice (some ⟨g, 0, none⟩) (n + m) c0) w' ∧ Own w' base e size (some ⟨g, 0, none⟩) (n + m) c0 (xs ++ news) ∧ w.grownBy w' (some g) := by
  obtain ⟨i, hi, hz, hs, hby⟩ := info_parts E.info
  obtain ⟨ad', e1, hcells⟩ := hr.2.2.2.2 hm
  cases e1
  rcases hown.2 with ⟨h2, _⟩ | ⟨g', cur, e2, hb, hg, hnc, hcm, hcs, htake⟩
  · omega
  · cases e2
    have hlen : (xs ++ news).length = (n + m) * size := by rw [List.length_append, hown.1, hr.1, Nat.add_mul]
    have hfit : n * i.size + news.length ≤ cur.size := by rw [hr.1, hcs, hs, ← Nat.add_mul]; exact Nat.mul_le_mul_right _ hroom
    have hr2 := run_append_room (P := P) w t ty e i E.under hi g n c0 cur hg ad m c news (by rw [hs]; exact hr.1) hcells h1 hroom hfit
    refine ⟨_, hr2, ⟨hlen, .inr ⟨g, _, rfl, hb, setRow_heap w g cur _ e _ hg, hroom, hcm, ?_, ?_⟩⟩, ⟨rfl, rfl, rfl, by simp, fun k _ hk => setRow_other w g k _ (fun e' => hk (by rw [e']))⟩⟩
    · simp only [List.size_toArray, List.length_append, List.length_take, List.length_drop, Array.length_toList]
      omega
    · rw [hs, htake, ← hlen]
      exact List.take_left
theorem run_append_fit {P : Program} (w : World) {t ty e size bytes : Nat} {z : Value} (E : Elem P t e size bytes z) (base g n c0 : Nat) (xs : List Value) (hown : Own w base e size (some ⟨g, 0, none⟩) n c0 xs) (hc : 0 < c0)
    (A : Option Addr) (m c : Nat) (news : List Value) (hr : Sl w size A m c news) (h1 : ∀ u ∈ news, u.oneCell' = true) (hroom : n + m ≤ c0) :
    ∃ w', (Builtin.append_ #[t, t] ty #[.slice (some ⟨g, 0, none⟩) n c0, .slice A m c]).run P w = .ok (.slice (some ⟨g, 0, none⟩) (n + m) c0) w' ∧ Own w' base e size (some ⟨g, 0, none⟩) (n + m) c0 (xs ++ news) ∧ w.grownBy w' (some g) := by
  rcases Nat.eq_zero_or_pos m with hm | hm
  · subst hm
    have hnews : news = [] := List.eq_nil_of_length_eq_zero (by simpa using hr.1)
    subst hnews
    exact ⟨w, run_append_nothing w E _ n c0 hown.le.1 A c, by simpa using hown, World.grownBy.refl w _⟩
  · obtain ⟨ad, rfl, _⟩ := hr.2.2.2.2 hm
    exact run_append_stay w E base g n c0 xs hown hc ad m c news hr hm h1 hroom
theorem wp_append_fit {P : Program} (w : World) {o : Oper} {a : Act} {K : Act → World → Prop} {Q : Exit → Act → World → Prop} {t e size bytes : Nat} {z : Value} (E : Elem P t e size bytes z) (base : Nat) (s x : Operand)
    (ho : o.op = .call { callee := .builtin .append, args := #[s, x], argTypes := #[t, t] })
    (g n c0 : Nat) (xs : List Value) (hs : a.eval s = .slice (some ⟨g, 0, none⟩) n c0) (hown : Own w base e size (some ⟨g, 0, none⟩) n c0 xs) (hc : 0 < c0)
    (A : Option Addr) (m c : Nat) (news : List Value) (hx : a.eval x = .slice A m c) (hr : Sl w size A m c news) (h1 : ∀ u ∈ news, u.oneCell' = true) (hroom : n + m ≤ c0)
    (h : ∀ w', Own w' base e size (some ⟨g, 0, none⟩) (n + m) c0 (xs ++ news) → w.grownBy w' (some g) → K (a.put o.dst (.slice (some ⟨g, 0, none⟩) (n + m) c0)) w') : o.wp P a w K Q := by
  obtain ⟨w', hrun, h2, h3⟩ := run_append_fit (P := P) (ty := o.type) w E base g n c0 xs hown hc A m c news hr h1 hroom
  unfold Oper.wp execOp
  simp only [ho, resolve, invoke, builtin, Sem.run_bind, Sem.run_pure, Result.andThen_ok, List.map_toArray, List.map_cons, List.map_nil, hs, hx, hrun]
  exact h w' h2 h3
theorem wpList_append_fit {P : Program} (w : World) {ops : Array Oper} {rest : List Oper} {o : Oper} {a : Act} {Q : Exit → Act → World → Prop} {t e size bytes : Nat} {z : Value} (E : Elem P t e size bytes z) (base : Nat) (s x : Operand)
    (ho : o.op = .call { callee := .builtin .append, args := #[s, x], argTypes := #[t, t] }) (hgd : o.guard = none)
    (g n c0 : Nat) (xs : List Value) (hs : a.eval s = .slice (some ⟨g, 0, none⟩) n c0) (hown : Own w base e size (some ⟨g, 0, none⟩) n c0 xs) (hc : 0 < c0)
    (A : Option Addr) (m c : Nat) (news : List Value) (hx : a.eval x = .slice A m c) (hr : Sl w size A m c news) (h1 : ∀ u ∈ news, u.oneCell' = true) (hroom : n + m ≤ c0)
    (h : ∀ w', Own w' base e size (some ⟨g, 0, none⟩) (n + m) c0 (xs ++ news) → w.grownBy w' (some g) → wpList P ops Q rest (a.put o.dst (.slice (some ⟨g, 0, none⟩) (n + m) c0)) w') : wpList P ops Q (o :: rest) a w :=
  wpList_plain hgd fun _ hK => wp_append_fit w E base s x ho g n c0 xs hs hown hc A m c news hx hr h1 hroom fun w' h2 h3 => hK _ _ (h w' h2 h3)
theorem cells_at (w : World) (t : TypeId) (cs : Array Value) (j : Nat) (u : Value) (h : cs.toList[j]? = some u) : (w.alloc (.cells cs t)).cell? ((⟨w.heap.size, 0, none⟩ : Addr).add j) = some u := by
  rw [show (⟨w.heap.size, 0, none⟩ : Addr).add j = ⟨w.heap.size, j, none⟩ by unfold Addr.add; split <;> simp_all, (Bk.new w t cs).cell, ← Array.getElem?_toList]
  exact h
theorem sl_alloc (w : World) (t : TypeId) (cs : Array Value) (xs : List Value) (size n : Nat) (hc : cs.toList = xs) (hl : xs.length = n * size) (hn : n ≤ 1000) : Sl (w.alloc (.cells cs t)) size (some ⟨w.heap.size, 0, none⟩) n n xs :=
  ⟨hl, Nat.le_refl _, by unfold maxLen; omega, (fun h => nomatch h), fun _ => ⟨_, rfl, fun j x hx => cells_at w t cs j x (by rw [hc]; exact hx)⟩⟩
end Go.Proofs.YtmdakaflmheidaaGreatDoor
namespace Go.Proofs.YtmdakaflmheidaaGreatDoor
open Go.RowKit

def madeWords (n : Nat) : Obj := .cells (madeCells #[.int .u32 0] (n * 1)) 74
theorem make_words (n : Nat) (hn : n ≤ 1000000000) (W : World) : (Instr.makeSlice 24 (.int .i64 0) (.int .i64 (n : Int))).run Tryz.prog W = .ok (.slice (some ⟨W.heap.size, 0, none⟩) 0 n) (W.alloc (madeWords n)) := by
  obtain ⟨i, hi, hz, hs, hb⟩ := info_parts elemWords.info
  have := run_make (P := Tryz.prog) (w := W) 24 74 i _ elemWords.under hi hz .i64 .i64 0 (n : Int) (Int.le_refl _) (by omega) (by rw [hb]; omega) (by omega)
  rw [hs] at this
  exact this
theorem own_words (W : World) (n : Nat) (hn : n ≤ 1000000000) : Own (W.alloc (madeWords n)) W.heap.size 74 1 (some ⟨W.heap.size, 0, none⟩) 0 n [] :=
  ⟨rfl, .inr ⟨W.heap.size, _, rfl, Nat.le_refl _, heap_alloc_new W _, Nat.zero_le _, by unfold maxLen; omega, size_madeCells _ _, rfl⟩⟩
def marksW : List Int := [771, 772]
def LentWR (w : World) (n : Nat) (l : List Int) (e : Ending) (w' : World) : Prop := ∃ g, e = .returned (.slice (some ⟨g, 0, none⟩) n (n + 2)) ∧ Own w' w.heap.size 74 1 (some ⟨g, 0, none⟩) (n + 2) (n + 2) (wds (l ++ marksW)) ∧ Ext w w'
set_option maxRecDepth 100000 in
set_option maxHeartbeats 2000000 in
theorem lentWords_any (A : Option Addr) (c n : Nat) (l : List Int) (w : World) (hn : Hid (n = l.length)) (h : Hid (Sl w 1 A n c (wds l))) (hs : n ≤ 1000000) :
    Calls Tryz.prog 85 #[.slice A n c] w (LentWR w n l) := by
  have hmk2 : ∀ W : World, (Instr.makeSlice 24 (.int .i64 0) (.int .i64 ((n : Int) + 2))).run Tryz.prog W = .ok (.slice (some ⟨W.heap.size, 0, none⟩) 0 (n + 2)) (W.alloc (madeWords (n + 2))) := make_words (n + 2) (by omega)
  have m1 : True := trivial
  go_enter Tryz.func85, Tryz.ntmps85
  go_wp2_with (first
    | (at_builtin; have mk := m1; clear m1; go_loud (refine wpList_append_fit _ elemWords w.heap.size _ _ rfl rfl w.heap.size 0 (n + 2) [] rfl (own_words w (n + 2) (by omega)) (by omega) A n c (wds l) rfl (h.out.ext ((Ext.refl w).alloc _)) (wds_one l) (by omega) ?_); intro w1 o1 g1; have O1 := Lib.hid o1; have X1 : Ext w w1 := ((Ext.refl w).alloc _).grown g1 (fun k e => by cases e; exact Nat.le_refl _); have m2 : True := trivial; clear o1 g1)
    | (at_builtin; have mk := m2; go_loud (refine wpList_append_fit _ elemWords w.heap.size _ _ rfl rfl w.heap.size n (n + 2) (wds l) rfl (by have := O1.out.alloc (.cells (#[.int .u32 771, .int .u32 772] : Array Value) 74); rwa [List.nil_append, Nat.zero_add] at this) (by omega) (some ⟨w1.heap.size, 0, none⟩) 2 2 (wds marksW) rfl (sl_alloc w1 _ _ _ 1 2 rfl rfl (by decide)) (wds_one marksW) (by omega) ?_); intro w2 o2 g2; have O2 := Lib.hid o2; have X2 : Ext w w2 := (X1.alloc _).grown g2 (fun k e => by cases e; exact Nat.le_refl _); clear o2 g2))
  go_ret
  exact ⟨w.heap.size, by simp, by have := O2.out; rwa [wds_append] at this, X2⟩
theorem words_left {w : World} {A : Option Addr} {n m c : Nat} {l k : List Int} (h : Sl w 1 A m c (wds (l ++ k))) (hn : n = l.length) (hm : n ≤ m) : Sl w 1 A n c (wds l) := by
  have := Sl.take (k := n) h hm
  rw [Nat.mul_one, wds_take, hn, List.take_left] at this
  rw [hn]
  exact this
set_option maxRecDepth 100000 in
set_option maxHeartbeats 2000000 in
theorem wholeWords_any (A1 A2 : Option Addr) (c1 c2 n m : Nat) (l : List Int) (w : World) (hn : Hid (n = l.length)) (hm : Hid (m = n)) (hs : n ≤ 1000000000) (h1 : Hid (Sl w 1 A1 (n + 2) c1 (wds (l ++ marksW)))) (h2 : Hid (Sl w 1 A2 m c2 (wds l))) :
    Calls Tryz.prog 90 #[.slice A1 n c1, .slice A2 m c2] w fun e w' => e = .returned (.bool true) ∧ Ext w w' := by
  have hmn := hm.out
  subst hmn
  have hc := h1.out.cap
  have hlen : ∀ q : Nat, (wds (l ++ marksW))[m + q]? = (wds marksW)[q]? := fun q => by rw [← wds_append, List.getElem?_append_right (by rw [wds_len, ← hn.out]; omega), wds_len, ← hn.out, Nat.add_sub_cancel_left]
  obtain ⟨ad, e1, hcl⟩ := h1.out.2.2.2.2 (by omega)
  subst e1
  have p0 : w.cell? (ad.add m) = some (.int .u32 771) := hcl m _ (hlen 0)
  have q0 : w.cell? (ad.add (m + 1)) = some (.int .u32 772) := hcl (m + 1) _ (hlen 1)
  have q0' : w.cell? ⟨ad.block, ad.off + (m + 1), none⟩ = some (.int .u32 772) := by
    have := q0
    unfold Addr.add at this
    rwa [if_neg (by omega)] at this
  have H1 := Lib.hid (words_left h1.out hn.out (by omega))
  have hcd : ¬ c1 < m + 2 := by omega
  clear hlen hcl
  go_enter Tryz.func90, Tryz.ntmps90
  go_wp2_with (go_at_call 71; refine (sameWords_any (some ad) A2 m m c1 c2 l l _ H1.out h2.out).mono ?_; rintro e w1 ⟨rfl, x1⟩)
  go_ret
  exact ⟨by simp, x1⟩
theorem Own.fullW {w : World} {B s n c : Nat} {e : TypeId} {A : Option Addr} {xs : List Value} (h : Own w B e s A n c xs) : ∃ ys, Own w B e s A c c ys := by
  rcases h.2 with ⟨rfl, rfl⟩ | ⟨g, cur, rfl, hb, hg, hnc, hcm, hcs, _⟩
  · exact ⟨[], Own.empty _ _ _ _ _⟩
  · refine ⟨cur.toList.take (c * s), ?_, .inr ⟨g, cur, rfl, hb, hg, Nat.le_refl _, hcm, hcs, rfl⟩⟩
    rw [List.length_take]
    have : cur.toList.length = c * s := by simpa using hcs
    omega
set_option maxRecDepth 100000 in
set_option maxHeartbeats 2000000 in
theorem spoilWords_any (A : Option Addr) (n nn c B : Nat) (xs : List Value) (w : World) (h : Hid (Own w B 74 1 A nn c xs)) (hn : n ≤ c) :
    Calls Tryz.prog 68 #[.slice A n c] w fun e w' => e = .returned (.tuple #[]) ∧ Upd (fun k => blk A c = some k) w w' := by
  have hc9 := h.out.le.2
  obtain ⟨ys, hy⟩ := h.out.fullW
  have HY := Lib.hid hy
  clear hy
  go_enter Tryz.func68, Tryz.ntmps68
  go_wp2
  go_loopg [3] c (fun z v wr => ∃ (i : Nat) (ys : List Value), z = c - i ∧ i ≤ c ∧ v = .int .i64 i ∧ Hid (Own wr B 74 1 A c c ys) ∧ Hid (Upd (fun k => blk A c = some k) w wr))
  case atStart => exact ⟨0, ys, rfl, Nat.zero_le _, rfl, HY, Lib.hid (Upd.refl _ _)⟩
  case round =>
    clear HY
    obtain ⟨i, ys, rfl, hi, rfl, HY, HU⟩ := hrel
    by_cases hlt : i < c
    · obtain ⟨g, eA, hb, _, _, hcl, hfz⟩ := HY.out.form (by omega)
      have hl : ys.length = c * 1 := HY.out.1
      subst eA
      have q0 : wr.cell? ⟨g, i, none⟩ = some (ys[i]'(by omega)) := hcl _ _ (List.getElem?_eq_getElem (by omega))
      have z0 := hfz i
      have HB := Lib.hid hb
      clear hcl hfz hb
      go_wp2
      go_roundg (c - (i + 1))
      case measure => omega
      case rel => exact ⟨i + 1, _, rfl, by omega, by go_num, Lib.hid (HY.out.put i (.int .u32 77)), Lib.hid (HU.out.setCell (p := ⟨g, i, none⟩) (.inl HB.out) _)⟩
    · go_wp2
      go_returns
      exact ⟨rfl, HU.out⟩
end Go.Proofs.YtmdakaflmheidaaGreatDoor
namespace Go.Proofs.YtmdakaflmheidaaGreatDoor
open Go.RowKit

def LentTR (w : World) (v : Int) (n : Nat) (l : List Int) (e : Ending) (w' : World) : Prop := ∃ g, e = .returned (.agg #[.int .u64 v, .slice (some ⟨g, 0, none⟩) n (n + 2)]) ∧ Own w' w.heap.size 74 1 (some ⟨g, 0, none⟩) (n + 2) (n + 2) (wds (l ++ marksW)) ∧ Ext w w'
set_option maxRecDepth 100000 in
set_option maxHeartbeats 1000000 in
theorem lentTime_any (v : Int) (A : Option Addr) (c n : Nat) (l : List Int) (w : World) (hn : Hid (n = l.length)) (h : Hid (Sl w 1 A n c (wds l))) (hs : n ≤ 1000000) :
    Calls Tryz.prog 59 #[.agg #[.int .u64 v, .slice A n c]] w (LentTR w v n l) := by
  go_enter Tryz.func59, Tryz.ntmps59
  go_upto_region 1 with fail
  obtain ⟨w0, hw0⟩ : ∃ w0, w0 = (w.alloc (Obj.cells #[Value.int IntKind.u64 v, Value.slice A n c] 26)).alloc (Obj.cells #[Value.int IntKind.u64 0, Value.slice none 0 0] 26) := ⟨_, rfl⟩
  have x0 : Ext w w0 := hw0 ▸ ((Ext.refl w).alloc _).alloc _
  have s0 : w0.heap.size = w.heap.size + 2 := by subst hw0; simp
  have a0 : Bk w0 w.heap.size 26 #[Value.int IntKind.u64 v, Value.slice A n c] := by subst hw0; exact (Bk.new _ _ _).alloc _
  have r0 : Bk w0 (w.heap.size + 1) 26 #[Value.int IntKind.u64 0, Value.slice none 0 0] := by subst hw0; exact Bk.at (by simp)
  rw [← hw0]
  clear hw0
  have X : Ext w0 w0.drew := (Ext.refl w0).drew
  have q1 : ∀ y : Xt w0.drew, y.W.cell? ⟨w.heap.size, 0, none⟩ = some (.int .u64 v) := fun y => (a0.ext (X.trans y.x)).cell 0
  have q2 : ∀ y : Xt w0.drew, y.W.cell? ⟨w.heap.size, 1, none⟩ = some (.slice A n c) := fun y => (a0.ext (X.trans y.x)).cell 1
  refine wp_region_ord [0,1,0,4,12,31,63] (.flo [0,1,2,3] (.ext 4 (.flo [5] (.one 6 (.fin))))) (by kernel_rfl) (by kernel_rfl) (by intro _ _ d _ _ h; cases d <;> exact h) ?_
  (refine ord_flo (pick_cons rfl (pick_cons rfl (pick_cons rfl (pick_cons rfl pick_nil)))) ?_; (repeat (go_big_quiet_step (fail))); refine wpQuiet_nil ?_; show ordWalk _ _ _ _ _ _ _)
  refine ord_ext (pick_cons rfl pick_nil) ?_; intro K_ hK_
  go_wp2_with (go_at_call 85; go_loud (refine (lentWords_any A c n l _ hn (Lib.hid (h.out.ext (x0.trans X))) hs).mono ?_); rintro r w1 ⟨g, rfl, o1, x1⟩)
  refine ordNext.mk x1 ?_
  have R := r0.ext (X.trans x1)
  have z0 := R.cell 0
  have z1 := R.cell 1
  have f0 := R.free 0
  have f1 := R.free 1
  (refine ord_flo (pick_cons rfl pick_nil) ?_; (repeat (go_big_quiet_step (fail))); refine wpQuiet_nil ?_; show ordWalk _ _ _ _ _ _ _)
  refine ord_one (pick_cons rfl pick_nil) ?_; intro K_ hK_
  go_wp2
  refine ord_fin ?_
  go_wp2
  have q := R.set2 (.int .u64 v) (.slice (some ⟨g, 0, none⟩) n (n + 2))
  refine bodyPost_ret (v := .agg #[.int .u64 v, .slice (some ⟨g, 0, none⟩) n (n + 2)]) (by simp [results, Tryz.results59, go_sem, q.1, q.2]) rfl ?_
  have e1 := (x0.trans X).trans x1
  have hsx := X.size
  have O1 : Own w1 w.heap.size 74 1 (some ⟨g, 0, none⟩) (n + 2) (n + 2) (wds (l ++ marksW)) := o1.mono (by omega)
  have hg : ∀ k, k < w.heap.size + 2 → blk (some ⟨g, 0, none⟩ : Option Addr) (n + 2) ≠ some k := fun k hk => o1.ne (by omega)
  refine ⟨g, rfl, ?_, ?_⟩
  · exact ((O1.far (hg _ (by simp)) _).far (hg _ (by simp)) _)
  · (repeat' (first | with_reducible exact e1 | with_reducible refine Ext.drew ?_ | with_reducible refine Ext.drewN ?_ _ | with_reducible refine Ext.alloc ?_ _ | with_reducible refine Ext.set ?_ ?_ _ | omega | (simp; done) | (simp; omega)))
theorem wholeTime_any (v : Int) (A1 A2 : Option Addr) (c1 c2 n : Nat) (l : List Int) (w : World) (hn : Hid (n = l.length)) (hs : n ≤ 1000000000) (h1 : Hid (Sl w 1 A1 (n + 2) c1 (wds (l ++ marksW)))) (h2 : Hid (Sl w 1 A2 n c2 (wds l))) :
    Calls Tryz.prog 67 #[.agg #[.int .u64 v, .slice A1 n c1], .agg #[.int .u64 v, .slice A2 n c2]] w fun e w' => e = .returned (.bool true) ∧ Ext w w' := by
  go_enter Tryz.func67, Tryz.ntmps67
  go_wp2_with (go_at_call 90; go_loud (refine (wholeWords_any A1 A2 c1 c2 n n l _ hn (Lib.hid rfl) hs (Lib.hid (h1.out.ext (((Ext.refl w).alloc _).alloc _))) (Lib.hid (h2.out.ext (((Ext.refl w).alloc _).alloc _)))).mono ?_); rintro r w1 ⟨rfl, x1⟩)
  go_ret
  exact ⟨rfl, (((Ext.refl w).alloc _).alloc _).trans x1⟩
end Go.Proofs.YtmdakaflmheidaaGreatDoor
