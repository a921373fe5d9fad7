/- penstockref05.Counts: Update. Conditions: each theorem states its own. -/
import Derived.Test.YtdgbkpoickbidaaGreatDoorCc4
import Derived.Test.YtdgbkpoickbidaaGreatDoorCc5
namespace Go.Proofs.YtdgbkpoickbidaaGreatDoor
open Go.RowKit

theorem cgsC_set : ∀ (L : List Cg) (k : Nat) (d : Int), k < L.length → (cgsC L).set (k * 3 + 2) (.int .i64 d) = cgsC (L.set k ⟨(L.getD k Cg.zero).t, d⟩)
  | [], k, d, h => absurd h (Nat.not_lt_zero _)
  | x :: l, 0, d, _ => by unfold cgsC; rw [List.flatMap_cons, List.set_cons_zero, List.flatMap_cons]; rfl
  | x :: l, k + 1, d, h => by
    show (cgC x ++ cgsC l).set ((k + 1) * 3 + 2) _ = cgC x ++ cgsC (l.set k _)
    rw [List.set_append_right _ _ (by show 3 ≤ _; omega), show (k + 1) * 3 + 2 - (cgC x).length = k * 3 + 2 by show _ - 3 = _; omega, cgsC_set l k d (Nat.lt_of_succ_lt_succ h)]
    rfl
theorem cgsC_take (L : List Cg) (k : Nat) : (cgsC L).take (k * 3) = cgsC (L.take k) := by
  induction L generalizing k with
  | nil => simp [cgsC]
  | cons x L ih =>
    cases k with
    | zero => simp [cgsC]
    | succ k =>
      show (cgC x ++ cgsC L).take _ = cgC x ++ cgsC (L.take k)
      rw [List.take_append, show (cgC x).length = 3 from rfl, show (k + 1) * 3 - 3 = k * 3 by omega, ih, List.take_of_length_le (by show 3 ≤ _; omega)]
theorem cgsC_drop (L : List Cg) (k : Nat) : (cgsC L).drop (k * 3) = cgsC (L.drop k) := by
  induction L generalizing k with
  | nil => simp [cgsC]
  | cons x L ih =>
    cases k with
    | zero => simp [cgsC]
    | succ k =>
      show (cgC x ++ cgsC L).drop _ = cgsC (L.drop k)
      rw [List.drop_append, show (cgC x).length = 3 from rfl, show (k + 1) * 3 - 3 = k * 3 by omega, ih, List.drop_of_length_le (by show 3 ≤ _; omega), List.nil_append]
/-! ### one change, plain -/
def bump (v : TV) (d : Int) (y : Cg) : Cg := if y.t.v = v then ⟨y.t, IntKind.i64.wrap (y.d + d)⟩ else y
def bumpK (L : List Cg) (v : TV) (d : Int) (k : Nat) : List Cg := (L.take k).map (bump v d) ++ L.drop k
def fnd (L : List Cg) (v : TV) (k : Nat) : Bool := (L.take k).any fun y => decide (y.t.v = v)
section
variable {L : List Cg} {v : TV} {d : Int} {k : Nat}
theorem bumpK_zero : bumpK L v d 0 = L := by simp [bumpK]
theorem bumpK_len : (bumpK L v d k).length = L.length := by unfold bumpK; rw [List.length_append, List.length_map, List.length_take, List.length_drop]; omega
theorem bumpK_get (h : k < L.length) : (bumpK L v d k).getD k Cg.zero = L.getD k Cg.zero := by
  unfold bumpK
  rw [List.getD_eq_getElem?_getD, List.getElem?_append_right (by simp; omega), List.getD_eq_getElem?_getD]
  have : ((L.take k).map (bump v d)).length = k := by simp; omega
  rw [this, Nat.sub_self, List.getElem?_drop, Nat.add_zero]
theorem take_sG (h : k < L.length) : L.take (k + 1) = L.take k ++ [L.getD k Cg.zero] := by
  rw [List.take_succ_eq_append_getElem h, List.getD_eq_getElem?_getD, List.getElem?_eq_getElem h]; rfl
theorem drop_sG (h : k < L.length) : L.drop k = L.getD k Cg.zero :: L.drop (k + 1) := by
  rw [List.drop_eq_getElem_cons h, List.getD_eq_getElem?_getD, List.getElem?_eq_getElem h]; rfl
theorem bumpK_same (h : k < L.length) (hn : (L.getD k Cg.zero).t.v ≠ v) : bumpK L v d (k + 1) = bumpK L v d k := by
  unfold bumpK
  have e : bump v d (L.getD k Cg.zero) = L.getD k Cg.zero := by unfold bump; rw [if_neg hn]
  rw [take_sG h, drop_sG h, List.map_append, List.append_assoc, List.map_singleton, e]
  rfl
theorem bumpK_set (h : k < L.length) (he : (L.getD k Cg.zero).t.v = v) : bumpK L v d (k + 1) = (bumpK L v d k).set k ⟨(L.getD k Cg.zero).t, IntKind.i64.wrap ((L.getD k Cg.zero).d + d)⟩ := by
  unfold bumpK
  have hl : ((L.take k).map (bump v d)).length = k := by simp; omega
  rw [take_sG h, List.map_append, List.append_assoc, List.set_append_right _ _ (by rw [hl]; exact Nat.le_refl _), hl, Nat.sub_self, drop_sG h, List.set_cons_zero]
  simp only [List.map_cons, List.map_nil, List.singleton_append]
  congr 2
  unfold bump
  rw [if_pos he]
theorem bumpK_all : bumpK L v d L.length = L.map (bump v d) := by simp [bumpK]
theorem bumpK_t : (bumpK L v d k).map Cg.t = L.map Cg.t := by
  unfold bumpK
  have e : ∀ l : List Cg, (l.map (bump v d)).map Cg.t = l.map Cg.t := fun l => by
    rw [List.map_map]
    refine List.map_congr_left fun y _ => ?_
    show (bump v d y).t = y.t
    unfold bump
    split <;> rfl
  rw [List.map_append, e, ← List.map_append, List.take_append_drop]
theorem fnd_zero : fnd L v 0 = false := by simp [fnd]
theorem fnd_succ (h : k < L.length) : fnd L v (k + 1) = (fnd L v k || decide ((L.getD k Cg.zero).t.v = v)) := by
  unfold fnd
  rw [take_sG h, List.any_append]
  simp
theorem bump_found (h : fnd L v L.length = true) : (L.map (bump v d)).map Cg.cv = addR (L.map Cg.cv) (v, d) := by
  unfold fnd at h
  rw [List.take_length] at h
  obtain ⟨y, hy, e⟩ := List.any_eq_true.1 h
  have e := of_decide_eq_true e
  unfold addR
  rw [if_pos (by rw [List.map_map]; exact List.mem_map.2 ⟨y, hy, e⟩), List.map_map, List.map_map]
  refine List.map_congr_left fun z _ => ?_
  show (bump v d z).cv = if z.t.v = v then (z.t.v, IntKind.i64.wrap (z.d + d)) else z.cv
  unfold bump
  split <;> rfl
theorem bump_none (h : fnd L v L.length = false) : L.map (bump v d) = L ∧ ∀ x : Cg, x.t.v = v → x.d = d → (L ++ [x]).map Cg.cv = addR (L.map Cg.cv) (v, d) := by
  unfold fnd at h
  rw [List.take_length] at h
  have hn : ∀ y ∈ L, y.t.v ≠ v := fun y hy e => by
    have := List.any_eq_false.1 h y hy
    exact this (decide_eq_true e)
  refine ⟨?_, fun x hx hd => ?_⟩
  · rw [List.map_congr_left (g := fun y => y) (fun y hy => by unfold bump; rw [if_neg (hn y hy)]), List.map_id']
  · unfold addR
    rw [if_neg (fun hm => by
      rw [List.map_map] at hm
      obtain ⟨y, hy, e⟩ := List.mem_map.1 hm
      exact hn y hy e), List.map_append]
    subst hx hd
    rfl
end
/-! ### the counts in memory -/
/-- the blocks that the counts' methods may turn -/
def RS (gc : Nat) (A : Option Addr) (c k : Nat) : Prop := k = gc ∨ blk A c = some k
theorem Upd.next {S T : Nat → Prop} {a b c : World} (h : Upd S a b) (k : Upd T b c) (hs : ∀ q, q < a.heap.size → T q → S q) : Upd S a c :=
  ⟨k.os.trans h.os, k.tape.trans h.tape, k.output.trans h.output, Nat.le_trans h.size k.size, fun q hq hn => (k.block q (Nat.lt_of_lt_of_le hq h.size) (fun e => hn (hs q hq e))).trans (h.block q hq hn)⟩
theorem rs_next {gc c cL n : Nat} {A AL : Option Addr} (h : ∀ k, blk A c = some k → blk AL cL = some k ∨ n ≤ k) : ∀ q, q < n → RS gc A c q → RS gc AL cL q := fun q hq hs => by
  rcases hs with rfl | hs
  · exact .inl rfl
  · rcases h q hs with h | h
    · exact .inr h
    · omega
/-- the document's counts at gc; their counters are what was there at w0 -/
structure RC (w0 w : World) (gc : Nat) (A : Option Addr) (c m : Nat) (L : List Cg) : Prop where
  bk : Bk w gc 65 #[.slice A m c]
  lo : w0.heap.size ≤ gc
  len : m = L.length
  own : Own w w0.heap.size 60 3 A m c (cgsC L)
  ne : blk A c ≠ some gc
  ls : ∀ x ∈ L, Sl w0 1 x.t.A x.t.l.length x.t.c (wds x.t.l)
  ext : Ext w0 w
section
variable {w0 w w' : World} {gc c m : Nat} {A : Option Addr} {L : List Cg}
theorem RC.grow (h : RC w0 w gc A c m L) (x : Ext w w') : RC w0 w' gc A c m L := ⟨h.bk.ext x, h.lo, h.len, h.own.ext x, h.ne, h.ls, h.ext.trans x⟩
theorem RC.upd {S : Nat → Prop} (h : RC w0 w gc A c m L) (x : Upd S w w') (hS : ∀ k, RS gc A c k → ¬ S k) (hl : ∀ k, S k → w0.heap.size ≤ k) : RC w0 w' gc A c m L :=
  ⟨bk_upd h.bk x (hS _ (.inl rfl)), h.lo, h.len, h.own.upd x (fun k hk => hS k (.inr hk)), h.ne, h.ls, ext_upd h.ext x hl⟩
theorem RC.cin (h : RC w0 w gc A c m L) : Cin w A c L := ⟨by have := h.own.sl; rwa [h.len] at this, fun x hx => (h.ls x hx).ext h.ext⟩
theorem RC.low (h : RC w0 w gc A c m L) : ∀ k, RS gc A c k → w0.heap.size ≤ k ∧ k < w.heap.size := fun k hk => by
  rcases hk with rfl | hk
  · exact ⟨h.lo, h.bk.lt⟩
  · exact h.own.lt k hk
theorem RC.set (h : RC w0 w gc A c m L) {k : Nat} (hk : k < m) {ad : Addr} (ha : A = some ad) (d : Int) :
    RC w0 (w.setCell ⟨(ad.add (k * 3)).block, (ad.add (k * 3)).off + 2, none⟩ (.int .i64 d)) gc A c m (L.set k ⟨(L.getD k Cg.zero).t, d⟩) ∧ Upd (RS gc A c) w (w.setCell ⟨(ad.add (k * 3)).block, (ad.add (k * 3)).off + 2, none⟩ (.int .i64 d)) := by
  obtain ⟨g, e, hb, h1, h2, _, _⟩ := h.own.form (by omega)
  subst ha
  obtain rfl : ad = ⟨g, 0, none⟩ := by injection e
  have ha2 : ((⟨g, 0, none⟩ : Addr).add (k * 3)).block = g := block_add _ _
  have ha3 : ((⟨g, 0, none⟩ : Addr).add (k * 3)).off = k * 3 := by unfold Addr.add; split <;> simp_all
  rw [ha2, ha3]
  have hne : gc ≠ g := fun e => h.ne (e ▸ hb)
  have hkL : k < L.length := by rw [← h.len]; exact hk
  refine ⟨⟨h.bk.far hne _, h.lo, by rw [List.length_set]; exact h.len, ?_, h.ne, fun x hx => ?_, h.ext.set h1 _⟩, (Upd.refl _ _).setCell (.inl (.inr hb)) _⟩
  · rw [← cgsC_set L k d hkL]
    exact h.own.put _ _
  · rcases List.mem_or_eq_of_mem_set hx with hx | rfl
    · exact h.ls x hx
    · exact h.ls (L.getD k Cg.zero) (getG_mem hkL)
theorem RC.free (h : RC w0 w gc A c m L) {k : Nat} (hk : k < m) {ad : Addr} (ha : A = some ad) : w.frozen? ⟨(ad.add (k * 3)).block, (ad.add (k * 3)).off + 2, none⟩ = false := by
  obtain ⟨g, e, hb, h1, h2, _, hf⟩ := h.own.form (by omega)
  subst ha
  obtain rfl : ad = ⟨g, 0, none⟩ := by injection e
  have ha2 : ((⟨g, 0, none⟩ : Addr).add (k * 3)).block = g := block_add _ _
  rw [ha2]
  exact hf _
theorem RC.app (h : RC w0 w gc A c m L) (ob : Obj) {x : Cg} (hx : Sl w0 1 x.t.A x.t.l.length x.t.c (wds x.t.l)) {A3 : Option Addr} {c3 : Nat} {w3 : World} (o3 : Own w3 w0.heap.size 60 3 A3 (m + 1) c3 (cgsC L ++ cgC x)) (g3 : (w.alloc ob).grownBy w3 (blk A c)) (x3 : (A3 = A ∧ c3 = c) ∨ (blk A3 c3 = some (w.alloc ob).heap.size ∧ Ext (w.alloc ob) w3)) :
    RC w0 (w3.setCell ⟨gc, 0, none⟩ (.slice A3 (m + 1) c3)) gc A3 c3 (m + 1) (L ++ [x]) ∧ Upd (RS gc A c) w (w3.setCell ⟨gc, 0, none⟩ (.slice A3 (m + 1) c3)) ∧ ∀ k, blk A3 c3 = some k → blk A c = some k ∨ w.heap.size ≤ k := by
  have hsz := ((Ext.refl w).alloc ob).size
  have u3 : Upd (fun k => blk A c = some k) w w3 := ((Upd.refl _ w).alloc ob).grown g3 (fun k hk => .inl hk)
  have hnew : ∀ k, blk A3 c3 = some k → blk A c = some k ∨ w.heap.size ≤ k := fun k hk => by
    rcases x3 with ⟨rfl, rfl⟩ | ⟨h1, _⟩
    · exact .inl hk
    · rw [h1] at hk; injection hk with hk; exact .inr (by omega)
  have hne : blk A3 c3 ≠ some gc := fun e => by
    rcases hnew gc e with q | q
    · exact h.ne q
    · have := h.bk.lt; omega
  have u4 : Upd (RS gc A c) w (w3.setCell ⟨gc, 0, none⟩ (.slice A3 (m + 1) c3)) := (u3.mono (fun k _ hk => .inr hk)).setCell (.inl (.inl rfl)) _
  refine ⟨⟨(bk_upd h.bk u3 h.ne).set 0 _, h.lo, by rw [List.length_append, h.len]; rfl, ?_, hne, fun y hy => ?_, ext_upd h.ext u4 (fun k hk => (h.low k hk).1)⟩, u4, hnew⟩
  · rw [cgsC_append, show cgsC [x] = cgC x by simp [cgsC]]
    exact o3.far hne _
  · rcases List.mem_append.1 hy with hy | hy
    · exact h.ls y hy
    · rw [List.mem_singleton] at hy; subst hy; exact hx
end
/-! ### what is told -/
structure MovI (w0 w : World) (V W : List TV) (MM : List Tm) (wr : World) (i n : Nat) (A : Option Addr) (c : Nat) (R : List Cg) : Prop where
  len : n = R.length
  le : n ≤ i
  own : Own wr w.heap.size 60 3 A n c (cgsC R)
  sub : ∀ x ∈ R, x.t ∈ MM
  up : MovUp V W i (R.map Cg.cv)
  ext : Ext w wr
section
variable {w0 w wr w2 : World} {V W : List TV} {MM : List Tm} {i n c : Nat} {A : Option Addr} {R : List Cg}
theorem MovI.grow (h : MovI w0 w V W MM wr i n A c R) (x : Ext wr w2) : MovI w0 w V W MM w2 i n A c R := ⟨h.len, h.le, h.own.ext x, h.sub, h.up, h.ext.trans x⟩
theorem MovI.cin (h : MovI w0 w V W MM wr i n A c R) (hM : ∀ x ∈ MM, Sl w 1 x.A x.l.length x.c (wds x.l)) : Cin wr A c R := ⟨by have := h.own.sl; rwa [h.len] at this, fun x hx => (hM _ (h.sub x hx)).ext h.ext⟩
theorem mm_at (e : V ++ W = MM.map Tm.v) (hi : i < MM.length) : ∃ h : i < (V ++ W).length, (V ++ W)[i] = (MM.getD i Tm.zero).v := by
  refine ⟨by rw [e, List.length_map]; exact hi, ?_⟩
  simp only [e]
  exact getT_v hi
theorem MovI.skip (e : V ++ W = MM.map Tm.v) (h : MovI w0 w V W MM wr i n A c R) (hi : i < MM.length) (h1 : (MM.getD i Tm.zero).v ∈ V) (h2 : (MM.getD i Tm.zero).v ∈ W) (x : Ext wr w2) : MovI w0 w V W MM w2 (i + 1) n A c R := by
  obtain ⟨q1, q2⟩ := mm_at e hi
  exact ⟨h.len, by have := h.le; omega, h.own.ext x, h.sub, h.up.skip q1 (by rw [q2]; exact ⟨h1, h2⟩), h.ext.trans x⟩
theorem MovI.put (e : V ++ W = MM.map Tm.v) (hV : Rising V) (hW : Rising W) (h : MovI w0 w V W MM wr i n A c R) (hi : i < MM.length) (hb : ¬ ((MM.getD i Tm.zero).v ∈ V ∧ (MM.getD i Tm.zero).v ∈ W)) {j m : Nat} (hj : j ≤ n) {x : Cg} (hx : x.t = MM.getD i Tm.zero) (hd : x.d = if i < V.length then -1 else 1)
    (h1 : ∀ y ∈ R.take j, tcmp y.t.v x.t.v < 0) (h2 : ∀ y, (R.drop j).head? = some y → ¬ tcmp y.t.v x.t.v < 0) (hm : m = n + 1) {w6 : World} (x6 : Ext wr w6) {A6 : Option Addr} {c6 : Nat}
    (o : Own w6 wr.heap.size 60 3 A6 m c6 (cgsC (R.take j) ++ cgC x ++ cgsC (R.drop j))) : MovI w0 w V W MM w6 (i + 1) m A6 c6 (R.take j ++ [x] ++ R.drop j) := by
  obtain ⟨q1, q2⟩ := mm_at e hi
  refine ⟨by have := h.len; simp; omega, by have := h.le; omega, ?_, fun y hy => ?_, ?_, h.ext.trans x6⟩
  · rw [cgsC_append, cgsC_append, show cgsC [x] = cgC x by simp [cgsC]]
    exact o.mono h.ext.size
  · rcases List.mem_append.1 hy with hy | hy
    · rcases List.mem_append.1 hy with hy | hy
      · exact h.sub y (List.mem_of_mem_take hy)
      · rw [List.mem_singleton] at hy; subst hy; rw [hx]; exact getT_mem hi
    · exact h.sub y (List.mem_of_mem_drop hy)
  · rw [List.map_append, List.map_append]
    refine MovUp.put hV hW (by rw [← List.map_append, List.take_append_drop]; exact h.up) q1 (by rw [q2]; exact hb) (x := x.cv) (Prod.ext (by rw [q2, ← hx]; rfl) hd) (fun y hy => ?_) (fun y hy => ?_)
    · obtain ⟨z, hz, rfl⟩ := List.mem_map.1 hy
      exact h1 z hz
    · rw [List.head?_map] at hy
      cases hz : (R.drop j).head? with
      | none => rw [hz] at hy; simp at hy
      | some z =>
        rw [hz] at hy
        injection hy with hy
        subst hy
        exact h2 z hz
end
/-- what Update answers -/
structure RUpdI (w0 w : World) (gc : Nat) (A : Option Addr) (c : Nat) (L Ch : List Cg) (Ao : Option Addr) (co no : Nat) (R : List Cg) (A' : Option Addr) (c' m' : Nat) (L' : List Cg) (w' : World) : Prop where
  len : no = R.length
  out : Cin w' Ao co R
  is : R.map Cg.cv = movedV (ofV (liveV (L.map Cg.cv))) (ofV (liveV (allR (L.map Cg.cv) (Ch.map Cg.cv))))
  st : RC w0 w' gc A' c' m' L'
  now : L'.map Cg.cv = allR (L.map Cg.cv) (Ch.map Cg.cv)
  upd : Upd (RS gc A c) w w'
  new : ∀ k, blk A' c' = some k → blk A c = some k ∨ w.heap.size ≤ k
  more : m' ≤ L.length + Ch.length
  own : Own w' w.heap.size 60 3 Ao no co (cgsC R)
  ls : ∀ x ∈ R, Sl w0 1 x.t.A x.t.l.length x.t.c (wds x.t.l)
def RUpdOut (w0 w : World) (gc : Nat) (A : Option Addr) (c : Nat) (L Ch : List Cg) (e : Ending) (w' : World) : Prop := ∃ Ao co no R A' c' m' L', e = .returned (.slice Ao no co) ∧ RUpdI w0 w gc A c L Ch Ao co no R A' c' m' L' w'
def CmpLt3 (R : List Cg) (v : TV) (j : Nat) : Prop := ∀ x ∈ R.take j, tcmp x.t.v v < 0
def CmpGe3 (R : List Cg) (v : TV) (j : Nat) : Prop := ∀ x, (R.drop j).head? = some x → ¬ tcmp x.t.v v < 0
theorem cg_fine {L : List Cg} (h : ∀ x ∈ L, InV x.t.v) : ∀ x ∈ L, U32 x.t.l ∧ x.t.l.length ≤ 1000000 := fun x hx => ⟨(h x hx).u, Nat.le_trans (h x hx).n (by decide)⟩
/-- every time of the counts is such as readings give -/
theorem allR_inv {D l : List CV} (h : ∀ x ∈ D, InV x.1) (k : ∀ x ∈ l, InV x.1) : ∀ x ∈ allR D l, InV x.1 := by
  unfold allR
  induction l generalizing D with
  | nil => exact h
  | cons x l ih =>
    refine ih (fun y hy => ?_) (fun y hy => k y (List.mem_cons_of_mem _ hy))
    unfold addR at hy
    split at hy
    · obtain ⟨z, hz, rfl⟩ := List.mem_map.1 hy
      split
      · exact h z hz
      · exact h z hz
    · rcases List.mem_append.1 hy with hy | hy
      · exact h y hy
      · rw [List.mem_singleton] at hy; subst hy; exact k _ (by simp)
theorem inv_cv {L : List Cg} : (∀ x ∈ L, InV x.t.v) ↔ ∀ x ∈ L.map Cg.cv, InV x.1 := by
  constructor
  · intro h x hx
    obtain ⟨y, hy, rfl⟩ := List.mem_map.1 hx
    exact h y hy
  · intro h x hx
    exact h x.cv (List.mem_map.2 ⟨x, hx, rfl⟩)
theorem mem_take {α : Type} {x : α} {l : List α} {k : Nat} (h : x ∈ l.take k) : x ∈ l := List.mem_of_mem_take h

set_option maxRecDepth 100000 in
set_option maxHeartbeats 16000000 in
theorem rupd_any (gc mL cL : Nat) (AL : Option Addr) (L : List Cg) (AC : Option Addr) (cC n : Nat) (Ch : List Cg) (w0 w : World) (hR : Hid (RC w0 w gc AL cL mL L)) (hK : Hid (KeysC (L.map Cg.cv))) (hI : Hid (∀ x ∈ L, InV x.t.v)) (hn : Hid (n = Ch.length)) (hC : Hid (Cin w0 AC cC Ch)) (hV : Hid (∀ x ∈ Ch, InV x.t.v)) (h9 : mL ≤ 10000) (hn9 : n ≤ 10000) :
    Calls Tryz.prog 33 #[.pointer (some ⟨gc, 0, none⟩), .slice AC n cC] w (RUpdOut w0 w gc AL cL L Ch) := by
  go_enter Tryz.func33, Tryz.ntmps33
  go_wp2_with (go_at_call 38; go_loud (refine (rfront_own gc mL cL AL L _ (Lib.hid hR.out.bk) (Lib.hid hR.out.len) (Lib.hid hR.out.cin) (Lib.hid (cg_fine hI.out)) (by omega)).mono ?_); rintro r w1 ⟨A1, c1, n1, M1, rfl, h1, t1, v1, x1, o1, s1⟩; have HN1 := Lib.hid h1; have HV1 := Lib.hid v1; have X1 := Lib.hid x1; have HO1 := Lib.hid o1; have HS1 := Lib.hid s1; clear h1 t1 v1 x1 o1 s1)
  have hn1 : n1 ≤ 10000 := by
    have a := ofV_len (liveV (L.map Cg.cv))
    have b := live_len (L.map Cg.cv)
    have e := congrArg List.length HV1.out
    rw [List.length_map] at e b
    have := HN1.out
    have := hR.out.len
    omega
  go_loopg [6] n (fun z v6 wr => ∃ (i m : Nat) (A : Option Addr) (c : Nat) (L' : List Cg), z = n - i ∧ i ≤ n ∧ v6 = .int .i64 i ∧ m ≤ mL + i ∧ Hid (RC w0 wr gc A c m L') ∧ Hid (L'.map Cg.cv = allR (L.map Cg.cv) ((Ch.map Cg.cv).take i)) ∧ Hid (Upd (RS gc AL cL) w1 wr) ∧ Hid (∀ k, blk A c = some k → blk AL cL = some k ∨ w1.heap.size ≤ k))
  case atStart => exact ⟨0, mL, AL, cL, L, rfl, Nat.zero_le _, rfl, by omega, Lib.hid (hR.out.grow X1.out), Lib.hid (by simp [allR]), Lib.hid (Upd.refl _ _), Lib.hid (fun k hk => .inl hk)⟩
  case round =>
    obtain ⟨i, m, A, c, L', rfl, hi, rfl, hm9, HR, HL, HU, HB⟩ := hrel
    obtain ⟨wo, hwo⟩ : ∃ wo : World, wo = wr := ⟨_, rfl⟩
    rw [← hwo] at HR HU ⊢
    clear hwo
    by_cases hlt : i < n
    · have hiC : i < Ch.length := by rw [← hn.out]; exact hlt
      have hxx := getG_mem hiC
      have hf := hV.out _ hxx
      have HCV := Lib.hid (getG_cv hiC)
      obtain ⟨x, hx⟩ : ∃ x, Ch.getD i Cg.zero = x := ⟨_, rfl⟩
      have hxa : ∀ W, Ext w0 W → ∃ ad, AC = some ad ∧ W.cell? (ad.add (i * 3)) = some (.int .u64 x.t.e) ∧ W.cell? ⟨(ad.add (i * 3)).block, (ad.add (i * 3)).off + 1, none⟩ = some (.slice x.t.A x.t.l.length x.t.c) ∧ W.cell? ⟨(ad.add (i * 3)).block, (ad.add (i * 3)).off + 2, none⟩ = some (.int .i64 x.d) := fun W q => by
        have := (hC.out.ext q).at hiC
        rwa [hx] at this
      have hxs : ∀ W, Ext w0 W → Sl W 1 x.t.A x.t.l.length x.t.c (wds x.t.l) := fun W q => by
        have := (hC.out.ext q).ls _ hxx
        rwa [hx] at this
      rw [hx] at hf HCV
      have HX := Lib.hid hx
      obtain ⟨⟨f, Bx, cx, lx⟩, d⟩ := x
      obtain ⟨nx, hnx⟩ : ∃ nx, lx.length = nx := ⟨_, rfl⟩
      dsimp only at hxa hxs
      have HXL : Hid (Sl w0 1 Bx lx.length cx (wds lx)) := Lib.hid (hxs w0 (Ext.refl _))
      have HIN : Hid (InV (f, lx)) := Lib.hid hf
      have hnx9 : nx ≤ 1000000 := by have : lx.length ≤ 1000 := HIN.out.n; omega
      have HNX := Lib.hid hnx
      simp only [hnx] at hxa hxs
      have HXA := Lib.hid hxa
      have HXS := Lib.hid hxs
      have UX : Hid (U32 lx) := Lib.hid HIN.out.u
      clear hx hnx hxa hxs hf hxx hiC
      go_wp2
      go_loopg [7, 8] m (fun z v7 v8 wr => ∃ (k : Nat) (b : Bool), z = m - k ∧ k ≤ m ∧ v8 = .int .i64 k ∧ v7 = .bool b ∧ Hid (fnd L' (f, lx) k = b) ∧ Hid (RC w0 wr gc A c m (bumpK L' (f, lx) d k)) ∧ Hid (Upd (RS gc A c) wo wr))
      case atStart => exact ⟨0, false, rfl, Nat.zero_le _, rfl, rfl, Lib.hid fnd_zero, Lib.hid (by rw [bumpK_zero]; exact HR.out), Lib.hid (Upd.refl _ _)⟩
      case round =>
        obtain ⟨k, b, rfl, hk, rfl, rfl, HB2, HR2, HU2⟩ := hrel
        have g0 : wr.cell? ⟨gc, 0, none⟩ = some (.slice A m c) := HR2.out.bk.cell 0
        by_cases hlk : k < m
        · have hkL : k < (bumpK L' (f, lx) d k).length := by rw [← HR2.out.len]; exact hlk
          have hkL2 : k < L'.length := by rw [← HR.out.len]; exact hlk
          obtain ⟨ad, eA, q0, q1, q2⟩ := HXA.out wr HR2.out.ext
          subst eA
          obtain ⟨g, Ag, ng, cg, lg, dg, ad2, T, hg, hng⟩ := HR2.out.cin.cgAt hkL
          rw [bumpK_get hkL2] at hg
          obtain ⟨e2, r0, r1, r2, RS1⟩ := T
          have hfz := HR2.out.free hlk e2
          have HST := Lib.hid (HR2.out.set hlk e2)
          subst e2
          have HKL := Lib.hid hkL2
          have hfg : InV (g, lg) := by
            have h1 : ∀ x ∈ L'.map Cg.cv, InV x.1 := by rw [HL.out]; exact allR_inv (inv_cv.1 hI.out) (fun x hx => inv_cv.1 hV.out x (List.mem_of_mem_take hx))
            have := inv_cv.2 h1 _ (getG_mem hkL2)
            rw [hg] at this
            exact this
          have UG : Hid (U32 lg) := Lib.hid hfg.u
          have hng9 : ng ≤ 1000000 := by have : lg.length ≤ 1000 := hfg.n; omega
          have HG := Lib.hid hg
          clear hg hng hfg hkL hkL2
          obtain ⟨cv, hcv⟩ : ∃ cv, tcmp (g, lg) (f, lx) = cv := ⟨_, rfl⟩
          have HCM := Lib.hid hcv
          clear hcv
          have gg : ∀ y : Xt wr, y.W.cell? ⟨gc, 0, none⟩ = some (.slice (some ad2) m c) := fun y => y.x.cell g0
          have qq0 : ∀ y : Xt wr, y.W.cell? (ad.add (i * 3)) = some (.int .u64 f) := fun y => y.x.cell q0
          have qq1 : ∀ y : Xt wr, y.W.cell? ⟨(ad.add (i * 3)).block, (ad.add (i * 3)).off + 1, none⟩ = some (.slice Bx nx cx) := fun y => y.x.cell q1
          have qq2 : ∀ y : Xt wr, y.W.cell? ⟨(ad.add (i * 3)).block, (ad.add (i * 3)).off + 2, none⟩ = some (.int .i64 d) := fun y => y.x.cell q2
          have SXY : ∀ y : Xt wr, Hid (Sl y.W 1 Bx nx cx (wds lx)) := fun y => Lib.hid (HXS.out _ (HR2.out.ext.trans y.x))
          have ff : ∀ y : Xt wr, y.W.frozen? ⟨(ad2.add (k * 3)).block, (ad2.add (k * 3)).off + 2, none⟩ = false := fun y => (HR2.out.grow y.x).free hlk rfl
          have HFF := Lib.hid ff
          have HR1 := Lib.hid r2
          have HGG := Lib.hid gg
          have HQ2 := Lib.hid qq2
          clear q0 q1 q2 hfz ff
          by_cases hz : cv = 0
          · have hz1 : (cv == 0) = true := by simpa using hz
            have HZ := Lib.hid hz
            clear hz
            obtain ⟨nn, hnn⟩ : ∃ nn, IntKind.i64.wrap (dg + d) = nn := ⟨_, rfl⟩
            have hw64 : wrap64 (dg + d) = nn := by rw [← hnn, IntKind.wrap_i64]; unfold wrap64; omega
            have HNN := Lib.hid hnn
            have HW64 := Lib.hid hw64
            clear hnn hw64
            go_wp2
            (refine wp_region_ext (by kernel_rfl) (by kernel_rfl) ?_; (repeat (go_big_quiet_step ((go_at_call 149; with_reducible exact call_ext (rtc_at g f Ag Bx ng nx cg cx lg lx _ HCM (RS1 _) (SXY _) UG UX hng9 hnx9))))); refine wpQuiet_nil ?_; rintro _ ⟨y, rfl⟩)
            clear r0 r1 r2 qq0 qq1 qq2 gg RS1 SXY g0 hz1
            have hnn := HNN.out
            have hw64 := HW64.out
            have XD : Ext y.W y.W.drew := (Ext.refl _).drew
            have gg : ∀ z : Xt y.W.drew, z.W.cell? ⟨gc, 0, none⟩ = some (.slice (some ad2) m c) := fun z => HGG.out ⟨_, (y.x.trans XD).trans z.x⟩
            have rr2 : ∀ z : Xt y.W.drew, z.W.cell? ⟨(ad2.add (k * 3)).block, (ad2.add (k * 3)).off + 2, none⟩ = some (.int .i64 dg) := fun z => HR1.out ⟨_, (y.x.trans XD).trans z.x⟩
            have qq2 : ∀ z : Xt y.W.drew, z.W.cell? ⟨(ad.add (i * 3)).block, (ad.add (i * 3)).off + 2, none⟩ = some (.int .i64 d) := fun z => HQ2.out ⟨_, (y.x.trans XD).trans z.x⟩
            have ff1 := HFF.out ⟨_, y.x⟩
            have rrp := HR1.out ⟨_, y.x⟩
            have ff2 := HFF.out ⟨_, y.x.trans XD⟩
            go_wp2
            refine wp_region_ord [0,1,3,7,0,31,63,127,0,0,768,1792,3840,8191,16383,32767,65535] (.flo [0,1,2,3,4,5,6,7,8,9,10,11,12,13,14,15] (.one 16 (.fin))) (by kernel_rfl) (by kernel_rfl) (by intro _ _ d _ _ h; cases d <;> exact h) ?_
            (refine ord_flo (pick_cons rfl (pick_cons rfl (pick_cons rfl (pick_cons rfl (pick_cons rfl (pick_cons rfl (pick_cons rfl (pick_cons rfl (pick_cons rfl (pick_cons rfl (pick_cons rfl (pick_cons rfl (pick_cons rfl (pick_cons rfl (pick_cons rfl (pick_cons rfl pick_nil)))))))))))))))) ?_; (repeat (go_big_quiet_step (fail))); refine wpQuiet_nil ?_; show ordWalk _ _ _ _ _ _ _)
            refine ord_one (pick_cons rfl pick_nil) ?_; intro K_ hK_
            go_wp2
            refine ord_fin ?_
            go_wp2
            go_roundg (m - (k + 1))
            case measure => omega
            case rel =>
              have hR3 := (HR2.out.grow (y.x.trans XD)).set hlk rfl nn
              rw [bumpK_get HKL.out] at hR3
              have hs : (L'.getD k Cg.zero).t.v = (f, lx) := by rw [HG.out]; exact tcmp_zero.1 (HCM.out.trans HZ.out)
              refine ⟨k + 1, true, by omega, by omega, by go_num, rfl, Lib.hid (by rw [fnd_succ HKL.out, hs, decide_eq_true rfl, Bool.or_true]), Lib.hid ?_, Lib.hid ((HU2.out.trans (Upd.ext (y.x.trans XD))).trans hR3.2)⟩
              rw [bumpK_set HKL.out hs, show IntKind.i64.wrap ((L'.getD k Cg.zero).d + d) = nn by rw [HG.out]; exact HNN.out]
              exact hR3.1
          · have hz1 : (cv == 0) = false := by simpa using hz
            have HZ := Lib.hid hz
            clear hz
            go_wp2
            (refine wp_region_ext (by kernel_rfl) (by kernel_rfl) ?_; (repeat (go_big_quiet_step ((go_at_call 149; with_reducible exact call_ext (rtc_at g f Ag Bx ng nx cg cx lg lx _ HCM (RS1 _) (SXY _) UG UX hng9 hnx9))))); refine wpQuiet_nil ?_; rintro _ ⟨y, rfl⟩)
            clear r0 r1 r2 qq0 qq1 qq2 gg RS1 SXY g0
            go_wp2
            go_roundg (m - (k + 1))
            case measure => omega
            case rel =>
              have hs : (L'.getD k Cg.zero).t.v ≠ (f, lx) := fun e => by rw [HG.out] at e; exact HZ.out (HCM.out.symm.trans (tcmp_zero.2 e))
              exact ⟨k + 1, b, by omega, by omega, by go_num, rfl, Lib.hid (by rw [fnd_succ HKL.out, HB2.out, decide_eq_false hs, Bool.or_false]), Lib.hid (by rw [bumpK_same HKL.out hs]; exact HR2.out.grow y.x), Lib.hid (HU2.out.trans (Upd.ext y.x))⟩
        · obtain rfl : k = m := by omega
          have HFOU : Hid (fnd L' (f, lx) L'.length = b) := Lib.hid (by rw [← HR.out.len]; exact HB2.out)
          have HR3 : Hid (RC w0 wr gc A c k (L'.map (bump (f, lx) d))) := Lib.hid (by have := HR2.out; rw [show bumpK L' (f, lx) d k = L'.map (bump (f, lx) d) by rw [HR.out.len]; exact bumpK_all] at this; exact this)
          have HU3 : Hid (Upd (RS gc AL cL) w1 wr) := Lib.hid (HU.out.next HU2.out (rs_next HB.out))
          cases b with
          | true =>
            go_wp2
            go_roundg (n - (i + 1))
            case measure => omega
            case rel =>
              obtain ⟨h1, h2⟩ := HCV.out
              refine ⟨i + 1, k, A, c, _, by omega, by omega, by go_num, by omega, HR3, Lib.hid ?_, HU3, HB⟩
              rw [allR_take h1, h2, ← HL.out]
              exact bump_found HFOU.out
          | false =>
            obtain ⟨ad, eA, q0, q1, q2⟩ := HXA.out wr HR2.out.ext
            subst eA
            have XD : Ext wr wr.drew := (Ext.refl _).drew
            have gg : ∀ z : Xt wr.drew, z.W.cell? ⟨gc, 0, none⟩ = some (.slice A k c) := fun z => (XD.trans z.x).cell g0
            have qq0 : ∀ y : Xt wr.drew, y.W.cell? (ad.add (i * 3)) = some (.int .u64 f) := fun y => (XD.trans y.x).cell q0
            have qq1 : ∀ y : Xt wr.drew, y.W.cell? ⟨(ad.add (i * 3)).block, (ad.add (i * 3)).off + 1, none⟩ = some (.slice Bx nx cx) := fun y => (XD.trans y.x).cell q1
            have qq2 : ∀ y : Xt wr.drew, y.W.cell? ⟨(ad.add (i * 3)).block, (ad.add (i * 3)).off + 2, none⟩ = some (.int .i64 d) := fun y => (XD.trans y.x).cell q2
            have hRd := HR3.out.grow XD
            have HRD := Lib.hid hRd
            clear hRd q0 q1 q2
            go_wp2
            refine wp_region_ord [0,0,2,6,14,0,0,96,224,480,1022,2047,4095,8191] (.pur [0] (.flo [1,2,3,4,5,6,7,8] (.ext 9 (.one 10 (.flo [11,12] (.one 13 (.fin))))))) (by kernel_rfl) (by kernel_rfl) (by intro _ _ d _ _ h; cases d <;> exact h) ?_
            (refine ord_pur (pick_cons rfl pick_nil) ?_; (repeat (go_big_quiet_step (fail))); refine wpQuiet_nil ?_; show ordWalk _ _ _ _ _ _ _)
            (refine ord_flo (pick_cons rfl (pick_cons rfl (pick_cons rfl (pick_cons rfl (pick_cons rfl (pick_cons rfl (pick_cons rfl (pick_cons rfl pick_nil)))))))) ?_; (repeat (go_big_quiet_step (fail))); refine wpQuiet_nil ?_; show ordWalk _ _ _ _ _ _ _)
            refine ord_ext (pick_cons rfl pick_nil) ?_; intro K_ hK_
            go_wp2
            refine ordNext.mk ((Ext.refl _).alloc _) ?_
            refine ord_one (pick_cons rfl pick_nil) ?_; intro K_ hK_
            go_wp2_with (at_builtin; go_loud (refine wpList_append_two _ elemChg w0.heap.size _ _ rfl rfl A k c (cgsC (L'.map (bump (f, lx) d))) rfl (HRD.out.own.alloc _) (some ⟨wr.drew.heap.size, 0, none⟩) 1 1 [.int .u64 f, .slice Bx nx cx, .int .i64 d] rfl (Sl.one wr.drew #[.int .u64 f, .slice Bx nx cx, .int .i64 d] 60 3 rfl) (by intro u hu; simp at hu; rcases hu with rfl | rfl | rfl <;> rfl) (by omega) (by decide) (Nat.le_trans HRD.out.ext.size ((Ext.refl wr.drew).alloc _).size) ?_); intro A5 c5 w5 o5 g5 x5; have HAP := Lib.hid (HRD.out.app _ (x := ⟨⟨f, Bx, cx, lx⟩, d⟩) HXL.out (by have := o5; rw [← HNX.out] at this; exact this) g5 x5); have b5 : Bk w5 gc 65 #[.slice A k c] := (((Upd.refl (fun k => blk A c = some k) wr.drew).alloc _).grown g5 (fun k hk => .inl hk)).block gc (Array.getElem?_eq_some_iff.1 HRD.out.bk).1 HRD.out.ne |>.trans HRD.out.bk; have q5 := b5.cell 0; have z5 := b5.free 0; clear b5 o5 g5 x5)
            go_simp
            (refine ord_flo (pick_cons rfl (pick_cons rfl pick_nil)) ?_; (repeat (go_big_quiet_step (fail))); refine wpQuiet_nil ?_; show ordWalk _ _ _ _ _ _ _)
            refine ord_one (pick_cons rfl pick_nil) ?_; intro K_ hK_
            go_wp2
            refine ord_fin ?_
            go_wp2
            go_roundg (n - (i + 1))
            case measure => omega
            case rel =>
              obtain ⟨h1, h2⟩ := HCV.out
              obtain ⟨a1, a2, a3⟩ := HAP.out
              obtain ⟨b1, b2⟩ := bump_none (d := d) HFOU.out
              refine ⟨i + 1, k + 1, A5, c5, _, by omega, by omega, by go_num, by omega, Lib.hid a1, Lib.hid ?_, Lib.hid ((HU3.out.trans (Upd.ext XD)).next a2 (rs_next HB.out)), Lib.hid (fun q hq => ?_)⟩
              · rw [allR_take h1, h2, ← HL.out, b1]
                exact b2 _ rfl rfl
              · rcases a3 q hq with h | h
                · exact HB.out q h
                · refine .inr (Nat.le_trans ?_ h)
                  exact Nat.le_trans (Nat.le_trans HU3.out.size XD.size) (Nat.le_refl _)
    · obtain rfl : i = n := by omega
      have HLF : Hid (L'.map Cg.cv = allR (L.map Cg.cv) (Ch.map Cg.cv)) := Lib.hid (by have := HL.out; rwa [show i = (Ch.map Cg.cv).length by rw [List.length_map]; exact hn.out, List.take_length] at this)
      have HVL : Hid (∀ x ∈ L', InV x.t.v) := Lib.hid (inv_cv.2 (by rw [HLF.out]; exact allR_inv (inv_cv.1 hI.out) (inv_cv.1 hV.out)))
      have HUW : Hid (Upd (RS gc AL cL) w wo) := Lib.hid ((Upd.ext X1.out).trans HU.out)
      have p0 : True := trivial
      go_wp2_with (first
        | (go_at_call 38; have mk := p0; clear p0 mk; go_loud (refine (rfront_own gc m c A L' _ (Lib.hid HR.out.bk) (Lib.hid HR.out.len) (Lib.hid HR.out.cin) (Lib.hid (cg_fine HVL.out)) (by omega)).mono ?_); rintro r w4 ⟨A4, c4, n4, M4, rfl, h4, t4, v4, x4, o4, s4⟩; have HN4 := Lib.hid h4; have HV4 := Lib.hid v4; have X4 := Lib.hid x4; have HO4 := Lib.hid o4; have HS4 := Lib.hid s4; have E1 : Hid (Sl w4 2 A1 n1 c1 (tmsC M1)) := Lib.hid ((HO1.out.upd HU.out (fun q hq hs => by rcases hs with e | e; (have := (HO1.out.lt q hq).1; have := hR.out.bk.lt; omega); (have := (HO1.out.lt q hq).1; have := (hR.out.own.lt q e).2; omega))).sl.ext x4); have E4 : Hid (Sl w4 2 A4 n4 c4 (tmsC M4)) := Lib.hid o4.sl; clear h4 t4 v4 x4 o4 s4; have hn4 : n4 ≤ 20000 := (by have a := ofV_len (liveV (L'.map Cg.cv)); have b := live_len (L'.map Cg.cv); have e := congrArg List.length HV4.out; rw [List.length_map] at e b; have := HN4.out; have := HR.out.len; omega); have p1 : True := trivial)
        | (at_builtin; have mk := p1; clear p1 mk; go_loud (refine wpList_append_two _ elemTimes w4.heap.size _ _ rfl rfl none 0 0 [] rfl (Own.nil _ _ _ _) A1 n1 c1 (tmsC M1) rfl E1.out (tmsC_one _) (by omega) (by decide) (Nat.le_refl _) ?_); intro A5 c5 w5 o5 g5 h5; clear h5; have Y5 : Hid (Ext w4 w5) := Lib.hid (Ext.grown (Ext.refl _) g5 (fun k e => nomatch e)); have O5 : Hid (Own w5 w4.heap.size 26 2 A5 n1 c5 (tmsC M1)) := Lib.hid (by have := o5; rwa [Nat.zero_add, List.nil_append] at this); clear o5 g5; have p2 : True := trivial)
        | (at_builtin; have mk := p2; clear p2 mk; go_loud (refine wpList_append_two _ elemTimes w4.heap.size _ _ rfl rfl A5 n1 c5 (tmsC M1) rfl O5.out A4 n4 c4 (tmsC M4) rfl (E4.out.ext Y5.out) (tmsC_one _) (by omega) (by decide) Y5.out.size ?_); intro A6 c6 w6 o6 g6 h6; clear h6; have Y6 : Hid (Ext w4 w6) := Lib.hid (Ext.grown Y5.out g6 (fun k e => (O5.out.lt k e).1)); have O6 : Hid (Own w6 w4.heap.size 26 2 A6 (n1 + n4) c6 (tmsC (M1 ++ M4))) := Lib.hid (by have := o6; rwa [← tmsC_append] at this); clear o6 g6)
        | fail)
      obtain ⟨NN, hNN⟩ : ∃ NN, NN = n1 + n4 := ⟨_, rfl⟩
      obtain ⟨MM, hMM⟩ : ∃ MM, MM = M1 ++ M4 := ⟨_, rfl⟩
      obtain ⟨V, hVv⟩ : ∃ V, V = M1.map Tm.v := ⟨_, rfl⟩
      obtain ⟨W, hWv⟩ : ∃ W, W = M4.map Tm.v := ⟨_, rfl⟩
      have HMM : Hid (V ++ W = MM.map Tm.v) := Lib.hid (by rw [hVv, hWv, hMM, List.map_append])
      have HRV : Hid (Rising V) := Lib.hid (by rw [hVv, HV1.out]; exact (ofV_is _).rising)
      have HRW : Hid (Rising W) := Lib.hid (by rw [hWv, HV4.out]; exact (ofV_is _).rising)
      have HNV : Hid (n1 = V.length) := Lib.hid (by rw [hVv, List.length_map]; exact HN1.out)
      have HNL : Hid (NN = MM.length) := Lib.hid (by rw [hNN, hMM, List.length_append, ← HN1.out, ← HN4.out])
      have HX6 : Hid (Ext w0 w6) := Lib.hid ((HR.out.ext.trans X4.out).trans Y6.out)
      have HSM : Hid (∀ x ∈ MM, Sl w0 1 x.A x.l.length x.c (wds x.l) ∧ InV x.v) := Lib.hid (fun x hx => by
        rw [hMM] at hx
        rcases List.mem_append.1 hx with hx | hx
        · obtain ⟨y, hy, rfl⟩ := HS1.out x hx
          exact ⟨hR.out.ls y hy, hI.out y hy⟩
        · obtain ⟨y, hy, rfl⟩ := HS4.out x hx
          exact ⟨HR.out.ls y hy, HVL.out y hy⟩)
      have HTM : Hid (Tin w6 A6 c6 MM) := Lib.hid ⟨by rw [← HNL.out, hNN, hMM]; exact O6.out.sl, fun x hx => (HSM.out x hx).1.ext HX6.out⟩
      have HT1 : Hid (Tin w6 A1 c1 M1) := Lib.hid ⟨by rw [← HN1.out]; exact E1.out.ext Y6.out, fun x hx => (HSM.out x (by rw [hMM]; exact List.mem_append_left _ hx)).1.ext HX6.out⟩
      have HT4 : Hid (Tin w6 A4 c4 M4) := Lib.hid ⟨by rw [← HN4.out]; exact E4.out.ext Y6.out, fun x hx => (HSM.out x (by rw [hMM]; exact List.mem_append_right _ hx)).1.ext HX6.out⟩
      have HF1 : Hid (∀ x ∈ M1, U32 x.l ∧ x.l.length ≤ 1000000) := Lib.hid (fun x hx => by have := (HSM.out x (by rw [hMM]; exact List.mem_append_left _ hx)).2; exact ⟨this.u, Nat.le_trans this.n (by decide)⟩)
      have HF4 : Hid (∀ x ∈ M4, U32 x.l ∧ x.l.length ≤ 1000000) := Lib.hid (fun x hx => by have := (HSM.out x (by rw [hMM]; exact List.mem_append_right _ hx)).2; exact ⟨this.u, Nat.le_trans this.n (by decide)⟩)
      have HVD := Lib.hid hVv
      have HWD := Lib.hid hWv
      have HI0 : Hid (MovI w0 w6 V W MM w6 0 0 none 0 []) := Lib.hid ⟨rfl, Nat.le_refl _, Own.nil _ _ _ _, fun x hx => (nomatch hx), MovUp.zero _ _, Ext.refl _⟩
      rw [← hNN]
      have hNN9 : NN ≤ 40000 := by omega
      have HNN := Lib.hid hNN
      clear hNN hMM hVv hWv E1 E4 O5 Y5
      go_wp2
      go_loopg [11, 12] NN (fun z v11 v12 wr => ∃ (i n3 : Nat) (A3 : Option Addr) (c3 : Nat) (R : List Cg), z = NN - i ∧ i ≤ NN ∧ v12 = .int .i64 i ∧ v11 = .slice A3 n3 c3 ∧ Hid (MovI w0 w6 V W MM wr i n3 A3 c3 R))
      case atStart => exact ⟨0, 0, none, 0, [], rfl, Nat.zero_le _, rfl, rfl, HI0⟩
      case round =>
        clear HI0
        obtain ⟨i, n3, A3, c3, R, rfl, hi, rfl, rfl, HP⟩ := hrel
        have hn3 : n3 ≤ i := HP.out.le
        obtain ⟨wo, hwo⟩ : ∃ wo : World, wo = wr := ⟨_, rfl⟩
        rw [← hwo] at HP ⊢
        clear hwo
        by_cases hlt : i < NN
        · have hiL : i < MM.length := by rw [← HNL.out]; exact hlt
          have HIL := Lib.hid hiL
          have hxx := getT_mem hiL
          obtain ⟨x, hx⟩ : ∃ x, MM.getD i Tm.zero = x := ⟨_, rfl⟩
          have hxa : ∀ W, Ext wo W → ∃ ad, A6 = some ad ∧ W.cell? (ad.add (i * 2)) = some (.int .u64 x.e) ∧ W.cell? ⟨(ad.add (i * 2)).block, (ad.add (i * 2)).off + 1, none⟩ = some (.slice x.A x.l.length x.c) := fun W q => by
            have := (HTM.out.ext (HP.out.ext.trans q)).at hiL
            rwa [hx] at this
          have hxs : ∀ W, Ext wo W → Sl W 1 x.A x.l.length x.c (wds x.l) := fun W q => by
            have := (HTM.out.ext (HP.out.ext.trans q)).ls _ hxx
            rwa [hx] at this
          have hf := (HSM.out _ hxx).2
          rw [hx] at hf
          obtain ⟨f, Bx, cx, lx⟩ := x
          obtain ⟨nx, hnx⟩ : ∃ nx, lx.length = nx := ⟨_, rfl⟩
          dsimp only at hxa hxs
          have HXC : Hid ((⟨f, Bx, cx, lx⟩ : Tm) = MM.getD i Tm.zero) := Lib.hid hx.symm
          have HTV : Hid ((MM.getD i Tm.zero).v = (f, lx)) := Lib.hid (by rw [hx]; rfl)
          have hnx9 : nx ≤ 1000000 := by have : lx.length ≤ 1000 := hf.n; omega
          have HNX := Lib.hid hnx
          have UX : Hid (U32 lx) := Lib.hid hf.u
          simp only [hnx] at hxa hxs
          have HXA := Lib.hid hxa
          have HXS := Lib.hid hxs
          clear hx hnx hxa hxs hf hxx hiL
          obtain ⟨ad, eA, q0, q1⟩ := HXA.out wo (Ext.refl _)
          subst eA
          obtain ⟨b1, hb1⟩ : ∃ b, decide ((f, lx) ∈ M1.map Tm.v) = b := ⟨_, rfl⟩
          obtain ⟨b4, hb4⟩ : ∃ b, decide ((f, lx) ∈ M4.map Tm.v) = b := ⟨_, rfl⟩
          have HB1 := Lib.hid hb1
          have HB4 := Lib.hid hb4
          clear hb1 hb4
          obtain ⟨gone, hgone⟩ : ∃ b, decide (i < n1) = b := ⟨_, rfl⟩
          have HGN := Lib.hid hgone
          cases b1 with
          | true =>
            cases b4 with
            | true =>
              clear hgone
              have p1 : True := trivial
              go_wp2_with (first
                | (go_at_call 150; have mk := p1; clear p1 mk; go_loud (refine (rhas_at A1 c1 n1 M1 f Bx nx cx lx _ HB1 HN1 (Lib.hid (HT1.out.ext HP.out.ext)) HF1 (Lib.hid (HXS.out _ (Ext.refl _))) UX hnx9).mono ?_); rintro r w7 ⟨rfl, x7⟩; have X7 := Lib.hid x7; have q0 := x7.cell q0; have q1 := x7.cell q1; clear x7; have p2 : True := trivial)
                | (go_at_call 150; have mk := p2; clear p2 mk; go_loud (refine (rhas_at A4 c4 n4 M4 f Bx nx cx lx _ HB4 HN4 (Lib.hid (HT4.out.ext (HP.out.ext.trans X7.out))) HF4 (Lib.hid (HXS.out _ X7.out)) UX hnx9).mono ?_); rintro r w8 ⟨rfl, x8⟩; have X8 := Lib.hid (X7.out.trans x8); have q0 := x8.cell q0; have q1 := x8.cell q1; clear x8)
                | fail)
              go_roundg (NN - (i + 1))
              case measure => omega
              case rel => exact ⟨i + 1, n3, A3, c3, R, by omega, by omega, by go_num, rfl, Lib.hid (HP.out.skip HMM.out HIL.out (by rw [HTV.out, HVD.out]; exact of_decide_eq_true HB1.out) (by rw [HTV.out, HWD.out]; exact of_decide_eq_true HB4.out) X8.out)⟩
            | false =>
              cases gone with
              | true =>
                have HNB : Hid (¬ ((MM.getD i Tm.zero).v ∈ V ∧ (MM.getD i Tm.zero).v ∈ W)) := Lib.hid (fun q => by have q2 := q.2; rw [HTV.out, HWD.out] at q2; have := HB4.out; rw [decide_eq_true q2] at this; cases this)
                have HDD : Hid (((-1) : Int) = if i < V.length then -1 else 1) := Lib.hid (by have := HGN.out; have e := HNV.out; rw [if_pos (by have := of_decide_eq_true this; omega)])
                have p1 : True := trivial
                go_wp2_with (first
                  | (go_at_call 150; have mk := p1; clear p1 mk; go_loud (refine (rhas_at A1 c1 n1 M1 f Bx nx cx lx _ HB1 HN1 (Lib.hid (HT1.out.ext HP.out.ext)) HF1 (Lib.hid (HXS.out _ (Ext.refl _))) UX hnx9).mono ?_); rintro r w7 ⟨rfl, x7⟩; have X7 := Lib.hid x7; have q0 := x7.cell q0; have q1 := x7.cell q1; clear x7; have p2 : True := trivial)
                  | (go_at_call 150; have mk := p2; clear p2 mk; go_loud (refine (rhas_at A4 c4 n4 M4 f Bx nx cx lx _ HB4 HN4 (Lib.hid (HT4.out.ext (HP.out.ext.trans X7.out))) HF4 (Lib.hid (HXS.out _ X7.out)) UX hnx9).mono ?_); rintro r w8 ⟨rfl, x8⟩; have X8 := Lib.hid (X7.out.trans x8); have q0 := x8.cell q0; have q1 := x8.cell q1; clear x8)
                  | fail)
                obtain ⟨w15, hw15⟩ : ∃ w15, w15 = (w8.alloc (.cells #[.int .u64 f, .slice Bx nx cx, .int .i64 (-1)] 60)) := ⟨_, rfl⟩
                have X15 : Hid (Ext wo w15) := Lib.hid (by rw [hw15]; exact (X8.out.alloc _))
                have B15 : Hid (Bk w15 w8.heap.size 60 #[.int .u64 f, .slice Bx nx cx, .int .i64 (-1)]) := Lib.hid (by rw [hw15]; exact Bk.new _ _ _)
                rw [← hw15]
                obtain ⟨g15, hg15⟩ : ∃ g, g = w8.heap.size := ⟨_, rfl⟩
                rw [← hg15] at B15 ⊢
                clear hw15 hg15 q0 q1 hgone
                go_wp2
                go_loopg [16] n3 (fun z v16 wr => ∃ j : Nat, z = n3 - j ∧ j ≤ n3 ∧ v16 = .int .i64 j ∧ Hid (CmpLt3 R (f, lx) j) ∧ Hid (Ext w15 wr))
                case atStart => exact ⟨0, rfl, Nat.zero_le _, rfl, Lib.hid (fun x hx => by simp at hx), Lib.hid (Ext.refl _)⟩
                case round =>
                  obtain ⟨j, rfl, hj, rfl, HLT, HE3⟩ := hrel
                  have y0 : ∀ y : Xt wr, y.W.cell? ⟨g15, 0, none⟩ = some (.int .u64 f) := fun y => (B15.out.ext (HE3.out.trans y.x)).cell 0
                  have y1 : ∀ y : Xt wr, y.W.cell? ⟨g15, 1, none⟩ = some (.slice Bx nx cx) := fun y => (B15.out.ext (HE3.out.trans y.x)).cell 1
                  by_cases hlj : j < n3
                  · have hjR : j < R.length := by rw [← HP.out.len]; exact hlj
                    obtain ⟨g, Ag, ng, cg, lg, dg, ad2, T, hg, hng⟩ := ((HP.out.cin (fun x hx => (HSM.out x hx).1.ext HX6.out)).ext (X15.out.trans HE3.out)).cgAt hjR
                    obtain ⟨e2, r0, r1, r2, RS1⟩ := T
                    subst e2
                    have hfg := (HSM.out _ (HP.out.sub _ (getG_mem hjR))).2
                    rw [hg] at hfg
                    have UG : Hid (U32 lg) := Lib.hid hfg.u
                    have hng9 : ng ≤ 1000000 := by have : lg.length ≤ 1000 := hfg.n; omega
                    have HTK : Hid (R.getD j Cg.zero = ⟨⟨g, Ag, cg, lg⟩, dg⟩) := Lib.hid hg
                    have HJR := Lib.hid hjR
                    have SXY : ∀ y : Xt wr, Hid (Sl y.W 1 Bx nx cx (wds lx)) := fun y => Lib.hid (HXS.out _ ((X15.out.trans HE3.out).trans y.x))
                    clear hg hng hfg hjR r2
                    obtain ⟨cv, hcv⟩ : ∃ cv, tcmp (g, lg) (f, lx) = cv := ⟨_, rfl⟩
                    have HCV := Lib.hid hcv
                    clear hcv
                    by_cases hneg : cv < 0
                    · have hn1' : decide (cv < 0) = true := by simpa using hneg
                      have HNEG := Lib.hid hneg
                      clear hneg
                      go_wp2
                      (refine wp_region_ext (by kernel_rfl) (by kernel_rfl) ?_; (repeat (go_big_quiet_step ((go_at_call 149; with_reducible exact call_ext (rtc_at g f Ag Bx ng nx cg cx lg lx _ HCV (RS1 _) (SXY _) UG UX hng9 hnx9))))); refine wpQuiet_nil ?_; rintro _ ⟨y2, rfl⟩)
                      clear r0 r1 y0 y1 RS1 SXY
                      go_wp2
                      go_roundg (n3 - (j + 1))
                      case measure => omega
                      case rel =>
                        refine ⟨j + 1, by omega, by omega, by go_num, Lib.hid (fun x hx => ?_), Lib.hid (HE3.out.trans y2.x)⟩
                        rw [take_sG HJR.out] at hx
                        rcases List.mem_append.1 hx with hx | hx
                        · exact HLT.out x hx
                        · rw [List.mem_singleton.1 hx, HTK.out]
                          show tcmp (g, lg) (f, lx) < 0
                          rw [HCV.out]; exact HNEG.out
                    · have hn1' : decide (cv < 0) = false := by simpa using hneg
                      have HNEG := Lib.hid hneg
                      clear hneg
                      have HGT : Hid (CmpGe3 R (f, lx) j) := Lib.hid (fun x hx => by
                        rw [drop_sG HJR.out] at hx
                        injection hx with hx
                        rw [← hx, HTK.out]
                        show ¬ tcmp (g, lg) (f, lx) < 0
                        rw [HCV.out]; exact HNEG.out)
                      go_wp2
                      (refine wp_region_ext (by kernel_rfl) (by kernel_rfl) ?_; (repeat (go_big_quiet_step ((go_at_call 149; with_reducible exact call_ext (rtc_at g f Ag Bx ng nx cg cx lg lx _ HCV (RS1 _) (SXY _) UG UX hng9 hnx9))))); refine wpQuiet_nil ?_; rintro _ ⟨y2, rfl⟩)
                      clear r0 r1 y0 y1 RS1 SXY
                      have HE3 := Lib.hid (HE3.out.trans y2.x)
                      obtain ⟨wr, hwr⟩ : ∃ W : World, W = y2.W := ⟨_, rfl⟩
                      rw [← hwr] at HE3 ⊢
                      clear hwr
                      have x0 : wr.cell? ⟨g15, 0, none⟩ = some (.int .u64 f) := (B15.out.ext HE3.out).cell 0
                      have x1 : wr.cell? ⟨g15, 1, none⟩ = some (.slice Bx nx cx) := (B15.out.ext HE3.out).cell 1
                      have x2 : wr.cell? ⟨g15, 2, none⟩ = some (.int .i64 (-1)) := (B15.out.ext HE3.out).cell 2
                      have HP := Lib.hid ((HP.out.grow X15.out).grow HE3.out)
                      have ST : Hid (Sl wr 3 (some ad2) j c3 (cgsC (R.take j))) := Lib.hid (by have := Sl.take (k := j) HP.out.own.sl (by omega); rwa [cgsC_take] at this)
                      have SD : Hid (Sl wr 3 (if c3 = j then (some ad2) else (some ad2).map (·.add (j * 3))) (n3 - j) (c3 - j) (cgsC (R.drop j))) := Lib.hid (by have := Sl.drop (k := j) HP.out.own.sl (by omega); rwa [cgsC_drop] at this)
                      have hnc3 : n3 ≤ c3 ∧ c3 ≤ 9223372036854775807 := HP.out.own.sl.cap
                      have hcj : ¬ c3 = j := by omega
                      have p1 : True := trivial
                      go_wp2_with (first
                        | (at_builtin; have mk := p1; clear p1 mk; go_loud (refine wpList_append_two _ elemChg wr.heap.size _ _ rfl rfl none 0 0 [] rfl (Own.nil _ _ _ _) (some ad2) j c3 (cgsC (R.take j)) rfl ST.out (cgsC_one _) (by omega) (by decide) (Nat.le_refl _) ?_); intro A4 c4 w4 o4 g4 h4; clear h4; have y4 : Ext wr w4 := Ext.grown (Ext.refl _) g4 (fun k e => nomatch e); have O4 : Hid (Own w4 wr.heap.size 60 3 A4 j c4 (cgsC (R.take j))) := Lib.hid (by have := o4; rwa [Nat.zero_add, List.nil_append] at this); have e0 := y4.cell x0; have e1 := y4.cell x1; have e2 := y4.cell x2; have Y4 := Lib.hid y4; clear o4 g4 y4; have p2 : True := trivial)
                        | (at_builtin; have mk := p2; clear p2 mk; go_loud (refine wpList_append_two _ elemChg wr.heap.size _ _ rfl rfl A4 j c4 (cgsC (R.take j)) rfl (O4.out.alloc _) (some ⟨w4.heap.size, 0, none⟩) 1 1 [.int .u64 f, .slice Bx nx cx, .int .i64 (-1)] rfl (Sl.one w4 #[.int .u64 f, .slice Bx nx cx, .int .i64 (-1)] 60 3 rfl) (by intro u hu; simp at hu; rcases hu with rfl | rfl | rfl <;> rfl) (by omega) (by decide) (Nat.le_trans Y4.out.size ((Ext.refl w4).alloc _).size) ?_); intro A5 c5 w5 o5 g5 h5; clear h5; have Y5 : Hid (Ext wr w5) := Lib.hid (Ext.grown (Y4.out.alloc _) g5 (fun k e => (O4.out.lt k e).1)); have O5 := Lib.hid o5; clear o5 g5; have p3 : True := trivial)
                        | (at_builtin; have mk := p3; clear p3 mk; go_loud (refine wpList_append_two _ elemChg wr.heap.size _ _ rfl rfl A5 (j + 1) c5 _ rfl O5.out (some (ad2.add (j * 3))) (n3 - j) (c3 - j) (cgsC (R.drop j)) rfl ((Sl.ext (by have := SD.out; rw [if_neg hcj] at this; exact this) Y5.out)) (cgsC_one _) (by omega) (by decide) Y5.out.size ?_); intro A6 c6 w6 o6 g6 h6; clear h6; have Y6 : Hid (Ext wr w6) := Lib.hid (Ext.grown Y5.out g6 (fun k e => (O5.out.lt k e).1)); have O6 := Lib.hid o6; clear o6 g6)
                        | fail)
                      go_roundg (NN - (i + 1))
                      case measure => omega
                      case rel => exact ⟨i + 1, _, A6, c6, _, by omega, by omega, by go_num, rfl, Lib.hid (MovI.put (m := j + 1 + (n3 - j)) (x := ⟨⟨f, Bx, cx, lx⟩, (-1)⟩) HMM.out HRV.out HRW.out HP.out HIL.out HNB.out (j := j) (by omega) HXC.out HDD.out HLT.out HGT.out (by omega) Y6.out (by have := O6.out; rw [← HNX.out] at this; exact this))⟩
                  · obtain rfl : j = n3 := by omega
                    have HGT : Hid (CmpGe3 R (f, lx) j) := Lib.hid (fun x hx => by rw [List.drop_of_length_le (by rw [← HP.out.len]; exact Nat.le_refl _)] at hx; simp at hx)
                    clear y0 y1
                    go_wp2
                    (refine wp_region_ext (by kernel_rfl) (by kernel_rfl) ?_; (repeat (go_big_quiet_step (fail))); refine wpQuiet_nil ?_; rintro _ ⟨y2, rfl⟩)
                    have HE3 := Lib.hid (HE3.out.trans y2.x)
                    obtain ⟨wr, hwr⟩ : ∃ W : World, W = y2.W := ⟨_, rfl⟩
                    rw [← hwr] at HE3 ⊢
                    clear hwr
                    have x0 : wr.cell? ⟨g15, 0, none⟩ = some (.int .u64 f) := (B15.out.ext HE3.out).cell 0
                    have x1 : wr.cell? ⟨g15, 1, none⟩ = some (.slice Bx nx cx) := (B15.out.ext HE3.out).cell 1
                    have x2 : wr.cell? ⟨g15, 2, none⟩ = some (.int .i64 (-1)) := (B15.out.ext HE3.out).cell 2
                    have HP := Lib.hid ((HP.out.grow X15.out).grow HE3.out)
                    have ST : Hid (Sl wr 3 A3 j c3 (cgsC (R.take j))) := Lib.hid (by have := Sl.take (k := j) HP.out.own.sl (by omega); rwa [cgsC_take] at this)
                    have SD : Hid (Sl wr 3 (if c3 = j then A3 else A3.map (·.add (j * 3))) (j - j) (c3 - j) (cgsC (R.drop j))) := Lib.hid (by have := Sl.drop (k := j) HP.out.own.sl (by omega); rwa [cgsC_drop] at this)
                    have hnc3 : j ≤ c3 ∧ c3 ≤ 9223372036854775807 := HP.out.own.sl.cap
                    cases A3 with
                    | none =>
                      obtain rfl : c3 = 0 := HP.out.own.sl.2.2.2.1 rfl
                      have hn0 : j = 0 := by omega
                      subst hn0
                      have p1 : True := trivial
                      go_wp2_with (first
                        | (at_builtin; have mk := p1; clear p1 mk; go_loud (refine wpList_append_two _ elemChg wr.heap.size _ _ rfl rfl none 0 0 [] rfl (Own.nil _ _ _ _) none 0 0 (cgsC (R.take 0)) rfl ST.out (cgsC_one _) (by omega) (by decide) (Nat.le_refl _) ?_); intro A4 c4 w4 o4 g4 h4; clear h4; have y4 : Ext wr w4 := Ext.grown (Ext.refl _) g4 (fun k e => nomatch e); have O4 : Hid (Own w4 wr.heap.size 60 3 A4 0 c4 (cgsC (R.take 0))) := Lib.hid (by have := o4; rwa [Nat.zero_add, List.nil_append] at this); have e0 := y4.cell x0; have e1 := y4.cell x1; have e2 := y4.cell x2; have Y4 := Lib.hid y4; clear o4 g4 y4; have p2 : True := trivial)
                        | (at_builtin; have mk := p2; clear p2 mk; go_loud (refine wpList_append_two _ elemChg wr.heap.size _ _ rfl rfl A4 0 c4 (cgsC (R.take 0)) rfl (O4.out.alloc _) (some ⟨w4.heap.size, 0, none⟩) 1 1 [.int .u64 f, .slice Bx nx cx, .int .i64 (-1)] rfl (Sl.one w4 #[.int .u64 f, .slice Bx nx cx, .int .i64 (-1)] 60 3 rfl) (by intro u hu; simp at hu; rcases hu with rfl | rfl | rfl <;> rfl) (by omega) (by decide) (Nat.le_trans Y4.out.size ((Ext.refl w4).alloc _).size) ?_); intro A5 c5 w5 o5 g5 h5; clear h5; have Y5 : Hid (Ext wr w5) := Lib.hid (Ext.grown (Y4.out.alloc _) g5 (fun k e => (O4.out.lt k e).1)); have O5 := Lib.hid o5; clear o5 g5; have p3 : True := trivial)
                        | (at_builtin; have mk := p3; clear p3 mk; go_loud (refine wpList_append_two _ elemChg wr.heap.size _ _ rfl rfl A5 (0 + 1) c5 _ rfl O5.out none (0) (0) (cgsC (R.drop 0)) rfl ((Sl.ext (by have := SD.out; simpa using this) Y5.out)) (cgsC_one _) (by omega) (by decide) Y5.out.size ?_); intro A6 c6 w6 o6 g6 h6; clear h6; have Y6 : Hid (Ext wr w6) := Lib.hid (Ext.grown Y5.out g6 (fun k e => (O5.out.lt k e).1)); have O6 := Lib.hid o6; clear o6 g6)
                        | fail)
                      go_roundg (NN - (i + 1))
                      case measure => omega
                      case rel => exact ⟨i + 1, _, A6, c6, _, by omega, by omega, by go_num, rfl, Lib.hid (MovI.put (m := 0 + 1 + (0)) (x := ⟨⟨f, Bx, cx, lx⟩, (-1)⟩) HMM.out HRV.out HRW.out HP.out HIL.out HNB.out (j := 0) (by omega) HXC.out HDD.out HLT.out HGT.out (by omega) Y6.out (by have := O6.out; rw [← HNX.out] at this; exact this))⟩
                    | some a3 =>
                      by_cases hcj : c3 = j
                      · subst hcj
                        have p1 : True := trivial
                        go_wp2_with (first
                          | (at_builtin; have mk := p1; clear p1 mk; go_loud (refine wpList_append_two _ elemChg wr.heap.size _ _ rfl rfl none 0 0 [] rfl (Own.nil _ _ _ _) (some a3) c3 c3 (cgsC (R.take c3)) rfl ST.out (cgsC_one _) (by omega) (by decide) (Nat.le_refl _) ?_); intro A4 c4 w4 o4 g4 h4; clear h4; have y4 : Ext wr w4 := Ext.grown (Ext.refl _) g4 (fun k e => nomatch e); have O4 : Hid (Own w4 wr.heap.size 60 3 A4 c3 c4 (cgsC (R.take c3))) := Lib.hid (by have := o4; rwa [Nat.zero_add, List.nil_append] at this); have e0 := y4.cell x0; have e1 := y4.cell x1; have e2 := y4.cell x2; have Y4 := Lib.hid y4; clear o4 g4 y4; have p2 : True := trivial)
                          | (at_builtin; have mk := p2; clear p2 mk; go_loud (refine wpList_append_two _ elemChg wr.heap.size _ _ rfl rfl A4 c3 c4 (cgsC (R.take c3)) rfl (O4.out.alloc _) (some ⟨w4.heap.size, 0, none⟩) 1 1 [.int .u64 f, .slice Bx nx cx, .int .i64 (-1)] rfl (Sl.one w4 #[.int .u64 f, .slice Bx nx cx, .int .i64 (-1)] 60 3 rfl) (by intro u hu; simp at hu; rcases hu with rfl | rfl | rfl <;> rfl) (by omega) (by decide) (Nat.le_trans Y4.out.size ((Ext.refl w4).alloc _).size) ?_); intro A5 c5 w5 o5 g5 h5; clear h5; have Y5 : Hid (Ext wr w5) := Lib.hid (Ext.grown (Y4.out.alloc _) g5 (fun k e => (O4.out.lt k e).1)); have O5 := Lib.hid o5; clear o5 g5; have p3 : True := trivial)
                          | (at_builtin; have mk := p3; clear p3 mk; go_loud (refine wpList_append_two _ elemChg wr.heap.size _ _ rfl rfl A5 (c3 + 1) c5 _ rfl O5.out _ (0) (0) (cgsC (R.drop c3)) rfl ((Sl.ext (by have := SD.out; rw [if_pos rfl, Nat.sub_self] at this; exact this) Y5.out)) (cgsC_one _) (by omega) (by decide) Y5.out.size ?_); intro A6 c6 w6 o6 g6 h6; clear h6; have Y6 : Hid (Ext wr w6) := Lib.hid (Ext.grown Y5.out g6 (fun k e => (O5.out.lt k e).1)); have O6 := Lib.hid o6; clear o6 g6)
                          | fail)
                        go_roundg (NN - (i + 1))
                        case measure => omega
                        case rel => exact ⟨i + 1, _, A6, c6, _, by omega, by omega, by go_num, rfl, Lib.hid (MovI.put (m := c3 + 1 + (0)) (x := ⟨⟨f, Bx, cx, lx⟩, (-1)⟩) HMM.out HRV.out HRW.out HP.out HIL.out HNB.out (j := c3) (by omega) HXC.out HDD.out HLT.out HGT.out (by omega) Y6.out (by have := O6.out; rw [← HNX.out] at this; exact this))⟩
                      · have p1 : True := trivial
                        go_wp2_with (first
                          | (at_builtin; have mk := p1; clear p1 mk; go_loud (refine wpList_append_two _ elemChg wr.heap.size _ _ rfl rfl none 0 0 [] rfl (Own.nil _ _ _ _) (some a3) j c3 (cgsC (R.take j)) rfl ST.out (cgsC_one _) (by omega) (by decide) (Nat.le_refl _) ?_); intro A4 c4 w4 o4 g4 h4; clear h4; have y4 : Ext wr w4 := Ext.grown (Ext.refl _) g4 (fun k e => nomatch e); have O4 : Hid (Own w4 wr.heap.size 60 3 A4 j c4 (cgsC (R.take j))) := Lib.hid (by have := o4; rwa [Nat.zero_add, List.nil_append] at this); have e0 := y4.cell x0; have e1 := y4.cell x1; have e2 := y4.cell x2; have Y4 := Lib.hid y4; clear o4 g4 y4; have p2 : True := trivial)
                          | (at_builtin; have mk := p2; clear p2 mk; go_loud (refine wpList_append_two _ elemChg wr.heap.size _ _ rfl rfl A4 j c4 (cgsC (R.take j)) rfl (O4.out.alloc _) (some ⟨w4.heap.size, 0, none⟩) 1 1 [.int .u64 f, .slice Bx nx cx, .int .i64 (-1)] rfl (Sl.one w4 #[.int .u64 f, .slice Bx nx cx, .int .i64 (-1)] 60 3 rfl) (by intro u hu; simp at hu; rcases hu with rfl | rfl | rfl <;> rfl) (by omega) (by decide) (Nat.le_trans Y4.out.size ((Ext.refl w4).alloc _).size) ?_); intro A5 c5 w5 o5 g5 h5; clear h5; have Y5 : Hid (Ext wr w5) := Lib.hid (Ext.grown (Y4.out.alloc _) g5 (fun k e => (O4.out.lt k e).1)); have O5 := Lib.hid o5; clear o5 g5; have p3 : True := trivial)
                          | (at_builtin; have mk := p3; clear p3 mk; go_loud (refine wpList_append_two _ elemChg wr.heap.size _ _ rfl rfl A5 (j + 1) c5 _ rfl O5.out (some (a3.add (j * 3))) (0) (c3 - j) (cgsC (R.drop j)) rfl ((Sl.ext (by have := SD.out; rw [if_neg hcj, Nat.sub_self] at this; exact this) Y5.out)) (cgsC_one _) (by omega) (by decide) Y5.out.size ?_); intro A6 c6 w6 o6 g6 h6; clear h6; have Y6 : Hid (Ext wr w6) := Lib.hid (Ext.grown Y5.out g6 (fun k e => (O5.out.lt k e).1)); have O6 := Lib.hid o6; clear o6 g6)
                          | fail)
                        go_roundg (NN - (i + 1))
                        case measure => omega
                        case rel => exact ⟨i + 1, _, A6, c6, _, by omega, by omega, by go_num, rfl, Lib.hid (MovI.put (m := j + 1 + (0)) (x := ⟨⟨f, Bx, cx, lx⟩, (-1)⟩) HMM.out HRV.out HRW.out HP.out HIL.out HNB.out (j := j) (by omega) HXC.out HDD.out HLT.out HGT.out (by omega) Y6.out (by have := O6.out; rw [← HNX.out] at this; exact this))⟩
              | false =>
                have HNB : Hid (¬ ((MM.getD i Tm.zero).v ∈ V ∧ (MM.getD i Tm.zero).v ∈ W)) := Lib.hid (fun q => by have q2 := q.2; rw [HTV.out, HWD.out] at q2; have := HB4.out; rw [decide_eq_true q2] at this; cases this)
                have HDD : Hid ((1 : Int) = if i < V.length then -1 else 1) := Lib.hid (by have := HGN.out; have e := HNV.out; rw [if_neg (by have := of_decide_eq_false this; omega)])
                have p1 : True := trivial
                go_wp2_with (first
                  | (go_at_call 150; have mk := p1; clear p1 mk; go_loud (refine (rhas_at A1 c1 n1 M1 f Bx nx cx lx _ HB1 HN1 (Lib.hid (HT1.out.ext HP.out.ext)) HF1 (Lib.hid (HXS.out _ (Ext.refl _))) UX hnx9).mono ?_); rintro r w7 ⟨rfl, x7⟩; have X7 := Lib.hid x7; have q0 := x7.cell q0; have q1 := x7.cell q1; clear x7; have p2 : True := trivial)
                  | (go_at_call 150; have mk := p2; clear p2 mk; go_loud (refine (rhas_at A4 c4 n4 M4 f Bx nx cx lx _ HB4 HN4 (Lib.hid (HT4.out.ext (HP.out.ext.trans X7.out))) HF4 (Lib.hid (HXS.out _ X7.out)) UX hnx9).mono ?_); rintro r w8 ⟨rfl, x8⟩; have X8 := Lib.hid (X7.out.trans x8); have q0 := x8.cell q0; have q1 := x8.cell q1; clear x8)
                  | fail)
                obtain ⟨w15, hw15⟩ : ∃ w15, w15 = (w8.alloc (.cells #[.int .u64 f, .slice Bx nx cx, .int .i64 1] 60)) := ⟨_, rfl⟩
                have X15 : Hid (Ext wo w15) := Lib.hid (by rw [hw15]; exact (X8.out.alloc _))
                have B15 : Hid (Bk w15 w8.heap.size 60 #[.int .u64 f, .slice Bx nx cx, .int .i64 1]) := Lib.hid (by rw [hw15]; exact Bk.new _ _ _)
                rw [← hw15]
                obtain ⟨g15, hg15⟩ : ∃ g, g = w8.heap.size := ⟨_, rfl⟩
                rw [← hg15] at B15 ⊢
                clear hw15 hg15 q0 q1 hgone
                go_wp2
                go_loopg [16] n3 (fun z v16 wr => ∃ j : Nat, z = n3 - j ∧ j ≤ n3 ∧ v16 = .int .i64 j ∧ Hid (CmpLt3 R (f, lx) j) ∧ Hid (Ext w15 wr))
                case atStart => exact ⟨0, rfl, Nat.zero_le _, rfl, Lib.hid (fun x hx => by simp at hx), Lib.hid (Ext.refl _)⟩
                case round =>
                  obtain ⟨j, rfl, hj, rfl, HLT, HE3⟩ := hrel
                  have y0 : ∀ y : Xt wr, y.W.cell? ⟨g15, 0, none⟩ = some (.int .u64 f) := fun y => (B15.out.ext (HE3.out.trans y.x)).cell 0
                  have y1 : ∀ y : Xt wr, y.W.cell? ⟨g15, 1, none⟩ = some (.slice Bx nx cx) := fun y => (B15.out.ext (HE3.out.trans y.x)).cell 1
                  by_cases hlj : j < n3
                  · have hjR : j < R.length := by rw [← HP.out.len]; exact hlj
                    obtain ⟨g, Ag, ng, cg, lg, dg, ad2, T, hg, hng⟩ := ((HP.out.cin (fun x hx => (HSM.out x hx).1.ext HX6.out)).ext (X15.out.trans HE3.out)).cgAt hjR
                    obtain ⟨e2, r0, r1, r2, RS1⟩ := T
                    subst e2
                    have hfg := (HSM.out _ (HP.out.sub _ (getG_mem hjR))).2
                    rw [hg] at hfg
                    have UG : Hid (U32 lg) := Lib.hid hfg.u
                    have hng9 : ng ≤ 1000000 := by have : lg.length ≤ 1000 := hfg.n; omega
                    have HTK : Hid (R.getD j Cg.zero = ⟨⟨g, Ag, cg, lg⟩, dg⟩) := Lib.hid hg
                    have HJR := Lib.hid hjR
                    have SXY : ∀ y : Xt wr, Hid (Sl y.W 1 Bx nx cx (wds lx)) := fun y => Lib.hid (HXS.out _ ((X15.out.trans HE3.out).trans y.x))
                    clear hg hng hfg hjR r2
                    obtain ⟨cv, hcv⟩ : ∃ cv, tcmp (g, lg) (f, lx) = cv := ⟨_, rfl⟩
                    have HCV := Lib.hid hcv
                    clear hcv
                    by_cases hneg : cv < 0
                    · have hn1' : decide (cv < 0) = true := by simpa using hneg
                      have HNEG := Lib.hid hneg
                      clear hneg
                      go_wp2
                      (refine wp_region_ext (by kernel_rfl) (by kernel_rfl) ?_; (repeat (go_big_quiet_step ((go_at_call 149; with_reducible exact call_ext (rtc_at g f Ag Bx ng nx cg cx lg lx _ HCV (RS1 _) (SXY _) UG UX hng9 hnx9))))); refine wpQuiet_nil ?_; rintro _ ⟨y2, rfl⟩)
                      clear r0 r1 y0 y1 RS1 SXY
                      go_wp2
                      go_roundg (n3 - (j + 1))
                      case measure => omega
                      case rel =>
                        refine ⟨j + 1, by omega, by omega, by go_num, Lib.hid (fun x hx => ?_), Lib.hid (HE3.out.trans y2.x)⟩
                        rw [take_sG HJR.out] at hx
                        rcases List.mem_append.1 hx with hx | hx
                        · exact HLT.out x hx
                        · rw [List.mem_singleton.1 hx, HTK.out]
                          show tcmp (g, lg) (f, lx) < 0
                          rw [HCV.out]; exact HNEG.out
                    · have hn1' : decide (cv < 0) = false := by simpa using hneg
                      have HNEG := Lib.hid hneg
                      clear hneg
                      have HGT : Hid (CmpGe3 R (f, lx) j) := Lib.hid (fun x hx => by
                        rw [drop_sG HJR.out] at hx
                        injection hx with hx
                        rw [← hx, HTK.out]
                        show ¬ tcmp (g, lg) (f, lx) < 0
                        rw [HCV.out]; exact HNEG.out)
                      go_wp2
                      (refine wp_region_ext (by kernel_rfl) (by kernel_rfl) ?_; (repeat (go_big_quiet_step ((go_at_call 149; with_reducible exact call_ext (rtc_at g f Ag Bx ng nx cg cx lg lx _ HCV (RS1 _) (SXY _) UG UX hng9 hnx9))))); refine wpQuiet_nil ?_; rintro _ ⟨y2, rfl⟩)
                      clear r0 r1 y0 y1 RS1 SXY
                      have HE3 := Lib.hid (HE3.out.trans y2.x)
                      obtain ⟨wr, hwr⟩ : ∃ W : World, W = y2.W := ⟨_, rfl⟩
                      rw [← hwr] at HE3 ⊢
                      clear hwr
                      have x0 : wr.cell? ⟨g15, 0, none⟩ = some (.int .u64 f) := (B15.out.ext HE3.out).cell 0
                      have x1 : wr.cell? ⟨g15, 1, none⟩ = some (.slice Bx nx cx) := (B15.out.ext HE3.out).cell 1
                      have x2 : wr.cell? ⟨g15, 2, none⟩ = some (.int .i64 1) := (B15.out.ext HE3.out).cell 2
                      have HP := Lib.hid ((HP.out.grow X15.out).grow HE3.out)
                      have ST : Hid (Sl wr 3 (some ad2) j c3 (cgsC (R.take j))) := Lib.hid (by have := Sl.take (k := j) HP.out.own.sl (by omega); rwa [cgsC_take] at this)
                      have SD : Hid (Sl wr 3 (if c3 = j then (some ad2) else (some ad2).map (·.add (j * 3))) (n3 - j) (c3 - j) (cgsC (R.drop j))) := Lib.hid (by have := Sl.drop (k := j) HP.out.own.sl (by omega); rwa [cgsC_drop] at this)
                      have hnc3 : n3 ≤ c3 ∧ c3 ≤ 9223372036854775807 := HP.out.own.sl.cap
                      have hcj : ¬ c3 = j := by omega
                      have p1 : True := trivial
                      go_wp2_with (first
                        | (at_builtin; have mk := p1; clear p1 mk; go_loud (refine wpList_append_two _ elemChg wr.heap.size _ _ rfl rfl none 0 0 [] rfl (Own.nil _ _ _ _) (some ad2) j c3 (cgsC (R.take j)) rfl ST.out (cgsC_one _) (by omega) (by decide) (Nat.le_refl _) ?_); intro A4 c4 w4 o4 g4 h4; clear h4; have y4 : Ext wr w4 := Ext.grown (Ext.refl _) g4 (fun k e => nomatch e); have O4 : Hid (Own w4 wr.heap.size 60 3 A4 j c4 (cgsC (R.take j))) := Lib.hid (by have := o4; rwa [Nat.zero_add, List.nil_append] at this); have e0 := y4.cell x0; have e1 := y4.cell x1; have e2 := y4.cell x2; have Y4 := Lib.hid y4; clear o4 g4 y4; have p2 : True := trivial)
                        | (at_builtin; have mk := p2; clear p2 mk; go_loud (refine wpList_append_two _ elemChg wr.heap.size _ _ rfl rfl A4 j c4 (cgsC (R.take j)) rfl (O4.out.alloc _) (some ⟨w4.heap.size, 0, none⟩) 1 1 [.int .u64 f, .slice Bx nx cx, .int .i64 1] rfl (Sl.one w4 #[.int .u64 f, .slice Bx nx cx, .int .i64 1] 60 3 rfl) (by intro u hu; simp at hu; rcases hu with rfl | rfl | rfl <;> rfl) (by omega) (by decide) (Nat.le_trans Y4.out.size ((Ext.refl w4).alloc _).size) ?_); intro A5 c5 w5 o5 g5 h5; clear h5; have Y5 : Hid (Ext wr w5) := Lib.hid (Ext.grown (Y4.out.alloc _) g5 (fun k e => (O4.out.lt k e).1)); have O5 := Lib.hid o5; clear o5 g5; have p3 : True := trivial)
                        | (at_builtin; have mk := p3; clear p3 mk; go_loud (refine wpList_append_two _ elemChg wr.heap.size _ _ rfl rfl A5 (j + 1) c5 _ rfl O5.out (some (ad2.add (j * 3))) (n3 - j) (c3 - j) (cgsC (R.drop j)) rfl ((Sl.ext (by have := SD.out; rw [if_neg hcj] at this; exact this) Y5.out)) (cgsC_one _) (by omega) (by decide) Y5.out.size ?_); intro A6 c6 w6 o6 g6 h6; clear h6; have Y6 : Hid (Ext wr w6) := Lib.hid (Ext.grown Y5.out g6 (fun k e => (O5.out.lt k e).1)); have O6 := Lib.hid o6; clear o6 g6)
                        | fail)
                      go_roundg (NN - (i + 1))
                      case measure => omega
                      case rel => exact ⟨i + 1, _, A6, c6, _, by omega, by omega, by go_num, rfl, Lib.hid (MovI.put (m := j + 1 + (n3 - j)) (x := ⟨⟨f, Bx, cx, lx⟩, 1⟩) HMM.out HRV.out HRW.out HP.out HIL.out HNB.out (j := j) (by omega) HXC.out HDD.out HLT.out HGT.out (by omega) Y6.out (by have := O6.out; rw [← HNX.out] at this; exact this))⟩
                  · obtain rfl : j = n3 := by omega
                    have HGT : Hid (CmpGe3 R (f, lx) j) := Lib.hid (fun x hx => by rw [List.drop_of_length_le (by rw [← HP.out.len]; exact Nat.le_refl _)] at hx; simp at hx)
                    clear y0 y1
                    go_wp2
                    (refine wp_region_ext (by kernel_rfl) (by kernel_rfl) ?_; (repeat (go_big_quiet_step (fail))); refine wpQuiet_nil ?_; rintro _ ⟨y2, rfl⟩)
                    have HE3 := Lib.hid (HE3.out.trans y2.x)
                    obtain ⟨wr, hwr⟩ : ∃ W : World, W = y2.W := ⟨_, rfl⟩
                    rw [← hwr] at HE3 ⊢
                    clear hwr
                    have x0 : wr.cell? ⟨g15, 0, none⟩ = some (.int .u64 f) := (B15.out.ext HE3.out).cell 0
                    have x1 : wr.cell? ⟨g15, 1, none⟩ = some (.slice Bx nx cx) := (B15.out.ext HE3.out).cell 1
                    have x2 : wr.cell? ⟨g15, 2, none⟩ = some (.int .i64 1) := (B15.out.ext HE3.out).cell 2
                    have HP := Lib.hid ((HP.out.grow X15.out).grow HE3.out)
                    have ST : Hid (Sl wr 3 A3 j c3 (cgsC (R.take j))) := Lib.hid (by have := Sl.take (k := j) HP.out.own.sl (by omega); rwa [cgsC_take] at this)
                    have SD : Hid (Sl wr 3 (if c3 = j then A3 else A3.map (·.add (j * 3))) (j - j) (c3 - j) (cgsC (R.drop j))) := Lib.hid (by have := Sl.drop (k := j) HP.out.own.sl (by omega); rwa [cgsC_drop] at this)
                    have hnc3 : j ≤ c3 ∧ c3 ≤ 9223372036854775807 := HP.out.own.sl.cap
                    cases A3 with
                    | none =>
                      obtain rfl : c3 = 0 := HP.out.own.sl.2.2.2.1 rfl
                      have hn0 : j = 0 := by omega
                      subst hn0
                      have p1 : True := trivial
                      go_wp2_with (first
                        | (at_builtin; have mk := p1; clear p1 mk; go_loud (refine wpList_append_two _ elemChg wr.heap.size _ _ rfl rfl none 0 0 [] rfl (Own.nil _ _ _ _) none 0 0 (cgsC (R.take 0)) rfl ST.out (cgsC_one _) (by omega) (by decide) (Nat.le_refl _) ?_); intro A4 c4 w4 o4 g4 h4; clear h4; have y4 : Ext wr w4 := Ext.grown (Ext.refl _) g4 (fun k e => nomatch e); have O4 : Hid (Own w4 wr.heap.size 60 3 A4 0 c4 (cgsC (R.take 0))) := Lib.hid (by have := o4; rwa [Nat.zero_add, List.nil_append] at this); have e0 := y4.cell x0; have e1 := y4.cell x1; have e2 := y4.cell x2; have Y4 := Lib.hid y4; clear o4 g4 y4; have p2 : True := trivial)
                        | (at_builtin; have mk := p2; clear p2 mk; go_loud (refine wpList_append_two _ elemChg wr.heap.size _ _ rfl rfl A4 0 c4 (cgsC (R.take 0)) rfl (O4.out.alloc _) (some ⟨w4.heap.size, 0, none⟩) 1 1 [.int .u64 f, .slice Bx nx cx, .int .i64 1] rfl (Sl.one w4 #[.int .u64 f, .slice Bx nx cx, .int .i64 1] 60 3 rfl) (by intro u hu; simp at hu; rcases hu with rfl | rfl | rfl <;> rfl) (by omega) (by decide) (Nat.le_trans Y4.out.size ((Ext.refl w4).alloc _).size) ?_); intro A5 c5 w5 o5 g5 h5; clear h5; have Y5 : Hid (Ext wr w5) := Lib.hid (Ext.grown (Y4.out.alloc _) g5 (fun k e => (O4.out.lt k e).1)); have O5 := Lib.hid o5; clear o5 g5; have p3 : True := trivial)
                        | (at_builtin; have mk := p3; clear p3 mk; go_loud (refine wpList_append_two _ elemChg wr.heap.size _ _ rfl rfl A5 (0 + 1) c5 _ rfl O5.out none (0) (0) (cgsC (R.drop 0)) rfl ((Sl.ext (by have := SD.out; simpa using this) Y5.out)) (cgsC_one _) (by omega) (by decide) Y5.out.size ?_); intro A6 c6 w6 o6 g6 h6; clear h6; have Y6 : Hid (Ext wr w6) := Lib.hid (Ext.grown Y5.out g6 (fun k e => (O5.out.lt k e).1)); have O6 := Lib.hid o6; clear o6 g6)
                        | fail)
                      go_roundg (NN - (i + 1))
                      case measure => omega
                      case rel => exact ⟨i + 1, _, A6, c6, _, by omega, by omega, by go_num, rfl, Lib.hid (MovI.put (m := 0 + 1 + (0)) (x := ⟨⟨f, Bx, cx, lx⟩, 1⟩) HMM.out HRV.out HRW.out HP.out HIL.out HNB.out (j := 0) (by omega) HXC.out HDD.out HLT.out HGT.out (by omega) Y6.out (by have := O6.out; rw [← HNX.out] at this; exact this))⟩
                    | some a3 =>
                      by_cases hcj : c3 = j
                      · subst hcj
                        have p1 : True := trivial
                        go_wp2_with (first
                          | (at_builtin; have mk := p1; clear p1 mk; go_loud (refine wpList_append_two _ elemChg wr.heap.size _ _ rfl rfl none 0 0 [] rfl (Own.nil _ _ _ _) (some a3) c3 c3 (cgsC (R.take c3)) rfl ST.out (cgsC_one _) (by omega) (by decide) (Nat.le_refl _) ?_); intro A4 c4 w4 o4 g4 h4; clear h4; have y4 : Ext wr w4 := Ext.grown (Ext.refl _) g4 (fun k e => nomatch e); have O4 : Hid (Own w4 wr.heap.size 60 3 A4 c3 c4 (cgsC (R.take c3))) := Lib.hid (by have := o4; rwa [Nat.zero_add, List.nil_append] at this); have e0 := y4.cell x0; have e1 := y4.cell x1; have e2 := y4.cell x2; have Y4 := Lib.hid y4; clear o4 g4 y4; have p2 : True := trivial)
                          | (at_builtin; have mk := p2; clear p2 mk; go_loud (refine wpList_append_two _ elemChg wr.heap.size _ _ rfl rfl A4 c3 c4 (cgsC (R.take c3)) rfl (O4.out.alloc _) (some ⟨w4.heap.size, 0, none⟩) 1 1 [.int .u64 f, .slice Bx nx cx, .int .i64 1] rfl (Sl.one w4 #[.int .u64 f, .slice Bx nx cx, .int .i64 1] 60 3 rfl) (by intro u hu; simp at hu; rcases hu with rfl | rfl | rfl <;> rfl) (by omega) (by decide) (Nat.le_trans Y4.out.size ((Ext.refl w4).alloc _).size) ?_); intro A5 c5 w5 o5 g5 h5; clear h5; have Y5 : Hid (Ext wr w5) := Lib.hid (Ext.grown (Y4.out.alloc _) g5 (fun k e => (O4.out.lt k e).1)); have O5 := Lib.hid o5; clear o5 g5; have p3 : True := trivial)
                          | (at_builtin; have mk := p3; clear p3 mk; go_loud (refine wpList_append_two _ elemChg wr.heap.size _ _ rfl rfl A5 (c3 + 1) c5 _ rfl O5.out _ (0) (0) (cgsC (R.drop c3)) rfl ((Sl.ext (by have := SD.out; rw [if_pos rfl, Nat.sub_self] at this; exact this) Y5.out)) (cgsC_one _) (by omega) (by decide) Y5.out.size ?_); intro A6 c6 w6 o6 g6 h6; clear h6; have Y6 : Hid (Ext wr w6) := Lib.hid (Ext.grown Y5.out g6 (fun k e => (O5.out.lt k e).1)); have O6 := Lib.hid o6; clear o6 g6)
                          | fail)
                        go_roundg (NN - (i + 1))
                        case measure => omega
                        case rel => exact ⟨i + 1, _, A6, c6, _, by omega, by omega, by go_num, rfl, Lib.hid (MovI.put (m := c3 + 1 + (0)) (x := ⟨⟨f, Bx, cx, lx⟩, 1⟩) HMM.out HRV.out HRW.out HP.out HIL.out HNB.out (j := c3) (by omega) HXC.out HDD.out HLT.out HGT.out (by omega) Y6.out (by have := O6.out; rw [← HNX.out] at this; exact this))⟩
                      · have p1 : True := trivial
                        go_wp2_with (first
                          | (at_builtin; have mk := p1; clear p1 mk; go_loud (refine wpList_append_two _ elemChg wr.heap.size _ _ rfl rfl none 0 0 [] rfl (Own.nil _ _ _ _) (some a3) j c3 (cgsC (R.take j)) rfl ST.out (cgsC_one _) (by omega) (by decide) (Nat.le_refl _) ?_); intro A4 c4 w4 o4 g4 h4; clear h4; have y4 : Ext wr w4 := Ext.grown (Ext.refl _) g4 (fun k e => nomatch e); have O4 : Hid (Own w4 wr.heap.size 60 3 A4 j c4 (cgsC (R.take j))) := Lib.hid (by have := o4; rwa [Nat.zero_add, List.nil_append] at this); have e0 := y4.cell x0; have e1 := y4.cell x1; have e2 := y4.cell x2; have Y4 := Lib.hid y4; clear o4 g4 y4; have p2 : True := trivial)
                          | (at_builtin; have mk := p2; clear p2 mk; go_loud (refine wpList_append_two _ elemChg wr.heap.size _ _ rfl rfl A4 j c4 (cgsC (R.take j)) rfl (O4.out.alloc _) (some ⟨w4.heap.size, 0, none⟩) 1 1 [.int .u64 f, .slice Bx nx cx, .int .i64 1] rfl (Sl.one w4 #[.int .u64 f, .slice Bx nx cx, .int .i64 1] 60 3 rfl) (by intro u hu; simp at hu; rcases hu with rfl | rfl | rfl <;> rfl) (by omega) (by decide) (Nat.le_trans Y4.out.size ((Ext.refl w4).alloc _).size) ?_); intro A5 c5 w5 o5 g5 h5; clear h5; have Y5 : Hid (Ext wr w5) := Lib.hid (Ext.grown (Y4.out.alloc _) g5 (fun k e => (O4.out.lt k e).1)); have O5 := Lib.hid o5; clear o5 g5; have p3 : True := trivial)
                          | (at_builtin; have mk := p3; clear p3 mk; go_loud (refine wpList_append_two _ elemChg wr.heap.size _ _ rfl rfl A5 (j + 1) c5 _ rfl O5.out (some (a3.add (j * 3))) (0) (c3 - j) (cgsC (R.drop j)) rfl ((Sl.ext (by have := SD.out; rw [if_neg hcj, Nat.sub_self] at this; exact this) Y5.out)) (cgsC_one _) (by omega) (by decide) Y5.out.size ?_); intro A6 c6 w6 o6 g6 h6; clear h6; have Y6 : Hid (Ext wr w6) := Lib.hid (Ext.grown Y5.out g6 (fun k e => (O5.out.lt k e).1)); have O6 := Lib.hid o6; clear o6 g6)
                          | fail)
                        go_roundg (NN - (i + 1))
                        case measure => omega
                        case rel => exact ⟨i + 1, _, A6, c6, _, by omega, by omega, by go_num, rfl, Lib.hid (MovI.put (m := j + 1 + (0)) (x := ⟨⟨f, Bx, cx, lx⟩, 1⟩) HMM.out HRV.out HRW.out HP.out HIL.out HNB.out (j := j) (by omega) HXC.out HDD.out HLT.out HGT.out (by omega) Y6.out (by have := O6.out; rw [← HNX.out] at this; exact this))⟩
          | false =>
            cases gone with
            | true =>
              have HNB : Hid (¬ ((MM.getD i Tm.zero).v ∈ V ∧ (MM.getD i Tm.zero).v ∈ W)) := Lib.hid (fun q => by have q2 := q.1; rw [HTV.out, HVD.out] at q2; have := HB1.out; rw [decide_eq_true q2] at this; cases this)
              have HDD : Hid (((-1) : Int) = if i < V.length then -1 else 1) := Lib.hid (by have := HGN.out; have e := HNV.out; rw [if_pos (by have := of_decide_eq_true this; omega)])
              have p1 : True := trivial
              go_wp2_with (first
                | (go_at_call 150; have mk := p1; clear p1 mk; go_loud (refine (rhas_at A1 c1 n1 M1 f Bx nx cx lx _ HB1 HN1 (Lib.hid (HT1.out.ext HP.out.ext)) HF1 (Lib.hid (HXS.out _ (Ext.refl _))) UX hnx9).mono ?_); rintro r w7 ⟨rfl, x7⟩; have X7 := Lib.hid x7; have q0 := x7.cell q0; have q1 := x7.cell q1; clear x7; have p2 : True := trivial)
                | fail)
              obtain ⟨w15, hw15⟩ : ∃ w15, w15 = (w7.alloc (.cells #[.int .u64 f, .slice Bx nx cx, .int .i64 (-1)] 60)) := ⟨_, rfl⟩
              have X15 : Hid (Ext wo w15) := Lib.hid (by rw [hw15]; exact (X7.out.alloc _))
              have B15 : Hid (Bk w15 w7.heap.size 60 #[.int .u64 f, .slice Bx nx cx, .int .i64 (-1)]) := Lib.hid (by rw [hw15]; exact Bk.new _ _ _)
              rw [← hw15]
              obtain ⟨g15, hg15⟩ : ∃ g, g = w7.heap.size := ⟨_, rfl⟩
              rw [← hg15] at B15 ⊢
              clear hw15 hg15 q0 q1 hgone
              go_wp2
              go_loopg [16] n3 (fun z v16 wr => ∃ j : Nat, z = n3 - j ∧ j ≤ n3 ∧ v16 = .int .i64 j ∧ Hid (CmpLt3 R (f, lx) j) ∧ Hid (Ext w15 wr))
              case atStart => exact ⟨0, rfl, Nat.zero_le _, rfl, Lib.hid (fun x hx => by simp at hx), Lib.hid (Ext.refl _)⟩
              case round =>
                obtain ⟨j, rfl, hj, rfl, HLT, HE3⟩ := hrel
                have y0 : ∀ y : Xt wr, y.W.cell? ⟨g15, 0, none⟩ = some (.int .u64 f) := fun y => (B15.out.ext (HE3.out.trans y.x)).cell 0
                have y1 : ∀ y : Xt wr, y.W.cell? ⟨g15, 1, none⟩ = some (.slice Bx nx cx) := fun y => (B15.out.ext (HE3.out.trans y.x)).cell 1
                by_cases hlj : j < n3
                · have hjR : j < R.length := by rw [← HP.out.len]; exact hlj
                  obtain ⟨g, Ag, ng, cg, lg, dg, ad2, T, hg, hng⟩ := ((HP.out.cin (fun x hx => (HSM.out x hx).1.ext HX6.out)).ext (X15.out.trans HE3.out)).cgAt hjR
                  obtain ⟨e2, r0, r1, r2, RS1⟩ := T
                  subst e2
                  have hfg := (HSM.out _ (HP.out.sub _ (getG_mem hjR))).2
                  rw [hg] at hfg
                  have UG : Hid (U32 lg) := Lib.hid hfg.u
                  have hng9 : ng ≤ 1000000 := by have : lg.length ≤ 1000 := hfg.n; omega
                  have HTK : Hid (R.getD j Cg.zero = ⟨⟨g, Ag, cg, lg⟩, dg⟩) := Lib.hid hg
                  have HJR := Lib.hid hjR
                  have SXY : ∀ y : Xt wr, Hid (Sl y.W 1 Bx nx cx (wds lx)) := fun y => Lib.hid (HXS.out _ ((X15.out.trans HE3.out).trans y.x))
                  clear hg hng hfg hjR r2
                  obtain ⟨cv, hcv⟩ : ∃ cv, tcmp (g, lg) (f, lx) = cv := ⟨_, rfl⟩
                  have HCV := Lib.hid hcv
                  clear hcv
                  by_cases hneg : cv < 0
                  · have hn1' : decide (cv < 0) = true := by simpa using hneg
                    have HNEG := Lib.hid hneg
                    clear hneg
                    go_wp2
                    (refine wp_region_ext (by kernel_rfl) (by kernel_rfl) ?_; (repeat (go_big_quiet_step ((go_at_call 149; with_reducible exact call_ext (rtc_at g f Ag Bx ng nx cg cx lg lx _ HCV (RS1 _) (SXY _) UG UX hng9 hnx9))))); refine wpQuiet_nil ?_; rintro _ ⟨y2, rfl⟩)
                    clear r0 r1 y0 y1 RS1 SXY
                    go_wp2
                    go_roundg (n3 - (j + 1))
                    case measure => omega
                    case rel =>
                      refine ⟨j + 1, by omega, by omega, by go_num, Lib.hid (fun x hx => ?_), Lib.hid (HE3.out.trans y2.x)⟩
                      rw [take_sG HJR.out] at hx
                      rcases List.mem_append.1 hx with hx | hx
                      · exact HLT.out x hx
                      · rw [List.mem_singleton.1 hx, HTK.out]
                        show tcmp (g, lg) (f, lx) < 0
                        rw [HCV.out]; exact HNEG.out
                  · have hn1' : decide (cv < 0) = false := by simpa using hneg
                    have HNEG := Lib.hid hneg
                    clear hneg
                    have HGT : Hid (CmpGe3 R (f, lx) j) := Lib.hid (fun x hx => by
                      rw [drop_sG HJR.out] at hx
                      injection hx with hx
                      rw [← hx, HTK.out]
                      show ¬ tcmp (g, lg) (f, lx) < 0
                      rw [HCV.out]; exact HNEG.out)
                    go_wp2
                    (refine wp_region_ext (by kernel_rfl) (by kernel_rfl) ?_; (repeat (go_big_quiet_step ((go_at_call 149; with_reducible exact call_ext (rtc_at g f Ag Bx ng nx cg cx lg lx _ HCV (RS1 _) (SXY _) UG UX hng9 hnx9))))); refine wpQuiet_nil ?_; rintro _ ⟨y2, rfl⟩)
                    clear r0 r1 y0 y1 RS1 SXY
                    have HE3 := Lib.hid (HE3.out.trans y2.x)
                    obtain ⟨wr, hwr⟩ : ∃ W : World, W = y2.W := ⟨_, rfl⟩
                    rw [← hwr] at HE3 ⊢
                    clear hwr
                    have x0 : wr.cell? ⟨g15, 0, none⟩ = some (.int .u64 f) := (B15.out.ext HE3.out).cell 0
                    have x1 : wr.cell? ⟨g15, 1, none⟩ = some (.slice Bx nx cx) := (B15.out.ext HE3.out).cell 1
                    have x2 : wr.cell? ⟨g15, 2, none⟩ = some (.int .i64 (-1)) := (B15.out.ext HE3.out).cell 2
                    have HP := Lib.hid ((HP.out.grow X15.out).grow HE3.out)
                    have ST : Hid (Sl wr 3 (some ad2) j c3 (cgsC (R.take j))) := Lib.hid (by have := Sl.take (k := j) HP.out.own.sl (by omega); rwa [cgsC_take] at this)
                    have SD : Hid (Sl wr 3 (if c3 = j then (some ad2) else (some ad2).map (·.add (j * 3))) (n3 - j) (c3 - j) (cgsC (R.drop j))) := Lib.hid (by have := Sl.drop (k := j) HP.out.own.sl (by omega); rwa [cgsC_drop] at this)
                    have hnc3 : n3 ≤ c3 ∧ c3 ≤ 9223372036854775807 := HP.out.own.sl.cap
                    have hcj : ¬ c3 = j := by omega
                    have p1 : True := trivial
                    go_wp2_with (first
                      | (at_builtin; have mk := p1; clear p1 mk; go_loud (refine wpList_append_two _ elemChg wr.heap.size _ _ rfl rfl none 0 0 [] rfl (Own.nil _ _ _ _) (some ad2) j c3 (cgsC (R.take j)) rfl ST.out (cgsC_one _) (by omega) (by decide) (Nat.le_refl _) ?_); intro A4 c4 w4 o4 g4 h4; clear h4; have y4 : Ext wr w4 := Ext.grown (Ext.refl _) g4 (fun k e => nomatch e); have O4 : Hid (Own w4 wr.heap.size 60 3 A4 j c4 (cgsC (R.take j))) := Lib.hid (by have := o4; rwa [Nat.zero_add, List.nil_append] at this); have e0 := y4.cell x0; have e1 := y4.cell x1; have e2 := y4.cell x2; have Y4 := Lib.hid y4; clear o4 g4 y4; have p2 : True := trivial)
                      | (at_builtin; have mk := p2; clear p2 mk; go_loud (refine wpList_append_two _ elemChg wr.heap.size _ _ rfl rfl A4 j c4 (cgsC (R.take j)) rfl (O4.out.alloc _) (some ⟨w4.heap.size, 0, none⟩) 1 1 [.int .u64 f, .slice Bx nx cx, .int .i64 (-1)] rfl (Sl.one w4 #[.int .u64 f, .slice Bx nx cx, .int .i64 (-1)] 60 3 rfl) (by intro u hu; simp at hu; rcases hu with rfl | rfl | rfl <;> rfl) (by omega) (by decide) (Nat.le_trans Y4.out.size ((Ext.refl w4).alloc _).size) ?_); intro A5 c5 w5 o5 g5 h5; clear h5; have Y5 : Hid (Ext wr w5) := Lib.hid (Ext.grown (Y4.out.alloc _) g5 (fun k e => (O4.out.lt k e).1)); have O5 := Lib.hid o5; clear o5 g5; have p3 : True := trivial)
                      | (at_builtin; have mk := p3; clear p3 mk; go_loud (refine wpList_append_two _ elemChg wr.heap.size _ _ rfl rfl A5 (j + 1) c5 _ rfl O5.out (some (ad2.add (j * 3))) (n3 - j) (c3 - j) (cgsC (R.drop j)) rfl ((Sl.ext (by have := SD.out; rw [if_neg hcj] at this; exact this) Y5.out)) (cgsC_one _) (by omega) (by decide) Y5.out.size ?_); intro A6 c6 w6 o6 g6 h6; clear h6; have Y6 : Hid (Ext wr w6) := Lib.hid (Ext.grown Y5.out g6 (fun k e => (O5.out.lt k e).1)); have O6 := Lib.hid o6; clear o6 g6)
                      | fail)
                    go_roundg (NN - (i + 1))
                    case measure => omega
                    case rel => exact ⟨i + 1, _, A6, c6, _, by omega, by omega, by go_num, rfl, Lib.hid (MovI.put (m := j + 1 + (n3 - j)) (x := ⟨⟨f, Bx, cx, lx⟩, (-1)⟩) HMM.out HRV.out HRW.out HP.out HIL.out HNB.out (j := j) (by omega) HXC.out HDD.out HLT.out HGT.out (by omega) Y6.out (by have := O6.out; rw [← HNX.out] at this; exact this))⟩
                · obtain rfl : j = n3 := by omega
                  have HGT : Hid (CmpGe3 R (f, lx) j) := Lib.hid (fun x hx => by rw [List.drop_of_length_le (by rw [← HP.out.len]; exact Nat.le_refl _)] at hx; simp at hx)
                  clear y0 y1
                  go_wp2
                  (refine wp_region_ext (by kernel_rfl) (by kernel_rfl) ?_; (repeat (go_big_quiet_step (fail))); refine wpQuiet_nil ?_; rintro _ ⟨y2, rfl⟩)
                  have HE3 := Lib.hid (HE3.out.trans y2.x)
                  obtain ⟨wr, hwr⟩ : ∃ W : World, W = y2.W := ⟨_, rfl⟩
                  rw [← hwr] at HE3 ⊢
                  clear hwr
                  have x0 : wr.cell? ⟨g15, 0, none⟩ = some (.int .u64 f) := (B15.out.ext HE3.out).cell 0
                  have x1 : wr.cell? ⟨g15, 1, none⟩ = some (.slice Bx nx cx) := (B15.out.ext HE3.out).cell 1
                  have x2 : wr.cell? ⟨g15, 2, none⟩ = some (.int .i64 (-1)) := (B15.out.ext HE3.out).cell 2
                  have HP := Lib.hid ((HP.out.grow X15.out).grow HE3.out)
                  have ST : Hid (Sl wr 3 A3 j c3 (cgsC (R.take j))) := Lib.hid (by have := Sl.take (k := j) HP.out.own.sl (by omega); rwa [cgsC_take] at this)
                  have SD : Hid (Sl wr 3 (if c3 = j then A3 else A3.map (·.add (j * 3))) (j - j) (c3 - j) (cgsC (R.drop j))) := Lib.hid (by have := Sl.drop (k := j) HP.out.own.sl (by omega); rwa [cgsC_drop] at this)
                  have hnc3 : j ≤ c3 ∧ c3 ≤ 9223372036854775807 := HP.out.own.sl.cap
                  cases A3 with
                  | none =>
                    obtain rfl : c3 = 0 := HP.out.own.sl.2.2.2.1 rfl
                    have hn0 : j = 0 := by omega
                    subst hn0
                    have p1 : True := trivial
                    go_wp2_with (first
                      | (at_builtin; have mk := p1; clear p1 mk; go_loud (refine wpList_append_two _ elemChg wr.heap.size _ _ rfl rfl none 0 0 [] rfl (Own.nil _ _ _ _) none 0 0 (cgsC (R.take 0)) rfl ST.out (cgsC_one _) (by omega) (by decide) (Nat.le_refl _) ?_); intro A4 c4 w4 o4 g4 h4; clear h4; have y4 : Ext wr w4 := Ext.grown (Ext.refl _) g4 (fun k e => nomatch e); have O4 : Hid (Own w4 wr.heap.size 60 3 A4 0 c4 (cgsC (R.take 0))) := Lib.hid (by have := o4; rwa [Nat.zero_add, List.nil_append] at this); have e0 := y4.cell x0; have e1 := y4.cell x1; have e2 := y4.cell x2; have Y4 := Lib.hid y4; clear o4 g4 y4; have p2 : True := trivial)
                      | (at_builtin; have mk := p2; clear p2 mk; go_loud (refine wpList_append_two _ elemChg wr.heap.size _ _ rfl rfl A4 0 c4 (cgsC (R.take 0)) rfl (O4.out.alloc _) (some ⟨w4.heap.size, 0, none⟩) 1 1 [.int .u64 f, .slice Bx nx cx, .int .i64 (-1)] rfl (Sl.one w4 #[.int .u64 f, .slice Bx nx cx, .int .i64 (-1)] 60 3 rfl) (by intro u hu; simp at hu; rcases hu with rfl | rfl | rfl <;> rfl) (by omega) (by decide) (Nat.le_trans Y4.out.size ((Ext.refl w4).alloc _).size) ?_); intro A5 c5 w5 o5 g5 h5; clear h5; have Y5 : Hid (Ext wr w5) := Lib.hid (Ext.grown (Y4.out.alloc _) g5 (fun k e => (O4.out.lt k e).1)); have O5 := Lib.hid o5; clear o5 g5; have p3 : True := trivial)
                      | (at_builtin; have mk := p3; clear p3 mk; go_loud (refine wpList_append_two _ elemChg wr.heap.size _ _ rfl rfl A5 (0 + 1) c5 _ rfl O5.out none (0) (0) (cgsC (R.drop 0)) rfl ((Sl.ext (by have := SD.out; simpa using this) Y5.out)) (cgsC_one _) (by omega) (by decide) Y5.out.size ?_); intro A6 c6 w6 o6 g6 h6; clear h6; have Y6 : Hid (Ext wr w6) := Lib.hid (Ext.grown Y5.out g6 (fun k e => (O5.out.lt k e).1)); have O6 := Lib.hid o6; clear o6 g6)
                      | fail)
                    go_roundg (NN - (i + 1))
                    case measure => omega
                    case rel => exact ⟨i + 1, _, A6, c6, _, by omega, by omega, by go_num, rfl, Lib.hid (MovI.put (m := 0 + 1 + (0)) (x := ⟨⟨f, Bx, cx, lx⟩, (-1)⟩) HMM.out HRV.out HRW.out HP.out HIL.out HNB.out (j := 0) (by omega) HXC.out HDD.out HLT.out HGT.out (by omega) Y6.out (by have := O6.out; rw [← HNX.out] at this; exact this))⟩
                  | some a3 =>
                    by_cases hcj : c3 = j
                    · subst hcj
                      have p1 : True := trivial
                      go_wp2_with (first
                        | (at_builtin; have mk := p1; clear p1 mk; go_loud (refine wpList_append_two _ elemChg wr.heap.size _ _ rfl rfl none 0 0 [] rfl (Own.nil _ _ _ _) (some a3) c3 c3 (cgsC (R.take c3)) rfl ST.out (cgsC_one _) (by omega) (by decide) (Nat.le_refl _) ?_); intro A4 c4 w4 o4 g4 h4; clear h4; have y4 : Ext wr w4 := Ext.grown (Ext.refl _) g4 (fun k e => nomatch e); have O4 : Hid (Own w4 wr.heap.size 60 3 A4 c3 c4 (cgsC (R.take c3))) := Lib.hid (by have := o4; rwa [Nat.zero_add, List.nil_append] at this); have e0 := y4.cell x0; have e1 := y4.cell x1; have e2 := y4.cell x2; have Y4 := Lib.hid y4; clear o4 g4 y4; have p2 : True := trivial)
                        | (at_builtin; have mk := p2; clear p2 mk; go_loud (refine wpList_append_two _ elemChg wr.heap.size _ _ rfl rfl A4 c3 c4 (cgsC (R.take c3)) rfl (O4.out.alloc _) (some ⟨w4.heap.size, 0, none⟩) 1 1 [.int .u64 f, .slice Bx nx cx, .int .i64 (-1)] rfl (Sl.one w4 #[.int .u64 f, .slice Bx nx cx, .int .i64 (-1)] 60 3 rfl) (by intro u hu; simp at hu; rcases hu with rfl | rfl | rfl <;> rfl) (by omega) (by decide) (Nat.le_trans Y4.out.size ((Ext.refl w4).alloc _).size) ?_); intro A5 c5 w5 o5 g5 h5; clear h5; have Y5 : Hid (Ext wr w5) := Lib.hid (Ext.grown (Y4.out.alloc _) g5 (fun k e => (O4.out.lt k e).1)); have O5 := Lib.hid o5; clear o5 g5; have p3 : True := trivial)
                        | (at_builtin; have mk := p3; clear p3 mk; go_loud (refine wpList_append_two _ elemChg wr.heap.size _ _ rfl rfl A5 (c3 + 1) c5 _ rfl O5.out _ (0) (0) (cgsC (R.drop c3)) rfl ((Sl.ext (by have := SD.out; rw [if_pos rfl, Nat.sub_self] at this; exact this) Y5.out)) (cgsC_one _) (by omega) (by decide) Y5.out.size ?_); intro A6 c6 w6 o6 g6 h6; clear h6; have Y6 : Hid (Ext wr w6) := Lib.hid (Ext.grown Y5.out g6 (fun k e => (O5.out.lt k e).1)); have O6 := Lib.hid o6; clear o6 g6)
                        | fail)
                      go_roundg (NN - (i + 1))
                      case measure => omega
                      case rel => exact ⟨i + 1, _, A6, c6, _, by omega, by omega, by go_num, rfl, Lib.hid (MovI.put (m := c3 + 1 + (0)) (x := ⟨⟨f, Bx, cx, lx⟩, (-1)⟩) HMM.out HRV.out HRW.out HP.out HIL.out HNB.out (j := c3) (by omega) HXC.out HDD.out HLT.out HGT.out (by omega) Y6.out (by have := O6.out; rw [← HNX.out] at this; exact this))⟩
                    · have p1 : True := trivial
                      go_wp2_with (first
                        | (at_builtin; have mk := p1; clear p1 mk; go_loud (refine wpList_append_two _ elemChg wr.heap.size _ _ rfl rfl none 0 0 [] rfl (Own.nil _ _ _ _) (some a3) j c3 (cgsC (R.take j)) rfl ST.out (cgsC_one _) (by omega) (by decide) (Nat.le_refl _) ?_); intro A4 c4 w4 o4 g4 h4; clear h4; have y4 : Ext wr w4 := Ext.grown (Ext.refl _) g4 (fun k e => nomatch e); have O4 : Hid (Own w4 wr.heap.size 60 3 A4 j c4 (cgsC (R.take j))) := Lib.hid (by have := o4; rwa [Nat.zero_add, List.nil_append] at this); have e0 := y4.cell x0; have e1 := y4.cell x1; have e2 := y4.cell x2; have Y4 := Lib.hid y4; clear o4 g4 y4; have p2 : True := trivial)
                        | (at_builtin; have mk := p2; clear p2 mk; go_loud (refine wpList_append_two _ elemChg wr.heap.size _ _ rfl rfl A4 j c4 (cgsC (R.take j)) rfl (O4.out.alloc _) (some ⟨w4.heap.size, 0, none⟩) 1 1 [.int .u64 f, .slice Bx nx cx, .int .i64 (-1)] rfl (Sl.one w4 #[.int .u64 f, .slice Bx nx cx, .int .i64 (-1)] 60 3 rfl) (by intro u hu; simp at hu; rcases hu with rfl | rfl | rfl <;> rfl) (by omega) (by decide) (Nat.le_trans Y4.out.size ((Ext.refl w4).alloc _).size) ?_); intro A5 c5 w5 o5 g5 h5; clear h5; have Y5 : Hid (Ext wr w5) := Lib.hid (Ext.grown (Y4.out.alloc _) g5 (fun k e => (O4.out.lt k e).1)); have O5 := Lib.hid o5; clear o5 g5; have p3 : True := trivial)
                        | (at_builtin; have mk := p3; clear p3 mk; go_loud (refine wpList_append_two _ elemChg wr.heap.size _ _ rfl rfl A5 (j + 1) c5 _ rfl O5.out (some (a3.add (j * 3))) (0) (c3 - j) (cgsC (R.drop j)) rfl ((Sl.ext (by have := SD.out; rw [if_neg hcj, Nat.sub_self] at this; exact this) Y5.out)) (cgsC_one _) (by omega) (by decide) Y5.out.size ?_); intro A6 c6 w6 o6 g6 h6; clear h6; have Y6 : Hid (Ext wr w6) := Lib.hid (Ext.grown Y5.out g6 (fun k e => (O5.out.lt k e).1)); have O6 := Lib.hid o6; clear o6 g6)
                        | fail)
                      go_roundg (NN - (i + 1))
                      case measure => omega
                      case rel => exact ⟨i + 1, _, A6, c6, _, by omega, by omega, by go_num, rfl, Lib.hid (MovI.put (m := j + 1 + (0)) (x := ⟨⟨f, Bx, cx, lx⟩, (-1)⟩) HMM.out HRV.out HRW.out HP.out HIL.out HNB.out (j := j) (by omega) HXC.out HDD.out HLT.out HGT.out (by omega) Y6.out (by have := O6.out; rw [← HNX.out] at this; exact this))⟩
            | false =>
              have HNB : Hid (¬ ((MM.getD i Tm.zero).v ∈ V ∧ (MM.getD i Tm.zero).v ∈ W)) := Lib.hid (fun q => by have q2 := q.1; rw [HTV.out, HVD.out] at q2; have := HB1.out; rw [decide_eq_true q2] at this; cases this)
              have HDD : Hid ((1 : Int) = if i < V.length then -1 else 1) := Lib.hid (by have := HGN.out; have e := HNV.out; rw [if_neg (by have := of_decide_eq_false this; omega)])
              have p1 : True := trivial
              go_wp2_with (first
                | (go_at_call 150; have mk := p1; clear p1 mk; go_loud (refine (rhas_at A1 c1 n1 M1 f Bx nx cx lx _ HB1 HN1 (Lib.hid (HT1.out.ext HP.out.ext)) HF1 (Lib.hid (HXS.out _ (Ext.refl _))) UX hnx9).mono ?_); rintro r w7 ⟨rfl, x7⟩; have X7 := Lib.hid x7; have q0 := x7.cell q0; have q1 := x7.cell q1; clear x7; have p2 : True := trivial)
                | fail)
              obtain ⟨w15, hw15⟩ : ∃ w15, w15 = (w7.alloc (.cells #[.int .u64 f, .slice Bx nx cx, .int .i64 1] 60)) := ⟨_, rfl⟩
              have X15 : Hid (Ext wo w15) := Lib.hid (by rw [hw15]; exact (X7.out.alloc _))
              have B15 : Hid (Bk w15 w7.heap.size 60 #[.int .u64 f, .slice Bx nx cx, .int .i64 1]) := Lib.hid (by rw [hw15]; exact Bk.new _ _ _)
              rw [← hw15]
              obtain ⟨g15, hg15⟩ : ∃ g, g = w7.heap.size := ⟨_, rfl⟩
              rw [← hg15] at B15 ⊢
              clear hw15 hg15 q0 q1 hgone
              go_wp2
              go_loopg [16] n3 (fun z v16 wr => ∃ j : Nat, z = n3 - j ∧ j ≤ n3 ∧ v16 = .int .i64 j ∧ Hid (CmpLt3 R (f, lx) j) ∧ Hid (Ext w15 wr))
              case atStart => exact ⟨0, rfl, Nat.zero_le _, rfl, Lib.hid (fun x hx => by simp at hx), Lib.hid (Ext.refl _)⟩
              case round =>
                obtain ⟨j, rfl, hj, rfl, HLT, HE3⟩ := hrel
                have y0 : ∀ y : Xt wr, y.W.cell? ⟨g15, 0, none⟩ = some (.int .u64 f) := fun y => (B15.out.ext (HE3.out.trans y.x)).cell 0
                have y1 : ∀ y : Xt wr, y.W.cell? ⟨g15, 1, none⟩ = some (.slice Bx nx cx) := fun y => (B15.out.ext (HE3.out.trans y.x)).cell 1
                by_cases hlj : j < n3
                · have hjR : j < R.length := by rw [← HP.out.len]; exact hlj
                  obtain ⟨g, Ag, ng, cg, lg, dg, ad2, T, hg, hng⟩ := ((HP.out.cin (fun x hx => (HSM.out x hx).1.ext HX6.out)).ext (X15.out.trans HE3.out)).cgAt hjR
                  obtain ⟨e2, r0, r1, r2, RS1⟩ := T
                  subst e2
                  have hfg := (HSM.out _ (HP.out.sub _ (getG_mem hjR))).2
                  rw [hg] at hfg
                  have UG : Hid (U32 lg) := Lib.hid hfg.u
                  have hng9 : ng ≤ 1000000 := by have : lg.length ≤ 1000 := hfg.n; omega
                  have HTK : Hid (R.getD j Cg.zero = ⟨⟨g, Ag, cg, lg⟩, dg⟩) := Lib.hid hg
                  have HJR := Lib.hid hjR
                  have SXY : ∀ y : Xt wr, Hid (Sl y.W 1 Bx nx cx (wds lx)) := fun y => Lib.hid (HXS.out _ ((X15.out.trans HE3.out).trans y.x))
                  clear hg hng hfg hjR r2
                  obtain ⟨cv, hcv⟩ : ∃ cv, tcmp (g, lg) (f, lx) = cv := ⟨_, rfl⟩
                  have HCV := Lib.hid hcv
                  clear hcv
                  by_cases hneg : cv < 0
                  · have hn1' : decide (cv < 0) = true := by simpa using hneg
                    have HNEG := Lib.hid hneg
                    clear hneg
                    go_wp2
                    (refine wp_region_ext (by kernel_rfl) (by kernel_rfl) ?_; (repeat (go_big_quiet_step ((go_at_call 149; with_reducible exact call_ext (rtc_at g f Ag Bx ng nx cg cx lg lx _ HCV (RS1 _) (SXY _) UG UX hng9 hnx9))))); refine wpQuiet_nil ?_; rintro _ ⟨y2, rfl⟩)
                    clear r0 r1 y0 y1 RS1 SXY
                    go_wp2
                    go_roundg (n3 - (j + 1))
                    case measure => omega
                    case rel =>
                      refine ⟨j + 1, by omega, by omega, by go_num, Lib.hid (fun x hx => ?_), Lib.hid (HE3.out.trans y2.x)⟩
                      rw [take_sG HJR.out] at hx
                      rcases List.mem_append.1 hx with hx | hx
                      · exact HLT.out x hx
                      · rw [List.mem_singleton.1 hx, HTK.out]
                        show tcmp (g, lg) (f, lx) < 0
                        rw [HCV.out]; exact HNEG.out
                  · have hn1' : decide (cv < 0) = false := by simpa using hneg
                    have HNEG := Lib.hid hneg
                    clear hneg
                    have HGT : Hid (CmpGe3 R (f, lx) j) := Lib.hid (fun x hx => by
                      rw [drop_sG HJR.out] at hx
                      injection hx with hx
                      rw [← hx, HTK.out]
                      show ¬ tcmp (g, lg) (f, lx) < 0
                      rw [HCV.out]; exact HNEG.out)
                    go_wp2
                    (refine wp_region_ext (by kernel_rfl) (by kernel_rfl) ?_; (repeat (go_big_quiet_step ((go_at_call 149; with_reducible exact call_ext (rtc_at g f Ag Bx ng nx cg cx lg lx _ HCV (RS1 _) (SXY _) UG UX hng9 hnx9))))); refine wpQuiet_nil ?_; rintro _ ⟨y2, rfl⟩)
                    clear r0 r1 y0 y1 RS1 SXY
                    have HE3 := Lib.hid (HE3.out.trans y2.x)
                    obtain ⟨wr, hwr⟩ : ∃ W : World, W = y2.W := ⟨_, rfl⟩
                    rw [← hwr] at HE3 ⊢
                    clear hwr
                    have x0 : wr.cell? ⟨g15, 0, none⟩ = some (.int .u64 f) := (B15.out.ext HE3.out).cell 0
                    have x1 : wr.cell? ⟨g15, 1, none⟩ = some (.slice Bx nx cx) := (B15.out.ext HE3.out).cell 1
                    have x2 : wr.cell? ⟨g15, 2, none⟩ = some (.int .i64 1) := (B15.out.ext HE3.out).cell 2
                    have HP := Lib.hid ((HP.out.grow X15.out).grow HE3.out)
                    have ST : Hid (Sl wr 3 (some ad2) j c3 (cgsC (R.take j))) := Lib.hid (by have := Sl.take (k := j) HP.out.own.sl (by omega); rwa [cgsC_take] at this)
                    have SD : Hid (Sl wr 3 (if c3 = j then (some ad2) else (some ad2).map (·.add (j * 3))) (n3 - j) (c3 - j) (cgsC (R.drop j))) := Lib.hid (by have := Sl.drop (k := j) HP.out.own.sl (by omega); rwa [cgsC_drop] at this)
                    have hnc3 : n3 ≤ c3 ∧ c3 ≤ 9223372036854775807 := HP.out.own.sl.cap
                    have hcj : ¬ c3 = j := by omega
                    have p1 : True := trivial
                    go_wp2_with (first
                      | (at_builtin; have mk := p1; clear p1 mk; go_loud (refine wpList_append_two _ elemChg wr.heap.size _ _ rfl rfl none 0 0 [] rfl (Own.nil _ _ _ _) (some ad2) j c3 (cgsC (R.take j)) rfl ST.out (cgsC_one _) (by omega) (by decide) (Nat.le_refl _) ?_); intro A4 c4 w4 o4 g4 h4; clear h4; have y4 : Ext wr w4 := Ext.grown (Ext.refl _) g4 (fun k e => nomatch e); have O4 : Hid (Own w4 wr.heap.size 60 3 A4 j c4 (cgsC (R.take j))) := Lib.hid (by have := o4; rwa [Nat.zero_add, List.nil_append] at this); have e0 := y4.cell x0; have e1 := y4.cell x1; have e2 := y4.cell x2; have Y4 := Lib.hid y4; clear o4 g4 y4; have p2 : True := trivial)
                      | (at_builtin; have mk := p2; clear p2 mk; go_loud (refine wpList_append_two _ elemChg wr.heap.size _ _ rfl rfl A4 j c4 (cgsC (R.take j)) rfl (O4.out.alloc _) (some ⟨w4.heap.size, 0, none⟩) 1 1 [.int .u64 f, .slice Bx nx cx, .int .i64 1] rfl (Sl.one w4 #[.int .u64 f, .slice Bx nx cx, .int .i64 1] 60 3 rfl) (by intro u hu; simp at hu; rcases hu with rfl | rfl | rfl <;> rfl) (by omega) (by decide) (Nat.le_trans Y4.out.size ((Ext.refl w4).alloc _).size) ?_); intro A5 c5 w5 o5 g5 h5; clear h5; have Y5 : Hid (Ext wr w5) := Lib.hid (Ext.grown (Y4.out.alloc _) g5 (fun k e => (O4.out.lt k e).1)); have O5 := Lib.hid o5; clear o5 g5; have p3 : True := trivial)
                      | (at_builtin; have mk := p3; clear p3 mk; go_loud (refine wpList_append_two _ elemChg wr.heap.size _ _ rfl rfl A5 (j + 1) c5 _ rfl O5.out (some (ad2.add (j * 3))) (n3 - j) (c3 - j) (cgsC (R.drop j)) rfl ((Sl.ext (by have := SD.out; rw [if_neg hcj] at this; exact this) Y5.out)) (cgsC_one _) (by omega) (by decide) Y5.out.size ?_); intro A6 c6 w6 o6 g6 h6; clear h6; have Y6 : Hid (Ext wr w6) := Lib.hid (Ext.grown Y5.out g6 (fun k e => (O5.out.lt k e).1)); have O6 := Lib.hid o6; clear o6 g6)
                      | fail)
                    go_roundg (NN - (i + 1))
                    case measure => omega
                    case rel => exact ⟨i + 1, _, A6, c6, _, by omega, by omega, by go_num, rfl, Lib.hid (MovI.put (m := j + 1 + (n3 - j)) (x := ⟨⟨f, Bx, cx, lx⟩, 1⟩) HMM.out HRV.out HRW.out HP.out HIL.out HNB.out (j := j) (by omega) HXC.out HDD.out HLT.out HGT.out (by omega) Y6.out (by have := O6.out; rw [← HNX.out] at this; exact this))⟩
                · obtain rfl : j = n3 := by omega
                  have HGT : Hid (CmpGe3 R (f, lx) j) := Lib.hid (fun x hx => by rw [List.drop_of_length_le (by rw [← HP.out.len]; exact Nat.le_refl _)] at hx; simp at hx)
                  clear y0 y1
                  go_wp2
                  (refine wp_region_ext (by kernel_rfl) (by kernel_rfl) ?_; (repeat (go_big_quiet_step (fail))); refine wpQuiet_nil ?_; rintro _ ⟨y2, rfl⟩)
                  have HE3 := Lib.hid (HE3.out.trans y2.x)
                  obtain ⟨wr, hwr⟩ : ∃ W : World, W = y2.W := ⟨_, rfl⟩
                  rw [← hwr] at HE3 ⊢
                  clear hwr
                  have x0 : wr.cell? ⟨g15, 0, none⟩ = some (.int .u64 f) := (B15.out.ext HE3.out).cell 0
                  have x1 : wr.cell? ⟨g15, 1, none⟩ = some (.slice Bx nx cx) := (B15.out.ext HE3.out).cell 1
                  have x2 : wr.cell? ⟨g15, 2, none⟩ = some (.int .i64 1) := (B15.out.ext HE3.out).cell 2
                  have HP := Lib.hid ((HP.out.grow X15.out).grow HE3.out)
                  have ST : Hid (Sl wr 3 A3 j c3 (cgsC (R.take j))) := Lib.hid (by have := Sl.take (k := j) HP.out.own.sl (by omega); rwa [cgsC_take] at this)
                  have SD : Hid (Sl wr 3 (if c3 = j then A3 else A3.map (·.add (j * 3))) (j - j) (c3 - j) (cgsC (R.drop j))) := Lib.hid (by have := Sl.drop (k := j) HP.out.own.sl (by omega); rwa [cgsC_drop] at this)
                  have hnc3 : j ≤ c3 ∧ c3 ≤ 9223372036854775807 := HP.out.own.sl.cap
                  cases A3 with
                  | none =>
                    obtain rfl : c3 = 0 := HP.out.own.sl.2.2.2.1 rfl
                    have hn0 : j = 0 := by omega
                    subst hn0
                    have p1 : True := trivial
                    go_wp2_with (first
                      | (at_builtin; have mk := p1; clear p1 mk; go_loud (refine wpList_append_two _ elemChg wr.heap.size _ _ rfl rfl none 0 0 [] rfl (Own.nil _ _ _ _) none 0 0 (cgsC (R.take 0)) rfl ST.out (cgsC_one _) (by omega) (by decide) (Nat.le_refl _) ?_); intro A4 c4 w4 o4 g4 h4; clear h4; have y4 : Ext wr w4 := Ext.grown (Ext.refl _) g4 (fun k e => nomatch e); have O4 : Hid (Own w4 wr.heap.size 60 3 A4 0 c4 (cgsC (R.take 0))) := Lib.hid (by have := o4; rwa [Nat.zero_add, List.nil_append] at this); have e0 := y4.cell x0; have e1 := y4.cell x1; have e2 := y4.cell x2; have Y4 := Lib.hid y4; clear o4 g4 y4; have p2 : True := trivial)
                      | (at_builtin; have mk := p2; clear p2 mk; go_loud (refine wpList_append_two _ elemChg wr.heap.size _ _ rfl rfl A4 0 c4 (cgsC (R.take 0)) rfl (O4.out.alloc _) (some ⟨w4.heap.size, 0, none⟩) 1 1 [.int .u64 f, .slice Bx nx cx, .int .i64 1] rfl (Sl.one w4 #[.int .u64 f, .slice Bx nx cx, .int .i64 1] 60 3 rfl) (by intro u hu; simp at hu; rcases hu with rfl | rfl | rfl <;> rfl) (by omega) (by decide) (Nat.le_trans Y4.out.size ((Ext.refl w4).alloc _).size) ?_); intro A5 c5 w5 o5 g5 h5; clear h5; have Y5 : Hid (Ext wr w5) := Lib.hid (Ext.grown (Y4.out.alloc _) g5 (fun k e => (O4.out.lt k e).1)); have O5 := Lib.hid o5; clear o5 g5; have p3 : True := trivial)
                      | (at_builtin; have mk := p3; clear p3 mk; go_loud (refine wpList_append_two _ elemChg wr.heap.size _ _ rfl rfl A5 (0 + 1) c5 _ rfl O5.out none (0) (0) (cgsC (R.drop 0)) rfl ((Sl.ext (by have := SD.out; simpa using this) Y5.out)) (cgsC_one _) (by omega) (by decide) Y5.out.size ?_); intro A6 c6 w6 o6 g6 h6; clear h6; have Y6 : Hid (Ext wr w6) := Lib.hid (Ext.grown Y5.out g6 (fun k e => (O5.out.lt k e).1)); have O6 := Lib.hid o6; clear o6 g6)
                      | fail)
                    go_roundg (NN - (i + 1))
                    case measure => omega
                    case rel => exact ⟨i + 1, _, A6, c6, _, by omega, by omega, by go_num, rfl, Lib.hid (MovI.put (m := 0 + 1 + (0)) (x := ⟨⟨f, Bx, cx, lx⟩, 1⟩) HMM.out HRV.out HRW.out HP.out HIL.out HNB.out (j := 0) (by omega) HXC.out HDD.out HLT.out HGT.out (by omega) Y6.out (by have := O6.out; rw [← HNX.out] at this; exact this))⟩
                  | some a3 =>
                    by_cases hcj : c3 = j
                    · subst hcj
                      have p1 : True := trivial
                      go_wp2_with (first
                        | (at_builtin; have mk := p1; clear p1 mk; go_loud (refine wpList_append_two _ elemChg wr.heap.size _ _ rfl rfl none 0 0 [] rfl (Own.nil _ _ _ _) (some a3) c3 c3 (cgsC (R.take c3)) rfl ST.out (cgsC_one _) (by omega) (by decide) (Nat.le_refl _) ?_); intro A4 c4 w4 o4 g4 h4; clear h4; have y4 : Ext wr w4 := Ext.grown (Ext.refl _) g4 (fun k e => nomatch e); have O4 : Hid (Own w4 wr.heap.size 60 3 A4 c3 c4 (cgsC (R.take c3))) := Lib.hid (by have := o4; rwa [Nat.zero_add, List.nil_append] at this); have e0 := y4.cell x0; have e1 := y4.cell x1; have e2 := y4.cell x2; have Y4 := Lib.hid y4; clear o4 g4 y4; have p2 : True := trivial)
                        | (at_builtin; have mk := p2; clear p2 mk; go_loud (refine wpList_append_two _ elemChg wr.heap.size _ _ rfl rfl A4 c3 c4 (cgsC (R.take c3)) rfl (O4.out.alloc _) (some ⟨w4.heap.size, 0, none⟩) 1 1 [.int .u64 f, .slice Bx nx cx, .int .i64 1] rfl (Sl.one w4 #[.int .u64 f, .slice Bx nx cx, .int .i64 1] 60 3 rfl) (by intro u hu; simp at hu; rcases hu with rfl | rfl | rfl <;> rfl) (by omega) (by decide) (Nat.le_trans Y4.out.size ((Ext.refl w4).alloc _).size) ?_); intro A5 c5 w5 o5 g5 h5; clear h5; have Y5 : Hid (Ext wr w5) := Lib.hid (Ext.grown (Y4.out.alloc _) g5 (fun k e => (O4.out.lt k e).1)); have O5 := Lib.hid o5; clear o5 g5; have p3 : True := trivial)
                        | (at_builtin; have mk := p3; clear p3 mk; go_loud (refine wpList_append_two _ elemChg wr.heap.size _ _ rfl rfl A5 (c3 + 1) c5 _ rfl O5.out _ (0) (0) (cgsC (R.drop c3)) rfl ((Sl.ext (by have := SD.out; rw [if_pos rfl, Nat.sub_self] at this; exact this) Y5.out)) (cgsC_one _) (by omega) (by decide) Y5.out.size ?_); intro A6 c6 w6 o6 g6 h6; clear h6; have Y6 : Hid (Ext wr w6) := Lib.hid (Ext.grown Y5.out g6 (fun k e => (O5.out.lt k e).1)); have O6 := Lib.hid o6; clear o6 g6)
                        | fail)
                      go_roundg (NN - (i + 1))
                      case measure => omega
                      case rel => exact ⟨i + 1, _, A6, c6, _, by omega, by omega, by go_num, rfl, Lib.hid (MovI.put (m := c3 + 1 + (0)) (x := ⟨⟨f, Bx, cx, lx⟩, 1⟩) HMM.out HRV.out HRW.out HP.out HIL.out HNB.out (j := c3) (by omega) HXC.out HDD.out HLT.out HGT.out (by omega) Y6.out (by have := O6.out; rw [← HNX.out] at this; exact this))⟩
                    · have p1 : True := trivial
                      go_wp2_with (first
                        | (at_builtin; have mk := p1; clear p1 mk; go_loud (refine wpList_append_two _ elemChg wr.heap.size _ _ rfl rfl none 0 0 [] rfl (Own.nil _ _ _ _) (some a3) j c3 (cgsC (R.take j)) rfl ST.out (cgsC_one _) (by omega) (by decide) (Nat.le_refl _) ?_); intro A4 c4 w4 o4 g4 h4; clear h4; have y4 : Ext wr w4 := Ext.grown (Ext.refl _) g4 (fun k e => nomatch e); have O4 : Hid (Own w4 wr.heap.size 60 3 A4 j c4 (cgsC (R.take j))) := Lib.hid (by have := o4; rwa [Nat.zero_add, List.nil_append] at this); have e0 := y4.cell x0; have e1 := y4.cell x1; have e2 := y4.cell x2; have Y4 := Lib.hid y4; clear o4 g4 y4; have p2 : True := trivial)
                        | (at_builtin; have mk := p2; clear p2 mk; go_loud (refine wpList_append_two _ elemChg wr.heap.size _ _ rfl rfl A4 j c4 (cgsC (R.take j)) rfl (O4.out.alloc _) (some ⟨w4.heap.size, 0, none⟩) 1 1 [.int .u64 f, .slice Bx nx cx, .int .i64 1] rfl (Sl.one w4 #[.int .u64 f, .slice Bx nx cx, .int .i64 1] 60 3 rfl) (by intro u hu; simp at hu; rcases hu with rfl | rfl | rfl <;> rfl) (by omega) (by decide) (Nat.le_trans Y4.out.size ((Ext.refl w4).alloc _).size) ?_); intro A5 c5 w5 o5 g5 h5; clear h5; have Y5 : Hid (Ext wr w5) := Lib.hid (Ext.grown (Y4.out.alloc _) g5 (fun k e => (O4.out.lt k e).1)); have O5 := Lib.hid o5; clear o5 g5; have p3 : True := trivial)
                        | (at_builtin; have mk := p3; clear p3 mk; go_loud (refine wpList_append_two _ elemChg wr.heap.size _ _ rfl rfl A5 (j + 1) c5 _ rfl O5.out (some (a3.add (j * 3))) (0) (c3 - j) (cgsC (R.drop j)) rfl ((Sl.ext (by have := SD.out; rw [if_neg hcj, Nat.sub_self] at this; exact this) Y5.out)) (cgsC_one _) (by omega) (by decide) Y5.out.size ?_); intro A6 c6 w6 o6 g6 h6; clear h6; have Y6 : Hid (Ext wr w6) := Lib.hid (Ext.grown Y5.out g6 (fun k e => (O5.out.lt k e).1)); have O6 := Lib.hid o6; clear o6 g6)
                        | fail)
                      go_roundg (NN - (i + 1))
                      case measure => omega
                      case rel => exact ⟨i + 1, _, A6, c6, _, by omega, by omega, by go_num, rfl, Lib.hid (MovI.put (m := j + 1 + (0)) (x := ⟨⟨f, Bx, cx, lx⟩, 1⟩) HMM.out HRV.out HRW.out HP.out HIL.out HNB.out (j := j) (by omega) HXC.out HDD.out HLT.out HGT.out (by omega) Y6.out (by have := O6.out; rw [← HNX.out] at this; exact this))⟩
        · obtain rfl : NN = i := by omega
          have HMV : Hid (R.map Cg.cv = movedV V W) := Lib.hid (by
            have := HP.out.up
            rw [show NN = (V ++ W).length by rw [HMM.out, List.length_map]; exact HNL.out] at this
            exact this.done HRV.out HRW.out)
          go_wp2
          go_ret
          have XE := (X4.out.trans Y6.out).trans HP.out.ext
          refine ⟨A3, c3, n3, R, A, c, m, L', by simp, HP.out.len, HP.out.cin (fun x hx => (HSM.out x hx).1.ext HX6.out), ?_, HR.out.grow XE, HLF.out, HUW.out.trans (Upd.ext XE), fun q hq => ?_, ?_, ?_, ?_⟩
          · rw [HMV.out, HVD.out, HWD.out, HV1.out, HV4.out, HLF.out]
          · rcases HB.out q hq with h | h
            · exact .inl h
            · exact .inr (Nat.le_trans X1.out.size h)
          · have e1 := HR.out.len; have e2 := hR.out.len; have e3 := hn.out; omega
          · exact HP.out.own.mono (by have a := HUW.out.size; have b := X4.out.size; have c := Y6.out.size; omega)
          · exact fun x hx => (HSM.out _ (HP.out.sub x hx)).1

end Go.Proofs.YtdgbkpoickbidaaGreatDoor
