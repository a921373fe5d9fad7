/- row.Sum of rows that all may be: the walk, up to the sort. Conditions: each theorem states its own. -/
import Derived.Test.YtngeioghihbkeaaDoorSumB
namespace Go.Proofs.YtngeioghihbkeaaDoor
open Go.RowKit Go.Maps

theorem rowCheck_lit {v : Int} (A : Option Addr) (c n : Nat) (l : List Dat) (w : World) (hv : Hid (checkR l = v)) (e1 : Hid (n = l.length)) (h1 : Hid (Rw w A c l)) (ht : Hid (RwTxt l)) (G : Good w) :
    Calls Tryd.prog 25 #[.slice A n c] w fun e w' => e = .returned (.int .u16 v) ∧ Ext w w' := hv.out ▸ rowCheck_any A c n l w e1.out h1.out ht.out G
theorem key_lit (A : Option Addr) (c n : Nat) (l : List Dat) (w : World) (e1 : Hid (n = l.length)) (h1 : Hid (Rw w A c l)) (hi : Hid (RwInt l)) (hk : Hid (checkR l = 0)) :
    Calls Tryd.prog 56 #[.slice A n c] w (PutOut w w.heap.size (keyT l)) := key_any A c n l w e1.out h1.out hi.out hk.out
theorem clone_lit (A : Option Addr) (c n : Nat) (l : List Dat) (w : World) (e1 : Hid (n = l.length)) (h1 : Hid (Rw w A c l)) (hs : n ≤ 1000000000) :
    Calls Tryd.prog 57 #[.slice A n c] w fun e w' => RowOut w.heap.size n l e w' ∧ Ext w w' := cloneRow_any A c n l w e1.out h1.out hs
/-- what is asked of the rows that come in -/
structure InC (x : Ct) : Prop where
  txt : RwTxt x.l
  int : RwInt x.l
  num : InV (valC x)
  len : x.l.length ≤ 1000000
/-- what stands ahead of the sort -/
structure SumEnd (w : World) (g gm n : Nat) (L O : List Ct) (wx : World) : Prop where
  at_ : SumAt w g gm n wx O
  same : ∀ c, sumClass (alike cmpV c (O.map valC)) = sumClass (alike cmpV c (L.map valC))
  inv : ∀ x ∈ O, InV (valC x)
theorem Vals.out {w wx : World} {g gm n : Nat} {L O : List Ct} (h : Vals L n O) (hn : n = L.length) (hs : SumAt w g gm n wx O) : SumEnd w g gm n L O wx :=
  ⟨hs, fun c => by rw [h.same, sumClass_twice, List.take_of_length_le (by omega)], h.inv⟩
/-- while those that are alike are put together: M is done, X is to be thrown away, R is to come -/
structure MergeAt (w : World) (g gm n : Nat) (S : List Ct) (wr : World) (i : Nat) (T M X R : List Ct) : Prop where
  arr : Arr wr w.heap.size g n (M ++ (X ++ R))
  len : i = M.length + X.length
  spl : S = T ++ R
  tl : T.length = i
  mv : M.map valC = mergeV (T.map valC)
  rows : ∀ x ∈ M ++ R, Rw wr x.A x.c x.l ∧ ∀ ad, x.A = some ad → gm < ad.block ∧ ad.block < wr.heap.size
  ext : Ext w wr
  gg : w.heap.size ≤ g ∧ g < gm ∧ gm < wr.heap.size
theorem rows_upd {w w' : World} {g gm : Nat} {K L : List Ct} (h : ∀ x ∈ K, Rw w x.A x.c x.l ∧ ∀ ad, x.A = some ad → gm < ad.block ∧ ad.block < w.heap.size) (hx : w.grownBy w' (some g)) (hg : g ≤ gm) (hs : ∀ x ∈ L, ∃ y ∈ K, x.A = y.A ∧ x.c = y.c ∧ x.l = y.l) :
    ∀ x ∈ L, Rw w' x.A x.c x.l ∧ ∀ ad, x.A = some ad → gm < ad.block ∧ ad.block < w'.heap.size := fun x hxL => by
  obtain ⟨y, hy, e1, e2, e3⟩ := hs x hxL
  have hs := hx.size
  rw [e1, e2, e3]
  exact ⟨(h y hy).1.upd hx fun ad e => by have := (h y hy).2 ad e; omega, fun ad e => by have := (h y hy).2 ad e; omega⟩
theorem MergeAt.start {w wx w1 : World} {g gm n : Nat} {L O S : List Ct} (h : SumEnd w g gm n L O wx) (st : Stable cmpC O S) (ar : Arr w1 w.heap.size g n S) (up : wx.grownBy w1 (some g)) : MergeAt w g gm n S w1 0 [] [] [] S := by
  have hg := h.at_.gg
  have hs := up.size
  exact ⟨ar, rfl, rfl, rfl, rfl, rows_upd (K := O) h.at_.rows up (by omega) (fun x hx => ⟨x, (st.mem cmpC_tot x).1 hx, rfl, rfl, rfl⟩), h.at_.ext.grown up (fun k e => by cases e; exact hg.1), by omega⟩
theorem MergeAt.mono {w wr wz : World} {g gm n i : Nat} {S T M X R : List Ct} (h : MergeAt w g gm n S wr i T M X R) (x : Ext wr wz) : MergeAt w g gm n S wz i T M X R :=
  ⟨h.arr.ext x, h.len, h.spl, h.tl, h.mv, rows_upd (K := M ++ R) h.rows (upd_ext x g) (by have := h.gg; omega) (fun x hx => ⟨x, hx, rfl, rfl, rfl⟩), h.ext.trans x, by have := h.gg; have := x.size; omega⟩
theorem MergeAt.join {w wr : World} {g gm n i q : Nat} {S T M X R : List Ct} {x y : Ct} {s : Int} (h : MergeAt w g gm n S wr i T (M ++ [y]) X (x :: R)) (hc : cmpR y.l x.l = 0) (hq : q = M.length) (hs : w64 (y.k + x.k) = s) :
    MergeAt w g gm n S (wr.setCell ⟨g, q * 2 + 1, none⟩ (.int .i64 s)) (i + 1) (T ++ [x]) (M ++ [⟨y.A, y.c, y.l, s⟩]) (X ++ [x]) R := by
  subst hq hs
  have hg := h.gg
  have hu := upd_set wr g (M.length * 2 + 1) (.int .i64 (w64 (y.k + x.k)))
  have e0 : M ++ [y] ++ (X ++ x :: R) = M ++ y :: (X ++ x :: R) := by simp
  have harr := h.arr
  rw [e0] at harr
  have h1 := harr.1.put (M.length * 2 + 1) (.int .i64 (w64 (y.k + x.k)))
  have e : (ctsC (M ++ y :: (X ++ x :: R))).set (M.length * 2 + 1) (.int .i64 (w64 (y.k + x.k))) = ctsC (M ++ ⟨y.A, y.c, y.l, w64 (y.k + x.k)⟩ :: (X ++ x :: R)) := by
    have := ctsC_set (M ++ y :: (X ++ x :: R)) M.length ⟨y.A, y.c, y.l, w64 (y.k + x.k)⟩
    rw [set_mid] at this
    rw [← this]
    congr 1
    refine (set_self ?_).symm
    have q := ctsC_at (M ++ y :: (X ++ x :: R)) M.length 0 (by simp) (by decide)
    rw [getD_mid, Nat.add_zero] at q
    exact q
  rw [e] at h1
  refine ⟨⟨?_, harr.2⟩, by have := h.len; simp only [List.length_append, List.length_cons, List.length_nil] at this ⊢; omega, by rw [h.spl]; simp, by rw [List.length_append, h.tl]; rfl, ?_, rows_upd (K := M ++ [y] ++ x :: R) h.rows hu (by omega) (fun z hz => ?_), h.ext.set (p := ⟨g, _, none⟩) hg.1 _, by rw [World.size_setCell]; exact hg⟩
  · have e2 : M ++ [⟨y.A, y.c, y.l, w64 (y.k + x.k)⟩] ++ (X ++ [x] ++ R) = M ++ ⟨y.A, y.c, y.l, w64 (y.k + x.k)⟩ :: (X ++ x :: R) := by simp
    rw [e2]
    have e3 : (M ++ (⟨y.A, y.c, y.l, w64 (y.k + x.k)⟩ : Ct) :: (X ++ x :: R)).length = (M ++ y :: (X ++ x :: R)).length := by simp
    rw [e3]
    exact h1
  · rw [List.map_append, List.map_append, List.map_singleton, List.map_singleton, mergeV_snoc, ← h.mv, List.map_append, List.map_singleton, mergeStep_snoc, if_pos (show cmpV (valC y) (valC x) = 0 from hc)]
    rfl
  · rcases List.mem_append.1 hz with hz | hz
    · rcases List.mem_append.1 hz with hz | hz
      · exact ⟨z, by simp [hz], rfl, rfl, rfl⟩
      · rw [List.mem_singleton.1 hz]; exact ⟨y, by simp, rfl, rfl, rfl⟩
    · exact ⟨z, by simp [hz], rfl, rfl, rfl⟩
theorem MergeAt.keep {w wr : World} {g gm n i q nx : Nat} {S T M X R : List Ct} {x : Ct} (h : MergeAt w g gm n S wr i T M X (x :: R)) (hc : mergeStep (M.map valC) (valC x) = M.map valC ++ [valC x]) (hq : q = M.length) (hnx : nx = x.l.length) :
    MergeAt w g gm n S ((wr.setCell ⟨g, q * 2, none⟩ (.slice x.A nx x.c)).setCell ⟨g, q * 2 + 1, none⟩ (.int .i64 x.k)) (i + 1) (T ++ [x]) (M ++ [x]) (X ++ [x]).tail R := by
  subst hq hnx
  have hg := h.gg
  have hu := (upd_set wr g (M.length * 2) (.slice x.A x.l.length x.c)).trans (upd_set _ g (M.length * 2 + 1) (.int .i64 x.k))
  have h1 := h.arr.set M.length x
  have e : (M ++ (X ++ x :: R)).set M.length x = M ++ [x] ++ ((X ++ [x]).tail ++ R) := by
    cases X with
    | nil => rw [List.nil_append, set_mid]; simp
    | cons z X => rw [List.cons_append, set_mid]; simp
  rw [e] at h1
  refine ⟨h1, by have := h.len; simp only [List.length_append, List.length_cons, List.length_nil, List.length_tail] at this ⊢; omega, by rw [h.spl]; simp, by rw [List.length_append, h.tl]; rfl, ?_, rows_upd (K := M ++ x :: R) h.rows hu (by omega) (fun z hz => ⟨z, ?_, rfl, rfl, rfl⟩), (h.ext.set (p := ⟨g, _, none⟩) hg.1 _).set (p := ⟨g, _, none⟩) hg.1 _, by rw [World.size_setCell, World.size_setCell]; exact hg⟩
  · rw [List.map_append, List.map_append, List.map_singleton, mergeV_snoc, ← h.mv, hc]
  · rcases List.mem_append.1 hz with hz | hz
    · rcases List.mem_append.1 hz with hz | hz
      · simp [hz]
      · rw [List.mem_singleton.1 hz]; simp
    · simp [hz]
theorem stable_map {O S : List Ct} (h : Stable cmpC O S) : Stable cmpV (O.map valC) (S.map valC) := by
  refine ⟨List.pairwise_map.2 (h.sorted.imp fun q => q), fun c => ?_⟩
  have e : ∀ K : List Ct, alike cmpV c (K.map valC) = (alike cmpC ⟨none, 0, c.1, c.2⟩ K).map valC := fun K => by
    unfold alike
    rw [List.filter_map]
    rfl
  rw [e, e, h.same]
theorem Summed.of_sum {L D R : List V} (h : ∀ c, sumClass (alike cmpV c D) = sumClass (alike cmpV c L)) (k : Summed D R) : Summed L R := ⟨k.sorted, fun c => by rw [k.same, h]⟩
/-- what Sum hands back -/
def SumRes (w : World) (L : List Ct) (e : Ending) (w' : World) : Prop := ∃ A m c R, e = .returned (.slice A m c) ∧ m = R.length ∧ Own w' w.heap.size 32 2 A m c (ctsC R) ∧
  (∀ x ∈ R, Rw w' x.A x.c x.l ∧ ∀ ad, x.A = some ad → w.heap.size ≤ ad.block ∧ blk A c ≠ some ad.block) ∧ R.map valC = sumV (L.map valC) ∧ Ext w w'
theorem sum_res {w wx wr w2 : World} {g gm n i m c' : Nat} {L O S T M X : List Ct} (he : SumEnd w g gm n L O wx) (hin : ∀ x ∈ L, InV (valC x)) (st : Stable cmpC O S) (h : MergeAt w g gm n S wr i T M X []) (ar : Arr w2 w.heap.size g n (M.filter nzC)) (up : wr.grownBy w2 (some g)) (hm : m = (M.filter nzC).length) (hc : c' = n) :
    SumRes w L (.returned (.slice (some ⟨g, 0, none⟩) m c')) w2 := by
  subst hc hm
  have hg := h.gg
  have hT : S = T := by have := h.spl; rwa [List.append_nil] at this
  have hrows := rows_upd (K := M ++ []) (L := M.filter nzC) h.rows up (by omega) (fun x hx => ⟨x, by rw [List.append_nil]; exact (List.mem_filter.1 hx).1, rfl, rfl, rfl⟩)
  refine ⟨_, _, _, M.filter nzC, rfl, rfl, ar.1, fun x hx => ⟨(hrows x hx).1, fun ad e => ⟨by have := (hrows x hx).2 ad e; omega, fun q => ?_⟩⟩, ?_, h.ext.grown up (fun k e => by cases e; exact hg.1)⟩
  · obtain ⟨a, e1, e2⟩ := blk_some q
    cases e1
    have := (hrows x hx).2 ad e
    simp only at e2
    omega
  · have h1 : Summed (L.map valC) (M.map valC) := by
      rw [h.mv, ← hT]
      exact (Summed.of_stable (stable_map st) (fun y hy => by obtain ⟨x, hx, rfl⟩ := List.mem_map.1 hy; exact he.inv x hx)).of_sum he.same
    have h2 := Summed.all (L.map valC) (fun y hy => by obtain ⟨x, hx, rfl⟩ := List.mem_map.1 hy; exact hin x hx)
    unfold sumV
    rw [h2.unique h1, List.filter_map]
    rfl
/-- the loop's relation, of rows that all may be -/
structure SumP (w : World) (g gm n : Nat) (L : List Ct) (wr : World) (i : Nat) (O : List Ct) (D : MD) : Prop where
  at_ : SumAt w g gm n wr O
  vals : Vals L i O
  map : wr.ownsMap Tryd.prog 9 (plainElem Tryd.prog 3) gm i D
  is : MapIs D O
theorem SumP.mono {w wr wz : World} {g gm n i : Nat} {L O : List Ct} {D : MD} (h : SumP w g gm n L wr i O D) (x : Ext wr wz) : SumP w g gm n L wz i O D :=
  ⟨h.at_.mono x, h.vals, h.map.kept (upd_ext x g) (fun e => by have := h.at_.gg; cases e; omega), h.is⟩
theorem arr_len {w : World} {B g c : Nat} {L : List Ct} (h : Arr w B g c L) : L.length ≤ c := h.1.le.1
theorem at_inj {D : MD} {k : Lit} {a j : Int} (h : D.atKey k (.lit (.int .i64 0)) = .lit (.int .i64 a)) (h2 : D.atKey k (int_ 0) = int_ j) : a = j := by
  have := h.symm.trans h2
  unfold int_ at this
  injection this with this
  injection this
theorem sl_ct (w : World) (t : TypeId) (u v : Value) : Sl (w.alloc (.cells #[u, v] t)) 2 (some ⟨w.heap.size, 0, none⟩) 1 1 [u, v] :=
  ⟨rfl, Nat.le_refl _, by unfold maxLen; omega, (fun h => nomatch h), fun _ => ⟨_, rfl, fun j x hx => cells_at w t _ j x hx⟩⟩
theorem ok_data {x : Ct} (h : checkR x.l = 0) (hi : RwInt x.l) : ∀ d ∈ x.l, d.check = 0 ∧ InD d := fun d hd => ⟨((checkR_ok x.l).1 h).2 d hd, hi d hd⟩
theorem key_small {x : Ct} (h : checkR x.l = 0) : (keyT x.l).length ≤ 100000000 := by
  obtain ⟨h1, h2⟩ := (checkR_ok x.l).1 h
  have := keyT_len x.l (fun d hd => size_of_check' (h2 d hd))
  omega
theorem SumP.there {w wr : World} {g gm n i : Nat} {L O : List Ct} {D : MD} (h : SumP w g gm n L wr i O D) (hok : ∀ x ∈ L, checkR x.l = 0) (hin : ∀ x ∈ L, InC x) {x : Ct} (hx : x ∈ L) (hh : Maps.has D (.string (keyT x.l)) = true) :
    ∃ P y Q, O = P ++ y :: Q ∧ y.l = x.l ∧ D.atKey (.string (keyT x.l)) (int_ 0) = int_ P.length := by
  obtain ⟨y, hy, e⟩ := (h.is.has _).1 hh
  obtain ⟨u, hu, e2⟩ := h.vals.sub y hy
  have e3 : y.l = x.l := key_inj (by rw [e2]; exact ok_data (hok u hu) (hin u hu).int) (ok_data (hok x hx) (hin x hx).int) e
  obtain ⟨P, Q, rfl⟩ := List.append_of_mem hy
  have := h.is.at_ P.length (by simp)
  rw [getD_mid, e] at this
  exact ⟨P, y, Q, rfl, e3, this⟩
theorem SumP.away {w wr : World} {g gm n i : Nat} {L O : List Ct} {D : MD} (h : SumP w g gm n L wr i O D) (hok : ∀ x ∈ L, checkR x.l = 0) (hin : ∀ x ∈ L, InC x) {x : Ct} (hx : x ∈ L) (hh : Maps.has D (.string (keyT x.l)) = false) :
    ∀ y ∈ O, ¬ cmpV (valC y) (valC x) = 0 := fun y hy e => by
  obtain ⟨u, hu, e2⟩ := h.vals.sub y hy
  have e3 : y.l = x.l := row_zero _ _ (by rw [e2]; exact ok_data (hok u hu) (hin u hu).int) (ok_data (hok x hx) (hin x hx).int) e
  have := (h.is.has (keyT x.l)).2 ⟨y, hy, by rw [e3]⟩
  rw [hh] at this
  cases this
theorem SumP.old {w wr : World} {g gm n i j : Nat} {L P Q : List Ct} {D : MD} {x y : Ct} {s : Int} (h : SumP w g gm n L wr i (P ++ y :: Q) D) (hi : i < L.length) (hx : L.getD i Ct.zero = x) (hy : y.l = x.l) (hj : j = P.length) (hs : w64 (y.k + x.k) = s) :
    SumP w g gm n L (wr.setCell ⟨g, j * 2 + 1, none⟩ (.int .i64 s)) (i + 1) (P ++ ⟨y.A, y.c, y.l, s⟩ :: Q) D := by
  subst hs
  exact ⟨h.at_.set hj _, h.vals.old hi hx hy, (h.map.kept (upd_set wr g _ _) (fun e => by have := h.at_.gg; cases e; omega)).mono (Nat.le_succ i), h.is.old rfl⟩
theorem SumP.new {w w1 w2 w3 w4 : World} {g gm n i m : Nat} {L O : List Ct} {D : MD} {x : Ct} {A : Option Addr} {c nx : Nat} (h : SumP w g gm n L w1 i O D) (hi : i < L.length) (hx : L.getD i Ct.zero = x) (hin : InV (valC x)) (hn : ∀ y ∈ O, ¬ cmpV (valC y) (valC x) = 0) (hh : Maps.has D (.string (keyT x.l)) = false)
    (hm : m = O.length) (hnx : nx = x.l.length) (h2 : w2.ownsMap Tryd.prog 9 (plainElem Tryd.prog 3) gm (i + 1) (D.put (.string (keyT x.l)) (int_ m))) (g2 : w1.grownBy w2 (some gm)) (x3 : Ext w2 w3)
    (o3 : Own w3 w2.heap.size 91 4 A nx c (rowC x.l)) (b3 : ∀ ad, A = some ad → w2.heap.size ≤ ad.block ∧ ad.block < w3.heap.size)
    (o4 : Own w4 w.heap.size 32 2 (some ⟨g, 0, none⟩) (m + 1) n (ctsC O ++ [.slice A nx c, .int .i64 x.k])) (g4 : w3.grownBy w4 (some g)) : SumP w g gm n L w4 (i + 1) (O ++ [⟨A, c, x.l, x.k⟩]) (D.put (.string (keyT x.l)) (int_ m)) := by
  subst hnx hm
  have s2 := h.at_.map g2
  have s3 := s2.mono x3
  have hg := s2.gg
  refine ⟨s3.push (x := ⟨A, c, x.l, x.k⟩) o3.sl (fun ad e => by have := b3 ad e; omega) o4 g4, h.vals.new hi hx hin rfl hn, (h2.kept (upd_ext x3 g) (fun e => by cases e; omega)).kept g4 (fun e => by cases e; omega), MapIs.new (x := ⟨A, c, x.l, x.k⟩) h.is rfl hh⟩
theorem SumP.start {w w0 : World} {n : Nat} (L : List Ct) (h0 : 0 < n) (hn : n ≤ 1000000000) (hw : w0 = (w.alloc (madeCts n)).alloc (.map #[] 0)) : SumP w w.heap.size (w.heap.size + 1) n L w0 0 [] (.map []) := by
  subst hw
  refine ⟨⟨(arr_made w n h0 hn).ext ((Ext.refl _).alloc _), fun x h => (nomatch h), ((Ext.refl w).alloc _).alloc _, by simp⟩, Vals.zero L, ?_, MapIs.nil⟩
  have := World.ownsMap_made (H := Unit) (w.alloc (madeCts n)) Tryd.prog 9 (plainElem Tryd.prog 3)
  simpa using this
end Go.Proofs.YtngeioghihbkeaaDoor
