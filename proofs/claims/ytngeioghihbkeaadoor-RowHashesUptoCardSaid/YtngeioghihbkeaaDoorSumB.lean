/- row.Sum: the loop's relation. Conditions: each theorem states its own. -/
import Derived.Test.YtngeioghihbkeaaDoorSumA
namespace Go.Proofs.YtngeioghihbkeaaDoor
open Go.RowKit Go.Maps

/-- rows with counts that come in -/
structure Cin (w : World) (A : Option Addr) (c : Nat) (L : List Ct) : Prop where
  sl : Sl w 2 A L.length c (ctsC L)
  rows : ∀ x ∈ L, Rw w x.A x.c x.l
theorem Cin.ext {w w' : World} {A : Option Addr} {c : Nat} {L : List Ct} (h : Cin w A c L) (x : Ext w w') : Cin w' A c L := ⟨h.sl.ext x, fun y hy => (h.rows y hy).ext x⟩
theorem getD_mem {L : List Ct} {i : Nat} (h : i < L.length) : L.getD i Ct.zero ∈ L := by
  rw [List.getD_eq_getElem?_getD, List.getElem?_eq_getElem h]
  exact List.getElem_mem h
theorem Cin.at {w : World} {A : Option Addr} {c : Nat} {L : List Ct} (h : Cin w A c L) {i : Nat} (hi : i < L.length) : ∃ ad, A = some ad ∧ w.cell? (ad.add (i * 2)) = some (.slice (L.getD i Ct.zero).A (L.getD i Ct.zero).l.length (L.getD i Ct.zero).c) ∧
    w.cell? ⟨(ad.add (i * 2)).block, (ad.add (i * 2)).off + 1, none⟩ = some (.int .i64 (L.getD i Ct.zero).k) := by
  obtain ⟨ad, e, hc⟩ := h.sl.2.2.2.2 (by omega)
  refine ⟨ad, e, hc _ _ (by rw [← Nat.add_zero (i * 2), ctsC_at L i 0 hi (by omega)]; rfl), ?_⟩
  rw [← add_fld ad _ 1 (by decide)]
  exact hc _ _ (by rw [ctsC_at L i 1 hi (by omega)]; rfl)
theorem take_snocC {L : List Ct} {i : Nat} (h : i < L.length) : L.take (i + 1) = L.take i ++ [L.getD i Ct.zero] := by
  rw [List.take_succ_eq_append_getElem h, List.getD_eq_getElem?_getD, List.getElem?_eq_getElem h]
  rfl
/-- what stands behind i rounds -/
structure SumAt (w : World) (g gm n : Nat) (wr : World) (O : List Ct) : Prop where
  arr : Arr wr w.heap.size g n O
  rows : ∀ x ∈ O, Rw wr x.A x.c x.l ∧ ∀ ad, x.A = some ad → gm < ad.block ∧ ad.block < wr.heap.size
  ext : Ext w wr
  gg : w.heap.size ≤ g ∧ g < gm ∧ gm < wr.heap.size
theorem SumAt.mono {w wr wz : World} {g gm n : Nat} {O : List Ct} (h : SumAt w g gm n wr O) (x : Ext wr wz) : SumAt w g gm n wz O :=
  ⟨h.arr.ext x, fun y hy => ⟨(h.rows y hy).1.ext x, fun ad e => by have := (h.rows y hy).2 ad e; have := x.size; omega⟩, h.ext.trans x, by have := h.gg; have := x.size; omega⟩
theorem SumAt.off {w wr : World} {g gm n : Nat} {O : List Ct} (h : SumAt w g gm n wr O) : Rws wr g O := fun x hx => ⟨(h.rows x hx).1, fun ad e => by have := (h.rows x hx).2 ad e; have := h.gg; omega⟩
theorem rw_grown {w w' : World} {A : Option Addr} {c : Nat} {l : List Dat} {b : Nat} (h : Rw w A c l) (hx : w.grownBy w' (some b)) (ha : ∀ ad, A = some ad → ad.block ≠ b) : Rw w' A c l := h.upd hx ha
/-- a store into the map -/
theorem SumAt.map {w wr wz : World} {g gm n : Nat} {O : List Ct} (h : SumAt w g gm n wr O) (hx : wr.grownBy wz (some gm)) : SumAt w g gm n wz O := by
  have hg := h.gg
  have hs := hx.size
  refine ⟨⟨h.arr.1.kept hx (.inr fun e => ?_), h.arr.2⟩, fun y hy => ⟨rw_grown (h.rows y hy).1 hx fun ad e => by have := (h.rows y hy).2 ad e; omega, fun ad e => by have := (h.rows y hy).2 ad e; omega⟩, h.ext.grown hx (fun k e => by cases e; omega), by omega⟩
  obtain ⟨ad, e1, e2⟩ := blk_some e
  cases e1
  simp only at e2
  omega
theorem set_self {α : Type} {l : List α} {i : Nat} {a : α} (h : l[i]? = some a) : l.set i a = l := by
  refine List.ext_getElem? fun j => ?_
  rw [List.getElem?_set]
  split
  · rename_i e
    subst e
    have hl : i < l.length := by
      rcases Nat.lt_or_ge i l.length with q | q
      · exact q
      · rw [List.getElem?_eq_none q] at h; cases h
    rw [if_pos hl, h]
  · rfl
/-- a count that has grown -/
theorem SumAt.set {w wr : World} {g gm n j : Nat} {P Q : List Ct} {y : Ct} (h : SumAt w g gm n wr (P ++ y :: Q)) (hj : j = P.length) (k : Int) : SumAt w g gm n (wr.setCell ⟨g, j * 2 + 1, none⟩ (.int .i64 k)) (P ++ ⟨y.A, y.c, y.l, k⟩ :: Q) := by
  subst hj
  have hg := h.gg
  have hu := upd_set wr g (P.length * 2 + 1) (.int .i64 k)
  have h1 := h.arr.1.put (P.length * 2 + 1) (.int .i64 k)
  have e : (ctsC (P ++ y :: Q)).set (P.length * 2 + 1) (.int .i64 k) = ctsC (P ++ ⟨y.A, y.c, y.l, k⟩ :: Q) := by
    have := ctsC_set (P ++ y :: Q) P.length ⟨y.A, y.c, y.l, k⟩
    rw [set_mid] at this
    rw [← this]
    congr 1
    refine (set_self ?_).symm
    have q := ctsC_at (P ++ y :: Q) P.length 0 (by simp) (by decide)
    rw [getD_mid, Nat.add_zero] at q
    exact q
  rw [e] at h1
  refine ⟨⟨by simpa using h1, h.arr.2⟩, fun x hx => ?_, h.ext.set (p := ⟨g, _, none⟩) hg.1 _, by rw [World.size_setCell]; exact hg⟩
  have hm : ∀ x ∈ P ++ y :: Q, Rw (wr.setCell ⟨g, P.length * 2 + 1, none⟩ (.int .i64 k)) x.A x.c x.l ∧ ∀ ad, x.A = some ad → gm < ad.block ∧ ad.block < (wr.setCell ⟨g, P.length * 2 + 1, none⟩ (.int .i64 k)).heap.size := fun x hx =>
    ⟨(h.rows x hx).1.upd hu fun ad e => by have := (h.rows x hx).2 ad e; omega, fun ad e => by rw [World.size_setCell]; exact (h.rows x hx).2 ad e⟩
  rcases List.mem_append.1 hx with hx | hx
  · exact hm x (List.mem_append_left _ hx)
  · rcases List.mem_cons.1 hx with rfl | hx
    · exact hm y (by simp)
    · exact hm x (by simp [hx])
/-- one more -/
theorem SumAt.push {w wr wz : World} {g gm n : Nat} {O : List Ct} {x : Ct} (h : SumAt w g gm n wr O) (hr : Rw wr x.A x.c x.l) (hb : ∀ ad, x.A = some ad → gm < ad.block ∧ ad.block < wr.heap.size)
    (ho : Own wz w.heap.size 32 2 (some ⟨g, 0, none⟩) (O.length + 1) n (ctsC O ++ ctC x)) (hx : wr.grownBy wz (some g)) : SumAt w g gm n wz (O ++ [x]) := by
  have hg := h.gg
  have hs := hx.size
  refine ⟨⟨by rw [ctsC_append, List.length_append, show ctsC [x] = ctC x from List.append_nil _]; exact ho, h.arr.2⟩, fun y hy => ?_, h.ext.grown hx (fun k e => by cases e; exact hg.1), by omega⟩
  rcases List.mem_append.1 hy with hy | hy
  · exact ⟨(h.rows y hy).1.upd hx fun ad e => by have := (h.rows y hy).2 ad e; omega, fun ad e => by have := (h.rows y hy).2 ad e; omega⟩
  · rw [List.mem_singleton.1 hy]
    exact ⟨hr.upd hx fun ad e => by have := hb ad e; omega, fun ad e => by have := hb ad e; omega⟩
/-- what has been put together, by its values -/
structure Vals (L : List Ct) (i : Nat) (O : List Ct) : Prop where
  same : ∀ c, alike cmpV c (O.map valC) = sumClass (alike cmpV c ((L.take i).map valC))
  sub : ∀ x ∈ O, ∃ y ∈ L, x.l = y.l
  inv : ∀ x ∈ O, InV (valC x)
  len : O.length ≤ i
theorem Vals.zero (L : List Ct) : Vals L 0 [] := ⟨fun _ => rfl, fun x h => (nomatch h), fun x h => (nomatch h), Nat.le_refl _⟩
theorem Vals.new {L O : List Ct} {i : Nat} {x z : Ct} (h : Vals L i O) (hi : i < L.length) (hx : L.getD i Ct.zero = x) (hin : InV (valC x)) (hz : valC z = valC x) (hn : ∀ y ∈ O, ¬ cmpV (valC y) (valC x) = 0) : Vals L (i + 1) (O ++ [z]) := by
  have hm : x ∈ L := hx ▸ getD_mem hi
  refine ⟨fun c => ?_, fun y hy => ?_, fun y hy => ?_, by rw [List.length_append, List.length_singleton]; have := h.len; omega⟩
  · rw [take_snocC hi, hx, List.map_append, List.map_append, List.map_singleton, List.map_singleton, hz]
    exact dedup_new h.same hin (fun y hy => by obtain ⟨u, hu, rfl⟩ := List.mem_map.1 hy; exact hn u hu) c
  · rcases List.mem_append.1 hy with hy | hy
    · exact h.sub y hy
    · rw [List.mem_singleton.1 hy]
      exact ⟨x, hm, congrArg Prod.fst hz⟩
  · rcases List.mem_append.1 hy with hy | hy
    · exact h.inv y hy
    · rw [List.mem_singleton.1 hy, hz]
      exact hin
theorem Vals.old {L P Q : List Ct} {i : Nat} {x y : Ct} (h : Vals L i (P ++ y :: Q)) (hi : i < L.length) (hx : L.getD i Ct.zero = x) (hy : y.l = x.l) : Vals L (i + 1) (P ++ ⟨y.A, y.c, y.l, w64 (y.k + x.k)⟩ :: Q) := by
  refine ⟨fun c => ?_, fun z hz => ?_, fun z hz => ?_, by have := h.len; simp only [List.length_append, List.length_cons] at this ⊢; omega⟩
  · rw [take_snocC hi, hx, List.map_append, List.map_append, List.map_singleton, List.map_cons]
    have q := h.same
    rw [List.map_append, List.map_cons] at q
    exact dedup_old q (show cmpV (valC y) (valC x) = 0 from (show cmpR y.l x.l = 0 by rw [hy]; exact cmpC_tot.refl x)) c
  · rcases List.mem_append.1 hz with hz | hz
    · exact h.sub z (List.mem_append_left _ hz)
    · rcases List.mem_cons.1 hz with rfl | hz
      · exact h.sub y (by simp)
      · exact h.sub z (by simp [hz])
  · rcases List.mem_append.1 hz with hz | hz
    · exact h.inv z (List.mem_append_left _ hz)
    · rcases List.mem_cons.1 hz with rfl | hz
      · exact w64_in _
      · exact h.inv z (by simp [hz])
end Go.Proofs.YtngeioghihbkeaaDoor
