/- row's reader of bytes: take; strings.Builder's Write. row's reader of bytes: text. row's reader of bytes: datum. row.Decode: its deferred closure. row.Decode: the walk. row.Decode: no bytes. What Decode answers: plain, and row.Decode once more, in that form. the reference text: the walk. penstockref02.one: what it answers. penstockref02.Decode: what it answers. The plain law of Decode and Encode: what is written as bytes is read again, what is read is written so again. Conditions: each theorem states its own. -/
import Derived.Test.YtngeioghihbkeaaDoorQuoteAll
import Derived.Test.YtngeioghihbkeaaDoorRowEncs
import Derived.Test.YtngeioghihbkeaaDoorSumAll
import Derived.Test.YtngeioghihbkeaaDoorCts
import Derived.Test.YtngeioghihbkeaaDoorRowPut
import Derived.Handy
import Derived.Laws.Bits64b
import Derived.Recover
import Derived.Test.YtngeioghihbkeaaDoorRowCheck
import Derived.Deep.RegionWith
import Derived.Test.YtngeioghihbkeaaDoorBytes
import Derived.Test.YtngeioghihbkeaaDoorRefMks
import Derived.Test.YtngeioghihbkeaaDoorRefRows
import Derived.Test.YtngeioghihbkeaaDoorKeyOrd
namespace Go.Proofs.YtngeioghihbkeaaDoor
open Go.RowKit

set_option maxRecDepth 100000 in
set_option maxHeartbeats 800000 in
theorem writeBytes_any (B b : Nat) (bs : List Value) (ad : Addr) (m c : Nat) (ys : List UInt8) (w : World) (h : Lib.IsBuilder 185 5 B b bs w) (hm : Hid (m = ys.length)) (hr : Hid (∀ j u, (Lib.byteCells ys)[j]? = some u → w.cell? (ad.add j) = some u)) (had : ad.block < B) (hlen : bs.length + m ≤ 140737488355328) (hBw : B ≤ w.heap.size) :
    Calls Tryd.prog 132 #[.pointer (some ⟨b, 0, none⟩), .slice (some ad) m c] w fun e w' => e = .returned (.tuple #[.int .i64 m, .nilIface]) ∧ Written B b (bs ++ Lib.byteCells ys) w w' := by
  obtain ⟨i0, hi, hz0, hz1, hz2⟩ := info_parts info_byte
  have HI := Lib.hid hi
  clear hi
  have HL := Lib.hid hlen
  clear hlen
  go_enter Tryd.func132, Tryd.ntmps132
  go_wp2_with fail
  refine (copy_any B b bs _ h).mono ?_
  rintro e w1 ⟨rfl, hat, x1⟩
  obtain ⟨hB, v, hb, hown, hne⟩ := hat
  obtain ⟨vA, vc, rfl⟩ := owns_form hown
  have c1 : w1.cell? ⟨b, 1, none⟩ = some (.slice vA bs.length vc) := by rw [Lib.cell_of_heap hb]; rfl
  have f1 : w1.frozen? ⟨b, 1, none⟩ = false := Lib.frozen_of_heap hb 1
  have hv : ∀ k, (Value.slice vA bs.length vc).ownBlock = some k → B ≤ k := fun k hk => (hown.lt k hk).1
  have hs1 := x1.size
  have HV := Lib.hid hv
  have HB := Lib.hid hb
  have HN := Lib.hid hne
  have HO := Lib.hid hown
  have HR1 : Hid (∀ j u, (Lib.byteCells ys)[j]? = some u → w1.cell? (ad.add j) = some u) := Lib.hid (fun j u hu => (Below.cell x1 (p := ad.add j) (by rw [block_add]; exact had)).trans (hr.out j u hu))
  clear hv hb hne hown h
  go_wp2_with (at_builtin; refine wpList_append_own _ rfl _ _ 35 rfl B 5 i0 (.int .u8 0) 1 1 under_bytes HI.out hz0 hz1 hz2 rfl (by decide) (.slice vA bs.length vc) bs.length bs rfl HO.out ad m c (Lib.byteCells ys) rfl (by rw [Lib.byteCells_length, Nat.mul_one]; exact hm.out.symm) HR1.out (bytes_oneCell ys) ?c3 ?c4 ?c5 ?_)
  case c3 => have := HL.out; unfold maxLen; omega
  case c4 => have := HL.out; omega
  case c5 => omega
  intro v' w2 hown2 hg2 hnil
  clear hnil
  obtain ⟨nA, nc, rfl⟩ := owns_form hown2
  have hb2 : w2.heap[b]? = some (.cells #[.pointer (some ⟨b, 0, none⟩), .slice vA bs.length vc] 185 (0, 0)) := (hg2.block b (Array.getElem?_eq_some_iff.1 HB.out).1 (Ne.symm HN.out)).trans HB.out
  have c2 : w2.cell? ⟨b, 1, none⟩ = some (.slice vA bs.length vc) := by rw [Lib.cell_of_heap hb2]; rfl
  have f2 : w2.frozen? ⟨b, 1, none⟩ = false := Lib.frozen_of_heap hb2 1
  have HB2 := Lib.hid hb2
  clear hb2
  go_wp2
  go_ret2
  refine ⟨rfl, ?_⟩
  refine ⟨Lib.BuilderAt.put hB HB2.out (by rw [List.length_append, Lib.byteCells_length, ← hm.out]; exact hown2) (by decide), ?_⟩
  refine Below.setCell ?_ hB _
  exact Below.grown x1 hg2 (by omega) HV.out
/-- the reader: it holds xs -/
structure Rdr (w : World) (pr g o c : Nat) (xs : List UInt8) : Prop where
  cell : w.cell? ⟨pr, 0, none⟩ = some (.slice (some ⟨g, o, none⟩) xs.length c)
  free : w.frozen? ⟨pr, 0, none⟩ = false
  bytes : ∀ i, i < xs.length → w.cell? ⟨g, o + i, none⟩ = some (.int .u8 (xs.getD i 0).toNat)
  ne : g ≠ pr
  room : xs.length ≤ c
  cap : c ≤ 9223372036854775807
theorem Rdr.low {w w' : World} {pr g o c : Nat} {xs : List UInt8} (h : Rdr w pr g o c xs) {B : Nat} (x : Below B w w') (hp : pr < B) (hg : g < B) : Rdr w' pr g o c xs :=
  ⟨(Below.cell x (p := ⟨pr, 0, none⟩) hp).trans h.cell, (Below.frozen x (p := ⟨pr, 0, none⟩) hp).trans h.free, fun i hi => (Below.cell x (p := ⟨g, o + i, none⟩) hg).trans (h.bytes i hi), h.ne, h.room, h.cap⟩
/-- how reading gives up -/
def gaveUp : Ending := .panicked [{ v := .iface 107 (.agg #[]), recovered := false }]
/-- what a take leaves behind -/
def Took (w : World) (pr g o c k : Nat) (xs : List UInt8) (e : Ending) (w' : World) : Prop := e = .returned (.slice (some ⟨g, o, none⟩) k k) ∧ ∃ v o', w' = w.setCell ⟨pr, 0, none⟩ v ∧ Rdr w' pr g o' (c - k) (xs.drop k)
theorem Rdr.step {w : World} {pr g o c n : Nat} {xs : List UInt8} (h : Rdr w pr g o c xs) (hn : n = xs.length) (k o' : Nat) (hk : k ≤ n) (ho : o' = o + k ∨ c = k) : Rdr (w.setCell ⟨pr, 0, none⟩ (.slice (some ⟨g, o', none⟩) (n - k) (c - k))) pr g o' (c - k) (xs.drop k) := by
  have hr := h.room
  have hc := h.cap
  refine ⟨?_, ?_, ?_, h.ne, ?_, ?_⟩
  · rw [List.length_drop, ← hn]
    exact World.cell?_setCell_same' w _ _ (by rw [h.cell]; rfl)
  · rw [World.frozen?_setCell]; exact h.free
  · intro i hi
    rw [List.length_drop] at hi
    rcases ho with ho | ho
    · subst ho
      rw [World.cell?_setCell_far _ _ _ _ (fun e => h.ne e.symm)]
      have := h.bytes (k + i) (by omega)
      rw [show o + k + i = o + (k + i) by omega, this, List.getD_eq_getElem?_getD, List.getD_eq_getElem?_getD, List.getElem?_drop]
    · omega
  · rw [List.length_drop]; omega
  · omega
set_option maxRecDepth 100000 in
set_option maxHeartbeats 800000 in
theorem take_yes (pr g o c k n : Nat) (xs : List UInt8) (w : World) (h : Rdr w pr g o c xs) (hn : Hid (n = xs.length)) (hk : k ≤ n) :
    Calls Tryd.prog 100 #[.pointer (some ⟨pr, 0, none⟩), .int .i64 k] w (Took w pr g o c k xs) := by
  have p0 := h.cell
  have f0 := h.free
  have hr := h.room
  have hc := h.cap
  rw [← hn.out] at p0 hr
  have hnk : ¬ (n : Int) < k := by omega
  have H := Lib.hid h
  clear h
  by_cases hck : c = k
  · subst hck
    obtain rfl : n = c := by omega
    go_enter Tryd.func100, Tryd.ntmps100
    go_wp2
    go_ret
    exact ⟨rfl, _, o, rfl, by have := H.out.step hn.out n o (Nat.le_refl _) (Or.inr rfl); rw [Nat.sub_self] at this ⊢; exact this⟩
  · go_enter Tryd.func100, Tryd.ntmps100
    go_wp2
    go_ret
    exact ⟨rfl, _, _, rfl, H.out.step hn.out k _ hk (Or.inl rfl)⟩
theorem take_no (pr g o c k n : Nat) (xs : List UInt8) (w : World) (h : Rdr w pr g o c xs) (hn : Hid (n = xs.length)) (hk : n < k) (hk9 : k ≤ 1000) :
    Calls Tryd.prog 100 #[.pointer (some ⟨pr, 0, none⟩), .int .i64 k] w fun e w' => e = gaveUp ∧ w' = w := by
  have p0 := h.cell
  rw [← hn.out] at p0
  have hnk : (n : Int) < k := by omega
  clear h
  go_enter Tryd.func100, Tryd.ntmps100
  go_wp2
  exact ⟨rfl, rfl, rfl⟩
theorem bytesOf_nums (l : List UInt8) : Lib.bytesOf (l.map fun b => (b.toNat : Int)) = l := by
  unfold Lib.bytesOf
  rw [List.map_map]
  induction l with
  | nil => rfl
  | cons x r ih => rw [List.map_cons, ih]; simp
theorem index0 (pr g o c n : Nat) (ys : List UInt8) (w : World) (h : Rdr w pr g o c ys) (hn : Hid (n = ys.length)) :
    Calls Tryd.prog 131 #[.slice (some ⟨g, o, none⟩) n c, .int .u8 0] w fun e w' => e = .returned (.int .i64 (Lib.indexByte ys 0)) ∧ w' = w := by
  have := Tryd.bytes_IndexByte g o n c (ys.map fun b => (b.toNat : Int)) 0 w (by rw [List.length_map, hn.out]) (fun i hi => by
    have hi' : i < ys.length := by rw [← hn.out]; exact hi
    rw [h.bytes i hi', List.getD_eq_getElem?_getD, List.getD_eq_getElem?_getD, List.getElem?_map, List.getElem?_eq_getElem hi']; rfl)
  rw [bytesOf_nums] at this
  exact this
theorem builder_low {B b pr : Nat} {bs : List Value} {w : World} (h : Lib.IsBuilder 185 5 B b bs w) (hp : pr < B) (v : Value) : Lib.IsBuilder 185 5 B b bs (w.setCell ⟨pr, 0, none⟩ v) := by
  rcases h with h | h
  all_goals
    obtain ⟨hB, u, hb, ho, hne⟩ := h
  · exact .inl ⟨hB, u, (Below.heap_setCell w ⟨pr, 0, none⟩ v b (by show b ≠ pr; omega)).trans hb, ownsRow_setCell_below ho (a := ⟨pr, 0, none⟩) hp v, hne⟩
  · exact .inr ⟨hB, u, (Below.heap_setCell w ⟨pr, 0, none⟩ v b (by show b ≠ pr; omega)).trans hb, ownsRow_setCell_below ho (a := ⟨pr, 0, none⟩) hp v, hne⟩
/-- the text that bytes begin with, and what follows it -/
def rtext : List UInt8 → Option (List UInt8 × List UInt8)
  | [] => none
  | b :: r => if b = 0 then (match r with
      | [] => none
      | m :: r' => if m = 1 then some ([], r') else if m = 255 then (rtext r').map (fun p => (0 :: p.1, p.2)) else none) else (rtext r).map (fun p => (b :: p.1, p.2))
theorem rtext_none : ∀ (l : List UInt8), (∀ k : Nat, l[k]? ≠ some 0) → rtext l = none
  | [], _ => by unfold rtext; rfl
  | x :: r, h => by
    have h0 : ¬ x = 0 := fun e => h 0 (by rw [e]; rfl)
    unfold rtext
    rw [if_neg h0, rtext_none r (fun k => by have := h (k + 1); rwa [List.getElem?_cons_succ] at this)]
    rfl
theorem rtext_app : ∀ (p r : List UInt8), (∀ x ∈ p, x ≠ 0) → rtext (p ++ r) = (rtext r).map (fun q => (p ++ q.1, q.2))
  | [], r, _ => by simp
  | x :: p, r, h => by
    rw [List.cons_append, rtext.eq_def]
    show (if x = 0 then _ else (rtext (p ++ r)).map _) = _
    rw [if_neg (h x (by simp)), rtext_app p r (fun y hy => h y (by simp [hy])), Option.map_map]
    rfl
/-- the ending of a reading -/
def TextOut (w : World) (pr g : Nat) (r : Option (List UInt8 × List UInt8)) (e : Ending) (w' : World) : Prop :=
  w.grownBy w' (some pr) ∧ match r with
    | none => e = gaveUp
    | some (t, ys) => e = .returned (.string ⟨t.toArray⟩) ∧ ∃ o c, Rdr w' pr g o c ys
end Go.Proofs.YtngeioghihbkeaaDoor
namespace Go.Proofs.YtngeioghihbkeaaDoor
open Go.RowKit

structure TextAt (w wr : World) (pr g B b : Nat) (xs ys bs : List UInt8) : Prop where
  rdr : ∃ o c, Rdr wr pr g o c ys
  bld : Lib.IsBuilder 185 5 B b (Lib.byteCells bs) wr
  upd : w.grownBy wr (some pr)
  eq : rtext xs = (rtext ys).map (fun q => (bs ++ q.1, q.2))
  len : bs.length + ys.length ≤ xs.length
theorem grown_low {w a b : World} {r : Option Nat} (x : w.grownBy a r) (y : Below w.heap.size a b) : w.grownBy b r :=
  ⟨y.os.trans x.os, y.tape.trans x.tape, y.output.trans x.output, Nat.le_trans x.size y.size, fun k hk hne => (y.block k hk).trans (x.block k hk hne)⟩
theorem split0 {ys : List UInt8} {a : Nat} (h : ys[a]? = some 0) (hl : ∀ k : Nat, k < a → ys[k]? ≠ some 0) : ∃ p r, ys = p ++ 0 :: r ∧ p.length = a ∧ ∀ x ∈ p, x ≠ 0 := by
  have ha : a < ys.length := (List.getElem?_eq_some_iff.1 h).1
  refine ⟨ys.take a, ys.drop (a + 1), ?_, by rw [List.length_take]; omega, ?_⟩
  · have e : ys[a] = 0 := (List.getElem?_eq_some_iff.1 h).2
    rw [← e, ← List.drop_eq_getElem_cons ha, List.take_append_drop]
  · intro x hx e
    obtain ⟨k, hk, rfl⟩ := List.mem_iff_getElem.1 hx
    rw [List.length_take] at hk
    rw [List.getElem_take] at e
    exact hl k (by omega) (by rw [List.getElem?_eq_getElem (by omega), e])
theorem byteCells_app (a b : List UInt8) : Lib.byteCells a ++ Lib.byteCells b = Lib.byteCells (a ++ b) := by
  unfold Lib.byteCells
  rw [List.map_append]
theorem TextAt.none {w wr : World} {pr g B b : Nat} {xs ys bs : List UInt8} (h : TextAt w wr pr g B b xs ys bs) (hy : rtext ys = none) {w' : World} (x : w.grownBy w' (some pr)) : TextOut w pr g (rtext xs) gaveUp w' := by
  rw [h.eq, hy]
  exact ⟨x, rfl⟩
set_option maxRecDepth 100000 in
set_option maxHeartbeats 4000000 in
theorem rdrText_any (pr g o c : Nat) (xs : List UInt8) (w : World) (h : Rdr w pr g o c xs) (hp : pr < w.heap.size) (hg : g < w.heap.size) (hn : xs.length ≤ 100000000000000) :
    Calls Tryd.prog 101 #[.pointer (some ⟨pr, 0, none⟩)] w (TextOut w pr g (rtext xs)) := by
  have H := Lib.hid h
  have HN := Lib.hid hn
  have HP := Lib.hid (And.intro hp hg)
  clear h hn hp hg
  go_enter Tryd.func101, Tryd.ntmps101
  go_wp2_with fail
  go_loopg [4] xs.length (fun z v wr => ∃ ys bs, z = ys.length ∧ Hid (TextAt w wr pr g w.heap.size w.heap.size xs ys bs))
  case atStart =>
    exact ⟨xs, [], rfl, Lib.hid ⟨⟨o, c, H.out.low ((Below.refl _ w).alloc (Nat.le_refl _) _) HP.out.1 HP.out.2⟩, fresh_builder w, grown_low (World.grownBy.refl w _) ((Below.refl _ w).alloc (Nat.le_refl _) _), by cases rtext xs <;> rfl, by simp⟩⟩
  case round =>
    obtain ⟨ys, bs, hz, HT⟩ := hrel
    obtain ⟨o1, c1, hr⟩ := HT.out.rdr
    obtain ⟨n, hn⟩ : ∃ n, n = ys.length := ⟨_, rfl⟩
    have HNn := Lib.hid hn
    have p0 := hr.cell
    rw [← hn] at p0
    have HR := Lib.hid hr
    have HLn := Lib.hid HT.out.len
    have HSz := Lib.hid HT.out.upd.size
    obtain ⟨q, hq⟩ : ∃ q, Lib.indexByte ys 0 = q := ⟨_, rfl⟩
    have HQ := Lib.hid hq
    have hge : -1 ≤ q := by rw [← hq]; exact Lib.indexByte_ge ys 0
    have HZ := Lib.hid hz
    clear hn hr hq hz
    by_cases hq0 : q = -1
    · subst hq0
      go_wp2_with (go_at_call 131; refine (index0 pr g o1 c1 n ys _ HR.out HNn).mono ?_; rintro e w1 ⟨rfl, hw⟩; subst hw; rw [HQ.out])
      exact ⟨rfl, HT.out.none (rtext_none ys (Lib.indexByte_none HQ.out)) HT.out.upd⟩
    · obtain ⟨a, rfl⟩ : ∃ a : Nat, q = a := ⟨q.toNat, by omega⟩
      obtain ⟨p, r, hys, hpa, hpz⟩ := split0 (Lib.indexByte_some HQ.out).1 (Lib.indexByte_some HQ.out).2
      have HY := Lib.hid (And.intro hys (And.intro hpa hpz))
      clear hys hpa hpz hge hq0
      go_wp2_with (go_at_call 131; refine (index0 pr g o1 c1 n ys _ HR.out HNn).mono ?_; rintro e w1 ⟨rfl, hw⟩; subst hw; rw [HQ.out])
      refine (take_yes pr g o1 c1 a n ys _ HR.out HNn (by have h1 := HNn.out; rw [HY.out.1, List.length_append, HY.out.2.1] at h1; omega)).mono ?_
      rintro e w2 ⟨rfl, v2, o2, hw2, hr2⟩
      have hdrop : ys.drop a = 0 :: r := by rw [HY.out.1, ← HY.out.2.1, List.drop_left]
      rw [hdrop] at hr2
      have hlen : ys.length = a + (r.length + 1) := by rw [HY.out.1, List.length_append, List.length_cons, HY.out.2.1]
      have HB2 : Hid (Lib.IsBuilder 185 5 w.heap.size w.heap.size (Lib.byteCells bs) w2) := Lib.hid (by rw [hw2]; exact builder_low HT.out.bld HP.out.1 _)
      have HG2 : Hid (w.grownBy w2 (some pr)) := Lib.hid (by rw [hw2]; exact HT.out.upd.trans (upd_set _ _ _ _))
      have HR2 := Lib.hid hr2
      have HE2 : Hid (∀ j u, (Lib.byteCells p)[j]? = some u → w2.cell? ((⟨g, o1, none⟩ : Addr).add j) = some u) := Lib.hid (by
        intro j u hu
        have hj : j < p.length := by have := (List.getElem?_eq_some_iff.1 hu).1; rwa [Lib.byteCells_length] at this
        rw [show (⟨g, o1, none⟩ : Addr).add j = ⟨g, o1 + j, none⟩ by simp [Addr.add]]
        rw [hw2, World.cell?_setCell_far _ _ _ _ (fun e => HR.out.ne e.symm)]
        refine (HR.out.bytes j (by rw [hlen]; have := HY.out.2.1; omega)).trans ?_
        have : ys.getD j 0 = p[j] := by rw [HY.out.1, List.getD_eq_getElem?_getD, List.getElem?_append_left hj, List.getElem?_eq_getElem hj]; rfl
        rw [this, ← hu]
        unfold Lib.byteCells
        rw [List.getElem?_map, List.getElem?_eq_getElem hj]
        rfl)
      have HL := Lib.hid hlen
      clear hw2 hr2 hdrop hlen
      go_wp2_with fail
      refine (writeBytes_any w.heap.size w.heap.size (Lib.byteCells bs) ⟨g, o1, none⟩ a a p _ HB2.out (Lib.hid HY.out.2.1.symm) HE2 HP.out.2 (by rw [Lib.byteCells_length]; have h1 := HLn.out; have h2 := HN.out; have h3 := HL.out; omega) HG2.out.size).mono ?_
      rintro e w3 ⟨rfl, hb3, x3⟩
      rw [byteCells_app] at hb3
      have HB3 := Lib.hid hb3
      have HG3 := Lib.hid (grown_low HG2.out x3)
      have HR3 := Lib.hid (HR2.out.low x3 HP.out.1 HP.out.2)
      clear hb3 x3
      go_wp2_with fail
      cases r with
      | nil =>
        refine (take_no pr g o2 (c1 - a) 2 1 [0] _ HR3.out (Lib.hid rfl) (by omega) (by omega)).mono ?_
        rintro e w4 ⟨rfl, rfl⟩
        exact ⟨rfl, HT.out.none (by rw [HY.out.1, rtext_app _ _ HY.out.2.2]; rfl) HG3.out⟩
      | cons m r =>
        refine (take_yes pr g o2 (c1 - a) 2 (r.length + 2) (0 :: m :: r) _ HR3.out (Lib.hid rfl) (by omega)).mono ?_
        rintro e w4 ⟨rfl, v4, o4, hw4, hr4⟩
        have hrt : rtext ys = (if m = 1 then some ([], r) else if m = 255 then (rtext r).map (fun p => (0 :: p.1, p.2)) else none).map (fun q => (p ++ q.1, q.2)) := by
          rw [HY.out.1, rtext_app _ _ HY.out.2.2]; rfl
        have c4 : w4.cell? ⟨g, o2 + 1, none⟩ = some (.int .u8 m.toNat) := by
          rw [hw4, World.cell?_setCell_far _ _ _ _ (fun e => HR.out.ne e.symm)]
          exact HR3.out.bytes 1 (by simp)
        have HB4 : Hid (Lib.IsBuilder 185 5 w.heap.size w.heap.size (Lib.byteCells (bs ++ p)) w4) := Lib.hid (by rw [hw4]; exact builder_low (.inr HB3.out) HP.out.1 _)
        have HG4 : Hid (w.grownBy w4 (some pr)) := Lib.hid (by rw [hw4]; exact HG3.out.trans (upd_set _ _ _ _))
        have HR4 := Lib.hid hr4
        have HRT := Lib.hid hrt
        clear hw4 hr4 hrt
        by_cases m1 : m = 1
        · subst m1
          go_wp2_with fail
          refine (string_any w.heap.size w.heap.size (bs ++ p) _ HB4.out HG4.out.size).mono ?_
          rintro e w5 ⟨rfl, x5⟩
          have HR5 := Lib.hid (HR4.out.low x5 HP.out.1 HP.out.2)
          have HG5 := Lib.hid (grown_low HG4.out x5)
          clear x5
          go_wp2
          go_ret
          rw [HT.out.eq, HRT.out]
          refine ⟨HG5.out, ?_, _, _, HR5.out⟩
          show Ending.returned (.string ⟨(bs ++ p).toArray⟩) = .returned (.string ⟨(bs ++ (p ++ [])).toArray⟩)
          rw [List.append_nil]
        · by_cases m2 : m = 255
          · subst m2
            go_wp2_with fail
            refine (writeByte_any w.heap.size w.heap.size (Lib.byteCells (bs ++ p)) 0 _ HB4.out (by rw [Lib.byteCells_length, List.length_append, HY.out.2.1]; have h1 := HLn.out; have h2 := HN.out; have h3 := HL.out; omega) HG4.out.size).mono ?_
            rintro e w5 ⟨rfl, hb5, x5⟩
            have HR5 := Lib.hid (HR4.out.low x5 HP.out.1 HP.out.2)
            have HG5 := Lib.hid (grown_low HG4.out x5)
            have HB5 := Lib.hid hb5
            clear x5 hb5
            go_wp2
            go_roundg r.length
            case measure => have h1 := HZ.out; have h2 := HL.out; rw [List.length_cons] at h2; omega
            case rel =>
              refine ⟨r, bs ++ p ++ [0], rfl, Lib.hid ⟨⟨_, _, HR5.out⟩, ?_, HG5.out, ?_, ?_⟩⟩
              · refine .inr ?_
                rw [← byteCells_app]
                exact HB5.out
              · rw [HT.out.eq, HRT.out, if_neg m1]
                simp only [↓reduceIte, Option.map_map]
                cases rtext r with
                | none => rfl
                | some q => simp
              · have h1 := HLn.out; have h2 := HL.out; have h3 := HY.out.2.1; rw [List.length_cons] at h2; rw [List.length_append, List.length_append, List.length_singleton]; omega
          · have z1 : ¬ (m.toNat : Int) = 1 := by intro e; exact m1 (UInt8.toNat_inj.1 (by simpa using (by omega : m.toNat = 1)))
            have z2 : ¬ (m.toNat : Int) = 255 := by intro e; exact m2 (UInt8.toNat_inj.1 (by simpa using (by omega : m.toNat = 255)))
            go_wp2_with fail
            exact ⟨rfl, HT.out.none (by rw [HRT.out, if_neg m1, if_neg m2]; rfl) HG4.out⟩
end Go.Proofs.YtngeioghihbkeaaDoor
namespace Go.Proofs.YtngeioghihbkeaaDoor
open Go.RowKit

/-- the number of eight bytes -/
def bytesN (l : List UInt8) : Nat := l.foldl (fun n c => n * 256 + c.toNat) 0
theorem bytesN_snoc (l : List UInt8) (y : UInt8) : bytesN (l ++ [y]) = bytesN l * 256 + y.toNat := by
  unfold bytesN
  rw [List.foldl_append]
  rfl
theorem bytesN_step {r : List UInt8} {i : Nat} (h : i < r.length) : bytesN (r.take (i + 1)) = bytesN (r.take i) * 256 + (r.getD i 0).toNat := by
  rw [List.take_succ_eq_append_getElem h, bytesN_snoc, List.getD_eq_getElem?_getD, List.getElem?_eq_getElem h]
  rfl
theorem bytesN_lt (r : List UInt8) : ∀ (i : Nat), i ≤ r.length → bytesN (r.take i) < 256 ^ i
  | 0, _ => by simp [bytesN]
  | i + 1, h => by
    rw [bytesN_step (by omega), Nat.pow_succ]
    have h1 := bytesN_lt r i (by omega)
    have h2 := (r.getD i 0).toNat_lt
    have h3 : (bytesN (r.take i) + 1) * 256 ≤ 256 ^ i * 256 := Nat.mul_le_mul_right _ h1
    omega
theorem shift_or (m y : Nat) (hm : m < 72057594037927936) (hy : y < 256) : bits BinOp.or IntKind.u64 (IntKind.u64.wrap ((m : Int) * 256)) (IntKind.u64.wrap (y : Int)) = ((m * 256 + y : Nat) : Int) := by
  have e1 : IntKind.u64.wrap ((m : Int) * 256) = ((m * 256 : Nat) : Int) := by rw [IntKind.wrap_u64]; omega
  have e2 : IntKind.u64.wrap (y : Int) = (y : Int) := by rw [IntKind.wrap_u64]; omega
  rw [e1, e2, bits_or_u64_nat _ _ (by omega) (by omega)]
  have := @Nat.two_pow_add_eq_or_of_lt 8 y (by omega) m
  have e3 : m * 256 ||| y = m * 256 + y := by rw [Nat.mul_comm m 256]; exact this.symm
  rw [e3]
/-- the datum that bytes begin with, and what follows it -/
def rdat : List UInt8 → Option (Dat × List UInt8)
  | [] => none
  | k :: r => if k = 16 then some (⟨1, false, 0, ⟨#[]⟩⟩, r) else if k = 32 then some (⟨2, false, 0, ⟨#[]⟩⟩, r) else if k = 33 then some (⟨2, true, 0, ⟨#[]⟩⟩, r)
      else if k = 48 then (if 8 ≤ r.length then some (⟨3, false, (bytesN (r.take 8) : Int) - 9223372036854775808, ⟨#[]⟩⟩, r.drop 8) else none)
      else if k = 64 then (rtext r).map (fun q => (⟨4, false, 0, ⟨q.1.toArray⟩⟩, q.2)) else none
/-- the ending of a reading of a datum -/
def DatOut (w : World) (pr g : Nat) (r : Option (Dat × List UInt8)) (e : Ending) (w' : World) : Prop :=
  w.grownBy w' (some pr) ∧ match r with
    | none => e = gaveUp
    | some (t, ys) => e = .returned (.agg #[.int .u8 t.k, .bool t.b, .int .i64 t.n, .string t.s]) ∧ ∃ o c, Rdr w' pr g o c ys
theorem set4 {w : World} {g : Nat} {t : TypeId} {a b c d : Value} (h : Bk w g t #[a, b, c, d]) (u v x y : Value) :
    Bk ((((w.setCell ⟨g, 0, none⟩ u).setCell ⟨g, 1, none⟩ v).setCell ⟨g, 2, none⟩ x).setCell ⟨g, 3, none⟩ y) g t #[u, v, x, y] := ((((h.set 0 u).set 1 v).set 2 x).set 3 y)
theorem cells4 {w : World} {g : Nat} {t : TypeId} {a b c d : Value} (h : Bk w g t #[a, b, c, d]) (u v x y : Value) :
    ((((w.setCell ⟨g, 0, none⟩ u).setCell ⟨g, 1, none⟩ v).setCell ⟨g, 2, none⟩ x).setCell ⟨g, 3, none⟩ y).cell? ⟨g, 0, none⟩ = some u ∧ ((((w.setCell ⟨g, 0, none⟩ u).setCell ⟨g, 1, none⟩ v).setCell ⟨g, 2, none⟩ x).setCell ⟨g, 3, none⟩ y).cell? ⟨g, 1, none⟩ = some v ∧ ((((w.setCell ⟨g, 0, none⟩ u).setCell ⟨g, 1, none⟩ v).setCell ⟨g, 2, none⟩ x).setCell ⟨g, 3, none⟩ y).cell? ⟨g, 2, none⟩ = some x ∧ ((((w.setCell ⟨g, 0, none⟩ u).setCell ⟨g, 1, none⟩ v).setCell ⟨g, 2, none⟩ x).setCell ⟨g, 3, none⟩ y).cell? ⟨g, 3, none⟩ = some y :=
  ⟨(set4 h u v x y).cell 0, (set4 h u v x y).cell 1, (set4 h u v x y).cell 2, (set4 h u v x y).cell 3⟩
theorem DatOut.yes {w w4 : World} {pr g o c : Nat} {r : List UInt8} (hr : Rdr w4 pr g o c r) (hg4 : w.grownBy w4 (some pr)) (hp : pr < w.heap.size) (hg : g < w.heap.size) (k : Int) (b : Bool) (n : Int) (s : ByteArray) (x : Option (Dat × List UInt8)) (hx : x = some (⟨k, b, n, s⟩, r)) :
    DatOut w pr g x (.returned (.agg #[.int .u8 k, .bool b, .int .i64 n, .string s])) ((((w4.setCell ⟨w.heap.size, 0, none⟩ (.int .u8 k)).setCell ⟨w.heap.size, 1, none⟩ (.bool b)).setCell ⟨w.heap.size, 2, none⟩ (.int .i64 n)).setCell ⟨w.heap.size, 3, none⟩ (.string s)) := by
  have xb : Below w.heap.size w4 ((((w4.setCell ⟨w.heap.size, 0, none⟩ (.int .u8 k)).setCell ⟨w.heap.size, 1, none⟩ (.bool b)).setCell ⟨w.heap.size, 2, none⟩ (.int .i64 n)).setCell ⟨w.heap.size, 3, none⟩ (.string s)) := ((((Below.refl w.heap.size w4).setCell (p := ⟨w.heap.size, 0, none⟩) (Nat.le_refl w.heap.size) _).setCell (p := ⟨w.heap.size, 1, none⟩) (Nat.le_refl w.heap.size) _).setCell (p := ⟨w.heap.size, 2, none⟩) (Nat.le_refl w.heap.size) _).setCell (p := ⟨w.heap.size, 3, none⟩) (Nat.le_refl w.heap.size) _
  subst hx
  exact ⟨grown_low hg4 xb, rfl, _, _, hr.low xb hp hg⟩
set_option maxRecDepth 100000 in
set_option maxHeartbeats 4000000 in
theorem datum_any (pr g o c : Nat) (xs : List UInt8) (w : World) (h : Rdr w pr g o c xs) (hp : pr < w.heap.size) (hg : g < w.heap.size) (hn : xs.length ≤ 100000000000000) :
    Calls Tryd.prog 66 #[.pointer (some ⟨pr, 0, none⟩)] w (DatOut w pr g (rdat xs)) := by
  have HN := Lib.hid hn
  have HP := Lib.hid (And.intro hp hg)
  have b0 : Bk (w.alloc (.cells #[.int .u8 0, .bool false, .int .i64 0, .string ⟨#[]⟩] 91)) w.heap.size 91 #[.int .u8 0, .bool false, .int .i64 0, .string ⟨#[]⟩] := Bk.new _ _ _
  have H0 : Hid (Rdr (w.alloc (.cells #[.int .u8 0, .bool false, .int .i64 0, .string ⟨#[]⟩] 91)) pr g o c xs) := Lib.hid (h.low ((Below.refl _ w).alloc (Nat.le_refl _) _) hp hg)
  have HG0 : Hid (w.grownBy (w.alloc (.cells #[.int .u8 0, .bool false, .int .i64 0, .string ⟨#[]⟩] 91)) (some pr)) := Lib.hid (grown_low (World.grownBy.refl w _) ((Below.refl _ w).alloc (Nat.le_refl _) _))
  clear h hn hp hg
  go_enter Tryd.func66, Tryd.ntmps66
  go_wp2_with fail
  cases xs with
  | nil =>
    refine (take_no pr g o c 1 0 [] _ H0.out (Lib.hid rfl) (by omega) (by omega)).mono ?_
    rintro e w4 ⟨rfl, rfl⟩
    exact ⟨rfl, HG0.out, rfl⟩
  | cons k r =>
    refine (take_yes pr g o c 1 (r.length + 1) (k :: r) _ H0.out (Lib.hid rfl) (by omega)).mono ?_
    rintro e w4 ⟨rfl, v4, o4, hw4, hr4⟩
    have c4 : w4.cell? ⟨g, o, none⟩ = some (.int .u8 k.toNat) := by
      rw [hw4, World.cell?_setCell_far _ _ _ _ (fun e => H0.out.ne e.symm)]
      exact H0.out.bytes 0 (by simp)
    have b4 : Bk w4 w.heap.size 91 #[.int .u8 0, .bool false, .int .i64 0, .string ⟨#[]⟩] := by
      rw [hw4]
      exact (Below.heap_setCell _ ⟨pr, 0, none⟩ v4 w.heap.size (by have := HP.out.1; show w.heap.size ≠ pr; omega)).trans b0
    have HG4 : Hid (w.grownBy w4 (some pr)) := Lib.hid (by rw [hw4]; exact HG0.out.trans (upd_set _ _ _ _))
    have HR4 := Lib.hid hr4
    clear hw4 hr4 b0
    have f0 := b4.free 0
    have f1 := b4.free 1
    have f2 := b4.free 2
    have f3 := b4.free 3
    have d0 := b4.cell 0
    have d1 := b4.cell 1
    have d2 := b4.cell 2
    have d3 := b4.cell 3
    have HB4 := Lib.hid b4
    clear b4
    by_cases k1 : k = 16
    · subst k1
      have s4 := set4 HB4.out (.int .u8 1) (.bool false) (.int .i64 0) (.string ⟨#[]⟩)
      have t0 := s4.cell 0
      have t1 := s4.cell 1
      have t2 := s4.cell 2
      have t3 := s4.cell 3
      clear s4
      go_wp2
      have q := cells4 HB4.out (.int .u8 1) (.bool false) (.int .i64 0) (.string ⟨#[]⟩)
      refine bodyPost_ret (v := .agg #[.int .u8 1, .bool false, .int .i64 0, .string ⟨#[]⟩]) (by simp [results, Tryd.results66, go_sem, q.1, q.2.1, q.2.2.1, q.2.2.2]) rfl (DatOut.yes HR4.out HG4.out HP.out.1 HP.out.2 1 false 0 ⟨#[]⟩ _ rfl)
    by_cases k2 : k = 32
    · subst k2
      have s4 := set4 HB4.out (.int .u8 2) (.bool false) (.int .i64 0) (.string ⟨#[]⟩)
      have t0 := s4.cell 0
      have t1 := s4.cell 1
      have t2 := s4.cell 2
      have t3 := s4.cell 3
      clear s4
      go_wp2
      have q := cells4 HB4.out (.int .u8 2) (.bool false) (.int .i64 0) (.string ⟨#[]⟩)
      refine bodyPost_ret (v := .agg #[.int .u8 2, .bool false, .int .i64 0, .string ⟨#[]⟩]) (by simp [results, Tryd.results66, go_sem, q.1, q.2.1, q.2.2.1, q.2.2.2]) rfl (DatOut.yes HR4.out HG4.out HP.out.1 HP.out.2 2 false 0 ⟨#[]⟩ _ rfl)
    by_cases k3 : k = 33
    · subst k3
      have s4 := set4 HB4.out (.int .u8 2) (.bool true) (.int .i64 0) (.string ⟨#[]⟩)
      have t0 := s4.cell 0
      have t1 := s4.cell 1
      have t2 := s4.cell 2
      have t3 := s4.cell 3
      clear s4
      go_wp2
      have q := cells4 HB4.out (.int .u8 2) (.bool true) (.int .i64 0) (.string ⟨#[]⟩)
      refine bodyPost_ret (v := .agg #[.int .u8 2, .bool true, .int .i64 0, .string ⟨#[]⟩]) (by simp [results, Tryd.results66, go_sem, q.1, q.2.1, q.2.2.1, q.2.2.2]) rfl (DatOut.yes HR4.out HG4.out HP.out.1 HP.out.2 2 true 0 ⟨#[]⟩ _ rfl)
    have z1 : ¬ (k.toNat : Int) = 16 := by intro e; exact k1 (UInt8.toNat_inj.1 (by simpa using (by omega : k.toNat = 16)))
    have z2 : ¬ (k.toNat : Int) = 32 := by intro e; exact k2 (UInt8.toNat_inj.1 (by simpa using (by omega : k.toNat = 32)))
    have z3 : ¬ (k.toNat : Int) = 33 := by intro e; exact k3 (UInt8.toNat_inj.1 (by simpa using (by omega : k.toNat = 33)))
    by_cases k4 : k = 48
    · subst k4
      clear z1 z2 z3
      have hrt : rdat (48 :: r) = (if 8 ≤ r.length then some (⟨3, false, (bytesN (r.take 8) : Int) - 9223372036854775808, ⟨#[]⟩⟩, r.drop 8) else none) := rfl
      have HRT := Lib.hid hrt
      clear hrt
      go_wp2_with fail
      by_cases h8 : 8 ≤ r.length
      · refine (take_yes pr g _ _ 8 r.length r _ HR4.out (Lib.hid rfl) h8).mono ?_
        rintro e w5 ⟨rfl, v5, o5, hw5, hr5⟩
        have hb5 : Bk w5 w.heap.size 91 #[.int .u8 0, .bool false, .int .i64 0, .string ⟨#[]⟩] := by
          rw [hw5]
          exact (Below.heap_setCell _ ⟨pr, 0, none⟩ v5 w.heap.size (by have := HP.out.1; show w.heap.size ≠ pr; omega)).trans HB4.out
        have HG5 : Hid (w.grownBy w5 (some pr)) := Lib.hid (by rw [hw5]; exact HG4.out.trans (upd_set _ _ _ _))
        have HC5 : Hid (∀ i : Nat, i < 8 → w5.cell? ⟨g, o4 + i, none⟩ = some (.int .u8 (r.getD i 0).toNat)) := Lib.hid (fun i hi => by
          rw [hw5, World.cell?_setCell_far _ _ _ _ (fun e => H0.out.ne e.symm)]
          exact HR4.out.bytes i (by show i < r.length; omega))
        have HR5 := Lib.hid hr5
        have HB5 := Lib.hid hb5
        have H8 := Lib.hid h8
        clear hw5 hr5 hb5 f0 f1 f2 f3 d0 d1 d2 d3 c4 h8
        go_wp2_with fail
        go_loopg [4, 26] 8 (fun z u v wr => ∃ (i m : Nat), z = 8 - i ∧ i ≤ 8 ∧ v = .int .i64 i ∧ u = .int .u64 m ∧ Hid (m = bytesN (r.take i)) ∧ Hid (wr = w5))
        case atStart => exact ⟨0, 0, rfl, by omega, rfl, rfl, Lib.hid rfl, Lib.hid rfl⟩
        case round =>
          obtain ⟨i, m, hz, hi, rfl, rfl, HM, HW⟩ := hrel
          have hW := HW.out
          subst hW
          have HZ := Lib.hid hz
          clear hz
          by_cases hi8 : i < 8
          · obtain ⟨y, hy⟩ : ∃ y, r.getD i 0 = y := ⟨_, rfl⟩
            have c5 := HC5.out i hi8
            rw [hy] at c5
            have hlt : i < r.length := by have := H8.out; omega
            have hm56 : m < 72057594037927936 := by
              have h1 := bytesN_lt r i (by omega)
              rw [← HM.out] at h1
              exact Nat.lt_of_lt_of_le h1 (show 256 ^ i ≤ 256 ^ 7 from Nat.pow_le_pow_right (by omega) (by omega))
            have HOR := Lib.hid (shift_or m y.toNat hm56 y.toNat_lt)
            have HM2 : Hid (m * 256 + y.toNat = bytesN (r.take (i + 1))) := Lib.hid (by rw [bytesN_step hlt, ← HM.out, hy])
            clear hlt hm56 hy
            go_wp2
            rw [HOR.out]
            go_roundg (8 - (i + 1))
            case measure => have := HZ.out; omega
            case rel => exact ⟨i + 1, m * 256 + y.toNat, rfl, by omega, by go_num, rfl, HM2, Lib.hid rfl⟩
          · obtain rfl : i = 8 := by omega
            have hm64 : m < 18446744073709551616 := by
              have h1 := bytesN_lt r 8 H8.out
              rw [← HM.out] at h1
              exact h1
            have q1 : IntKind.i64.wrap (IntKind.u64.wrap ((m : Int) - 9223372036854775808)) = (m : Int) - 9223372036854775808 := by
              rw [IntKind.wrap_u64, IntKind.wrap_i64]; omega
            have f0 := HB5.out.free 0
            have f1 := HB5.out.free 1
            have f2 := HB5.out.free 2
            have f3 := HB5.out.free 3
            have d0 := HB5.out.cell 0
            have d1 := HB5.out.cell 1
            have d2 := HB5.out.cell 2
            have d3 := HB5.out.cell 3
            clear hi hi8
            go_wp2
            have q := cells4 HB5.out (.int .u8 3) (.bool false) (.int .i64 ((m : Int) - 9223372036854775808)) (.string ⟨#[]⟩)
            refine bodyPost_ret (v := .agg #[.int .u8 3, .bool false, .int .i64 ((m : Int) - 9223372036854775808), .string ⟨#[]⟩]) (by simp [results, Tryd.results66, go_sem, q.1, q.2.1, q.2.2.1, q.2.2.2]) rfl (DatOut.yes HR5.out HG5.out HP.out.1 HP.out.2 3 false ((m : Int) - 9223372036854775808) ⟨#[]⟩ _ (by rw [HRT.out, if_pos H8.out, HM.out]))
      · refine (take_no pr g _ _ 8 r.length r _ HR4.out (Lib.hid rfl) (by omega) (by omega)).mono ?_
        rintro e w5 ⟨rfl, rfl⟩
        refine ⟨rfl, ?_⟩
        rw [HRT.out, if_neg h8]
        exact ⟨HG4.out, rfl⟩
    have z4 : ¬ (k.toNat : Int) = 48 := by intro e; exact k4 (UInt8.toNat_inj.1 (by simpa using (by omega : k.toNat = 48)))
    by_cases k5 : k = 64
    · subst k5
      clear z1 z2 z3 z4
      have hrt : rdat (64 :: r) = (rtext r).map (fun q => (⟨4, false, 0, ⟨q.1.toArray⟩⟩, q.2)) := rfl
      have HRT := Lib.hid hrt
      clear hrt
      go_wp2_with fail
      refine (rdrText_any pr g _ _ r _ HR4.out (Nat.lt_of_lt_of_le HP.out.1 HG4.out.size) (Nat.lt_of_lt_of_le HP.out.2 HG4.out.size) (by have := HN.out; rw [List.length_cons] at this; omega)).mono ?_
      intro e w5 ho
      obtain ⟨hg5, ho⟩ := ho
      cases hq : rtext r with
      | none =>
        rw [hq] at ho
        subst ho
        refine ⟨rfl, ?_⟩
        rw [HRT.out, hq]
        exact ⟨HG4.out.trans hg5, rfl⟩
      | some q =>
        obtain ⟨t, r5⟩ := q
        rw [hq] at ho
        obtain ⟨rfl, o5, c5, hr5⟩ := ho
        have hb5 : Bk w5 w.heap.size 91 #[.int .u8 0, .bool false, .int .i64 0, .string ⟨#[]⟩] := HB4.out.grown hg5 (by have := HP.out.1; intro e; cases e; omega)
        clear f0 f1 f2 f3 d0 d1 d2 d3
        have f0 := hb5.free 0
        have f1 := hb5.free 1
        have f2 := hb5.free 2
        have f3 := hb5.free 3
        have d0 := hb5.cell 0
        have d1 := hb5.cell 1
        have d2 := hb5.cell 2
        have d3 := hb5.cell 3
        have s4 := set4 hb5 (.int .u8 4) (.bool false) (.int .i64 0) (.string ⟨t.toArray⟩)
        have t0 := s4.cell 0
        have t1 := s4.cell 1
        have t2 := s4.cell 2
        have t3 := s4.cell 3
        have HR5 := Lib.hid hr5
        have HG5 := Lib.hid hg5
        have HQ := Lib.hid hq
        have HB5 := Lib.hid hb5
        clear s4 hr5 hg5 hq hb5
        go_wp2
        have q := cells4 HB5.out (.int .u8 4) (.bool false) (.int .i64 0) (.string ⟨t.toArray⟩)
        refine bodyPost_ret (v := .agg #[.int .u8 4, .bool false, .int .i64 0, .string ⟨t.toArray⟩]) (by simp [results, Tryd.results66, go_sem, q.1, q.2.1, q.2.2.1, q.2.2.2]) rfl (DatOut.yes HR5.out (HG4.out.trans HG5.out) HP.out.1 HP.out.2 4 false 0 ⟨t.toArray⟩ _ (by rw [HRT.out, HQ.out]; rfl))
    have z5 : ¬ (k.toNat : Int) = 64 := by intro e; exact k5 (UInt8.toNat_inj.1 (by simpa using (by omega : k.toNat = 64)))
    have hrt : rdat (k :: r) = none := by
      show (if k = 16 then _ else _) = _
      rw [if_neg k1, if_neg k2, if_neg k3, if_neg k4, if_neg k5]
    have HRT := Lib.hid hrt
    clear hrt k1 k2 k3 k4 k5
    go_wp2_with fail
    refine ⟨rfl, ?_⟩
    rw [HRT.out]
    exact ⟨HG4.out, rfl⟩
end Go.Proofs.YtngeioghihbkeaaDoor
namespace Go.Proofs.YtngeioghihbkeaaDoor
open Go.RowKit

/-- the panic that reading gives up with -/
def brokenV : Value := .iface 107 (.agg #[])
set_option maxRecDepth 100000 in
set_option maxHeartbeats 800000 in
theorem dec_catch (p q : Addr) (x y : Value) (w : World) (hpq : p ≠ q) (hc : w.cell? p = some x) (hz : w.frozen? p = false) (hd : w.cell? q = some y) (hy : w.frozen? q = false) :
    CallsD Tryd.prog 65 #[.pointer (some p), .pointer (some q)] (.panicking [{ v := .iface 107 (.agg #[]), recovered := false }]) w fun e u' w' =>
      e = .returned (.tuple #[]) ∧ u' = .panicking [{ v := .iface 107 (.agg #[]), recovered := true }] ∧ w' = (w.setCell p (.slice none 0 0)).setCell q (.int .u16 20) := by
  have hd' : (w.setCell p (.slice none 0 0)).cell? q = some y := by rw [World.cell?_setCell_other _ _ _ _ hpq]; exact hd
  have hta : ∀ w : World, Sem.run Tryd.prog (Instr.typeAssert (.iface 107 (.agg #[])) 20 107 false) w = .ok (.agg #[]) w := fun _ => by rfl
  refine callsD_of_wpS Tryd.func65 rfl fun c₀ cs hu => ?_
  apply wpS_seq
  apply wpS_region
  simp [wpOpsS, go_sem, recoverD, hu, Tryd.ntmps65, Exit.thenS]
  rw [show (#[Value.pointer (some p), Value.pointer (some q)] ++ ((Array.replicate 6 undef).setIfInBounds 1 (Value.iface 107 (Value.agg #[]))).setIfInBounds 0 (Value.iface 107 (Value.agg #[]))) = #[Value.pointer (some p), Value.pointer (some q), Value.iface 107 (Value.agg #[]), Value.iface 107 (Value.agg #[]), undef, undef, undef, undef] from rfl]
  refine wpS_of_wp ?_
  go_wp2
  simp [bodyPostS, results, Tryd.results65]
theorem dec_idle (p q : Addr) (w : World) :
    CallsD Tryd.prog 65 #[.pointer (some p), .pointer (some q)] .returning w fun e u' w' => e = .returned (.tuple #[]) ∧ u' = .returning ∧ w' = w := by
  refine callsD_of_wpS Tryd.func65 rfl fun c₀ cs hu => ?_
  apply wpS_seq
  apply wpS_region
  simp [wpOpsS, go_sem, recoverD, hu, Tryd.ntmps65, Exit.thenS]
  rw [show (#[Value.pointer (some p), Value.pointer (some q)] ++ ((Array.replicate 6 undef).setIfInBounds 1 Value.nilIface).setIfInBounds 0 Value.nilIface) = #[Value.pointer (some p), Value.pointer (some q), Value.nilIface, Value.nilIface, undef, undef, undef, undef] from rfl]
  refine wpS_of_wp ?_
  go_wp2
  cases c₀
  simp_all [bodyPostS, results, Tryd.results65]
theorem rtext_len : ∀ (l t r : List UInt8), rtext l = some (t, r) → t.length + r.length < l.length
  | [], t, r, h => by simp [rtext] at h
  | b :: l, t, r, h => by
    rw [rtext.eq_def] at h
    simp only at h
    by_cases hb : b = 0
    · rw [if_pos hb] at h
      match l, h with
      | [], h => simp at h
      | m :: l', h =>
        simp only at h
        by_cases m1 : m = 1
        · rw [if_pos m1] at h
          cases h
          simp only [List.length_cons, List.length_nil]
          omega
        · rw [if_neg m1] at h
          by_cases m2 : m = 255
          · rw [if_pos m2] at h
            cases hq : rtext l' with
            | none => rw [hq] at h; simp at h
            | some q =>
              rw [hq] at h
              have ih := rtext_len l' q.1 q.2 hq
              simp only [Option.map_some, Option.some.injEq, Prod.mk.injEq] at h
              rw [← h.1, ← h.2]
              simp only [List.length_cons]
              omega
          · rw [if_neg m2] at h; simp at h
    · rw [if_neg hb] at h
      cases hq : rtext l with
      | none => rw [hq] at h; simp at h
      | some q =>
        rw [hq] at h
        have ih := rtext_len l q.1 q.2 hq
        simp only [Option.map_some, Option.some.injEq, Prod.mk.injEq] at h
        rw [← h.1, ← h.2]
        simp only [List.length_cons]
        omega
theorem rdat_len (l : List UInt8) (d : Dat) (r : List UInt8) (h : rdat l = some (d, r)) : r.length < l.length ∧ d.s.size ≤ l.length := by
  cases l with
  | nil => simp [rdat] at h
  | cons k l =>
    simp only [rdat] at h
    by_cases k1 : k = 16
    · rw [if_pos k1] at h; cases h; exact ⟨by simp, Nat.zero_le _⟩
    rw [if_neg k1] at h
    by_cases k2 : k = 32
    · rw [if_pos k2] at h; cases h; exact ⟨by simp, Nat.zero_le _⟩
    rw [if_neg k2] at h
    by_cases k3 : k = 33
    · rw [if_pos k3] at h; cases h; exact ⟨by simp, Nat.zero_le _⟩
    rw [if_neg k3] at h
    by_cases k4 : k = 48
    · rw [if_pos k4] at h
      by_cases h8 : 8 ≤ l.length
      · rw [if_pos h8] at h
        simp only [Option.some.injEq, Prod.mk.injEq] at h
        rw [← h.1, ← h.2]
        exact ⟨by rw [List.length_drop, List.length_cons]; omega, Nat.zero_le _⟩
      · rw [if_neg h8] at h; simp at h
    rw [if_neg k4] at h
    by_cases k5 : k = 64
    · rw [if_pos k5] at h
      cases hq : rtext l with
      | none => rw [hq] at h; simp at h
      | some q =>
        rw [hq] at h
        have ih := rtext_len l q.1 q.2 hq
        simp only [Option.map_some, Option.some.injEq, Prod.mk.injEq] at h
        rw [← h.1, ← h.2]
        refine ⟨by rw [List.length_cons]; omega, ?_⟩
        show q.1.toArray.size ≤ _
        rw [List.size_toArray, List.length_cons]
        omega
    · rw [if_neg k5] at h; simp at h
/-- the data that bytes are, all of them -/
def rdats : Nat → List UInt8 → Option (List Dat)
  | _, [] => some []
  | 0, _ :: _ => none
  | n + 1, b :: r => (rdat (b :: r)).bind fun p => (rdats n p.2).map fun l => p.1 :: l
theorem rdats_fuel : ∀ (n : Nat) (l : List UInt8), l.length ≤ n → rdats n l = rdats l.length l
  | 0, l, h => by
    have : l = [] := List.eq_nil_of_length_eq_zero (by omega)
    subst this
    rfl
  | n + 1, [], _ => rfl
  | n + 1, b :: r, h => by
    have h' : r.length ≤ n := by simpa using h
    show (rdat (b :: r)).bind _ = (rdat (b :: r)).bind _
    cases hq : rdat (b :: r) with
    | none => rfl
    | some p =>
      have hl := (rdat_len _ p.1 p.2 hq).1
      rw [List.length_cons] at hl
      show (rdats n p.2).map _ = (rdats r.length p.2).map _
      rw [rdats_fuel n p.2 (by omega), rdats_fuel r.length p.2 (by omega)]
/-- all the data that bytes are -/
def rall (l : List UInt8) : Option (List Dat) := rdats l.length l
theorem rall_nil : rall [] = some [] := rfl
theorem rall_step {l : List UInt8} (h : l ≠ []) : rall l = (rdat l).bind fun p => (rall p.2).map fun r => p.1 :: r := by
  cases l with
  | nil => exact absurd rfl h
  | cons b r =>
    show (rdat (b :: r)).bind _ = _
    cases hq : rdat (b :: r) with
    | none => rfl
    | some p =>
      have hl := (rdat_len _ p.1 p.2 hq).1
      rw [List.length_cons] at hl
      show (rdats r.length p.2).map _ = (rdats p.2.length p.2).map _
      rw [rdats_fuel r.length p.2 (by omega)]
end Go.Proofs.YtngeioghihbkeaaDoor
namespace Go.Proofs.YtngeioghihbkeaaDoor
open Go.RowKit

structure DecAt (w wr : World) (g : Nat) (xs ys : List UInt8) (l : List Dat) (A : Option Addr) (c0 : Nat) : Prop where
  rdr : ∃ o c, Rdr wr (w.heap.size + 1 + 1) g o c ys
  out : Bk wr w.heap.size 23 #[.slice A l.length c0]
  err : Bk wr (w.heap.size + 1) 37 #[.int .u16 0]
  own : Own wr (w.heap.size + 3) 91 4 A l.length c0 (rowC l)
  low : Below w.heap.size w wr
  eq : rall xs = (rall ys).map (l ++ ·)
  len : l.length + ys.length ≤ xs.length
  size : ∀ d ∈ l, d.s.size ≤ xs.length
/-- what Decode answers -/
def DecOut (w : World) (xs : List UInt8) (e : Ending) (w' : World) : Prop := Below w.heap.size w w' ∧ match rall xs with
  | none => e = .returned (.tuple #[.slice none 0 0, .int .u16 20])
  | some l => if checkR l = 0 then ∃ A c, e = .returned (.tuple #[.slice A l.length c, .int .u16 0]) ∧ Own w' (w.heap.size + 3) 91 4 A l.length c (rowC l) else e = .returned (.tuple #[.slice none 0 0, .int .u16 20])
theorem DecAt.gave {w wr w1 : World} {g : Nat} {xs ys : List UInt8} {l : List Dat} {A : Option Addr} {c0 : Nat} (h : DecAt w wr g xs ys l A c0) (hne : ys ≠ []) (hq : rdat ys = none) (hg1 : wr.drew.grownBy w1 (some (w.heap.size + 1 + 1))) :
    DecOut w xs (.returned (.tuple #[.slice none 0 0, .int .u16 20])) ((w1.setCell ⟨w.heap.size, 0, none⟩ (.slice none 0 0)).setCell ⟨w.heap.size + 1, 0, none⟩ (.int .u16 20)) := by
  have hr : rall xs = none := by rw [h.eq, rall_step hne, hq]; rfl
  have x1 : Below w.heap.size w w1 := Below.grown h.low.drew hg1 h.low.size (fun k e => by cases e; omega)
  have x2 := (x1.setCell (p := ⟨w.heap.size, 0, none⟩) (Nat.le_refl _) (.slice none 0 0)).setCell (p := ⟨w.heap.size + 1, 0, none⟩) (Nat.le_succ _) (.int .u16 20)
  unfold DecOut
  rw [hr]
  exact ⟨x2, rfl⟩
theorem DecAt.well {w wr w2 : World} {g nl : Nat} {xs ys : List UInt8} {l : List Dat} {A : Option Addr} {c0 : Nat} (h : DecAt w wr g xs ys l A c0) (hal : Hid (rall xs = some l)) (hv : Hid (checkR l = 0)) (x : Ext wr w2) (hn : l.length = nl) :
    DecOut w xs (.returned (.tuple #[.slice A nl c0, .int .u16 0])) ((w2.setCell ⟨w.heap.size, 0, none⟩ (.slice A nl c0)).setCell ⟨w.heap.size + 1, 0, none⟩ (.int .u16 0)) := by
  subst hn
  have x1 : Below w.heap.size w w2 := ⟨x.os.trans h.low.os, x.tape.trans h.low.tape, x.output.trans h.low.output, Nat.le_trans h.low.size x.size, fun k hk => (x.block k (Nat.lt_of_lt_of_le hk h.low.size)).trans (h.low.block k hk)⟩
  have x2 := (x1.setCell (p := ⟨w.heap.size, 0, none⟩) (Nat.le_refl _) (.slice A l.length c0)).setCell (p := ⟨w.heap.size + 1, 0, none⟩) (Nat.le_succ _) (.int .u16 0)
  unfold DecOut
  rw [hal.out]
  refine ⟨x2, ?_⟩
  show if checkR l = 0 then _ else _
  rw [if_pos hv.out]
  have o := h.own.ext x
  have o1 := o.far (p := ⟨w.heap.size, 0, none⟩) (fun e => by have h1 : w.heap.size + 3 ≤ w.heap.size := (o.lt _ e).1; omega) (.slice A l.length c0)
  exact ⟨A, c0, rfl, o1.far (p := ⟨w.heap.size + 1, 0, none⟩) (fun e => by have h1 : w.heap.size + 3 ≤ w.heap.size + 1 := (o.lt _ e).1; omega) (.int .u16 0)⟩
theorem DecAt.ill {w wr w2 : World} {g nl : Nat} {xs ys : List UInt8} {l : List Dat} {A : Option Addr} {c0 : Nat} {v : Int} (h : DecAt w wr g xs ys l A c0) (hne : Hid (¬ v = 0)) (hal : Hid (rall xs = some l)) (hv : Hid (checkR l = v)) (x : Ext wr w2) (_ : l.length = nl) :
    DecOut w xs (.returned (.tuple #[.slice none 0 0, .int .u16 20])) ((w2.setCell ⟨w.heap.size, 0, none⟩ (.slice none 0 0)).setCell ⟨w.heap.size + 1, 0, none⟩ (.int .u16 20)) := by
  have x1 : Below w.heap.size w w2 := ⟨x.os.trans h.low.os, x.tape.trans h.low.tape, x.output.trans h.low.output, Nat.le_trans h.low.size x.size, fun k hk => (x.block k (Nat.lt_of_lt_of_le hk h.low.size)).trans (h.low.block k hk)⟩
  have x2 := (x1.setCell (p := ⟨w.heap.size, 0, none⟩) (Nat.le_refl _) (.slice none 0 0)).setCell (p := ⟨w.heap.size + 1, 0, none⟩) (Nat.le_succ _) (.int .u16 20)
  unfold DecOut
  rw [hal.out]
  refine ⟨x2, ?_⟩
  show if checkR l = 0 then _ else _
  rw [if_neg (by rw [hv.out]; exact hne.out)]
theorem Rdr.away {w : World} {pr g o c : Nat} {xs : List UInt8} (h : Rdr w pr g o c xs) {p : Addr} (hp : p.block ≠ pr) (hg : p.block ≠ g) (v : Value) : Rdr (w.setCell p v) pr g o c xs :=
  ⟨(World.cell?_setCell_far _ p ⟨pr, 0, none⟩ _ hp).trans h.cell, by rw [World.frozen?_setCell]; exact h.free, fun i hi => (World.cell?_setCell_far _ p ⟨g, o + i, none⟩ _ hg).trans (h.bytes i hi), h.ne, h.room, h.cap⟩
theorem DecAt.next {w wr w1 w2 : World} {g o2 c2 c3 : Nat} {xs ys r : List UInt8} {l : List Dat} {A A2 : Option Addr} {c0 : Nat} {d : Dat} (h : DecAt w wr g xs ys l A c0) (hne : ys ≠ []) (hq : rdat ys = some (d, r)) (hg1 : wr.drew.grownBy w1 (some (w.heap.size + 1 + 1)))
    (hr2 : Rdr w1 (w.heap.size + 1 + 1) g o2 c2 r) (ob : Obj) (own2 : Own w2 (w.heap.size + 3) 91 4 A2 (l.length + 1) c3 (rowC l ++ datC d)) (g2 : (w1.alloc ob).grownBy w2 (blk A c0)) (hgS : g < w.heap.size) :
    DecAt w (w2.setCell ⟨w.heap.size, 0, none⟩ (.slice A2 (l.length + 1) c3)) g xs r (l ++ [d]) A2 c3 := by
  have hblk : ∀ k, blk A c0 = some k → w.heap.size + 3 ≤ k := fun k e => (h.own.lt k e).1
  have s1 : w.heap.size + 3 ≤ w1.heap.size := by
    have := World.block_lt_of_cell? _ _ hr2.cell
    have h1 : w.heap.size + 1 + 1 < w1.heap.size := this
    omega
  have x12 : Below (w.heap.size + 3) w1 w2 := Below.grown ((Below.refl _ w1).alloc s1 ob) g2 (by simp; omega) hblk
  have bo := (h.out.drew.grown hg1 (by intro e; have := Option.some.inj e; omega)).below x12 (by omega)
  have be := (h.err.drew.grown hg1 (by intro e; have := Option.some.inj e; omega)).below x12 (by omega)
  have x1 : Below w.heap.size w w1 := Below.grown h.low.drew hg1 h.low.size (fun k e => by cases e; omega)
  have hl := rdat_len _ _ _ hq
  have hlen := h.len
  refine ⟨⟨o2, c2, (hr2.low x12 (by omega) (by omega)).away (p := ⟨w.heap.size, 0, none⟩) (by show w.heap.size ≠ _; omega) (by show w.heap.size ≠ g; omega) _⟩, ?_, ?_, ?_, ?_, ?_, ?_, ?_⟩
  · rw [List.length_append]; exact bo.set 0 _
  · exact be.far (p := ⟨w.heap.size, 0, none⟩) (by simp) _
  · have e : rowC (l ++ [d]) = rowC l ++ datC d := by simp [rowC]
    rw [e, List.length_append]
    exact own2.far (p := ⟨w.heap.size, 0, none⟩) (fun e => by have h1 : w.heap.size + 3 ≤ w.heap.size := (own2.lt _ e).1; omega) _
  · exact (x1.trans (x12.mono (by omega))).setCell (p := ⟨w.heap.size, 0, none⟩) (Nat.le_refl _) _
  · rw [h.eq, rall_step hne, hq]
    show ((rall r).map fun t => d :: t).map (l ++ ·) = _
    rw [Option.map_map]
    congr 1
    funext t
    simp
  · rw [List.length_append, List.length_singleton]; omega
  · intro y hy
    rcases List.mem_append.1 hy with hy | hy
    · exact h.size y hy
    · rw [List.mem_singleton] at hy
      subst hy
      omega
theorem Rdr.drewn {w : World} {pr g o c : Nat} {xs : List UInt8} (h : Rdr w pr g o c xs) : Rdr w.drew pr g o c xs := ⟨h.cell, h.free, h.bytes, h.ne, h.room, h.cap⟩
set_option maxRecDepth 100000 in
set_option maxHeartbeats 4000000 in
theorem dec_any (g o c : Nat) (xs : List UInt8) (w : World) (hb : ∀ i, i < xs.length → w.cell? ⟨g, o + i, none⟩ = some (.int .u8 (xs.getD i 0).toNat)) (hg : g < w.heap.size) (hn : xs.length ≤ 1000000000000) (hc : xs.length ≤ c) (hc9 : c ≤ 9223372036854775807) (n : Nat) (e1 : Hid (n = xs.length)) (G : Good w) :
    Calls Tryd.prog 29 #[.slice (some ⟨g, o, none⟩) n c] w (DecOut w xs) := by
  have hmf : ∀ (fn : Fn) (first cap : Array Value) (w : World), (Instr.makeFunc fn first cap).run Tryd.prog w = .ok (.func fn first cap) w := fun _ _ _ _ => rfl
  have HBy := Lib.hid hb
  have HG := Lib.hid G
  have HN := Lib.hid (And.intro hn (And.intro hc hc9))
  have HLt := Lib.hid hg
  clear hb G hn hc hc9 hg
  go_enter_defers Tryd.func29, Tryd.ntmps29
  go_wp2_with fail
  go_loopg [9] n (fun z u wr => ∃ ys l A c0, z = ys.length ∧ Hid (DecAt w wr g xs ys l A c0))
  case atStart =>
    refine ⟨xs, [], none, 0, e1.out, Lib.hid ⟨⟨o, c, ?_⟩, ?_, ?_, Own.nil _ _ _ _, ?_, ?_, by simp, fun d hd => nomatch hd⟩⟩
    · have bz : Bk (((w.alloc (Obj.cells #[Value.slice none 0 0] 23)).alloc (Obj.cells #[Value.int IntKind.u16 0] 37)).alloc (Obj.cells #[Value.slice (some { block := g, off := o }) n c] 110)) (w.heap.size + 1 + 1) 110 #[Value.slice (some { block := g, off := o }) n c] := Bk.at (by simp)
      have x : Below w.heap.size w (((w.alloc (Obj.cells #[Value.slice none 0 0] 23)).alloc (Obj.cells #[Value.int IntKind.u16 0] 37)).alloc (Obj.cells #[Value.slice (some { block := g, off := o }) n c] 110)) := (((Below.refl _ w).alloc (Nat.le_refl _) _).alloc (by simp) _).alloc (by simp; omega) _
      refine ⟨by rw [← e1.out]; exact bz.cell 0, bz.free 0, fun i hi => (Below.cell x (p := ⟨g, o + i, none⟩) HLt.out).trans (HBy.out i hi), by have := HLt.out; omega, HN.out.2.1, HN.out.2.2⟩
    · exact ((Bk.new _ _ _).alloc _).alloc _
    · exact (Bk.at (by simp)).alloc _
    · exact (((Below.refl _ w).alloc (Nat.le_refl _) _).alloc (by simp) _).alloc (by simp; omega) _
    · cases rall xs <;> rfl
  case round =>
    obtain ⟨ys, l, A, c0, hz, HD⟩ := hrel
    obtain ⟨o1, c1, hr⟩ := HD.out.rdr
    have p0 := hr.cell
    have HR := Lib.hid hr
    have HZ := Lib.hid hz
    clear hr hz
    obtain ⟨m, hm⟩ : ∃ m, ys.length = m := ⟨_, rfl⟩
    rw [hm] at p0
    have HM := Lib.hid hm
    clear hm
    have b0 := HD.out.out.cell 0
    obtain ⟨nl, hnl⟩ : ∃ k, l.length = k := ⟨_, rfl⟩
    rw [hnl] at b0
    have HNL := Lib.hid hnl
    clear hnl
    by_cases hm0 : m = 0
    · subst hm0
      have hys : ys = [] := List.eq_nil_of_length_eq_zero HM.out
      have hal : Hid (rall xs = some l) := Lib.hid (by rw [HD.out.eq, hys, rall_nil]; show some (l ++ []) = _; rw [List.append_nil])
      have hxt : Ext w wr := ⟨HD.out.low.os, HD.out.low.tape, HD.out.low.output, HD.out.low.size, HD.out.low.block⟩
      have HX := Lib.hid hxt
      have he0 := HD.out.err.cell 0
      have fe := HD.out.err.free 0
      have fo := HD.out.out.free 0
      clear hxt hys
      go_wp2_with fail
      refine (rowCheck_any A c0 nl l wr HNL.out.symm HD.out.own.sl (fun d hd => by have := HD.out.size d hd; have := HN.out.1; omega) (HG.out.ext HX.out)).mono ?_
      rintro e w2 ⟨rfl, x2⟩
      have bo := HD.out.out.ext x2
      have be := HD.out.err.ext x2
      rw [HNL.out] at bo
      have X2 := Lib.hid x2
      have HBo := Lib.hid bo
      have HBe := Lib.hid be
      clear x2 b0 he0 fe fo p0
      have b0 := bo.cell 0
      have he0 := be.cell 0
      have fo := bo.free 0
      have fe := be.free 0
      clear bo be
      obtain ⟨v, hv⟩ : ∃ v, checkR l = v := ⟨_, rfl⟩
      rw [hv]
      have HV := Lib.hid hv
      clear hv
      by_cases hv0 : v = 0
      · subst hv0
        go_wp2_with fail
        refine leaves_cons (f := 65) (args := #[.pointer (some ⟨w.heap.size, 0, none⟩), .pointer (some ⟨w.heap.size + 1, 0, none⟩)]) (by simp) (by simp [go_sem]) ?_
        refine (dec_idle ⟨w.heap.size, 0, none⟩ ⟨w.heap.size + 1, 0, none⟩ _).mono ?_
        rintro e u' w'' ⟨rfl, rfl, rfl⟩
        have b2 := (HBo.out.set 0 (.slice A nl c0)).far (p := ⟨w.heap.size + 1, 0, none⟩) (by simp) (.int .u16 0)
        have b3 := (HBe.out.far (p := ⟨w.heap.size, 0, none⟩) (by simp) (.slice A nl c0)).set 0 (.int .u16 0)
        have q2 := b2.cell 0
        have q3 := b3.cell 0
        simp [Leaves, settle, results, Tryd.results29, go_sem, q2, q3]
        exact HD.out.well hal HV X2.out HNL.out
      · go_wp2_with fail
        refine leaves_cons (f := 65) (args := #[.pointer (some ⟨w.heap.size, 0, none⟩), .pointer (some ⟨w.heap.size + 1, 0, none⟩)]) (by simp) (by simp [go_sem]) ?_
        refine (dec_idle ⟨w.heap.size, 0, none⟩ ⟨w.heap.size + 1, 0, none⟩ _).mono ?_
        rintro e u' w'' ⟨rfl, rfl, rfl⟩
        have b2 := (HBo.out.set 0 (.slice none 0 0)).far (p := ⟨w.heap.size + 1, 0, none⟩) (by simp) (.int .u16 20)
        have b3 := (HBe.out.far (p := ⟨w.heap.size, 0, none⟩) (by simp) (.slice none 0 0)).set 0 (.int .u16 20)
        have q2 := b2.cell 0
        have q3 := b3.cell 0
        simp [Leaves, settle, results, Tryd.results29, go_sem, q2, q3]
        exact HD.out.ill (Lib.hid hv0) hal HV X2.out HNL.out
    · have hmp : 0 < m := by omega
      have hdat : Calls Tryd.prog 66 #[.pointer (some ⟨w.heap.size + 1 + 1, 0, none⟩)] wr.drew (DatOut wr.drew (w.heap.size + 1 + 1) g (rdat ys)) :=
        datum_any _ g o1 c1 ys _ HR.out.drewn (World.block_lt_of_cell? _ _ HR.out.cell) (Nat.lt_of_lt_of_le HLt.out HD.out.low.size) (by have := HD.out.len; have := HN.out.1; omega)
      have HDt := Lib.hid hdat
      clear hdat
      cases hq : rdat ys with
      | none =>
        rw [hq] at HDt
        go_upto_region 4 with fail
        refine wp_region_any (by kernel_rfl) ?_
        change wpAny _ _ _ _ _ _ _ (World.drew _)
        refine wpAny_ready (rs := [0, 1]) (by kernel_rfl) (by simp) ?_
        refine AllReady.cons rfl (fun K hK => ?_) ?_
        · go_simp
          refine hK _ _ ?_
          clear hK K
          refine wpAny_ready (rs := [1]) (by kernel_rfl) (by simp) ?_
          refine AllReady.cons rfl (fun K hK => ?_) AllReady.nil
          go_simp
          refine hK _ _ ?_
          clear hK K
          refine wpAny_ready (rs := [2]) (by kernel_rfl) (by simp) ?_
          refine AllReady.cons rfl (fun K hK => ?_) AllReady.nil
          · go_simp
            refine HDt.out.mono ?_
            rintro e w1 ⟨hg1, he⟩
            have he : e = gaveUp := he
            subst he
            have bo := HD.out.out.drew.grown hg1 (by intro e; have := Option.some.inj e; omega)
            have be := HD.out.err.drew.grown hg1 (by intro e; have := Option.some.inj e; omega)
            refine leaves_cons (f := 65) (args := #[.pointer (some ⟨w.heap.size, 0, none⟩), .pointer (some ⟨w.heap.size + 1, 0, none⟩)]) (by simp) (by simp [go_sem]) ?_
            refine (dec_catch ⟨w.heap.size, 0, none⟩ ⟨w.heap.size + 1, 0, none⟩ _ _ w1 (by simp) (bo.cell 0) (bo.free 0) (be.cell 0) (be.free 0)).mono ?_
            rintro e u' w'' ⟨rfl, rfl, rfl⟩
            have b2 := (bo.set 0 (.slice none 0 0)).far (p := ⟨w.heap.size + 1, 0, none⟩) (by simp) (.int .u16 20)
            have b3 := (be.far (p := ⟨w.heap.size, 0, none⟩) (by simp) (.slice none 0 0)).set 0 (.int .u16 20)
            have q2 := b2.cell 0
            have q3 := b3.cell 0
            simp [Leaves, settle, results, Tryd.results29, go_sem, q2, q3]
            exact HD.out.gave (fun e => by rw [e] at HM; exact hm0 HM.out.symm) hq hg1
        refine AllReady.cons rfl (fun K hK => ?_) AllReady.nil
        · go_simp
          refine hK _ _ ?_
          clear hK K
          refine wpAny_ready (rs := [0, 2]) (by kernel_rfl) (by simp) ?_
          refine AllReady.cons rfl (fun K hK => ?_) ?_
          · go_simp
            refine hK _ _ ?_
            clear hK K
            refine wpAny_ready (rs := [2]) (by kernel_rfl) (by simp) ?_
            refine AllReady.cons rfl (fun K hK => ?_) AllReady.nil
            go_simp
            refine HDt.out.mono ?_
            rintro e w1 ⟨hg1, he⟩
            have he : e = gaveUp := he
            subst he
            have bo := HD.out.out.drew.grown hg1 (by intro e; have := Option.some.inj e; omega)
            have be := HD.out.err.drew.grown hg1 (by intro e; have := Option.some.inj e; omega)
            refine leaves_cons (f := 65) (args := #[.pointer (some ⟨w.heap.size, 0, none⟩), .pointer (some ⟨w.heap.size + 1, 0, none⟩)]) (by simp) (by simp [go_sem]) ?_
            refine (dec_catch ⟨w.heap.size, 0, none⟩ ⟨w.heap.size + 1, 0, none⟩ _ _ w1 (by simp) (bo.cell 0) (bo.free 0) (be.cell 0) (be.free 0)).mono ?_
            rintro e u' w'' ⟨rfl, rfl, rfl⟩
            have b2 := (bo.set 0 (.slice none 0 0)).far (p := ⟨w.heap.size + 1, 0, none⟩) (by simp) (.int .u16 20)
            have b3 := (be.far (p := ⟨w.heap.size, 0, none⟩) (by simp) (.slice none 0 0)).set 0 (.int .u16 20)
            have q2 := b2.cell 0
            have q3 := b3.cell 0
            simp [Leaves, settle, results, Tryd.results29, go_sem, q2, q3]
            exact HD.out.gave (fun e => by rw [e] at HM; exact hm0 HM.out.symm) hq hg1
          refine AllReady.cons rfl (fun K hK => ?_) AllReady.nil
          · go_simp
            refine HDt.out.mono ?_
            rintro e w1 ⟨hg1, he⟩
            have he : e = gaveUp := he
            subst he
            have bo := HD.out.out.drew.grown hg1 (by intro e; have := Option.some.inj e; omega)
            have be := HD.out.err.drew.grown hg1 (by intro e; have := Option.some.inj e; omega)
            refine leaves_cons (f := 65) (args := #[.pointer (some ⟨w.heap.size, 0, none⟩), .pointer (some ⟨w.heap.size + 1, 0, none⟩)]) (by simp) (by simp [go_sem]) ?_
            refine (dec_catch ⟨w.heap.size, 0, none⟩ ⟨w.heap.size + 1, 0, none⟩ _ _ w1 (by simp) (bo.cell 0) (bo.free 0) (be.cell 0) (be.free 0)).mono ?_
            rintro e u' w'' ⟨rfl, rfl, rfl⟩
            have b2 := (bo.set 0 (.slice none 0 0)).far (p := ⟨w.heap.size + 1, 0, none⟩) (by simp) (.int .u16 20)
            have b3 := (be.far (p := ⟨w.heap.size, 0, none⟩) (by simp) (.slice none 0 0)).set 0 (.int .u16 20)
            have q2 := b2.cell 0
            have q3 := b3.cell 0
            simp [Leaves, settle, results, Tryd.results29, go_sem, q2, q3]
            exact HD.out.gave (fun e => by rw [e] at HM; exact hm0 HM.out.symm) hq hg1
      | some q =>
        obtain ⟨d, r⟩ := q
        rw [hq] at HDt
        obtain ⟨kd, bd, nd, sd⟩ := d
        go_upto_region 4 with fail
        refine wp_region_any (by kernel_rfl) ?_
        change wpAny _ _ _ _ _ _ _ (World.drew _)
        refine wpAny_ready (rs := [0, 1]) (by kernel_rfl) (by simp) ?_
        refine AllReady.cons rfl (fun K hK => ?_) ?_
        · go_simp
          refine hK _ _ ?_
          clear hK K
          refine wpAny_ready (rs := [1]) (by kernel_rfl) (by simp) ?_
          refine AllReady.cons rfl (fun K hK => ?_) AllReady.nil
          go_simp
          refine hK _ _ ?_
          clear hK K
          refine wpAny_ready (rs := [2]) (by kernel_rfl) (by simp) ?_
          refine AllReady.cons rfl (fun K hK => ?_) AllReady.nil
          go_simp
          refine HDt.out.mono ?_
          rintro e w1 ⟨hg1, he, o2, c2, hr2⟩
          subst he
          have bo1 := HD.out.out.drew.grown hg1 (by intro e; have := Option.some.inj e; omega)
          rw [HNL.out] at bo1
          have b1 := bo1.cell 0
          have f1 := bo1.free 0
          have HB1 := Lib.hid bo1
          have HR2 := Lib.hid hr2
          have HG1 := Lib.hid hg1
          clear bo1 hr2 hg1
          have b1a : (w1.alloc (.cells #[.int .u8 kd, .bool bd, .int .i64 nd, .string sd] 91)).cell? ⟨w.heap.size, 0, none⟩ = some (.slice A nl c0) := (HB1.out.alloc _).cell 0
          refine hK _ _ ?_
          clear hK K
          refine wpAny_ready (rs := [3]) (by kernel_rfl) (by simp) ?_
          refine AllReady.cons rfl (fun K hK => ?_) AllReady.nil
          go_simp
          refine hK _ _ ?_
          clear hK K
          refine wpAny_ready (rs := [4]) (by kernel_rfl) (by simp) ?_
          refine AllReady.cons rfl (fun K hK => ?_) AllReady.nil
          rw [if_pos]
          rotate_left
          · kernel_rfl
          have own0 := HD.out.own
          rw [HNL.out] at own0
          have own1 := (own0.ext ((Ext.refl wr).drew)).kept HG1.out (Or.inr (fun e => by have h1 : w.heap.size + 3 ≤ w.heap.size + 1 + 1 := (own0.lt _ e).1; omega))
          have hlen := HD.out.len
          have hN := HN.out.1
          have hNL := HNL.out
          have s1 : w.heap.size + 3 ≤ w1.heap.size := World.block_lt_of_cell? _ _ HR2.out.cell
          refine wp_append_two _ elem_dat (w.heap.size + 3) _ _ rfl A nl c0 (rowC l) rfl (own1.alloc _) _ 1 1 [.int .u8 kd, .bool bd, .int .i64 nd, .string sd] rfl (Sl.one _ _ _ 4 rfl) (rowC_one [⟨kd, bd, nd, sd⟩]) (by omega) (by decide) (by simp; omega) ?_
          intro A2 c3 w2 own2 g2 _
          have bo2 := (HB1.out.alloc (.cells #[.int .u8 kd, .bool bd, .int .i64 nd, .string sd] 91)).grown g2 (fun e => by have h1 : w.heap.size + 3 ≤ w.heap.size := (own0.lt _ e).1; omega)
          have b2 := bo2.cell 0
          have f2 := bo2.free 0
          have OW := Lib.hid own2
          have HG2 := Lib.hid g2
          clear bo2 own2 g2 own1 own0 hlen hN hNL s1
          refine hK _ _ ?_
          clear hK K
          refine wpAny_ready (rs := [5]) (by kernel_rfl) (by simp) ?_
          refine AllReady.cons rfl (fun K hK => ?_) AllReady.nil
          go_simp
          refine hK _ _ ?_
          clear hK K
          refine wpAny_done (by kernel_rfl) ?_ _
          go_wp2_with fail
          go_roundg r.length
          case measure => have h1 := HZ.out; have h2 := (rdat_len _ _ _ hq).1; omega
          case rel =>
            have nx := HD.out.next (fun e => by rw [e] at HM; exact hm0 HM.out.symm) hq HG1.out HR2.out _ (by rw [HNL.out]; exact OW.out) HG2.out HLt.out
            rw [HNL.out] at nx
            exact ⟨r, l ++ [⟨kd, bd, nd, sd⟩], A2, c3, rfl, Lib.hid nx⟩
        refine AllReady.cons rfl (fun K hK => ?_) AllReady.nil
        go_simp
        refine hK _ _ ?_
        clear hK K
        refine wpAny_ready (rs := [0, 2]) (by kernel_rfl) (by simp) ?_
        refine AllReady.cons rfl (fun K hK => ?_) ?_
        · go_simp
          refine hK _ _ ?_
          clear hK K
          refine wpAny_ready (rs := [2]) (by kernel_rfl) (by simp) ?_
          refine AllReady.cons rfl (fun K hK => ?_) AllReady.nil
          go_simp
          refine HDt.out.mono ?_
          rintro e w1 ⟨hg1, he, o2, c2, hr2⟩
          subst he
          have bo1 := HD.out.out.drew.grown hg1 (by intro e; have := Option.some.inj e; omega)
          rw [HNL.out] at bo1
          have b1 := bo1.cell 0
          have f1 := bo1.free 0
          have HB1 := Lib.hid bo1
          have HR2 := Lib.hid hr2
          have HG1 := Lib.hid hg1
          clear bo1 hr2 hg1
          have b1a : (w1.alloc (.cells #[.int .u8 kd, .bool bd, .int .i64 nd, .string sd] 91)).cell? ⟨w.heap.size, 0, none⟩ = some (.slice A nl c0) := (HB1.out.alloc _).cell 0
          refine hK _ _ ?_
          clear hK K
          refine wpAny_ready (rs := [3]) (by kernel_rfl) (by simp) ?_
          refine AllReady.cons rfl (fun K hK => ?_) AllReady.nil
          go_simp
          refine hK _ _ ?_
          clear hK K
          refine wpAny_ready (rs := [4]) (by kernel_rfl) (by simp) ?_
          refine AllReady.cons rfl (fun K hK => ?_) AllReady.nil
          rw [if_pos]
          rotate_left
          · kernel_rfl
          have own0 := HD.out.own
          rw [HNL.out] at own0
          have own1 := (own0.ext ((Ext.refl wr).drew)).kept HG1.out (Or.inr (fun e => by have h1 : w.heap.size + 3 ≤ w.heap.size + 1 + 1 := (own0.lt _ e).1; omega))
          have hlen := HD.out.len
          have hN := HN.out.1
          have hNL := HNL.out
          have s1 : w.heap.size + 3 ≤ w1.heap.size := World.block_lt_of_cell? _ _ HR2.out.cell
          refine wp_append_two _ elem_dat (w.heap.size + 3) _ _ rfl A nl c0 (rowC l) rfl (own1.alloc _) _ 1 1 [.int .u8 kd, .bool bd, .int .i64 nd, .string sd] rfl (Sl.one _ _ _ 4 rfl) (rowC_one [⟨kd, bd, nd, sd⟩]) (by omega) (by decide) (by simp; omega) ?_
          intro A2 c3 w2 own2 g2 _
          have bo2 := (HB1.out.alloc (.cells #[.int .u8 kd, .bool bd, .int .i64 nd, .string sd] 91)).grown g2 (fun e => by have h1 : w.heap.size + 3 ≤ w.heap.size := (own0.lt _ e).1; omega)
          have b2 := bo2.cell 0
          have f2 := bo2.free 0
          have OW := Lib.hid own2
          have HG2 := Lib.hid g2
          clear bo2 own2 g2 own1 own0 hlen hN hNL s1
          refine hK _ _ ?_
          clear hK K
          refine wpAny_ready (rs := [5]) (by kernel_rfl) (by simp) ?_
          refine AllReady.cons rfl (fun K hK => ?_) AllReady.nil
          go_simp
          refine hK _ _ ?_
          clear hK K
          refine wpAny_done (by kernel_rfl) ?_ _
          go_wp2_with fail
          go_roundg r.length
          case measure => have h1 := HZ.out; have h2 := (rdat_len _ _ _ hq).1; omega
          case rel =>
            have nx := HD.out.next (fun e => by rw [e] at HM; exact hm0 HM.out.symm) hq HG1.out HR2.out _ (by rw [HNL.out]; exact OW.out) HG2.out HLt.out
            rw [HNL.out] at nx
            exact ⟨r, l ++ [⟨kd, bd, nd, sd⟩], A2, c3, rfl, Lib.hid nx⟩
        refine AllReady.cons rfl (fun K hK => ?_) AllReady.nil
        go_simp
        refine HDt.out.mono ?_
        rintro e w1 ⟨hg1, he, o2, c2, hr2⟩
        subst he
        have bo1 := HD.out.out.drew.grown hg1 (by intro e; have := Option.some.inj e; omega)
        rw [HNL.out] at bo1
        have b1 := bo1.cell 0
        have f1 := bo1.free 0
        have HB1 := Lib.hid bo1
        have HR2 := Lib.hid hr2
        have HG1 := Lib.hid hg1
        clear bo1 hr2 hg1
        have b1a : (w1.alloc (.cells #[.int .u8 kd, .bool bd, .int .i64 nd, .string sd] 91)).cell? ⟨w.heap.size, 0, none⟩ = some (.slice A nl c0) := (HB1.out.alloc _).cell 0
        refine hK _ _ ?_
        clear hK K
        refine wpAny_ready (rs := [0, 3]) (by kernel_rfl) (by simp) ?_
        refine AllReady.cons rfl (fun K hK => ?_) ?_
        · go_simp
          refine hK _ _ ?_
          clear hK K
          refine wpAny_ready (rs := [3]) (by kernel_rfl) (by simp) ?_
          refine AllReady.cons rfl (fun K hK => ?_) AllReady.nil
          go_simp
          refine hK _ _ ?_
          clear hK K
          refine wpAny_ready (rs := [4]) (by kernel_rfl) (by simp) ?_
          refine AllReady.cons rfl (fun K hK => ?_) AllReady.nil
          rw [if_pos]
          rotate_left
          · kernel_rfl
          have own0 := HD.out.own
          rw [HNL.out] at own0
          have own1 := (own0.ext ((Ext.refl wr).drew)).kept HG1.out (Or.inr (fun e => by have h1 : w.heap.size + 3 ≤ w.heap.size + 1 + 1 := (own0.lt _ e).1; omega))
          have hlen := HD.out.len
          have hN := HN.out.1
          have hNL := HNL.out
          have s1 : w.heap.size + 3 ≤ w1.heap.size := World.block_lt_of_cell? _ _ HR2.out.cell
          refine wp_append_two _ elem_dat (w.heap.size + 3) _ _ rfl A nl c0 (rowC l) rfl (own1.alloc _) _ 1 1 [.int .u8 kd, .bool bd, .int .i64 nd, .string sd] rfl (Sl.one _ _ _ 4 rfl) (rowC_one [⟨kd, bd, nd, sd⟩]) (by omega) (by decide) (by simp; omega) ?_
          intro A2 c3 w2 own2 g2 _
          have bo2 := (HB1.out.alloc (.cells #[.int .u8 kd, .bool bd, .int .i64 nd, .string sd] 91)).grown g2 (fun e => by have h1 : w.heap.size + 3 ≤ w.heap.size := (own0.lt _ e).1; omega)
          have b2 := bo2.cell 0
          have f2 := bo2.free 0
          have OW := Lib.hid own2
          have HG2 := Lib.hid g2
          clear bo2 own2 g2 own1 own0 hlen hN hNL s1
          refine hK _ _ ?_
          clear hK K
          refine wpAny_ready (rs := [5]) (by kernel_rfl) (by simp) ?_
          refine AllReady.cons rfl (fun K hK => ?_) AllReady.nil
          go_simp
          refine hK _ _ ?_
          clear hK K
          refine wpAny_done (by kernel_rfl) ?_ _
          go_wp2_with fail
          go_roundg r.length
          case measure => have h1 := HZ.out; have h2 := (rdat_len _ _ _ hq).1; omega
          case rel =>
            have nx := HD.out.next (fun e => by rw [e] at HM; exact hm0 HM.out.symm) hq HG1.out HR2.out _ (by rw [HNL.out]; exact OW.out) HG2.out HLt.out
            rw [HNL.out] at nx
            exact ⟨r, l ++ [⟨kd, bd, nd, sd⟩], A2, c3, rfl, Lib.hid nx⟩
        refine AllReady.cons rfl (fun K hK => ?_) AllReady.nil
        go_simp
        refine hK _ _ ?_
        clear hK K
        refine wpAny_ready (rs := [0]) (by kernel_rfl) (by simp) ?_
        refine AllReady.cons rfl (fun K hK => ?_) AllReady.nil
        go_simp
        refine hK _ _ ?_
        clear hK K
        refine wpAny_ready (rs := [4]) (by kernel_rfl) (by simp) ?_
        refine AllReady.cons rfl (fun K hK => ?_) AllReady.nil
        rw [if_pos]
        rotate_left
        · kernel_rfl
        have own0 := HD.out.own
        rw [HNL.out] at own0
        have own1 := (own0.ext ((Ext.refl wr).drew)).kept HG1.out (Or.inr (fun e => by have h1 : w.heap.size + 3 ≤ w.heap.size + 1 + 1 := (own0.lt _ e).1; omega))
        have hlen := HD.out.len
        have hN := HN.out.1
        have hNL := HNL.out
        have s1 : w.heap.size + 3 ≤ w1.heap.size := World.block_lt_of_cell? _ _ HR2.out.cell
        refine wp_append_two _ elem_dat (w.heap.size + 3) _ _ rfl A nl c0 (rowC l) rfl (own1.alloc _) _ 1 1 [.int .u8 kd, .bool bd, .int .i64 nd, .string sd] rfl (Sl.one _ _ _ 4 rfl) (rowC_one [⟨kd, bd, nd, sd⟩]) (by omega) (by decide) (by simp; omega) ?_
        intro A2 c3 w2 own2 g2 _
        have bo2 := (HB1.out.alloc (.cells #[.int .u8 kd, .bool bd, .int .i64 nd, .string sd] 91)).grown g2 (fun e => by have h1 : w.heap.size + 3 ≤ w.heap.size := (own0.lt _ e).1; omega)
        have b2 := bo2.cell 0
        have f2 := bo2.free 0
        have OW := Lib.hid own2
        have HG2 := Lib.hid g2
        clear bo2 own2 g2 own1 own0 hlen hN hNL s1
        refine hK _ _ ?_
        clear hK K
        refine wpAny_ready (rs := [5]) (by kernel_rfl) (by simp) ?_
        refine AllReady.cons rfl (fun K hK => ?_) AllReady.nil
        go_simp
        refine hK _ _ ?_
        clear hK K
        refine wpAny_done (by kernel_rfl) ?_ _
        go_wp2_with fail
        go_roundg r.length
        case measure => have h1 := HZ.out; have h2 := (rdat_len _ _ _ hq).1; omega
        case rel =>
          have nx := HD.out.next (fun e => by rw [e] at HM; exact hm0 HM.out.symm) hq HG1.out HR2.out _ (by rw [HNL.out]; exact OW.out) HG2.out HLt.out
          rw [HNL.out] at nx
          exact ⟨r, l ++ [⟨kd, bd, nd, sd⟩], A2, c3, rfl, Lib.hid nx⟩
end Go.Proofs.YtngeioghihbkeaaDoor
namespace Go.Proofs.YtngeioghihbkeaaDoor
open Go.RowKit

set_option maxRecDepth 100000 in
set_option maxHeartbeats 2000000 in
theorem dec_none (A : Option Addr) (c : Nat) (w : World) (G : Good w) :
    Calls Tryd.prog 29 #[.slice A 0 c] w (DecOut w []) := by
  have hmf : ∀ (fn : Fn) (first cap : Array Value) (w : World), (Instr.makeFunc fn first cap).run Tryd.prog w = .ok (.func fn first cap) w := fun _ _ _ _ => rfl
  have HG := Lib.hid G
  clear G
  go_enter_defers Tryd.func29, Tryd.ntmps29
  go_wp2_with fail
  refine wp_loop_rounds 1 ?_
  rw [rounds_succ]
  go_wp2_with fail
  have xw : Ext w (((w.alloc (Obj.cells #[Value.slice none 0 0] 23)).alloc (Obj.cells #[Value.int IntKind.u16 0] 37)).alloc (Obj.cells #[Value.slice A 0 c] 110)) := (((Ext.refl w).alloc _).alloc _).alloc _
  have bo0 : Bk (((w.alloc (Obj.cells #[Value.slice none 0 0] 23)).alloc (Obj.cells #[Value.int IntKind.u16 0] 37)).alloc (Obj.cells #[Value.slice A 0 c] 110)) w.heap.size 23 #[.slice none 0 0] := ((Bk.new _ _ _).alloc _).alloc _
  have be0 : Bk (((w.alloc (Obj.cells #[Value.slice none 0 0] 23)).alloc (Obj.cells #[Value.int IntKind.u16 0] 37)).alloc (Obj.cells #[Value.slice A 0 c] 110)) (w.heap.size + 1) 37 #[.int .u16 0] := (Bk.at (by simp)).alloc _
  have h0 : checkR [] = 0 := (checkR_ok []).2 ⟨by simp, fun d hd => nomatch hd⟩
  refine (rowCheck_any none 0 0 [] _ rfl (Own.nil _ 0 91 4).sl (fun d hd => nomatch hd) (HG.out.ext xw)).mono ?_
  rintro e w2 ⟨rfl, x2⟩
  rw [h0]
  have HBo := Lib.hid (bo0.ext x2)
  have HBe := Lib.hid (be0.ext x2)
  have HX := Lib.hid (xw.trans x2)
  have b0 := HBo.out.cell 0
  have he0 := HBe.out.cell 0
  have fo := HBo.out.free 0
  have fe := HBe.out.free 0
  clear xw bo0 be0 x2
  go_wp2_with fail
  refine leaves_cons (f := 65) (args := #[.pointer (some ⟨w.heap.size, 0, none⟩), .pointer (some ⟨w.heap.size + 1, 0, none⟩)]) (by simp) (by simp [go_sem]) ?_
  refine (dec_idle ⟨w.heap.size, 0, none⟩ ⟨w.heap.size + 1, 0, none⟩ _).mono ?_
  rintro e u' w'' ⟨rfl, rfl, rfl⟩
  have b2 := (HBo.out.set 0 (.slice none 0 0)).far (p := ⟨w.heap.size + 1, 0, none⟩) (by simp) (.int .u16 0)
  have b3 := (HBe.out.far (p := ⟨w.heap.size, 0, none⟩) (by simp) (.slice none 0 0)).set 0 (.int .u16 0)
  have q2 := b2.cell 0
  have q3 := b3.cell 0
  simp [Leaves, settle, results, Tryd.results29, go_sem, q2, q3]
  have X := HX.out
  have x1 : Below w.heap.size w w2 := ⟨X.os, X.tape, X.output, X.size, X.block⟩
  have x3 := (x1.setCell (p := ⟨w.heap.size, 0, none⟩) (Nat.le_refl _) (.slice none 0 0)).setCell (p := ⟨w.heap.size + 1, 0, none⟩) (Nat.le_succ _) (.int .u16 0)
  unfold DecOut
  rw [rall_nil]
  refine ⟨x3, ?_⟩
  show if checkR [] = 0 then _ else _
  rw [if_pos h0]
  exact ⟨none, 0, rfl, Own.nil _ _ _ _⟩
end Go.Proofs.YtngeioghihbkeaaDoor
namespace Go.Proofs.YtngeioghihbkeaaDoor
open Go.RowKit

/-- the row that bytes are, where it may be -/
def decV (xs : List UInt8) : Option (List Dat) := (rall xs).bind fun l => if checkR l = 0 then some l else none
def decL (xs : List UInt8) : List Dat := (decV xs).getD []
def decE (xs : List UInt8) : Int := if (decV xs).isSome then 0 else 20
theorem decV_none {xs ys : List UInt8} {l : List Dat} (h : rall xs = (rall ys).map (l ++ ·)) (hb : ∀ m, rall ys = some m → checkR (l ++ m) ≠ 0) : decV xs = none := by
  unfold decV
  rw [h]
  cases hq : rall ys with
  | none => rfl
  | some m => exact if_neg (hb m hq)
theorem decV_gave {xs ys : List UInt8} {l : List Dat} (h : rall xs = (rall ys).map (l ++ ·)) (hne : ys ≠ []) (hq : rdat ys = none) : decV xs = none :=
  decV_none h fun m hm => by rw [rall_step hne, hq] at hm; cases hm
theorem decV_ill {xs ys r : List UInt8} {l : List Dat} {d : Dat} (h : rall xs = (rall ys).map (l ++ ·)) (hne : ys ≠ []) (hq : rdat ys = some (d, r)) (hb : d.check ≠ 0 ∨ 32 ≤ l.length) : decV xs = none :=
  decV_none h fun m hm => by
    rw [rall_step hne, hq] at hm
    simp only [Option.bind_some] at hm
    cases hr : rall r with
    | none => rw [hr] at hm; cases hm
    | some m' =>
      rw [hr] at hm
      simp only [Option.map_some, Option.some.injEq] at hm
      subst hm
      intro hc
      have h0 := (checkR_ok _).1 hc
      rcases hb with hb | hb
      · exact hb (h0.2 d (by simp))
      · have := h0.1
        rw [List.length_append, List.length_cons] at this
        omega
theorem decV_some {xs : List UInt8} {l : List Dat} (h : rall xs = (rall []).map (l ++ ·)) (hl : l.length ≤ 32) (hc : ∀ d ∈ l, d.check = 0) : decV xs = some l := by
  unfold decV
  rw [h, rall_nil]
  simp only [Option.map_some, List.append_nil, Option.bind_some]
  exact if_pos ((checkR_ok l).2 ⟨hl, hc⟩)
theorem decL_some {xs : List UInt8} {l : List Dat} (h : decV xs = some l) : decL xs = l := by unfold decL; rw [h]; rfl
theorem decE_some {xs : List UInt8} {l : List Dat} (h : decV xs = some l) : decE xs = 0 := by unfold decE; rw [h]; rfl
theorem decL_none {xs : List UInt8} (h : decV xs = none) : decL xs = [] := by unfold decL; rw [h]; rfl
theorem decE_none {xs : List UInt8} (h : decV xs = none) : decE xs = 20 := by unfold decE; rw [h]; rfl
theorem decE_range (xs : List UInt8) : decE xs = 0 ∨ decE xs = 20 := by unfold decE; split <;> simp
theorem DecOut.out {w w' : World} {xs : List UInt8} {e : Ending} (h : DecOut w xs e w') : ∃ A c, e = .returned (.tuple #[.slice A (decL xs).length c, .int .u16 (decE xs)]) ∧ Own w' (w.heap.size + 3) 91 4 A (decL xs).length c (rowC (decL xs)) ∧ Ext w w' := by
  obtain ⟨hb, h⟩ := h
  have hx : Ext w w' := hb
  cases hq : rall xs with
  | none =>
    rw [hq] at h
    have hv : decV xs = none := by unfold decV; rw [hq]; rfl
    rw [decL_none hv, decE_none hv]
    exact ⟨none, 0, h, Own.nil _ _ _ _, hx⟩
  | some l =>
    rw [hq] at h
    change (if checkR l = 0 then _ else _) at h
    by_cases hc : checkR l = 0
    · rw [if_pos hc] at h
      have hv : decV xs = some l := by unfold decV; rw [hq]; exact if_pos hc
      rw [decL_some hv, decE_some hv]
      obtain ⟨A, c, h1, h2⟩ := h
      exact ⟨A, c, h1, h2, hx⟩
    · rw [if_neg hc] at h
      have hv : decV xs = none := by unfold decV; rw [hq]; exact if_neg hc
      rw [decL_none hv, decE_none hv]
      exact ⟨none, 0, h, Own.nil _ _ _ _, hx⟩
/-- Decode of bytes, wherever they lie -/
theorem decode_any (A : Option Addr) (c n : Nat) (xs : List UInt8) (w : World) (e1 : Hid (n = xs.length)) (h1 : Hid (Bs w A c xs)) (hn : xs.length ≤ 1000000000000) (G : Good w) :
    Calls Tryd.prog 29 #[.slice A n c] w fun e w' => ∃ A c, e = .returned (.tuple #[.slice A (decL xs).length c, .int .u16 (decE xs)]) ∧ Own w' (w.heap.size + 3) 91 4 A (decL xs).length c (rowC (decL xs)) ∧ Ext w w' := by
  rcases Nat.eq_zero_or_pos xs.length with hz | hz
  · have hx : xs = [] := List.eq_nil_of_length_eq_zero hz
    subst hx
    obtain rfl : n = 0 := e1.out
    exact (dec_none A c w G).mono fun e w' h => h.out
  · obtain ⟨ad, rfl, p⟩ := h1.out.at (i := 0) hz
    have p' : w.cell? ad = some (.int .u8 (xs.getD 0 0).toNat) := by have := p; unfold Addr.add at this; rwa [if_pos rfl] at this
    have hs : ad.spot = none := by
      have q := p'
      unfold World.cell? at q
      cases hh : ad.spot with
      | none => rfl
      | some s => rw [hh] at q; split at q <;> simp at q
    obtain ⟨g, o, s⟩ := ad
    obtain rfl : s = none := hs
    have hcap := Sl.cap (show Sl w 1 _ xs.length c (Lib.byteCells xs) from h1.out)
    refine (dec_any g o c xs w (fun i hi => ?_) (World.block_lt_of_cell? w ⟨g, o, none⟩ p') hn hcap.1 hcap.2 n e1 G).mono fun e w' h => h.out
    obtain ⟨ad', e2, q⟩ := h1.out.at hi
    cases e2
    have e3 : (⟨g, o, none⟩ : Addr).add i = ⟨g, o + i, none⟩ := by unfold Addr.add; split <;> simp_all
    rw [← e3]
    exact q
end Go.Proofs.YtngeioghihbkeaaDoor
namespace Go.Proofs.YtngeioghihbkeaaDoor
open Go.RowKit

/-- what text answers -/
def RTextOut (w : World) (xs : List UInt8) (e : Ending) (w' : World) : Prop := Ext w w' ∧ match rtext xs with
  | none => e = .returned (.tuple #[.string ⟨#[]⟩, .int .i64 0])
  | some (t, r) => e = .returned (.tuple #[.string ⟨t.toArray⟩, .int .i64 (xs.length - r.length : Nat)])
theorem OwnB.conv {w : World} {B n c : Nat} {A : Option Addr} {l : List UInt8} (h : OwnB w B A n c l) : Sem.run Tryd.prog (convert 35 9 (.slice A n c)) w = .ok (.string ⟨l.toArray⟩) w := by
  obtain ⟨⟨hl, h1⟩, _⟩ := h
  rcases h1 with ⟨rfl, rfl⟩ | ⟨g, cur, rfl, hbg, hg, hnc, hcm, hcs, ht⟩
  · have : l = [] := by
      rw [Lib.byteCells_length] at hl
      exact List.eq_nil_of_length_eq_zero (by omega)
    subst this
    rw [run_convert_bytes_string _ _ _ _ _ _ _ under_bytes Tryd.underlying5 under_string]
    cases A <;> rfl
  · exact conv_row l ⟨hl, .inr ⟨g, c, cur, rfl, hbg, hg, hnc, hcm, hcs, ht⟩⟩
set_option maxRecDepth 100000 in
set_option maxHeartbeats 4000000 in
theorem rtext_any (A : Option Addr) (c n : Nat) (xs : List UInt8) (w : World) (e1 : Hid (n = xs.length)) (h1 : Hid (Bs w A c xs)) (hn : Hid (xs.length ≤ 1000000000000)) :
    Calls Tryd.prog 104 #[.slice A n c] w (RTextOut w xs) := by
  have hn9 : n ≤ 9223372036854775807 := by have := hn.out; have := e1.out; omega
  go_enter Tryd.func104, Tryd.ntmps104
  go_wp2
  go_loopg [4, 5] n (fun z u v wr => ∃ (i k c0 : Nat) (A0 : Option Addr) (bs : List UInt8), z = n - i ∧ i ≤ n ∧ v = .int .i64 i ∧ u = .slice A0 k c0 ∧ Hid (OwnB wr w.heap.size A0 k c0 bs) ∧ Hid (k ≤ i ∧ rtext xs = (rtext (xs.drop i)).map (fun q => (bs ++ q.1, q.2))) ∧ Ext w wr)
  case atStart => exact ⟨0, 0, 0, none, [], by omega, Nat.zero_le _, rfl, rfl, Lib.hid (OwnB.nil _ (Nat.le_refl _)), Lib.hid ⟨Nat.le_refl _, by rw [List.drop_zero]; cases rtext xs <;> rfl⟩, Ext.refl w⟩
  case round =>
    obtain ⟨i, k, c0, A0, bs, hz, hi1, rfl, rfl, HO, HQ, er⟩ := hrel
    have ER := Lib.hid er
    have HZ := Lib.hid hz
    clear er hz
    by_cases hlt : i < n
    · have hil : i < xs.length := by rw [← e1.out]; exact hlt
      obtain ⟨y, hy⟩ : ∃ y, xs.getD i 0 = y := ⟨_, rfl⟩
      obtain ⟨a1, rfl, p0⟩ := (h1.out.ext ER.out).at hil
      rw [hy] at p0
      have hdrop : Hid (xs.drop i = y :: xs.drop (i + 1)) := Lib.hid (by rw [List.drop_eq_getElem_cons hil, ← hy, List.getD_eq_getElem?_getD, List.getElem?_eq_getElem hil]; rfl)
      clear hy
      have hkb : k ≤ 1000000000000 := by have h1 := HQ.out.1; have h2 := hn.out; have h3 := e1.out; omega
      by_cases hy0 : y = 0
      · subst hy0
        have p0' : w.heap.size = w.heap.size := rfl
        clear p0'
        by_cases hl2 : i + 1 < n
        · have hil2 : i + 1 < xs.length := by rw [← e1.out]; exact hl2
          obtain ⟨a2, ha2, p1⟩ := (h1.out.ext ER.out).at hil2
          cases ha2
          obtain ⟨m, hm⟩ : ∃ m, xs.getD (i + 1) 0 = m := ⟨_, rfl⟩
          rw [hm, show a1.add (i + 1) = ⟨a1.block, a1.off + (i + 1), none⟩ by simp [Addr.add]] at p1
          have hdrop2 : Hid (rtext (xs.drop i) = if m = 1 then some ([], xs.drop (i + 2)) else if m = 255 then (rtext (xs.drop (i + 2))).map (fun p => (0 :: p.1, p.2)) else none) := Lib.hid (by
            have e2 : xs.drop (i + 1) = m :: xs.drop (i + 2) := by rw [List.drop_eq_getElem_cons hil2, ← hm, List.getD_eq_getElem?_getD, List.getElem?_eq_getElem hil2]; rfl
            rw [hdrop.out, e2]; rfl)
          clear hm
          by_cases m1 : m = 1
          · subst m1
            have hx : Hid (rtext xs = some (bs, xs.drop (i + 2))) := Lib.hid (by rw [HQ.out.2, hdrop2.out, if_pos rfl]; show some (bs ++ [], _) = _; rw [List.append_nil])
            have hcv := HO.out.conv
            go_wp2
            go_ret2
            refine ⟨ER.out, ?_⟩
            rw [hx.out]
            show Ending.returned _ = Ending.returned _
            have hL : xs.length - (xs.drop (i + 2)).length = i + 2 := by rw [List.length_drop]; omega
            rw [hL]
            rfl
          · have z1 : ¬ (m.toNat : Int) = 1 := by intro e; exact m1 (UInt8.toNat_inj.1 (by simpa using (by omega : m.toNat = 1)))
            by_cases m2 : m = 255
            · subst m2
              go_wp2_with (at_builtin; refine put_bytes [0] rfl _ _ rfl HO.out rfl rfl (by first | rfl | simp) rfl rfl (by omega) ?_; intro A2 n2 c2 w2 o2 hn2 hz2 hbel2 hne2; subst hn2; have O2 := Lib.hid o2; have B2 := Lib.hid hbel2; clear o2 hbel2 hne2)
              go_roundg (n - (i + 2))
              case measure => have := HZ.out; omega
              case rel =>
                refine ⟨i + 2, k + 1, c2, A2, bs ++ [0], rfl, by omega, by go_num, rfl, O2, Lib.hid ⟨by have := HQ.out.1; omega, ?_⟩, ?_⟩
                · rw [HQ.out.2, hdrop2.out, if_neg m1]
                  simp only [↓reduceIte, Option.map_map]
                  cases rtext (xs.drop (i + 2)) with
                  | none => rfl
                  | some q => simp
                · have x := ER.out
                  have b := B2.out
                  exact ⟨b.os.trans x.os, b.tape.trans x.tape, b.output.trans x.output, Nat.le_trans x.size b.size, fun k hk => (b.block k hk).trans (x.block k hk)⟩
            · have z2 : ¬ (m.toNat : Int) = 255 := by intro e; exact m2 (UInt8.toNat_inj.1 (by simpa using (by omega : m.toNat = 255)))
              have hx : Hid (rtext xs = none) := Lib.hid (by rw [HQ.out.2, hdrop2.out, if_neg m1, if_neg m2]; rfl)
              go_wp2
              go_ret2
              refine ⟨ER.out, ?_⟩
              rw [hx.out]
              rfl
        · have hx : Hid (rtext xs = none) := Lib.hid (by rw [HQ.out.2, hdrop.out, List.drop_eq_nil_of_le (by rw [← e1.out]; omega)]; rfl)
          go_wp2
          go_ret2
          refine ⟨ER.out, ?_⟩
          rw [hx.out]
          rfl
      · have z1 : ¬ (y.toNat : Int) = 0 := by intro e; exact hy0 (UInt8.toNat_inj.1 (by simpa using (by omega : y.toNat = 0)))
        have HY := Lib.hid hy0
        clear hy0
        go_wp2_with (at_builtin; refine put_bytes [y] rfl _ _ rfl HO.out rfl rfl (by first | rfl | simp) rfl rfl (by omega) ?_; intro A2 n2 c2 w2 o2 hn2 hz2 hbel2 hne2; subst hn2; have O2 := Lib.hid o2; have B2 := Lib.hid hbel2; clear o2 hbel2 hne2)
        go_roundg (n - (i + 1))
        case measure => have := HZ.out; omega
        case rel =>
          refine ⟨i + 1, k + 1, c2, A2, bs ++ [y], rfl, by omega, by go_num, rfl, O2, Lib.hid ⟨by have := HQ.out.1; omega, ?_⟩, ?_⟩
          · rw [HQ.out.2, hdrop.out, show rtext (y :: xs.drop (i + 1)) = (rtext (xs.drop (i + 1))).map (fun q => (y :: q.1, q.2)) from rtext_app [y] _ (fun u hu => by rw [List.mem_singleton] at hu; rw [hu]; exact HY.out), Option.map_map]
            cases rtext (xs.drop (i + 1)) with
            | none => rfl
            | some q => simp
          · have x := ER.out
            have b := B2.out
            exact ⟨b.os.trans x.os, b.tape.trans x.tape, b.output.trans x.output, Nat.le_trans x.size b.size, fun k hk => (b.block k hk).trans (x.block k hk)⟩
    · obtain rfl : i = n := by omega
      have hx : Hid (rtext xs = none) := Lib.hid (by rw [HQ.out.2, List.drop_eq_nil_of_le (by rw [← e1.out]; exact Nat.le_refl _)]; rfl)
      go_wp2
      go_ret2
      refine ⟨ER.out, ?_⟩
      rw [hx.out]
      rfl
end Go.Proofs.YtngeioghihbkeaaDoor
namespace Go.Proofs.YtngeioghihbkeaaDoor
open Go.RowKit

theorem byteCells_drop (l : List UInt8) (k : Nat) : (Lib.byteCells l).drop k = Lib.byteCells (l.drop k) := by
  unfold Lib.byteCells
  rw [List.map_drop]
theorem Bs.drop {w : World} {A : Option Addr} {c : Nat} {xs : List UInt8} (h : Bs w A c xs) {k : Nat} (hk : k ≤ xs.length) : Bs w (if c = k then A else A.map (·.add k)) (c - k) (xs.drop k) := by
  have := Sl.drop (k := k) (show Sl w 1 A xs.length c (Lib.byteCells xs) from h) hk
  unfold Bs
  rw [List.length_drop]
  simpa only [Nat.mul_one, byteCells_drop] using this
/-- what one answers -/
def OneOut (w : World) (xs : List UInt8) (e : Ending) (w' : World) : Prop := Ext w w' ∧ match rdat xs with
  | none => e = .returned (.tuple #[.agg #[.int .u8 0, .bool false, .int .i64 0, .string ⟨#[]⟩], .int .i64 0])
  | some (t, r) => e = .returned (.tuple #[.agg #[.int .u8 t.k, .bool t.b, .int .i64 t.n, .string t.s], .int .i64 (xs.length - r.length : Nat)])
theorem OneOut.yes {w w4 : World} {xs r : List UInt8} (x4 : Ext w w4) (k : Int) (b : Bool) (n : Int) (s : ByteArray) (m : Int) (hx : Hid (rdat xs = some (⟨k, b, n, s⟩, r))) (hm : m = (xs.length - r.length : Nat)) :
    OneOut w xs (.returned (.tuple #[.agg #[.int .u8 k, .bool b, .int .i64 n, .string s], .int .i64 m])) ((((w4.setCell ⟨w.heap.size, 0, none⟩ (.int .u8 k)).setCell ⟨w.heap.size, 1, none⟩ (.bool b)).setCell ⟨w.heap.size, 2, none⟩ (.int .i64 n)).setCell ⟨w.heap.size, 3, none⟩ (.string s)) := by
  subst hm
  refine ⟨(((x4.set (p := ⟨w.heap.size, 0, none⟩) (Nat.le_refl w.heap.size) _).set (p := ⟨w.heap.size, 1, none⟩) (Nat.le_refl w.heap.size) _).set (p := ⟨w.heap.size, 2, none⟩) (Nat.le_refl w.heap.size) _).set (p := ⟨w.heap.size, 3, none⟩) (Nat.le_refl w.heap.size) _, ?_⟩
  rw [hx.out]
theorem OneOut.no {w w4 : World} {xs : List UInt8} (x4 : Ext w w4) (hx : Hid (rdat xs = none)) :
    OneOut w xs (.returned (.tuple #[.agg #[.int .u8 0, .bool false, .int .i64 0, .string ⟨#[]⟩], .int .i64 0])) ((((w4.setCell ⟨w.heap.size, 0, none⟩ (.int .u8 0)).setCell ⟨w.heap.size, 1, none⟩ (.bool false)).setCell ⟨w.heap.size, 2, none⟩ (.int .i64 0)).setCell ⟨w.heap.size, 3, none⟩ (.string ⟨#[]⟩)) := by
  refine ⟨(((x4.set (p := ⟨w.heap.size, 0, none⟩) (Nat.le_refl w.heap.size) _).set (p := ⟨w.heap.size, 1, none⟩) (Nat.le_refl w.heap.size) _).set (p := ⟨w.heap.size, 2, none⟩) (Nat.le_refl w.heap.size) _).set (p := ⟨w.heap.size, 3, none⟩) (Nat.le_refl w.heap.size) _, ?_⟩
  rw [hx.out]
theorem rtext_no (A : Option Addr) (c n : Nat) (xs : List UInt8) (w : World) (e1 : Hid (n = xs.length)) (h1 : Hid (Bs w A c xs)) (hn : n ≤ 100000000000) (hx : Hid (rtext xs = none)) :
    Calls Tryd.prog 104 #[.slice A n c] w fun e w' => e = .returned (.tuple #[.string ⟨#[]⟩, .int .i64 0]) ∧ Ext w w' := by
  refine (rtext_any A c n xs w e1 h1 (Lib.hid (by rw [← e1.out]; omega))).mono ?_
  rintro e w1 ⟨x1, h⟩
  rw [hx.out] at h
  exact ⟨h, x1⟩
theorem rtext_yes {t r : List UInt8} {q : Nat} (A : Option Addr) (c n : Nat) (xs : List UInt8) (w : World) (e1 : Hid (n = xs.length)) (h1 : Hid (Bs w A c xs)) (hn : n ≤ 100000000000) (hx : Hid (rtext xs = some (t, r))) (hq : Hid (xs.length - r.length = q)) :
    Calls Tryd.prog 104 #[.slice A n c] w fun e w' => e = .returned (.tuple #[.string ⟨t.toArray⟩, .int .i64 q]) ∧ Ext w w' := by
  refine (rtext_any A c n xs w e1 h1 (Lib.hid (by rw [← e1.out]; omega))).mono ?_
  rintro e w1 ⟨x1, h⟩
  rw [hx.out] at h
  exact ⟨by rw [← hq.out]; exact h, x1⟩
theorem OneOut.no' {w w4 : World} {xs : List UInt8} (x4 : Ext w w4) (hx : Hid (rdat xs = none)) :
    OneOut w xs (.returned (.tuple #[.agg #[.int .u8 0, .bool false, .int .i64 0, .string ⟨#[]⟩], .int .i64 0])) w4 := by
  refine ⟨x4, ?_⟩
  rw [hx.out]
set_option maxRecDepth 100000 in
set_option maxHeartbeats 4000000 in
theorem one_16 (A : Option Addr) (c m : Nat) (r : List UInt8) (w : World) (e1 : Hid (m = r.length)) (h1 : Hid (Bs w A c (16 :: r))) (hn : m ≤ 100000000000) :
    Calls Tryd.prog 67 #[.slice A (m + 1) c] w (OneOut w (16 :: r)) := by
  have b0 : Bk (w.alloc (.cells #[.int .u8 0, .bool false, .int .i64 0, .string ⟨#[]⟩] 91)) w.heap.size 91 #[.int .u8 0, .bool false, .int .i64 0, .string ⟨#[]⟩] := Bk.new _ _ _
  have x0 : Ext w (w.alloc (.cells #[.int .u8 0, .bool false, .int .i64 0, .string ⟨#[]⟩] 91)) := (Ext.refl w).alloc _
  obtain ⟨ad, rfl, p0⟩ := h1.out.at (i := 0) (by simp)
  have hcap := Sl.cap (show Sl w 1 (some ad) (16 :: r).length c (Lib.byteCells (16 :: r)) from h1.out)
  have hc1 : m + 1 ≤ c := by rw [List.length_cons, ← e1.out] at hcap; exact hcap.1
  have hc9 := hcap.2
  have p0' : w.cell? ad = some (.int .u8 (16 : UInt8).toNat) := by have := p0; unfold Addr.add at this; rwa [if_pos rfl] at this
  have c0 := x0.cell p0'
  have H1 := Lib.hid (h1.out.ext x0)
  have X0 := Lib.hid x0
  have HB := Lib.hid b0
  have f0 := b0.free 0
  have f1 := b0.free 1
  have f2 := b0.free 2
  have f3 := b0.free 3
  have d0 := b0.cell 0
  have d1 := b0.cell 1
  have d2 := b0.cell 2
  have d3 := b0.cell 3
  clear p0 p0' hcap b0 x0
  go_enter Tryd.func67, Tryd.ntmps67
  go_wp2_with (go_at_call 102; refine (refNull_any _).mono ?_; rintro e w1 ⟨rfl, x1⟩; have HX := Lib.hid (X0.out.trans x1); have b1 := HB.out.ext x1; have HB1 := Lib.hid b1; have f0 := b1.free 0; have f1 := b1.free 1; have f2 := b1.free 2; have f3 := b1.free 3; have d0 := b1.cell 0; have d1 := b1.cell 1; have d2 := b1.cell 2; have d3 := b1.cell 3; have s4 := set4 b1 (.int .u8 1) (.bool false) (.int .i64 0) (.string ⟨#[]⟩); have t0 := s4.cell 0; have t1 := s4.cell 1; have t2 := s4.cell 2; have t3 := s4.cell 3; clear b1 x1 s4)
  have q := cells4 HB1.out (.int .u8 1) (.bool false) (.int .i64 0) (.string ⟨#[]⟩)
  refine bodyPost_ret (v := .tuple #[.agg #[.int .u8 1, .bool false, .int .i64 0, .string ⟨#[]⟩], .int .i64 1]) (by simp [results, Tryd.results67, go_sem, q.1, q.2.1, q.2.2.1, q.2.2.2]) rfl (OneOut.yes (r := r) HX.out 1 false 0 ⟨#[]⟩ 1 (Lib.hid (rfl)) (by simp))
set_option maxRecDepth 100000 in
set_option maxHeartbeats 4000000 in
theorem one_32 (A : Option Addr) (c m : Nat) (r : List UInt8) (w : World) (e1 : Hid (m = r.length)) (h1 : Hid (Bs w A c (32 :: r))) (hn : m ≤ 100000000000) :
    Calls Tryd.prog 67 #[.slice A (m + 1) c] w (OneOut w (32 :: r)) := by
  have b0 : Bk (w.alloc (.cells #[.int .u8 0, .bool false, .int .i64 0, .string ⟨#[]⟩] 91)) w.heap.size 91 #[.int .u8 0, .bool false, .int .i64 0, .string ⟨#[]⟩] := Bk.new _ _ _
  have x0 : Ext w (w.alloc (.cells #[.int .u8 0, .bool false, .int .i64 0, .string ⟨#[]⟩] 91)) := (Ext.refl w).alloc _
  obtain ⟨ad, rfl, p0⟩ := h1.out.at (i := 0) (by simp)
  have hcap := Sl.cap (show Sl w 1 (some ad) (32 :: r).length c (Lib.byteCells (32 :: r)) from h1.out)
  have hc1 : m + 1 ≤ c := by rw [List.length_cons, ← e1.out] at hcap; exact hcap.1
  have hc9 := hcap.2
  have p0' : w.cell? ad = some (.int .u8 (32 : UInt8).toNat) := by have := p0; unfold Addr.add at this; rwa [if_pos rfl] at this
  have c0 := x0.cell p0'
  have H1 := Lib.hid (h1.out.ext x0)
  have X0 := Lib.hid x0
  have HB := Lib.hid b0
  have f0 := b0.free 0
  have f1 := b0.free 1
  have f2 := b0.free 2
  have f3 := b0.free 3
  have d0 := b0.cell 0
  have d1 := b0.cell 1
  have d2 := b0.cell 2
  have d3 := b0.cell 3
  clear p0 p0' hcap b0 x0
  go_enter Tryd.func67, Tryd.ntmps67
  go_wp2_with (go_at_call 103; refine (refBool_any false _).mono ?_; rintro e w1 ⟨rfl, x1⟩; have HX := Lib.hid (X0.out.trans x1); have b1 := HB.out.ext x1; have HB1 := Lib.hid b1; have f0 := b1.free 0; have f1 := b1.free 1; have f2 := b1.free 2; have f3 := b1.free 3; have d0 := b1.cell 0; have d1 := b1.cell 1; have d2 := b1.cell 2; have d3 := b1.cell 3; have s4 := set4 b1 (.int .u8 2) (.bool false) (.int .i64 0) (.string ⟨#[]⟩); have t0 := s4.cell 0; have t1 := s4.cell 1; have t2 := s4.cell 2; have t3 := s4.cell 3; clear b1 x1 s4)
  have q := cells4 HB1.out (.int .u8 2) (.bool false) (.int .i64 0) (.string ⟨#[]⟩)
  refine bodyPost_ret (v := .tuple #[.agg #[.int .u8 2, .bool false, .int .i64 0, .string ⟨#[]⟩], .int .i64 1]) (by simp [results, Tryd.results67, go_sem, q.1, q.2.1, q.2.2.1, q.2.2.2]) rfl (OneOut.yes (r := r) HX.out 2 false 0 ⟨#[]⟩ 1 (Lib.hid (rfl)) (by simp))
set_option maxRecDepth 100000 in
set_option maxHeartbeats 4000000 in
theorem one_33 (A : Option Addr) (c m : Nat) (r : List UInt8) (w : World) (e1 : Hid (m = r.length)) (h1 : Hid (Bs w A c (33 :: r))) (hn : m ≤ 100000000000) :
    Calls Tryd.prog 67 #[.slice A (m + 1) c] w (OneOut w (33 :: r)) := by
  have b0 : Bk (w.alloc (.cells #[.int .u8 0, .bool false, .int .i64 0, .string ⟨#[]⟩] 91)) w.heap.size 91 #[.int .u8 0, .bool false, .int .i64 0, .string ⟨#[]⟩] := Bk.new _ _ _
  have x0 : Ext w (w.alloc (.cells #[.int .u8 0, .bool false, .int .i64 0, .string ⟨#[]⟩] 91)) := (Ext.refl w).alloc _
  obtain ⟨ad, rfl, p0⟩ := h1.out.at (i := 0) (by simp)
  have hcap := Sl.cap (show Sl w 1 (some ad) (33 :: r).length c (Lib.byteCells (33 :: r)) from h1.out)
  have hc1 : m + 1 ≤ c := by rw [List.length_cons, ← e1.out] at hcap; exact hcap.1
  have hc9 := hcap.2
  have p0' : w.cell? ad = some (.int .u8 (33 : UInt8).toNat) := by have := p0; unfold Addr.add at this; rwa [if_pos rfl] at this
  have c0 := x0.cell p0'
  have H1 := Lib.hid (h1.out.ext x0)
  have X0 := Lib.hid x0
  have HB := Lib.hid b0
  have f0 := b0.free 0
  have f1 := b0.free 1
  have f2 := b0.free 2
  have f3 := b0.free 3
  have d0 := b0.cell 0
  have d1 := b0.cell 1
  have d2 := b0.cell 2
  have d3 := b0.cell 3
  clear p0 p0' hcap b0 x0
  go_enter Tryd.func67, Tryd.ntmps67
  go_wp2_with (go_at_call 103; refine (refBool_any true _).mono ?_; rintro e w1 ⟨rfl, x1⟩; have HX := Lib.hid (X0.out.trans x1); have b1 := HB.out.ext x1; have HB1 := Lib.hid b1; have f0 := b1.free 0; have f1 := b1.free 1; have f2 := b1.free 2; have f3 := b1.free 3; have d0 := b1.cell 0; have d1 := b1.cell 1; have d2 := b1.cell 2; have d3 := b1.cell 3; have s4 := set4 b1 (.int .u8 2) (.bool true) (.int .i64 0) (.string ⟨#[]⟩); have t0 := s4.cell 0; have t1 := s4.cell 1; have t2 := s4.cell 2; have t3 := s4.cell 3; clear b1 x1 s4)
  have q := cells4 HB1.out (.int .u8 2) (.bool true) (.int .i64 0) (.string ⟨#[]⟩)
  refine bodyPost_ret (v := .tuple #[.agg #[.int .u8 2, .bool true, .int .i64 0, .string ⟨#[]⟩], .int .i64 1]) (by simp [results, Tryd.results67, go_sem, q.1, q.2.1, q.2.2.1, q.2.2.2]) rfl (OneOut.yes (r := r) HX.out 2 true 0 ⟨#[]⟩ 1 (Lib.hid (rfl)) (by simp))
set_option maxRecDepth 100000 in
set_option maxHeartbeats 4000000 in
theorem one_48 (A : Option Addr) (c m : Nat) (r : List UInt8) (w : World) (e1 : Hid (m = r.length)) (h1 : Hid (Bs w A c (48 :: r))) (hn : m ≤ 100000000000) :
    Calls Tryd.prog 67 #[.slice A (m + 1) c] w (OneOut w (48 :: r)) := by
  have b0 : Bk (w.alloc (.cells #[.int .u8 0, .bool false, .int .i64 0, .string ⟨#[]⟩] 91)) w.heap.size 91 #[.int .u8 0, .bool false, .int .i64 0, .string ⟨#[]⟩] := Bk.new _ _ _
  have x0 : Ext w (w.alloc (.cells #[.int .u8 0, .bool false, .int .i64 0, .string ⟨#[]⟩] 91)) := (Ext.refl w).alloc _
  obtain ⟨ad, rfl, p0⟩ := h1.out.at (i := 0) (by simp)
  have hcap := Sl.cap (show Sl w 1 (some ad) (48 :: r).length c (Lib.byteCells (48 :: r)) from h1.out)
  have hc1 : m + 1 ≤ c := by rw [List.length_cons, ← e1.out] at hcap; exact hcap.1
  have hc9 := hcap.2
  have p0' : w.cell? ad = some (.int .u8 (48 : UInt8).toNat) := by have := p0; unfold Addr.add at this; rwa [if_pos rfl] at this
  have c0 := x0.cell p0'
  have H1 := Lib.hid (h1.out.ext x0)
  have X0 := Lib.hid x0
  have HB := Lib.hid b0
  have f0 := b0.free 0
  have f1 := b0.free 1
  have f2 := b0.free 2
  have f3 := b0.free 3
  have d0 := b0.cell 0
  have d1 := b0.cell 1
  have d2 := b0.cell 2
  have d3 := b0.cell 3
  clear p0 p0' hcap b0 x0
  go_enter Tryd.func67, Tryd.ntmps67
  have hrt : rdat (48 :: r) = (if 8 ≤ r.length then some (⟨3, false, (bytesN (r.take 8) : Int) - 9223372036854775808, ⟨#[]⟩⟩, r.drop 8) else none) := rfl
  by_cases h8 : 8 ≤ m
  · have hrl : 8 ≤ r.length := by rw [← e1.out]; exact h8
    rw [if_pos hrl] at hrt
    have HRT := Lib.hid hrt
    have HL : Hid ((48 :: r).length - (r.drop 8).length = 9) := Lib.hid (by rw [List.length_cons, List.length_drop]; omega)
    have HRL := Lib.hid hrl
    have n9 : ¬ m + 1 < 9 := by omega
    clear hrt hrl
    go_wp2
    go_loopg [4, 5] 8 (fun z u v wr => ∃ (j q : Nat), z = 8 - j ∧ j ≤ 8 ∧ v = .int .i64 (j + 1 : Nat) ∧ u = .int .u64 q ∧ Hid (q = bytesN (r.take j)) ∧ Hid (wr = w.alloc (.cells #[.int .u8 0, .bool false, .int .i64 0, .string ⟨#[]⟩] 91)))
    case atStart => exact ⟨0, 0, rfl, by omega, rfl, rfl, Lib.hid rfl, Lib.hid rfl⟩
    case round =>
      obtain ⟨j, q, hz, hj, rfl, rfl, HM, HW⟩ := hrel
      have hW := HW.out
      subst hW
      have HZ := Lib.hid hz
      clear hz
      by_cases hj8 : j < 8
      · obtain ⟨y, hy⟩ : ∃ y, r.getD j 0 = y := ⟨_, rfl⟩
        obtain ⟨ad', ea, c5⟩ := H1.out.at (i := j + 1) (by rw [List.length_cons]; have := HRL.out; omega)
        cases ea
        rw [List.getD_cons_succ, hy, show ad.add (j + 1) = ⟨ad.block, ad.off + (j + 1), none⟩ by simp [Addr.add]] at c5
        have hlt : j < r.length := by have := HRL.out; omega
        have hm56 : q < 72057594037927936 := by
          have h1 := bytesN_lt r j (by omega)
          rw [← HM.out] at h1
          exact Nat.lt_of_lt_of_le h1 (show 256 ^ j ≤ 256 ^ 7 from Nat.pow_le_pow_right (by omega) (by omega))
        have hy8 := y.toNat_lt
        have qy : IntKind.u64.wrap (y.toNat : Int) = (y.toNat : Int) := by rw [IntKind.wrap_u64]; omega
        have qm : IntKind.u64.wrap (256 * (q : Int)) = 256 * (q : Int) := by rw [IntKind.wrap_u64]; omega
        have qs : IntKind.u64.wrap (256 * (q : Int) + (y.toNat : Int)) = ((q * 256 + y.toNat : Nat) : Int) := by rw [IntKind.wrap_u64]; omega
        have HM2 : Hid (q * 256 + y.toNat = bytesN (r.take (j + 1))) := Lib.hid (by rw [bytesN_step hlt, ← HM.out, hy])
        clear hlt hm56 hy hy8
        go_wp2
        go_roundg (8 - (j + 1))
        case measure => have := HZ.out; omega
        case rel => exact ⟨j + 1, q * 256 + y.toNat, rfl, by omega, by go_num, by first | rfl | (rw [qm, qs]) | (rw [qy, qm, qs]) | skip, HM2, Lib.hid rfl⟩
      · obtain rfl : j = 8 := by omega
        have hm64 : q < 18446744073709551616 := by
          have h1 := bytesN_lt r 8 HRL.out
          rw [← HM.out] at h1
          exact h1
        have q1 : IntKind.i64.wrap (IntKind.u64.wrap ((q : Int) - 9223372036854775808)) = (q : Int) - 9223372036854775808 := by
          rw [IntKind.wrap_u64, IntKind.wrap_i64]; omega
        clear hj hj8
        go_wp2_with (go_at_call 52; refine (refInt_any ((q : Int) - 9223372036854775808) _).mono ?_; rintro e w1 ⟨rfl, x1⟩; have HX := Lib.hid (X0.out.trans x1); have b1 := HB.out.ext x1; have HB1 := Lib.hid b1; have f0 := b1.free 0; have f1 := b1.free 1; have f2 := b1.free 2; have f3 := b1.free 3; have d0 := b1.cell 0; have d1 := b1.cell 1; have d2 := b1.cell 2; have d3 := b1.cell 3; have s4 := set4 b1 (.int .u8 3) (.bool false) (.int .i64 ((q : Int) - 9223372036854775808)) (.string ⟨#[]⟩); have t0 := s4.cell 0; have t1 := s4.cell 1; have t2 := s4.cell 2; have t3 := s4.cell 3; clear b1 x1 s4)
        have qq := cells4 HB1.out (.int .u8 3) (.bool false) (.int .i64 ((q : Int) - 9223372036854775808)) (.string ⟨#[]⟩)
        refine bodyPost_ret (v := .tuple #[.agg #[.int .u8 3, .bool false, .int .i64 ((q : Int) - 9223372036854775808), .string ⟨#[]⟩], .int .i64 9]) (by simp [results, Tryd.results67, go_sem, qq.1, qq.2.1, qq.2.2.1, qq.2.2.2]) rfl (OneOut.yes (r := r.drop 8) HX.out 3 false ((q : Int) - 9223372036854775808) ⟨#[]⟩ 9 (Lib.hid (by rw [HRT.out, HM.out])) (by rw [HL.out]; rfl))
  · have hx : rdat (48 :: r) = none := by rw [hrt, if_neg (by rw [← e1.out]; exact h8)]
    have n9 : m + 1 < 9 := by omega
    have HRN := Lib.hid hx
    clear hx hrt
    go_wp2
    refine bodyPost_ret (v := .tuple #[.agg #[.int .u8 0, .bool false, .int .i64 0, .string ⟨#[]⟩], .int .i64 0]) (by simp [results, Tryd.results67, go_sem, d0, d1, d2, d3]) rfl (OneOut.no' X0.out HRN)
set_option maxRecDepth 100000 in
set_option maxHeartbeats 4000000 in
theorem one_64 (A : Option Addr) (c m : Nat) (r : List UInt8) (w : World) (e1 : Hid (m = r.length)) (h1 : Hid (Bs w A c (64 :: r))) (hn : m ≤ 100000000000) :
    Calls Tryd.prog 67 #[.slice A (m + 1) c] w (OneOut w (64 :: r)) := by
  have b0 : Bk (w.alloc (.cells #[.int .u8 0, .bool false, .int .i64 0, .string ⟨#[]⟩] 91)) w.heap.size 91 #[.int .u8 0, .bool false, .int .i64 0, .string ⟨#[]⟩] := Bk.new _ _ _
  have x0 : Ext w (w.alloc (.cells #[.int .u8 0, .bool false, .int .i64 0, .string ⟨#[]⟩] 91)) := (Ext.refl w).alloc _
  obtain ⟨ad, rfl, p0⟩ := h1.out.at (i := 0) (by simp)
  have hcap := Sl.cap (show Sl w 1 (some ad) (64 :: r).length c (Lib.byteCells (64 :: r)) from h1.out)
  have hc1 : m + 1 ≤ c := by rw [List.length_cons, ← e1.out] at hcap; exact hcap.1
  have hc9 := hcap.2
  have p0' : w.cell? ad = some (.int .u8 (64 : UInt8).toNat) := by have := p0; unfold Addr.add at this; rwa [if_pos rfl] at this
  have c0 := x0.cell p0'
  have H1 := Lib.hid (h1.out.ext x0)
  have X0 := Lib.hid x0
  have HB := Lib.hid b0
  have f0 := b0.free 0
  have f1 := b0.free 1
  have f2 := b0.free 2
  have f3 := b0.free 3
  have d0 := b0.cell 0
  have d1 := b0.cell 1
  have d2 := b0.cell 2
  have d3 := b0.cell 3
  clear p0 p0' hcap b0 x0
  go_enter Tryd.func67, Tryd.ntmps67
  have hrt : rdat (64 :: r) = (rtext r).map (fun q => (⟨4, false, 0, ⟨q.1.toArray⟩⟩, q.2)) := rfl
  have HRT := Lib.hid hrt
  clear hrt
  have HD := Lib.hid (H1.out.drop (k := 1) (by simp))
  cases hq : rtext r with
  | none =>
    have HRN : Hid (rdat (64 :: r) = none) := Lib.hid (by rw [HRT.out, hq]; rfl)
    have HQ := Lib.hid hq
    clear hq
    by_cases hc : c = 1
    · have hm : m = 0 := by omega
      subst hm
      subst hc
      have HD1 : Hid (Bs (w.alloc (.cells #[.int .u8 0, .bool false, .int .i64 0, .string ⟨#[]⟩] 91)) (some ad) 0 r) := Lib.hid (by have := HD.out; rwa [if_pos rfl] at this)
      go_wp2_with (go_at_call 104; go_loud (refine (rtext_no _ _ _ r _ (Lib.hid (by exact e1.out)) HD1 (by omega) HQ).mono ?_); rintro e w1 ⟨rfl, x1⟩; have HX := Lib.hid (X0.out.trans x1); have b1 := HB.out.ext x1; have HB1 := Lib.hid b1; have f0 := b1.free 0; have f1 := b1.free 1; have f2 := b1.free 2; have f3 := b1.free 3; have d0 := b1.cell 0; have d1 := b1.cell 1; have d2 := b1.cell 2; have d3 := b1.cell 3; have s4 := set4 b1 (.int .u8 0) (.bool false) (.int .i64 0) (.string ⟨#[]⟩); have t0 := s4.cell 0; have t1 := s4.cell 1; have t2 := s4.cell 2; have t3 := s4.cell 3; clear b1 x1 s4)
      have q := cells4 HB1.out (.int .u8 0) (.bool false) (.int .i64 0) (.string ⟨#[]⟩)
      refine bodyPost_ret (v := .tuple #[.agg #[.int .u8 0, .bool false, .int .i64 0, .string ⟨#[]⟩], .int .i64 0]) (by simp [results, Tryd.results67, go_sem, q.1, q.2.1, q.2.2.1, q.2.2.2]) rfl (OneOut.no HX.out HRN)
    · have HD1 : Hid (Bs (w.alloc (.cells #[.int .u8 0, .bool false, .int .i64 0, .string ⟨#[]⟩] 91)) (some (ad.add 1)) (c - 1) r) := Lib.hid (by have := HD.out; rwa [if_neg hc] at this)
      go_wp2_with (go_at_call 104; go_loud (refine (rtext_no _ _ _ r _ (Lib.hid (by exact e1.out)) HD1 (by omega) HQ).mono ?_); rintro e w1 ⟨rfl, x1⟩; have HX := Lib.hid (X0.out.trans x1); have b1 := HB.out.ext x1; have HB1 := Lib.hid b1; have f0 := b1.free 0; have f1 := b1.free 1; have f2 := b1.free 2; have f3 := b1.free 3; have d0 := b1.cell 0; have d1 := b1.cell 1; have d2 := b1.cell 2; have d3 := b1.cell 3; have s4 := set4 b1 (.int .u8 0) (.bool false) (.int .i64 0) (.string ⟨#[]⟩); have t0 := s4.cell 0; have t1 := s4.cell 1; have t2 := s4.cell 2; have t3 := s4.cell 3; clear b1 x1 s4)
      have q := cells4 HB1.out (.int .u8 0) (.bool false) (.int .i64 0) (.string ⟨#[]⟩)
      refine bodyPost_ret (v := .tuple #[.agg #[.int .u8 0, .bool false, .int .i64 0, .string ⟨#[]⟩], .int .i64 0]) (by simp [results, Tryd.results67, go_sem, q.1, q.2.1, q.2.2.1, q.2.2.2]) rfl (OneOut.no HX.out HRN)
  | some p =>
    obtain ⟨t, r2⟩ := p
    have hl := rtext_len _ _ _ hq
    have hc : ¬ c = 1 := by have := e1.out; omega
    obtain ⟨z, hz⟩ : ∃ z, r.length - r2.length = z := ⟨_, rfl⟩
    have hz0 : 0 < z := by omega
    have hz9 : z ≤ 100000000000 := by have := e1.out; omega
    have hzz : ((z : Int) == 0) = false := by simp; omega
    have HZ := Lib.hid hz
    have HY : Hid (rdat (64 :: r) = some (⟨4, false, 0, ⟨t.toArray⟩⟩, r2)) := Lib.hid (by rw [HRT.out, hq]; rfl)
    have HM : Hid (((z : Int) + 1) = ((64 :: r).length - r2.length : Nat)) := Lib.hid (by rw [List.length_cons]; omega)
    have HQ := Lib.hid hq
    have HD1 : Hid (Bs (w.alloc (.cells #[.int .u8 0, .bool false, .int .i64 0, .string ⟨#[]⟩] 91)) (some (ad.add 1)) (c - 1) r) := Lib.hid (by have := HD.out; rwa [if_neg hc] at this)
    have m1 : True := trivial
    clear hq hl hz
    go_wp2_with (first
      | (go_at_call 104; have mk := m1; clear m1 mk; go_loud (refine (rtext_yes _ _ _ r _ (Lib.hid (by exact e1.out)) HD1 (by omega) HQ HZ).mono ?_); rintro e w1 ⟨rfl, x1⟩; have HX := Lib.hid (X0.out.trans x1); have b1 := HB.out.ext x1; have HB1 := Lib.hid b1; have m2 : True := trivial; clear b1 x1)
      | (go_at_call 105; have mk := m2; clear m2 mk; go_loud (refine (refText_any ⟨t.toArray⟩ _).mono ?_); rintro e w2 ⟨rfl, x2⟩; have HX2 := Lib.hid (HX.out.trans x2); have b1 := HB1.out.ext x2; have HB2 := Lib.hid b1; have f0 := b1.free 0; have f1 := b1.free 1; have f2 := b1.free 2; have f3 := b1.free 3; have d0 := b1.cell 0; have d1 := b1.cell 1; have d2 := b1.cell 2; have d3 := b1.cell 3; have s4 := set4 b1 (.int .u8 4) (.bool false) (.int .i64 0) (.string ⟨t.toArray⟩); have t0 := s4.cell 0; have t1 := s4.cell 1; have t2 := s4.cell 2; have t3 := s4.cell 3; clear b1 x2 s4))
    have q := cells4 HB2.out (.int .u8 4) (.bool false) (.int .i64 0) (.string ⟨t.toArray⟩)
    refine bodyPost_ret (v := .tuple #[.agg #[.int .u8 4, .bool false, .int .i64 0, .string ⟨t.toArray⟩], .int .i64 ((z : Int) + 1)]) (by simp [results, Tryd.results67, go_sem, q.1, q.2.1, q.2.2.1, q.2.2.2]) rfl (OneOut.yes (r := r2) HX2.out 4 false 0 ⟨t.toArray⟩ ((z : Int) + 1) HY HM.out)
set_option maxRecDepth 100000 in
set_option maxHeartbeats 4000000 in
theorem one_no (A : Option Addr) (c m : Nat) (k : UInt8) (r : List UInt8) (w : World) (e1 : Hid (m = r.length)) (h1 : Hid (Bs w A c (k :: r))) (hn : m ≤ 100000000000) (k1 : ¬ k = 16) (k2 : ¬ k = 32) (k3 : ¬ k = 33) (k4 : ¬ k = 48) (k5 : ¬ k = 64) :
    Calls Tryd.prog 67 #[.slice A (m + 1) c] w (OneOut w (k :: r)) := by
  have b0 : Bk (w.alloc (.cells #[.int .u8 0, .bool false, .int .i64 0, .string ⟨#[]⟩] 91)) w.heap.size 91 #[.int .u8 0, .bool false, .int .i64 0, .string ⟨#[]⟩] := Bk.new _ _ _
  have x0 : Ext w (w.alloc (.cells #[.int .u8 0, .bool false, .int .i64 0, .string ⟨#[]⟩] 91)) := (Ext.refl w).alloc _
  obtain ⟨ad, rfl, p0⟩ := h1.out.at (i := 0) (by simp)
  have hcap := Sl.cap (show Sl w 1 (some ad) (k :: r).length c (Lib.byteCells (k :: r)) from h1.out)
  have hc1 : m + 1 ≤ c := by rw [List.length_cons, ← e1.out] at hcap; exact hcap.1
  have hc9 := hcap.2
  have p0' : w.cell? ad = some (.int .u8 k.toNat) := by have := p0; unfold Addr.add at this; rwa [if_pos rfl] at this
  have c0 := x0.cell p0'
  have H1 := Lib.hid (h1.out.ext x0)
  have X0 := Lib.hid x0
  have HB := Lib.hid b0
  have f0 := b0.free 0
  have f1 := b0.free 1
  have f2 := b0.free 2
  have f3 := b0.free 3
  have d0 := b0.cell 0
  have d1 := b0.cell 1
  have d2 := b0.cell 2
  have d3 := b0.cell 3
  clear p0 p0' hcap b0 x0
  go_enter Tryd.func67, Tryd.ntmps67
  have hrt : rdat (k :: r) = none := by
    show (if k = 16 then _ else _) = _
    rw [if_neg k1, if_neg k2, if_neg k3, if_neg k4, if_neg k5]
  have HRN := Lib.hid hrt
  have z1 : ¬ (k.toNat : Int) = 16 := by intro e; exact k1 (UInt8.toNat_inj.1 (by simpa using (by omega : k.toNat = 16)))
  have z2 : ¬ (k.toNat : Int) = 32 := by intro e; exact k2 (UInt8.toNat_inj.1 (by simpa using (by omega : k.toNat = 32)))
  have z3 : ¬ (k.toNat : Int) = 33 := by intro e; exact k3 (UInt8.toNat_inj.1 (by simpa using (by omega : k.toNat = 33)))
  have z4 : ¬ (k.toNat : Int) = 48 := by intro e; exact k4 (UInt8.toNat_inj.1 (by simpa using (by omega : k.toNat = 48)))
  have z5 : ¬ (k.toNat : Int) = 64 := by intro e; exact k5 (UInt8.toNat_inj.1 (by simpa using (by omega : k.toNat = 64)))
  clear hrt k1 k2 k3 k4 k5
  go_wp2
  refine bodyPost_ret (v := .tuple #[.agg #[.int .u8 0, .bool false, .int .i64 0, .string ⟨#[]⟩], .int .i64 0]) (by simp [results, Tryd.results67, go_sem, d0, d1, d2, d3]) rfl (OneOut.no' X0.out HRN)
theorem one_any (A : Option Addr) (c m : Nat) (k : UInt8) (r : List UInt8) (w : World) (e1 : Hid (m = r.length)) (h1 : Hid (Bs w A c (k :: r))) (hn : m ≤ 100000000000) :
    Calls Tryd.prog 67 #[.slice A (m + 1) c] w (OneOut w (k :: r)) := by
  by_cases k1 : k = 16
  · subst k1; exact one_16 A c m r w e1 h1 hn
  by_cases k2 : k = 32
  · subst k2; exact one_32 A c m r w e1 h1 hn
  by_cases k3 : k = 33
  · subst k3; exact one_33 A c m r w e1 h1 hn
  by_cases k4 : k = 48
  · subst k4; exact one_48 A c m r w e1 h1 hn
  by_cases k5 : k = 64
  · subst k5; exact one_64 A c m r w e1 h1 hn
  exact one_no A c m k r w e1 h1 hn k1 k2 k3 k4 k5
end Go.Proofs.YtngeioghihbkeaaDoor
namespace Go.Proofs.YtngeioghihbkeaaDoor
open Go.RowKit

theorem rtext_suf : ∀ (l t r : List UInt8), rtext l = some (t, r) → r <:+ l
  | [], t, r, h => by simp [rtext] at h
  | b :: l, t, r, h => by
    rw [rtext.eq_def] at h
    simp only at h
    by_cases hb : b = 0
    · rw [if_pos hb] at h
      match l, h with
      | [], h => simp at h
      | m :: l', h =>
        simp only at h
        by_cases m1 : m = 1
        · rw [if_pos m1] at h
          cases h
          exact (List.suffix_cons ..).trans (List.suffix_cons ..)
        · rw [if_neg m1] at h
          by_cases m2 : m = 255
          · rw [if_pos m2] at h
            cases hq : rtext l' with
            | none => rw [hq] at h; simp at h
            | some q =>
              rw [hq] at h
              have ih := rtext_suf l' q.1 q.2 hq
              simp only [Option.map_some, Option.some.injEq, Prod.mk.injEq] at h
              rw [← h.2]
              exact (ih.trans (List.suffix_cons ..)).trans (List.suffix_cons ..)
          · rw [if_neg m2] at h; simp at h
    · rw [if_neg hb] at h
      cases hq : rtext l with
      | none => rw [hq] at h; simp at h
      | some q =>
        rw [hq] at h
        have ih := rtext_suf l q.1 q.2 hq
        simp only [Option.map_some, Option.some.injEq, Prod.mk.injEq] at h
        rw [← h.2]
        exact ih.trans (List.suffix_cons ..)
theorem rdat_suf (l : List UInt8) (d : Dat) (r : List UInt8) (h : rdat l = some (d, r)) : r <:+ l := by
  cases l with
  | nil => simp [rdat] at h
  | cons k l =>
    simp only [rdat] at h
    refine List.IsSuffix.trans ?_ (List.suffix_cons k l)
    by_cases k1 : k = 16
    · rw [if_pos k1] at h; cases h; exact List.suffix_refl _
    rw [if_neg k1] at h
    by_cases k2 : k = 32
    · rw [if_pos k2] at h; cases h; exact List.suffix_refl _
    rw [if_neg k2] at h
    by_cases k3 : k = 33
    · rw [if_pos k3] at h; cases h; exact List.suffix_refl _
    rw [if_neg k3] at h
    by_cases k4 : k = 48
    · rw [if_pos k4] at h
      by_cases h8 : 8 ≤ l.length
      · rw [if_pos h8] at h
        simp only [Option.some.injEq, Prod.mk.injEq] at h
        rw [← h.2]
        exact List.drop_suffix _ _
      · rw [if_neg h8] at h; simp at h
    rw [if_neg k4] at h
    by_cases k5 : k = 64
    · rw [if_pos k5] at h
      cases hq : rtext l with
      | none => rw [hq] at h; simp at h
      | some q =>
        rw [hq] at h
        have ih := rtext_suf l q.1 q.2 hq
        simp only [Option.map_some, Option.some.injEq, Prod.mk.injEq] at h
        rw [← h.2]
        exact ih
    · rw [if_neg k5] at h; simp at h
theorem one_none (A : Option Addr) (c m : Nat) (xs : List UInt8) (w : World) (e1 : Hid (m = xs.length)) (hne : Hid (xs ≠ [])) (h1 : Hid (Bs w A c xs)) (hn : m ≤ 100000000000) (hx : Hid (rdat xs = none)) :
    Calls Tryd.prog 67 #[.slice A m c] w fun e w' => e = .returned (.tuple #[.agg #[.int .u8 0, .bool false, .int .i64 0, .string ⟨#[]⟩], .int .i64 0]) ∧ Ext w w' := by
  obtain ⟨k, r, rfl⟩ := List.exists_cons_of_ne_nil hne.out
  obtain rfl : m = r.length + 1 := by rw [e1.out, List.length_cons]
  refine (one_any A c r.length k r w (Lib.hid rfl) h1 (by omega)).mono ?_
  rintro e w1 ⟨x1, h⟩
  rw [hx.out] at h
  exact ⟨h, x1⟩
theorem one_some {k n : Int} {b : Bool} {s : ByteArray} {r : List UInt8} {q : Nat} (A : Option Addr) (c m : Nat) (xs : List UInt8) (w : World) (e1 : Hid (m = xs.length)) (hne : Hid (xs ≠ [])) (h1 : Hid (Bs w A c xs)) (hn : m ≤ 100000000000) (hx : Hid (rdat xs = some (⟨k, b, n, s⟩, r))) (hq : Hid (xs.length - r.length = q)) :
    Calls Tryd.prog 67 #[.slice A m c] w fun e w' => e = .returned (.tuple #[.agg #[.int .u8 k, .bool b, .int .i64 n, .string s], .int .i64 q]) ∧ Ext w w' := by
  obtain ⟨k', r', rfl⟩ := List.exists_cons_of_ne_nil hne.out
  obtain rfl : m = r'.length + 1 := by rw [e1.out, List.length_cons]
  refine (one_any A c r'.length k' r' w (Lib.hid rfl) h1 (by omega)).mono ?_
  rintro e w1 ⟨x1, h⟩
  rw [hx.out] at h
  exact ⟨by rw [← hq.out]; exact h, x1⟩
/-- what Decode answers -/
def RDecOut (w : World) (xs : List UInt8) (e : Ending) (w' : World) : Prop := ∃ A c, e = .returned (.tuple #[.slice A (decL xs).length c, .int .i64 (decE xs)]) ∧ Rw w' A c (decL xs) ∧ Ext w w'
theorem RDecOut.no {w w' : World} {xs : List UInt8} (h : decV xs = none) (x : Ext w w') : RDecOut w xs (.returned (.tuple #[.slice none 0 0, .int .i64 20])) w' := by
  unfold RDecOut
  rw [decL_none h, decE_none h]
  exact ⟨none, 0, rfl, Rw.nil _, x⟩
set_option maxRecDepth 100000 in
set_option maxHeartbeats 4000000 in
theorem refDec_any (A : Option Addr) (c n : Nat) (xs : List UInt8) (w : World) (e1 : Hid (n = xs.length)) (h1 : Hid (Bs w A c xs)) (hn : n ≤ 100000000) :
    Calls Tryd.prog 30 #[.slice A n c] w (RDecOut w xs) := by
  have hcap := Sl.cap (show Sl w 1 A xs.length c (Lib.byteCells xs) from h1.out)
  rw [← e1.out] at hcap
  obtain ⟨hc1, hc9⟩ := hcap
  go_enter Tryd.func30, Tryd.ntmps30
  go_wp2
  go_loopg [4, 5] n (fun z u v wr => ∃ (i : Nat) (l : List Dat) (k c0 : Nat) (A0 : Option Addr), z = n - i ∧ i ≤ n ∧ v = .int .i64 i ∧ u = .slice A0 k c0 ∧ k ≤ 32 ∧ Hid (k = l.length) ∧ Hid (Own wr w.heap.size 91 4 A0 k c0 (rowC l)) ∧ Hid (rall xs = (rall (xs.drop i)).map (l ++ ·) ∧ ∀ d ∈ l, d.check = 0) ∧ Hid (Ext w wr))
  case atStart => exact ⟨0, [], 0, 0, none, rfl, Nat.zero_le _, rfl, rfl, by omega, Lib.hid rfl, Lib.hid (Own.nil _ _ _ _), Lib.hid ⟨by rw [List.drop_zero]; cases rall xs <;> rfl, fun d hd => nomatch hd⟩, Lib.hid (Ext.refl w)⟩
  case round =>
    obtain ⟨i, l, k, c0, A0, hz, hi, rfl, rfl, hk, HK, HO, HR, ER⟩ := hrel
    have HZ := Lib.hid hz
    clear hz
    by_cases hlt : i < n
    · have hil : i < xs.length := by rw [← e1.out]; exact hlt
      obtain ⟨ad, rfl, _⟩ := h1.out.at hil
      have hbs := (h1.out.ext ER.out).drop (k := i) (by omega)
      rw [if_neg (show ¬ c = i by omega), show (some ad : Option Addr).map (·.add i) = some (ad.add i) from rfl] at hbs
      have HBs := Lib.hid hbs
      have HLen : Hid (n - i = (xs.drop i).length) := Lib.hid (by rw [List.length_drop, ← e1.out])
      have HNe : Hid (xs.drop i ≠ []) := Lib.hid (by intro e; have := congrArg List.length e; rw [List.length_drop, List.length_nil] at this; omega)
      have m1 : True := trivial
      clear hbs hil
      rcases hq : rdat (xs.drop i) with _ | ⟨⟨kd, b, nd, s⟩, r⟩
      · have HQ := Lib.hid hq
        clear hq
        have HV : Hid (decV xs = none) := Lib.hid (decV_gave HR.out.1 HNe.out HQ.out)
        go_wp2_with (go_at_call 67; have mk := m1; clear m1 mk; refine (one_none _ _ _ (xs.drop i) _ HLen HNe HBs (by omega) HQ).mono ?_; rintro e w1 ⟨rfl, x1⟩; have X1 := Lib.hid (ER.out.trans x1); clear x1)
        go_ret2
        exact RDecOut.no HV.out ((X1.out.alloc _))
      · obtain ⟨q, hqq⟩ : ∃ q, (xs.drop i).length - r.length = q := ⟨_, rfl⟩
        have hlen := rdat_len _ _ _ hq
        have hsuf := rdat_suf _ _ _ hq
        have hdl : (xs.drop i).length = n - i := HLen.out.symm
        have hq0 : 0 < q := by omega
        have hqn : i + q ≤ n := by omega
        have hsz : s.size ≤ 140737488355328 := by have : s.size ≤ (xs.drop i).length := hlen.2; omega
        have HDr : Hid (xs.drop (i + q) = r) := Lib.hid (by rw [← List.drop_drop, ← hqq]; exact (List.suffix_iff_eq_drop.1 hsuf).symm)
        have hqz : ((q : Int) == 0) = false := by simp; omega
        have HQ := Lib.hid hq
        have HQQ := Lib.hid hqq
        obtain ⟨v, hv⟩ : ∃ v, checkT kd b nd s = v := ⟨_, rfl⟩
        have HV := Lib.hid hv
        clear hq hqq hv hlen hsuf hdl
        by_cases hv0 : v = 0
        · subst hv0
          by_cases hk32 : k = 32
          · have HN : Hid (decV xs = none) := Lib.hid (decV_ill HR.out.1 HNe.out HQ.out (.inr (by rw [← HK.out]; omega)))
            subst hk32
            go_wp2_with (first
              | (go_at_call 67; have mk := m1; clear m1 mk; refine (one_some _ _ _ (xs.drop i) _ HLen HNe HBs (by omega) HQ HQQ).mono ?_; rintro e w1 ⟨rfl, x1⟩; have F1 := Lib.hid ((ER.out.trans x1).alloc (.cells #[.int .u8 kd, .bool b, .int .i64 nd, .string s] 91)); have a1 := Bk.new w1 91 #[.int .u8 kd, .bool b, .int .i64 nd, .string s]; have a10 := a1.cell 0; have a11 := a1.cell 1; have a12 := a1.cell 2; have a13 := a1.cell 3; have m2 : True := trivial; clear x1)
              | (go_at_call 68; have mk := m2; clear m2 mk; refine (rcheck_at kd b nd s _ HV hsz).mono ?_; rintro e w2 ⟨rfl, x2⟩; have F2 := Lib.hid (F1.out.trans x2); have m3 : True := trivial))
            go_ret2
            exact RDecOut.no HN.out F2.out
          · have hkz : ((k : Int) == 32) = false := by simp; omega
            have hO1 := HO
            go_wp2_with (first
              | (go_at_call 67; have mk := m1; clear m1 mk; refine (one_some _ _ _ (xs.drop i) _ HLen HNe HBs (by omega) HQ HQQ).mono ?_; rintro e w1 ⟨rfl, x1⟩; have F1 := Lib.hid ((ER.out.trans x1).alloc (.cells #[.int .u8 kd, .bool b, .int .i64 nd, .string s] 91)); have O1 := Lib.hid (HO.out.ext (x1.alloc (.cells #[.int .u8 kd, .bool b, .int .i64 nd, .string s] 91))); have a1 := Bk.new w1 91 #[.int .u8 kd, .bool b, .int .i64 nd, .string s]; have A1 := Lib.hid a1; have a10 := a1.cell 0; have a11 := a1.cell 1; have a12 := a1.cell 2; have a13 := a1.cell 3; have m2 : True := trivial; clear x1 a1)
              | (go_at_call 68; have mk := m2; clear m2 mk; refine (rcheck_at kd b nd s _ HV hsz).mono ?_; rintro e w2 ⟨rfl, x2⟩; have F2 := Lib.hid (F1.out.trans x2); have O2 := Lib.hid (O1.out.ext x2); have a2 := A1.out.ext x2; have b0 := a2.cell 0; have b1 := a2.cell 1; have b2 := a2.cell 2; have b3 := a2.cell 3; have m3 : True := trivial; clear x2 a2)
              | (at_builtin; have mk := m3; clear m3 mk; go_loud (refine wpList_append_two _ elem_dat w.heap.size _ _ rfl rfl A0 k c0 (rowC l) rfl (O2.out.alloc _) _ 1 1 [.int .u8 kd, .bool b, .int .i64 nd, .string s] rfl (Sl.one _ _ _ 4 rfl) (rowC_one [⟨kd, b, nd, s⟩]) (by omega) (by decide) (by have := F2.out.size; simp; omega) ?_); intro A3 c3 w3 o3 g3 x3; clear x3; have O3 := Lib.hid o3; have F3 : Hid (Ext w w3) := Lib.hid ((F2.out.alloc _).grown g3 (fun j e => (O2.out.lt j e).1)); clear o3 g3))
            go_roundg (n - (i + q))
            case measure => have := HZ.out; omega
            case rel =>
              refine ⟨i + q, l ++ [⟨kd, b, nd, s⟩], k + 1, c3, A3, rfl, hqn, by go_num, rfl, by omega, Lib.hid (by rw [List.length_append, ← HK.out]; rfl), Lib.hid (by rw [rowC_append]; exact O3.out), Lib.hid ⟨?_, fun d hd => ?_⟩, F3⟩
              · rw [HR.out.1, rall_step HNe.out, HQ.out, HDr.out]
                simp only [Option.bind_some, Option.map_map]
                cases rall r with
                | none => rfl
                | some m => simp
              · rcases List.mem_append.1 hd with hd | hd
                · exact HR.out.2 d hd
                · rw [List.mem_singleton.1 hd]; exact HV.out
        · have HN : Hid (decV xs = none) := Lib.hid (decV_ill HR.out.1 HNe.out HQ.out (.inl (by show checkT kd b nd s ≠ 0; rw [HV.out]; exact hv0)))
          have hvz : (v != 0) = true := by simpa using hv0
          go_wp2_with (first
            | (go_at_call 67; have mk := m1; clear m1 mk; refine (one_some _ _ _ (xs.drop i) _ HLen HNe HBs (by omega) HQ HQQ).mono ?_; rintro e w1 ⟨rfl, x1⟩; have F1 := Lib.hid ((ER.out.trans x1).alloc (.cells #[.int .u8 kd, .bool b, .int .i64 nd, .string s] 91)); have a1 := Bk.new w1 91 #[.int .u8 kd, .bool b, .int .i64 nd, .string s]; have a10 := a1.cell 0; have a11 := a1.cell 1; have a12 := a1.cell 2; have a13 := a1.cell 3; have m2 : True := trivial; clear x1)
            | (go_at_call 68; have mk := m2; clear m2 mk; refine (rcheck_at kd b nd s _ HV hsz).mono ?_; rintro e w2 ⟨rfl, x2⟩; have F2 := Lib.hid (F1.out.trans x2); have m3 : True := trivial))
          go_ret2
          exact RDecOut.no HN.out F2.out
    · obtain rfl : i = n := by omega
      have HV : Hid (decV xs = some l) := Lib.hid (decV_some (by have := HR.out.1; rwa [List.drop_eq_nil_of_le (by rw [← e1.out]; exact Nat.le_refl _)] at this) (by rw [← HK.out]; exact hk) HR.out.2)
      go_wp2
      go_ret2
      unfold RDecOut
      rw [decL_some HV.out, decE_some HV.out, ← HK.out]
      refine ⟨A0, c0, rfl, ?_, ER.out⟩
      unfold Rw
      rw [← HK.out]
      exact HO.out.sl
end Go.Proofs.YtngeioghihbkeaaDoor
namespace Go.Proofs.YtngeioghihbkeaaDoor
open Go.RowKit

theorem rtext_put : ∀ (s r : List UInt8), rtext (s.flatMap escZ ++ (0 :: 1 :: r)) = some (s, r)
  | [], r => by
    show rtext (0 :: 1 :: r) = _
    rw [rtext.eq_def]
    rfl
  | c :: s, r => by
    rw [List.flatMap_cons, List.append_assoc]
    by_cases hc : c = 0
    · subst hc
      rw [escZ_zero]
      show rtext (0 :: 255 :: (s.flatMap escZ ++ (0 :: 1 :: r))) = _
      rw [rtext.eq_def]
      simp only [↓reduceIte]
      rw [if_neg (by decide), rtext_put s r]
      rfl
    · rw [escZ_some hc]
      show rtext (c :: (s.flatMap escZ ++ (0 :: 1 :: r))) = _
      rw [rtext.eq_def]
      simp only
      rw [if_neg hc, rtext_put s r]
      rfl
theorem rtext_back : ∀ (l t r : List UInt8), rtext l = some (t, r) → l = t.flatMap escZ ++ (0 :: 1 :: r)
  | [], t, r, h => by simp [rtext] at h
  | b :: l, t, r, h => by
    rw [rtext.eq_def] at h
    simp only at h
    by_cases hb : b = 0
    · rw [if_pos hb] at h
      match l, h with
      | [], h => simp at h
      | m :: l', h =>
        simp only at h
        by_cases m1 : m = 1
        · rw [if_pos m1] at h
          cases h
          rw [hb, m1]
          rfl
        · rw [if_neg m1] at h
          by_cases m2 : m = 255
          · rw [if_pos m2] at h
            cases hq : rtext l' with
            | none => rw [hq] at h; simp at h
            | some q =>
              rw [hq] at h
              have ih := rtext_back l' q.1 q.2 hq
              simp only [Option.map_some, Option.some.injEq, Prod.mk.injEq] at h
              rw [← h.1, ← h.2, List.flatMap_cons, escZ_zero, hb, m2]
              show (0 : UInt8) :: 255 :: l' = 0 :: 255 :: (q.1.flatMap escZ ++ _)
              rw [← ih]
          · rw [if_neg m2] at h; simp at h
    · rw [if_neg hb] at h
      cases hq : rtext l with
      | none => rw [hq] at h; simp at h
      | some q =>
        rw [hq] at h
        have ih := rtext_back l q.1 q.2 hq
        simp only [Option.map_some, Option.some.injEq, Prod.mk.injEq] at h
        rw [← h.1, ← h.2, List.flatMap_cons, escZ_some hb]
        show b :: l = b :: (q.1.flatMap escZ ++ _)
        rw [← ih]
theorem bytes_from : ∀ (l : List UInt8) (a : Nat), l.foldl (fun n c => n * 256 + c.toNat) a = a * 256 ^ l.length + bytesN l
  | [], a => by simp [bytesN]
  | c :: l, a => by
    have h1 : bytesN (c :: l) = (0 * 256 + c.toNat) * 256 ^ l.length + bytesN l := bytes_from l (0 * 256 + c.toNat)
    rw [List.foldl_cons, bytes_from l (a * 256 + c.toNat), h1, List.length_cons, Nat.pow_succ, Nat.add_mul, Nat.zero_mul, Nat.zero_add, Nat.mul_assoc a, Nat.mul_comm 256, Nat.add_assoc]
theorem bytesN_cons (c : UInt8) (l : List UInt8) : bytesN (c :: l) = c.toNat * 256 ^ l.length + bytesN l := by
  have h1 : bytesN (c :: l) = (0 * 256 + c.toNat) * 256 ^ l.length + bytesN l := bytes_from l (0 * 256 + c.toNat)
  rw [h1, Nat.zero_mul, Nat.zero_add]
theorem be_len : ∀ k m : Nat, (be k m).length = k
  | 0, _ => rfl
  | k + 1, m => by simp only [be, List.length_cons]; rw [be_len k]
theorem bytesN_be : ∀ k m : Nat, m < 256 ^ k → bytesN (be k m) = m
  | 0, m, h => by rw [Nat.pow_zero] at h; have : m = 0 := by omega
                  subst this; rfl
  | k + 1, m, h => by
    have hp : 0 < 256 ^ k := Nat.pow_pos (by decide)
    have h1 : m / 256 ^ k < 256 := Nat.div_lt_of_lt_mul (by rw [Nat.pow_succ, Nat.mul_comm] at h; rw [Nat.mul_comm]; omega)
    simp only [be]
    rw [bytesN_cons, be_len, bytesN_be k _ (Nat.mod_lt _ hp), UInt8.toNat_ofNat', Nat.mod_eq_of_lt h1, Nat.div_add_mod']
theorem bytesN_all (l : List UInt8) : bytesN l < 256 ^ l.length := by
  have := bytesN_lt l l.length (Nat.le_refl _)
  rwa [List.take_length] at this
theorem be_bytesN : ∀ l : List UInt8, be l.length (bytesN l) = l
  | [] => rfl
  | c :: l => by
    have hp : 0 < 256 ^ l.length := Nat.pow_pos (by decide)
    have hb := bytesN_all l
    rw [bytesN_cons, List.length_cons]
    simp only [be]
    rw [Nat.add_comm (c.toNat * _), Nat.add_mul_div_right _ _ hp, Nat.div_eq_of_lt hb, Nat.zero_add, Nat.add_mul_mod_self_right, Nat.mod_eq_of_lt hb, be_bytesN l]
    simp
theorem rdat_put {d : Dat} (h : d.check = 0) (hi : InD d) (r : List UInt8) : rdat (putT d ++ r) = some (d, r) := by
  obtain ⟨k, b, n, s⟩ := d
  obtain ⟨hk, a1, a2, a3⟩ := datum_form h
  simp only at hk a1 a2 a3
  rcases hk with rfl | rfl | rfl | rfl
  · rw [a1 (by omega), a2 (by omega), a3 (by omega)]; rfl
  · rw [a2 (by omega), a3 (by omega)]
    cases b <;> rfl
  · rw [a1 (by omega), a3 (by omega)]
    have hm : (n + 9223372036854775808).toNat < 18446744073709551616 := by unfold InD at hi; simp only at hi; omega
    have hput : putT ⟨3, false, n, ⟨#[]⟩⟩ ++ r = 48 :: (be8 (n + 9223372036854775808).toNat ++ r) := rfl
    rw [hput, be8_is _ hm]
    have hl := be_len 8 (n + 9223372036854775808).toNat
    show (if 8 ≤ (be 8 (n + 9223372036854775808).toNat ++ r).length then some ((⟨3, false, (bytesN ((be 8 (n + 9223372036854775808).toNat ++ r).take 8) : Int) - 9223372036854775808, ⟨#[]⟩⟩ : Dat), (be 8 (n + 9223372036854775808).toNat ++ r).drop 8) else none) = _
    rw [if_pos (by rw [List.length_append, hl]; omega), List.take_left' hl, List.drop_left' hl, bytesN_be 8 _ (by rw [show (256 : Nat) ^ 8 = 18446744073709551616 by decide]; exact hm)]
    have e : ((n + 9223372036854775808).toNat : Int) - 9223372036854775808 = n := by unfold InD at hi; simp only at hi; omega
    rw [e]
  · rw [a1 (by omega), a2 (by omega)]
    have hput : putT ⟨4, false, 0, s⟩ ++ r = 64 :: (s.data.toList.flatMap escZ ++ (0 :: 1 :: r)) := by
      show 64 :: (s.data.toList.flatMap escZ ++ [0, 1]) ++ r = _
      simp
    rw [hput]
    show (rtext _).map (fun q => ((⟨4, false, 0, ⟨q.1.toArray⟩⟩ : Dat), q.2)) = _
    rw [rtext_put]
    rfl
theorem rdat_back {l r : List UInt8} {d : Dat} (h : rdat l = some (d, r)) : l = putT d ++ r ∧ InD d := by
  cases l with
  | nil => simp [rdat] at h
  | cons k l =>
    simp only [rdat] at h
    by_cases k1 : k = 16
    · rw [if_pos k1] at h; cases h; exact ⟨by rw [k1]; rfl, by unfold InD; decide⟩
    rw [if_neg k1] at h
    by_cases k2 : k = 32
    · rw [if_pos k2] at h; cases h; exact ⟨by rw [k2]; rfl, by unfold InD; decide⟩
    rw [if_neg k2] at h
    by_cases k3 : k = 33
    · rw [if_pos k3] at h; cases h; exact ⟨by rw [k3]; rfl, by unfold InD; decide⟩
    rw [if_neg k3] at h
    by_cases k4 : k = 48
    · rw [if_pos k4] at h
      by_cases h8 : 8 ≤ l.length
      · rw [if_pos h8] at h
        simp only [Option.some.injEq, Prod.mk.injEq] at h
        have hl : (l.take 8).length = 8 := by rw [List.length_take]; omega
        have hb := bytesN_all (l.take 8)
        rw [hl, show (256 : Nat) ^ 8 = 18446744073709551616 by decide] at hb
        have e : ((bytesN (l.take 8) : Int) - 9223372036854775808 + 9223372036854775808).toNat = bytesN (l.take 8) := by omega
        rw [← h.1, ← h.2, k4]
        refine ⟨?_, by unfold InD; simp only; omega⟩
        show 48 :: l = 48 :: (be8 ((bytesN (l.take 8) : Int) - 9223372036854775808 + 9223372036854775808).toNat ++ l.drop 8)
        rw [e, be8_is _ hb]
        have hbe := be_bytesN (l.take 8)
        rw [hl] at hbe
        rw [hbe, List.take_append_drop]
      · rw [if_neg h8] at h; simp at h
    rw [if_neg k4] at h
    by_cases k5 : k = 64
    · rw [if_pos k5] at h
      cases hq : rtext l with
      | none => rw [hq] at h; simp at h
      | some q =>
        rw [hq] at h
        have ih := rtext_back l q.1 q.2 hq
        simp only [Option.map_some, Option.some.injEq, Prod.mk.injEq] at h
        rw [← h.1, ← h.2, k5]
        refine ⟨?_, by unfold InD; simp only; omega⟩
        show 64 :: l = 64 :: (q.1.flatMap escZ ++ [0, 1]) ++ q.2
        rw [ih]
        simp
    · rw [if_neg k5] at h; simp at h
theorem rall_key : ∀ l : List Dat, (∀ d ∈ l, d.check = 0 ∧ InD d) → rall (keyT l) = some l
  | [], _ => rfl
  | d :: l, h => by
    have hd := h d (List.mem_cons_self ..)
    have e : keyT (d :: l) = putT d ++ keyT l := List.flatMap_cons ..
    have hne : putT d ++ keyT l ≠ [] := fun q => put_ne hd.1 (List.append_eq_nil_iff.1 q).1
    rw [e, rall_step hne, rdat_put hd.1 hd.2]
    simp only [Option.bind_some]
    rw [rall_key l (fun x hx => h x (List.mem_cons_of_mem _ hx))]
    rfl
theorem rall_back : ∀ (n : Nat) (xs : List UInt8) (m : List Dat), xs.length ≤ n → rall xs = some m → keyT m = xs ∧ ∀ d ∈ m, InD d
  | n, [], m, _, h => by rw [rall_nil] at h; cases h; exact ⟨rfl, fun d hd => nomatch hd⟩
  | 0, x :: xs, m, hn, _ => by simp at hn
  | n + 1, x :: xs, m, hn, h => by
    rw [rall_step (by simp)] at h
    cases hq : rdat (x :: xs) with
    | none => rw [hq] at h; cases h
    | some p =>
      obtain ⟨d, r⟩ := p
      rw [hq] at h
      simp only [Option.bind_some] at h
      cases hr : rall r with
      | none => rw [hr] at h; cases h
      | some m' =>
        rw [hr] at h
        simp only [Option.map_some, Option.some.injEq] at h
        have hl := (rdat_len _ _ _ hq).1
        obtain ⟨h1, h2⟩ := rall_back n r m' (by rw [List.length_cons] at hn hl; omega) hr
        obtain ⟨h3, h4⟩ := rdat_back hq
        rw [← h]
        refine ⟨?_, fun y hy => ?_⟩
        · show putT d ++ keyT m' = _
          rw [h1, ← h3]
        · rcases List.mem_cons.1 hy with rfl | hy
          · exact h4
          · exact h2 y hy
theorem decV_key {l : List Dat} (h : checkR l = 0) (hi : RwInt l) : decV (keyT l) = some l := by
  have hc := (checkR_ok l).1 h
  unfold decV
  rw [rall_key l (fun d hd => ⟨hc.2 d hd, hi d hd⟩)]
  exact if_pos h
theorem decV_back {xs : List UInt8} {l : List Dat} (h : decV xs = some l) : checkR l = 0 ∧ keyT l = xs ∧ RwInt l := by
  unfold decV at h
  cases hq : rall xs with
  | none => rw [hq] at h; cases h
  | some m =>
    rw [hq] at h
    simp only [Option.bind_some] at h
    by_cases hm : checkR m = 0
    · rw [if_pos hm] at h
      cases h
      obtain ⟨h1, h2⟩ := rall_back xs.length xs l (Nat.le_refl _) hq
      exact ⟨hm, h1, h2⟩
    · rw [if_neg hm] at h; cases h
theorem checked_txt {l : List Dat} (h : checkR l = 0) : RwTxt l := fun d hd => by
  have := size_of_check' (((checkR_ok l).1 h).2 d hd)
  omega
end Go.Proofs.YtngeioghihbkeaaDoor
