/- Lists of changes in memory; a map from times' texts to changes. Conditions: each theorem states its own. -/
import Derived.Test.YtmdakaflmheidaaGreatDoorTms
import Derived.Test.YtmdakaflmheidaaGreatDoorChainLaw3
import Derived.Test.YtmdakaflmheidaaGreatDoorPrintInj
import Derived.Maps.OwnSet
import Derived.Maps.RangeWalk
namespace Go.Proofs.YtmdakaflmheidaaGreatDoor
open Go.RowKit

/-! ### changes -/
structure Cg where
  t : Tm
  d : Int
def Cg.zero : Cg := ⟨Tm.zero, 0⟩
instance : Inhabited Cg := ⟨Cg.zero⟩
def Cg.cv (x : Cg) : CV := (x.t.v, x.d)
def cgC (x : Cg) : List Value := [.int .u64 x.t.e, .slice x.t.A x.t.l.length x.t.c, .int .i64 x.d]
def cgV (x : Cg) : Value := .agg #[.int .u64 x.t.e, .slice x.t.A x.t.l.length x.t.c, .int .i64 x.d]
def cgsC (L : List Cg) : List Value := L.flatMap cgC
theorem cgsC_len (L : List Cg) : (cgsC L).length = L.length * 3 := by
  unfold cgsC
  induction L with
  | nil => rfl
  | cons d l ih => rw [List.flatMap_cons, List.length_append, ih, List.length_cons, show (cgC d).length = 3 from rfl]; omega
theorem cgsC_at : ∀ (L : List Cg) (i j : Nat), i < L.length → j < 3 → (cgsC L)[i * 3 + j]? = (cgC (L.getD i Cg.zero))[j]?
  | [], i, j, h, _ => absurd h (Nat.not_lt_zero _)
  | d :: l, 0, j, _, hj => by
    unfold cgsC
    rw [List.flatMap_cons, Nat.zero_mul, Nat.zero_add, List.getElem?_append_left (by rw [show (cgC d).length = 3 from rfl]; exact hj)]
    rfl
  | d :: l, i + 1, j, h, hj => by
    unfold cgsC
    rw [List.flatMap_cons, List.getElem?_append_right (by rw [show (cgC d).length = 3 from rfl]; omega), show (i + 1) * 3 + j - (cgC d).length = i * 3 + j by rw [show (cgC d).length = 3 from rfl]; omega]
    exact cgsC_at l i j (Nat.lt_of_succ_lt_succ h) hj
theorem cgsC_append (L M : List Cg) : cgsC (L ++ M) = cgsC L ++ cgsC M := List.flatMap_append
theorem cgsC_one (L : List Cg) : ∀ u ∈ cgsC L, u.oneCell' = true := by
  intro u hu
  obtain ⟨d, _, h⟩ := List.mem_flatMap.1 hu
  simp only [cgC, List.mem_cons, List.not_mem_nil, or_false] at h
  rcases h with rfl | rfl | rfl <;> rfl
theorem own_at3 {w : World} {n c : Nat} {A : Option Addr} {xs : List Value} (h : Sl w 3 A n c xs) {k : Nat} (hk : k < n) {l : List Value} {a b x : Value} (hl : l = [a, b, x]) (hx : ∀ q, q < 3 → xs[k * 3 + q]? = l[q]?) :
    ∃ ad, A = some ad ∧ w.cell? (ad.add (k * 3)) = some a ∧ w.cell? ⟨(ad.add (k * 3)).block, (ad.add (k * 3)).off + 1, none⟩ = some b ∧ w.cell? ⟨(ad.add (k * 3)).block, (ad.add (k * 3)).off + 2, none⟩ = some x := by
  subst hl
  obtain ⟨ad, e, hc⟩ := h.2.2.2.2 (by omega)
  exact ⟨ad, e, hc _ _ (hx 0 (by omega)), by rw [← addr_off _ _ 1 (by omega)]; exact hc _ _ (hx 1 (by omega)), by rw [← addr_off _ _ 2 (by omega)]; exact hc _ _ (hx 2 (by omega))⟩
/-- a list of changes as readings give it -/
structure Cin (w : World) (A : Option Addr) (c : Nat) (L : List Cg) : Prop where
  sl : Sl w 3 A L.length c (cgsC L)
  ls : ∀ x ∈ L, Sl w 1 x.t.A x.t.l.length x.t.c (wds x.t.l)
theorem Cin.ext {w w' : World} {A : Option Addr} {c : Nat} {L : List Cg} (h : Cin w A c L) (x : Ext w w') : Cin w' A c L := ⟨h.sl.ext x, fun y hy => (h.ls y hy).ext x⟩
theorem Cin.nil (w : World) : Cin w none 0 [] := ⟨Sl.nil w 3, fun x hx => (nomatch hx)⟩
theorem Cin.at {w : World} {A : Option Addr} {c : Nat} {L : List Cg} (h : Cin w A c L) {i : Nat} (hi : i < L.length) : ∃ ad, A = some ad ∧ w.cell? (ad.add (i * 3)) = some (.int .u64 (L.getD i Cg.zero).t.e) ∧
    w.cell? ⟨(ad.add (i * 3)).block, (ad.add (i * 3)).off + 1, none⟩ = some (.slice (L.getD i Cg.zero).t.A (L.getD i Cg.zero).t.l.length (L.getD i Cg.zero).t.c) ∧ w.cell? ⟨(ad.add (i * 3)).block, (ad.add (i * 3)).off + 2, none⟩ = some (.int .i64 (L.getD i Cg.zero).d) :=
  own_at3 h.sl hi (show cgC (L.getD i Cg.zero) = [.int .u64 (L.getD i Cg.zero).t.e, .slice (L.getD i Cg.zero).t.A (L.getD i Cg.zero).t.l.length (L.getD i Cg.zero).t.c, .int .i64 (L.getD i Cg.zero).d] from rfl) (fun q hq => cgsC_at L i q hi hq)
theorem getG_mem {L : List Cg} {i : Nat} (h : i < L.length) : L.getD i Cg.zero ∈ L := by
  rw [List.getD_eq_getElem?_getD, List.getElem?_eq_getElem h]
  exact List.getElem_mem h
theorem getG_cv {L : List Cg} {i : Nat} (h : i < L.length) : ∃ h2 : i < (L.map Cg.cv).length, (L.map Cg.cv)[i] = (L.getD i Cg.zero).cv := ⟨by rw [List.length_map]; exact h, by
  rw [List.getElem_map, List.getD_eq_getElem?_getD, List.getElem?_eq_getElem h]
  rfl⟩
theorem elemChg : Elem Tryz.prog 27 29 3 40 (.agg #[.int .u64 0, .slice none 0 0, .int .i64 0]) := ⟨by kernel_rfl, by kernel_rfl, rfl, by decide⟩

/-! ### the map -/
/-- a value told as it is -/
def tok (v : Value) : Option (DataW Value × List MemPlace) := some (.held v, [])
def keyT (v : TV) : Lit := .string (prT v.1 v.2).data.toList
/-- a time such as readings give: not too many counters -/
structure InV (v : TV) : Prop where
  e : 0 ≤ v.1 ∧ v.1 ≤ 18446744073709551615
  u : U32 v.2
  n : v.2.length ≤ 1000
theorem keyT_inj {v u : TV} (hv : InV v) (hu : InV u) (h : keyT v = keyT u) : v = u := by
  injection h with h
  exact prT_inj ⟨hv.e.1, fun x hx => (hv.u x hx).1⟩ ⟨hu.e.1, fun x hx => (hu.u x hx).1⟩ h
theorem keyedS : Maps.Keyed Tryz.prog 9 := Maps.string_keyed Tryz.underlying9
/-- block b is a map that holds the changes L, each at its time's text; their counters lie in memory -/
structure MapC (w : World) (b n : Nat) (D : DataW Value) (L : List Cg) : Prop where
  own : w.ownsMap Tryz.prog 9 tok b n D
  has : ∀ kl, Maps.has D kl = true ↔ ∃ x ∈ L, keyT x.t.v = kl
  atk : ∀ x ∈ L, ∀ z, D.atKey (keyT x.t.v) z = .held (cgV x)
  keys : KeysC (L.map Cg.cv)
  ls : ∀ x ∈ L, Sl w 1 x.t.A x.t.l.length x.t.c (wds x.t.l)
  inv : ∀ x ∈ L, InV x.t.v
  cnt : L.length ≤ n
section
variable {w w' : World} {b n : Nat} {D : DataW Value} {L : List Cg}
theorem owns_ext (h : w.ownsMap Tryz.prog 9 tok b n D) (x : Ext w w') : w'.ownsMap Tryz.prog 9 tok b n D := by
  have hlt := h.lt
  obtain ⟨es, clock, hb, r⟩ := h
  exact ⟨es, clock, x.heap hb, r⟩
theorem MapC.ext (h : MapC w b n D L) (x : Ext w w') : MapC w' b n D L := ⟨owns_ext h.own x, h.has, h.atk, h.keys, fun y hy => (h.ls y hy).ext x, h.inv, h.cnt⟩
theorem MapC.upd {S : Nat → Prop} (h : MapC w b n D L) (x : Upd S w w') (hb : ¬ S b) (hS : ∀ y ∈ L, ∀ k, blk y.t.A y.t.c = some k → ¬ S k) : MapC w' b n D L := by
  refine ⟨?_, h.has, h.atk, h.keys, fun y hy => (h.ls y hy).upd x (hS y hy), h.inv, h.cnt⟩
  have hlt := h.own.lt
  obtain ⟨es, clock, hb2, r⟩ := h.own
  exact ⟨es, clock, (x.block b hlt hb).trans hb2, r⟩
theorem MapC.new (w : World) : MapC (w.alloc (.map #[] 0)) w.heap.size 0 (.map []) [] :=
  ⟨World.ownsMap_made w _ _ _, fun kl => by simp [Maps.has_eq], fun x hx => (nomatch hx), List.Pairwise.nil, fun x hx => (nomatch hx), fun x hx => (nomatch hx), Nat.le_refl _⟩
theorem keyOf_prT (v : TV) (h : InV v) : keyOf Tryz.prog 9 (.string (prT v.1 v.2)) = some (keyT v) := Go.WideMaps.keyOf_string_mk Tryz.underlying9 (by
  have hp : (prT v.1 v.2).size ≤ 21 + 21 * v.2.length := by
    unfold prT
    split
    · have := digB_size h.e.2; omega
    · rw [ByteArray.size_append]
      have q := prK_size h.e.2 h.u v.2.length
      have : (⟨#[41]⟩ : ByteArray).size = 1 := rfl
      omega
  have := h.n
  unfold maxLen
  omega)
theorem zeroChg (w : World) : (zeroValue 29).run Tryz.prog w = .ok (.agg #[.int .u64 0, .slice none 0 0, .int .i64 0]) w := by kernel_rfl
/-- the change that is told at a time: its own, or nothing -/
def atC (L : List Cg) (v : TV) : Cg := (L.find? fun x => decide (x.t.v = v)).getD Cg.zero
theorem atC_d (L : List Cg) (v : TV) : (atC L v).d = getC (L.map Cg.cv) v := by
  unfold atC getC
  rw [List.find?_map]
  cases h : L.find? fun x => decide (x.t.v = v) with
  | none =>
    have : L.find? ((fun x : CV => decide (x.1 = v)) ∘ Cg.cv) = none := h
    rw [this]; rfl
  | some x =>
    have : L.find? ((fun x : CV => decide (x.1 = v)) ∘ Cg.cv) = some x := h
    rw [this]; rfl
set_option maxRecDepth 100000 in
theorem MapC.look (h : MapC w b n D L) {v : TV} (hv : InV v) : (Instr.lookup 70 (.map (some b)) (.string (prT v.1 v.2)) false).run Tryz.prog w = .ok (cgV (atC L v)) w := by
  obtain ⟨z, ps, hrun, hz⟩ := h.own.lookup keyedS Tryz.underlying70 (zeroChg w) (z := .agg #[.int .u64 0, .slice none 0 0, .int .i64 0]) (zd := .held (.agg #[.int .u64 0, .slice none 0 0, .int .i64 0])) (zp := []) rfl (keyOf_prT v hv)
  rw [hrun]
  have hz1 : (.held z : DataW Value) = D.atKey (keyT v) (.held (.agg #[.int .u64 0, .slice none 0 0, .int .i64 0])) := by
    unfold tok at hz
    injection hz with hz
    exact (Prod.mk.inj hz).1
  have key : z = cgV (atC L v) := by
    unfold atC
    cases hf : L.find? fun x => decide (x.t.v = v) with
    | none =>
      have hn : Maps.has D (keyT v) = false := by
        rw [Bool.eq_false_iff]
        intro q
        obtain ⟨x, hx, e⟩ := (h.has _).1 q
        have e2 := keyT_inj (h.inv x hx) hv e
        have := List.find?_eq_none.1 hf x hx
        simp [e2] at this
      rw [Maps.atKey_of_not_has hn] at hz1
      injection hz1 with hz1
    | some x =>
      have hx := List.mem_of_find?_eq_some hf
      have e := List.find?_some hf
      simp only [decide_eq_true_eq] at e
      rw [← e, h.atk x hx] at hz1
      injection hz1 with hz1
  rw [key]
end
end Go.Proofs.YtmdakaflmheidaaGreatDoor
