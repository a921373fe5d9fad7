/- penstockref00.SpoilRow, SpoilBytes, SpoilCounteds: they turn what they are handed, and nothing else. What is new memory, from where to where: rows, bytes, rows with counts; Pick, Encode, Decode, Sum, and the lenders, once more in these words. RowKeeps: what the Book is to be asked of, in the end: plain. Conditions: each theorem states its own. -/
import Derived.Test.YtngeioghihbkeaaDoorOwns
import Derived.Test.YtngeioghihbkeaaDoorRowL
import Derived.Test.YtngeioghihbkeaaDoorBytes
import Derived.Deep.LoopGhost
import Derived.Test.YtngeioghihbkeaaDoorSumsL
import Derived.Test.YtngeioghihbkeaaDoorSumOnce
import Derived.Test.YtngeioghihbkeaaDoorDecs
import Derived.Test.YtngeioghihbkeaaDoorLents
import Derived.Test.YtngeioghihbkeaaDoorHashes
namespace Go.Proofs.YtngeioghihbkeaaDoor
open Go.RowKit

theorem Own.full {w : World} {B s n c : Nat} {e : TypeId} {A : Option Addr} {xs : List Value} (h : Own w B e s A n c xs) : ∃ ys, Own w B e s A c c ys := by
  rcases h.2 with ⟨rfl, rfl⟩ | ⟨g, cur, rfl, hb, hg, hnc, hcm, hcs, _⟩
  · exact ⟨[], Own.empty _ _ _ _ _⟩
  · refine ⟨cur.toList.take (c * s), ?_, .inr ⟨g, cur, rfl, hb, hg, Nat.le_refl _, hcm, hcs, rfl⟩⟩
    rw [List.length_take]
    have : cur.toList.length = c * s := by simpa using hcs
    omega
theorem Own.len {w : World} {B s n c : Nat} {e : TypeId} {A : Option Addr} {xs : List Value} (h : Own w B e s A n c xs) : xs.length = n * s := h.1
set_option maxRecDepth 100000 in
set_option maxHeartbeats 2000000 in
theorem spoilBytes_any (A : Option Addr) (n nn c B : Nat) (xs : List Value) (w : World) (h : Hid (Own w B 5 1 A nn c xs)) (hn : n ≤ c) :
    Calls Tryd.prog 34 #[.slice A n c] w fun e w' => e = .returned (.tuple #[]) ∧ Upd (fun k => blk A c = some k) w w' := by
  have hc9 := h.out.le.2
  obtain ⟨ys, hy⟩ := h.out.full
  have HY := Lib.hid hy
  clear hy
  go_enter Tryd.func34, Tryd.ntmps34
  go_wp2
  go_loopg [3] c (fun z v wr => ∃ (i : Nat) (ys : List Value), z = c - i ∧ i ≤ c ∧ v = .int .i64 i ∧ Hid (Own wr B 5 1 A c c ys) ∧ Hid (Upd (fun k => blk A c = some k) w wr))
  case atStart => exact ⟨0, ys, rfl, Nat.zero_le _, rfl, HY, Lib.hid (Upd.refl _ _)⟩
  case round =>
    clear HY
    obtain ⟨i, ys, rfl, hi, rfl, HY, HU⟩ := hrel
    by_cases hlt : i < c
    · obtain ⟨g, eA, hb, _, _, hcl, hfz⟩ := HY.out.form (by omega)
      have hl := HY.out.len
      subst eA
      have q0 : wr.cell? ⟨g, i, none⟩ = some (ys[i]'(by omega)) := hcl _ _ (List.getElem?_eq_getElem (by omega))
      have z0 := hfz i
      have HB := Lib.hid hb
      clear hcl hfz hb
      go_wp2
      go_roundg (c - (i + 1))
      case measure => omega
      case rel => exact ⟨i + 1, _, rfl, by omega, by go_num, Lib.hid (HY.out.put i (.int .u8 238)), Lib.hid (HU.out.setCell (p := ⟨g, i, none⟩) (.inl HB.out) _)⟩
    · go_wp2
      go_returns
      exact ⟨rfl, HU.out⟩
set_option maxRecDepth 100000 in
set_option maxHeartbeats 2000000 in
theorem spoilRow_any (A : Option Addr) (n nn c B : Nat) (xs : List Value) (w : World) (h : Hid (Own w B 91 4 A nn c xs)) (hn : n ≤ c) :
    Calls Tryd.prog 36 #[.slice A n c] w fun e w' => e = .returned (.tuple #[]) ∧ Upd (fun k => blk A c = some k) w w' := by
  have hc9 := h.out.le.2
  obtain ⟨ys, hy⟩ := h.out.full
  have HY := Lib.hid hy
  clear hy
  go_enter Tryd.func36, Tryd.ntmps36
  go_wp2
  go_loopg [3] c (fun z v wr => ∃ (i : Nat) (ys : List Value), z = c - i ∧ i ≤ c ∧ v = .int .i64 i ∧ Hid (Own wr B 91 4 A c c ys) ∧ Hid (Upd (fun k => blk A c = some k) w wr))
  case atStart => exact ⟨0, ys, rfl, Nat.zero_le _, rfl, HY, Lib.hid (Upd.refl _ _)⟩
  case round =>
    clear HY
    obtain ⟨i, ys, rfl, hi, rfl, HY, HU⟩ := hrel
    by_cases hlt : i < c
    · obtain ⟨g, eA, hb, _, _, hcl, hfz⟩ := HY.out.form (by omega)
      have hl := HY.out.len
      subst eA
      have q0 : wr.cell? ⟨g, i * 4, none⟩ = some (ys[i * 4]'(by omega)) := hcl _ _ (List.getElem?_eq_getElem (by omega))
      have z0 := hfz (i * 4)
      have q1 : wr.cell? ⟨g, i * 4 + 1, none⟩ = some (ys[i * 4 + 1]'(by omega)) := hcl _ _ (List.getElem?_eq_getElem (by omega))
      have z1 := hfz (i * 4 + 1)
      have q2 : wr.cell? ⟨g, i * 4 + 2, none⟩ = some (ys[i * 4 + 2]'(by omega)) := hcl _ _ (List.getElem?_eq_getElem (by omega))
      have z2 := hfz (i * 4 + 2)
      have q3 : wr.cell? ⟨g, i * 4 + 3, none⟩ = some (ys[i * 4 + 3]'(by omega)) := hcl _ _ (List.getElem?_eq_getElem (by omega))
      have z3 := hfz (i * 4 + 3)
      have HB := Lib.hid hb
      clear hcl hfz hb
      go_wp2
      go_roundg (c - (i + 1))
      case measure => omega
      case rel => exact ⟨i + 1, _, rfl, by omega, by go_num, Lib.hid ((((HY.out.put (i * 4) (.int .u8 93)).put (i * 4 + 1) (.bool false)).put (i * 4 + 2) (.int .i64 0)).put (i * 4 + 3) (.string ⟨#[]⟩)), Lib.hid ((((HU.out.setCell (p := ⟨g, i * 4, none⟩) (.inl HB.out) _).setCell (p := ⟨g, i * 4 + 1, none⟩) (.inl HB.out) _).setCell (p := ⟨g, i * 4 + 2, none⟩) (.inl HB.out) _).setCell (p := ⟨g, i * 4 + 3, none⟩) (.inl HB.out) _)⟩
    · go_wp2
      go_returns
      exact ⟨rfl, HU.out⟩
/-- the blocks of lent rows with counts -/
def LentS (g : Nat) (L : List Ct) (k : Nat) : Prop := k = g ∨ ∃ x ∈ L, blk x.A x.c = some k
theorem lent_apart {L : List Ct} (h : Apart L) {i j : Nat} (hi : i < L.length) (hj : j < L.length) (hij : i < j) {k : Nat} (h1 : blk (L.getD i Ct.zero).A (L.getD i Ct.zero).c = some k) : blk (L.getD j Ct.zero).A (L.getD j Ct.zero).c ≠ some k := by
  intro h2
  rw [List.getD_eq_getElem?_getD, List.getElem?_eq_getElem hi] at h1
  rw [List.getD_eq_getElem?_getD, List.getElem?_eq_getElem hj] at h2
  obtain ⟨a, e1, e2⟩ := blk_some h1
  obtain ⟨b, e3, e4⟩ := blk_some h2
  have := List.pairwise_iff_getElem.1 h i j (by simpa using hi) (by simpa using hj) hij a b (by simpa using e1) (by simpa using e3)
  omega
set_option maxRecDepth 100000 in
set_option maxHeartbeats 4000000 in
theorem spoilCts_any (g n B : Nat) (L : List Ct) (w : World) (h : Hid (LentCts w B g n L)) (hn : n ≤ 1000000) :
    Calls Tryd.prog 37 #[.slice (some ⟨g, 0, none⟩) n (n + 1)] w fun e w' => e = .returned (.tuple #[]) ∧ Upd (LentS g L) w w' := by
  have HL := Lib.hid h.out.len
  have HP0 : Hid (∀ j, 0 ≤ j → j < n → LentX w B (L.getD j Ct.zero)) := Lib.hid (fun j _ hj => (h.out.rows _ (getD_mem (by rw [HL.out]; exact hj))).1)
  have HG : Hid (∀ j, j < n → ∃ k, (L.getD j Ct.zero).A = some ⟨k, 0, none⟩ ∧ g < k) := Lib.hid (fun j hj => by
    obtain ⟨_, k, e1, e2, _⟩ := h.out.rows _ (getD_mem (show j < L.length by rw [HL.out]; exact hj))
    exact ⟨k, e1, e2⟩)
  have HA := Lib.hid h.out.apart
  have HO0 := Lib.hid h.out.own
  go_enter Tryd.func37, Tryd.ntmps37
  go_wp2
  go_loopg [2] n (fun z v wr => ∃ i : Nat, z = n - i ∧ i ≤ n ∧ v = .int .i64 i ∧ Hid (Own wr B 32 2 (some ⟨g, 0, none⟩) (n + 1) (n + 1) (ctsC (L ++ [ctMark]))) ∧ Hid (∀ j, i ≤ j → j < n → LentX wr B (L.getD j Ct.zero)) ∧ Hid (Upd (LentS g L) w wr))
  case atStart => exact ⟨0, rfl, Nat.zero_le _, rfl, HO0, HP0, Lib.hid (Upd.refl _ _)⟩
  case round =>
    clear HO0 HP0
    obtain ⟨i, rfl, hi, rfl, HO, HP, HU⟩ := hrel
    by_cases hlt : i < n
    · have hil : i < L.length := by rw [HL.out]; exact hlt
      have hrow := HP.out i (Nat.le_refl _) hlt
      obtain ⟨k, eA, hgk⟩ := HG.out i hlt
      have hx : (ctsC (L ++ [ctMark]))[i * 2]? = some (.slice (L.getD i Ct.zero).A (L.getD i Ct.zero).l.length (L.getD i Ct.zero).c) := by
        have := ctsC_at (L ++ [ctMark]) i 0 (by rw [List.length_append]; omega) (by omega)
        rw [Nat.add_zero, List.getD_eq_getElem?_getD, List.getElem?_append_left hil, ← List.getD_eq_getElem?_getD] at this
        exact this
      obtain ⟨_, eg, _, _, _, hcl, _⟩ := HO.out.form (by omega)
      cases eg
      have p0 := hcl _ _ hx
      have hmem := getD_mem hil
      have hap : ∀ j, i + 1 ≤ j → j < n → ∀ q, blk (L.getD i Ct.zero).A (L.getD i Ct.zero).c = some q → blk (L.getD j Ct.zero).A (L.getD j Ct.zero).c ≠ some q := fun j h1 h2 q hq => lent_apart HA.out hil (by rw [HL.out]; exact h2) (by omega) hq
      have HIL := Lib.hid hil
      obtain ⟨x, hxx⟩ : ∃ x, L.getD i Ct.zero = x := ⟨_, rfl⟩
      rw [hxx] at hrow eA p0 hmem hap
      obtain ⟨A, c, l, kk⟩ := x
      obtain rfl : A = some ⟨k, 0, none⟩ := eA
      obtain ⟨nl, hnl⟩ : ∃ nl, l.length = nl := ⟨_, rfl⟩
      replace p0 : wr.cell? ⟨g, i * 2, none⟩ = some (.slice (some ⟨k, 0, none⟩) nl c) := by rw [← hnl]; exact p0
      have HR : Hid (Own wr B 91 4 (some ⟨k, 0, none⟩) (nl + 2) c (rowC (l ++ marks))) := Lib.hid (by rw [← hnl]; exact hrow)
      have hnc : nl ≤ c := by have := HR.out.le.1; omega
      have HM : Hid (⟨some ⟨k, 0, none⟩, c, l, kk⟩ ∈ L) := Lib.hid hmem
      have HAp := Lib.hid hap
      clear hrow hmem hap hcl hx hxx hnl hil
      go_wp2_with (go_at_call 36; go_loud (refine (spoilRow_any (some ⟨k, 0, none⟩) nl (nl + 2) c B _ _ HR hnc).mono ?_); rintro e w1 ⟨rfl, x1⟩)
      have hb : ∀ q, blk (some ⟨k, 0, none⟩) c = some q → q = k := fun q hq => by
        obtain ⟨a, e1, e2⟩ := blk_some hq
        cases e1
        exact e2.symm
      go_roundg (n - (i + 1))
      case measure => omega
      case rel => exact ⟨i + 1, rfl, by omega, by go_num, Lib.hid (HO.out.upd x1 (fun q hq hq2 => by
          have h1 := hb q hq2
          obtain ⟨a, e1, e2⟩ := blk_some hq
          cases e1
          simp only at e2
          omega)), Lib.hid (fun j h1 h2 => Own.upd (HP.out j (by omega) h2) x1 (fun q hq hq2 => HAp.out j h1 h2 q hq2 hq)), Lib.hid (HU.out.trans (x1.mono (fun q _ hq => .inr ⟨_, HM.out, hq⟩)))⟩
    · obtain rfl : i = n := by omega
      obtain ⟨ys, hy⟩ := HO.out.full
      have HY := Lib.hid hy
      clear hy
      go_wp2
      go_loopg [4] (i + 1) (fun z v wr => ∃ (j : Nat) (ys : List Value), z = i + 1 - j ∧ j ≤ i + 1 ∧ v = .int .i64 j ∧ Hid (Own wr B 32 2 (some ⟨g, 0, none⟩) (i + 1) (i + 1) ys) ∧ Hid (Upd (LentS g L) w wr))
      case atStart => exact ⟨0, ys, rfl, Nat.zero_le _, rfl, HY, HU⟩
      case round =>
        clear HY HU
        obtain ⟨j, ys, rfl, hj, rfl, HY, HU⟩ := hrel
        by_cases hlt2 : j < i + 1
        · obtain ⟨_, eg, _, _, _, hcl, hfz⟩ := HY.out.form (by omega)
          cases eg
          have hl := HY.out.len
          have q0 : wr.cell? ⟨g, j * 2, none⟩ = some (ys[j * 2]'(by omega)) := hcl _ _ (List.getElem?_eq_getElem (by omega))
          have z0 := hfz (j * 2)
          have q1 : wr.cell? ⟨g, j * 2 + 1, none⟩ = some (ys[j * 2 + 1]'(by omega)) := hcl _ _ (List.getElem?_eq_getElem (by omega))
          have z1 := hfz (j * 2 + 1)
          clear hcl hfz
          go_wp2
          go_roundg (i + 1 - (j + 1))
          case measure => omega
          case rel => exact ⟨j + 1, _, rfl, by omega, by go_num, Lib.hid ((HY.out.put (j * 2) (.slice none 0 0)).put (j * 2 + 1) (.int .i64 93)), Lib.hid ((HU.out.setCell (p := ⟨g, j * 2, none⟩) (.inl (.inl rfl)) _).setCell (p := ⟨g, j * 2 + 1, none⟩) (.inl (.inl rfl)) _)⟩
        · go_wp2
          go_returns
          exact ⟨rfl, HU.out⟩
end Go.Proofs.YtngeioghihbkeaaDoor
namespace Go.Proofs.YtngeioghihbkeaaDoor
open Go.RowKit

theorem Own.base {w : World} {B B' s n c : Nat} {e : TypeId} {A : Option Addr} {xs : List Value} (h : Own w B e s A n c xs) (hb : ∀ k, blk A c = some k → B' ≤ k) : Own w B' e s A n c xs := by
  refine ⟨h.1, ?_⟩
  rcases h.2 with hz | ⟨g, cur, rfl, _, hg, hnc, rest⟩
  · exact .inl hz
  · cases c with
    | zero => exact .inl ⟨rfl, by omega⟩
    | succ c => exact .inr ⟨g, cur, rfl, hb g rfl, hg, hnc, rest⟩
/-- new memory from lo on, below hi -/
structure KP (w : World) (lo hi : Nat) (e : TypeId) (size : Nat) (x : En) (xs : List Value) : Prop where
  own : Own w lo e size x.A x.n x.c xs
  top : ∀ k, x.b = some k → k < hi
theorem KP.ext {w w' : World} {lo hi : Nat} {e : TypeId} {size : Nat} {x : En} {xs : List Value} (h : KP w lo hi e size x xs) (y : Ext w w') : KP w' lo hi e size x xs := ⟨h.own.ext y, h.top⟩
theorem KP.upd {S : Nat → Prop} {w w' : World} {lo hi : Nat} {e : TypeId} {size : Nat} {x : En} {xs : List Value} (h : KP w lo hi e size x xs) (y : Upd S w w') (hS : ∀ k, lo ≤ k → k < hi → ¬ S k) : KP w' lo hi e size x xs :=
  ⟨h.own.upd y (fun k hk => hS k (h.own.lt k hk).1 (h.top k hk)), h.top⟩
theorem KP.of {w : World} {lo : Nat} {e : TypeId} {size n c : Nat} {A : Option Addr} {xs : List Value} (h : Own w lo e size A n c xs) : KP w lo w.heap.size e size ⟨A, n, c⟩ xs := ⟨h, fun k hk => (h.lt k hk).2⟩
theorem KP.iv {w w' : World} {lo hi : Nat} {e : TypeId} {size : Nat} {x : En} {xs : List Value} (h : KP w lo hi e size x xs) (u : Upd (fun k => blk x.A x.c = some k) w w') : Upd (fun k => lo ≤ k ∧ k < hi) w w' :=
  u.mono (fun k _ hk => ⟨(h.own.lt k hk).1, h.top k hk⟩)
/-- rows with counts, new -/
structure KS (w : World) (lo hi : Nat) (x : En) (R : List Ct) : Prop where
  own : Own w lo 32 2 x.A x.n x.c (ctsC R)
  n : x.n = R.length
  top : ∀ k, x.b = some k → k < hi
  rows : ∀ y ∈ R, Own w lo 91 4 y.A y.l.length y.c (rowC y.l)
  rhi : ∀ y ∈ R, ∀ k, blk y.A y.c = some k → k < hi ∧ x.b ≠ some k
  apart : Apart R
theorem KS.ext {w w' : World} {lo hi : Nat} {x : En} {R : List Ct} (h : KS w lo hi x R) (y : Ext w w') : KS w' lo hi x R := ⟨h.own.ext y, h.n, h.top, fun z hz => (h.rows z hz).ext y, h.rhi, h.apart⟩
theorem KS.upd {S : Nat → Prop} {w w' : World} {lo hi : Nat} {x : En} {R : List Ct} (h : KS w lo hi x R) (y : Upd S w w') (hS : ∀ k, lo ≤ k → k < hi → ¬ S k) : KS w' lo hi x R :=
  ⟨h.own.upd y (fun k hk => hS k (h.own.lt k hk).1 (h.top k hk)), h.n, h.top, fun z hz => (h.rows z hz).upd y (fun k hk => hS k ((h.rows z hz).lt k hk).1 (h.rhi z hz k hk).1), h.rhi, h.apart⟩
theorem KS.cin {w : World} {lo hi : Nat} {x : En} {R : List Ct} (h : KS w lo hi x R) : Cin w x.A x.c R := ⟨by have := h.own.sl; rwa [h.n] at this, fun y hy => (h.rows y hy).sl⟩
theorem sum_ks {w w' : World} {L : List Ct} {e : Ending} (h : SumRes w L e w') : ∃ A m c R, e = .returned (.slice A m c) ∧ KS w' w.heap.size w'.heap.size ⟨A, m, c⟩ R ∧ R.map valC = sumV (L.map valC) ∧ Ext w w' := by
  obtain ⟨A, m, c, R, rfl, hm, ho, hr, ha, hv, X⟩ := h
  refine ⟨A, m, c, R, rfl, ⟨ho, hm, fun k hk => (ho.lt k hk).2, fun y hy => Own.base (hr y hy).1 (fun k hk => ?_), fun y hy k hk => ⟨((hr y hy).1.lt k hk).2, ?_⟩, ha⟩, hv, X⟩
  · obtain ⟨a, e1, e2⟩ := blk_some hk
    have := ((hr y hy).2 a e1).1
    omega
  · obtain ⟨a, e1, e2⟩ := blk_some hk
    have := ((hr y hy).2 a e1).2
    rw [← e2]
    exact this
/-- lent rows with counts -/
structure KY (w : World) (lo hi g n : Nat) (M : List Ct) : Prop where
  lent : LentCts w lo g n M
  top : ∀ k, LentS g M k → lo ≤ k ∧ k < hi
theorem KY.ext {w w' : World} {lo hi g n : Nat} {M : List Ct} (h : KY w lo hi g n M) (y : Ext w w') : KY w' lo hi g n M := ⟨h.lent.ext y, h.top⟩
theorem KY.upd {S : Nat → Prop} {w w' : World} {lo hi g n : Nat} {M : List Ct} (h : KY w lo hi g n M) (y : Upd S w w') (hS : ∀ k, lo ≤ k → k < hi → ¬ S k) : KY w' lo hi g n M := by
  have hn : ∀ k, LentS g M k → ¬ S k := fun k hk => hS k (h.top k hk).1 (h.top k hk).2
  refine ⟨⟨h.lent.own.upd y (fun k hk => hn k (.inl (by obtain ⟨a, e1, e2⟩ := blk_some hk; cases e1; exact e2.symm))), fun x hx => ?_, h.lent.apart, h.lent.len⟩, h.top⟩
  obtain ⟨h1, q, e1, e2, e3⟩ := h.lent.rows x hx
  exact ⟨Own.upd h1 y (fun k hk => hn k (.inr ⟨x, hx, hk⟩)), q, e1, e2, Nat.lt_of_lt_of_le e3 y.size⟩
theorem lentCts_ky {w w' : World} {n : Nat} {L : List Ct} {e : Ending} (h : LentCR w n L e w') : ∃ g M, e = .returned (.slice (some ⟨g, 0, none⟩) n (n + 1)) ∧ KY w' w.heap.size w'.heap.size g n M ∧ M.map valC = L.map valC ∧ Ext w w' := by
  obtain ⟨g, M, rfl, hg, hl, hv, X⟩ := h
  refine ⟨g, M, rfl, ⟨hl, fun k hk => ?_⟩, hv, X⟩
  rcases hk with rfl | ⟨x, hx, hk⟩
  · exact ⟨hg, by have := hl.own.lt k rfl; omega⟩
  · obtain ⟨h1, q, e1, e2, e3⟩ := hl.rows x hx
    obtain ⟨a, e4, e5⟩ := blk_some hk
    rw [e1] at e4
    cases e4
    simp only at e5
    omega
theorem ext_upd {S : Nat → Prop} {a w w' : World} (h : Ext a w) (u : Upd S w w') (hS : ∀ k, S k → a.heap.size ≤ k) : Ext a w' :=
  ⟨u.os.trans (Below.os h), u.tape.trans (Below.tape h), u.output.trans (Below.output h), Nat.le_trans h.size u.size, fun k hk => (u.block k (Nat.lt_of_lt_of_le hk h.size) (fun q => by have := hS k q; omega)).trans (Below.block h k hk)⟩
/-! ### the program's functions -/
def PickV (l : List Dat) (cs : List Int) (np : Nat) (vp : Int) (pl : List Dat) : Prop := (pickOk l cs ∧ np = cs.length ∧ vp = 0 ∧ pl = pickL l cs) ∨ (¬ pickOk l cs ∧ np = 0 ∧ vp = 20 ∧ pl = [])
theorem pickV_ex (l : List Dat) (cs : List Int) : ∃ np vp pl, PickV l cs np vp pl ∧ np = pl.length ∧ np ≤ 32 := by
  by_cases h : pickOk l cs
  · exact ⟨_, _, _, .inl ⟨h, rfl, rfl, rfl⟩, (pickL_len l cs).symm, h.1⟩
  · exact ⟨_, _, _, .inr ⟨h, rfl, rfl, rfl⟩, rfl, by omega⟩
theorem pick_k {np : Nat} {vp : Int} {pl : List Dat} (A C : Option Addr) (c cc n nc : Nat) (l : List Dat) (cs : List Int) (w : World) (hp : Hid (PickV l cs np vp pl)) (e1 : Hid (n = l.length)) (e2 : Hid (nc = cs.length)) (h1 : Hid (Rw w A c l)) (h2 : Hid (Is w C cc cs)) :
    Calls Tryd.prog 26 #[.slice A n c, .slice C nc cc] w fun e w' => ∃ A c, e = .returned (.tuple #[.slice A np c, .int .u16 vp]) ∧ KP w' w.heap.size w'.heap.size 91 4 ⟨A, np, c⟩ (rowC pl) ∧ Ext w w' := by
  refine (pick_any A C c cc n nc l cs w e1 e2 h1 h2).mono ?_
  rintro e w1 ⟨x1, ⟨hk, A1, c1, rfl, o1⟩ | ⟨hk, rfl⟩⟩
  · rcases hp.out with ⟨_, rfl, rfl, rfl⟩ | ⟨h, _⟩
    · exact ⟨A1, c1, rfl, KP.of o1, x1⟩
    · exact absurd hk h
  · rcases hp.out with ⟨h, _⟩ | ⟨_, rfl, rfl, rfl⟩
    · exact absurd h hk
    · exact ⟨none, 0, rfl, KP.of (Own.nil _ _ _ _), x1⟩
theorem enc_k {ve : Int} {ne : Nat} {ks : List UInt8} (A : Option Addr) (c n : Nat) (l : List Dat) (w : World) (hv : Hid (checkR l = ve)) (hx : Hid ((if checkR l = 0 then keyT l else []) = ks)) (hn : Hid (ne = ks.length)) (e1 : Hid (n = l.length)) (h1 : Hid (Rw w A c l)) (ht : Hid (RwTxt l)) (hi : Hid (RwInt l)) (G : Good w) :
    Calls Tryd.prog 23 #[.slice A n c] w fun e w' => ∃ A c, e = .returned (.tuple #[.slice A ne c, .int .u16 ve]) ∧ KP w' w.heap.size w'.heap.size 5 1 ⟨A, ne, c⟩ (Lib.byteCells ks) ∧ Ext w w' := by
  refine (encode_any A c n l w e1 h1 ht hi G).mono ?_
  rintro e w1 ⟨x1, A1, n1, c1, rfl, o1⟩
  rw [hx.out] at o1
  have hl := o1.len
  exact ⟨A1, c1, by rw [hv.out, hl, hn.out], KP.of (by have := o1.1; rwa [hl, ← hn.out] at this), x1⟩
theorem dec_k {l : List Dat} {k : Nat} (A : Option Addr) (c n : Nat) (xs : List UInt8) (w : World) (hv : Hid (decE xs = 0)) (hl : Hid (decL xs = l)) (hk : Hid (k = l.length)) (e1 : Hid (n = xs.length)) (h1 : Hid (Bs w A c xs)) (hn : n ≤ 100000000) (G : Good w) :
    Calls Tryd.prog 29 #[.slice A n c] w fun e w' => ∃ A c, e = .returned (.tuple #[.slice A k c, .int .u16 0]) ∧ KP w' w.heap.size w'.heap.size 91 4 ⟨A, k, c⟩ (rowC l) ∧ Ext w w' := by
  refine (decode_any A c n xs w e1 h1 (by rw [← e1.out]; omega) G).mono ?_
  rintro e w1 ⟨A1, c1, rfl, o1, x1⟩
  rw [hl.out, ← hk.out] at o1
  exact ⟨A1, c1, by rw [hl.out, hv.out, hk.out], KP.of (o1.mono (by omega)), x1⟩
theorem lentRow_k (A : Option Addr) (c n : Nat) (l : List Dat) (w : World) (hn : Hid (n = l.length)) (h : Hid (Rw w A c l)) (hs : n ≤ 1000000) :
    Calls Tryd.prog 33 #[.slice A n c] w fun e w' => ∃ g, e = .returned (.slice (some ⟨g, 0, none⟩) n (n + 2)) ∧ KP w' w.heap.size w'.heap.size 91 4 ⟨some ⟨g, 0, none⟩, n + 2, n + 2⟩ (rowC (l ++ marks)) ∧ Ext w w' := by
  refine (lentRow_any A c n l w hn.out h.out hs).mono ?_
  rintro e w1 ⟨g, rfl, _, o1, x1⟩
  exact ⟨g, rfl, KP.of o1, x1⟩
theorem lentBytes_k (A : Option Addr) (c n : Nat) (l : List UInt8) (w : World) (hn : Hid (n = l.length)) (h : Hid (Bs w A c l)) (hs : n ≤ 100000000) :
    Calls Tryd.prog 28 #[.slice A n c] w fun e w' => ∃ g, e = .returned (.slice (some ⟨g, 0, none⟩) n (n + 2)) ∧ KP w' w.heap.size w'.heap.size 5 1 ⟨some ⟨g, 0, none⟩, n + 2, n + 2⟩ (Lib.byteCells (l ++ marksB)) ∧ Ext w w' := by
  refine (lentBytes_any A c n l w hn h hs).mono ?_
  rintro e w1 ⟨g, rfl, _, o1, x1⟩
  exact ⟨g, rfl, KP.of o1, x1⟩
theorem KP.lentRw {w : World} {lo hi g n : Nat} {l : List Dat} (h : KP w lo hi 91 4 ⟨some ⟨g, 0, none⟩, n + 2, n + 2⟩ (rowC (l ++ marks))) (hn : n = l.length) : Rw w (some ⟨g, 0, none⟩) (n + 2) l := by
  have := Sl.take (k := l.length) h.own.sl (by show l.length ≤ n + 2; omega)
  rw [rowC_take, List.take_left] at this
  exact this
theorem KP.lentBs {w : World} {lo hi g n : Nat} {l : List UInt8} (h : KP w lo hi 5 1 ⟨some ⟨g, 0, none⟩, n + 2, n + 2⟩ (Lib.byteCells (l ++ marksB))) (hn : n = l.length) : Bs w (some ⟨g, 0, none⟩) (n + 2) l :=
  bs_left (lentBytes_is (g := g) (B := lo) hn h.own)
theorem KP.rw {w : World} {lo hi n c : Nat} {A : Option Addr} {l : List Dat} (h : KP w lo hi 91 4 ⟨A, n, c⟩ (rowC l)) (hn : n = l.length) : Rw w A c l := by
  unfold Rw
  rw [← hn]
  exact h.own.sl
theorem KP.bs {w : World} {lo hi n c : Nat} {A : Option Addr} {l : List UInt8} (h : KP w lo hi 5 1 ⟨A, n, c⟩ (Lib.byteCells l)) (hn : n = l.length) : Bs w A c l := by
  unfold Bs
  rw [← hn]
  exact h.own.sl
/-! ### the Book's lists, in the end -/
/-- lists with what they hold -/
def HoldAll (w : World) (B : Nat) (e : TypeId) (size : Nat) (P : List (En × List Value)) : Prop := ∀ p ∈ P, Own w B e size p.1.A p.1.n p.1.c p.2
def Far (P : List (En × List Value)) : Prop := P.Pairwise fun p q => ∀ k, p.1.b = some k → q.1.b ≠ some k
theorem lists_of {w : World} {B : Nat} {e : TypeId} {size : Nat} {P : List (En × List Value)} (h : HoldAll w B e size P) (hf : Far P) : Lists w B e size (P.map (·.1)) (fun i => (P.getD i (En.zero, [])).2) := by
  have key : ∀ i, (hi : i < (P.map (·.1)).length) → ∃ h2 : i < P.length, ena (P.map (·.1)) i = P[i].1 ∧ (P.getD i (En.zero, [])).2 = P[i].2 := fun i hi => by
    have h2 : i < P.length := by rwa [List.length_map] at hi
    refine ⟨h2, ?_, ?_⟩
    · unfold ena
      rw [List.getD_eq_getElem?_getD, List.getElem?_map, List.getElem?_eq_getElem h2]
      rfl
    · rw [List.getD_eq_getElem?_getD, List.getElem?_eq_getElem h2]
      rfl
  refine ⟨fun i hi => ?_, fun i j hi hj hij k h1 h2 => ?_⟩
  · obtain ⟨q, e1, e2⟩ := key i hi
    rw [e1, e2]
    exact h _ (List.getElem_mem q)
  · obtain ⟨q1, e1, _⟩ := key i hi
    obtain ⟨q2, e2, _⟩ := key j hj
    rw [e1] at h1
    rw [e2] at h2
    rcases Nat.lt_or_gt_of_ne hij with q | q
    · exact List.pairwise_iff_getElem.1 hf i j q1 q2 q k h1 h2
    · exact List.pairwise_iff_getElem.1 hf j i q2 q1 q k h2 h1
theorem foot_mem {L : List En} {k : Nat} (h : Foot L k) : ∃ x ∈ L, x.b = some k := by
  obtain ⟨i, hi, hb⟩ := h
  refine ⟨ena L i, ?_, hb⟩
  unfold ena
  rw [List.getD_eq_getElem?_getD, List.getElem?_eq_getElem hi]
  exact List.getElem_mem hi
theorem few_of {L : List En} (h1 : L.length ≤ 10000) (h2 : ∀ x ∈ L, x.n ≤ 1000000) : Few L := by
  refine ⟨h1, fun i hi => h2 _ ?_⟩
  unfold ena
  rw [List.getD_eq_getElem?_getD, List.getElem?_eq_getElem hi]
  exact List.getElem_mem hi
def rowsP (R : List Ct) : List (En × List Value) := R.map fun x => (enC x, rowC x.l)
theorem rowsP_fst (R : List Ct) : (rowsP R).map (·.1) = R.map enC := by unfold rowsP; rw [List.map_map]; rfl
theorem rowsP_far {R : List Ct} (h : Apart R) : Far (rowsP R) := by
  unfold Far rowsP
  rw [List.pairwise_map]
  have h2 : R.Pairwise fun x y => ∀ a b, x.A = some a → y.A = some b → a.block ≠ b.block := by
    unfold Apart at h
    rwa [List.pairwise_map] at h
  refine h2.imp fun {x y} hxy k h1 h2 => ?_
  obtain ⟨a, e1, e2⟩ := blk_some h1
  obtain ⟨b, e3, e4⟩ := blk_some h2
  exact hxy a b e1 e3 (e2.trans e4.symm)
theorem KS.hold {w : World} {lo hi B : Nat} {x : En} {R : List Ct} (h : KS w lo hi x R) (hB : B ≤ lo) : HoldAll w B 91 4 (rowsP R) := by
  intro p hp
  obtain ⟨y, hy, rfl⟩ := List.mem_map.1 hp
  exact (h.rows y hy).mono hB
/-- the blocks of the rows -/
theorem KS.rowAt {w : World} {lo hi : Nat} {x : En} {R : List Ct} (h : KS w lo hi x R) {p : En × List Value} (hp : p ∈ rowsP R) {k : Nat} (hk : p.1.b = some k) : lo ≤ k ∧ k < hi ∧ x.b ≠ some k := by
  obtain ⟨y, hy, rfl⟩ := List.mem_map.1 hp
  exact ⟨((h.rows y hy).lt k hk).1, h.rhi y hy k hk⟩
theorem sumV_len2 (D : List V) : (sumV D).length ≤ D.length := by
  have key : ∀ (R : List V) (x : V), (addV R x).length ≤ R.length + 1 := by
    intro R x
    induction R with
    | nil => exact Nat.le_refl _
    | cons y R ih =>
      unfold addV
      split
      · rw [List.length_cons, List.length_cons]; omega
      · split
        · rw [List.length_cons, List.length_cons]; omega
        · rw [List.length_cons, List.length_cons]; omega
  have h2 : ∀ (D A : List V), (D.foldl addV A).length ≤ A.length + D.length := by
    intro D
    induction D with
    | nil => intro A; exact Nat.le_refl _
    | cons x D ih => intro A; rw [List.foldl_cons, List.length_cons]; have := ih (addV A x); have := key A x; omega
  unfold sumV sumAll
  exact Nat.le_trans (List.length_filter_le ..) (by have := h2 D []; simpa using this)
end Go.Proofs.YtngeioghihbkeaaDoor
namespace Go.Proofs.YtngeioghihbkeaaDoor
open Go.RowKit

theorem bk_upd {S : Nat → Prop} {w w' : World} {g : Nat} {t : TypeId} {cs : Array Value} (h : Bk w g t cs) (u : Upd S w w') (hn : ¬ S g) : Bk w' g t cs := (u.block g (Array.getElem?_eq_some_iff.1 h).1 hn).trans h
theorem book_new {w : World} {gb : Nat} (h : Bk w gb 71 (bookC (.slice none 0 0) (.slice none 0 0) (.slice none 0 0))) : BookAt w gb w.heap.size [] [] [] En.zero En.zero En.zero :=
  ⟨h, (Array.getElem?_eq_some_iff.1 h).1, Nat.le_refl _, Own.nil _ _ _ _, Own.nil _ _ _ _, Own.nil _ _ _ _, rfl, rfl, rfl, (fun _ h => nomatch h), (fun _ h => nomatch h), (fun _ h => nomatch h)⟩
theorem sum_rows {R L : List Ct} (h : R.map valC = sumV (L.map valC)) (hin : ∀ x ∈ L.map valC, InV x) (hl : ∀ x ∈ L, x.l.length ≤ 1000000) : R.length ≤ L.length ∧ ∀ x ∈ R, x.l.length ≤ 1000000 := by
  constructor
  · have := sumV_len2 (L.map valC)
    rw [← h, List.length_map, List.length_map] at this
    exact this
  · intro x hx
    have hm : valC x ∈ sumV (L.map valC) := by rw [← h]; exact List.mem_map.2 ⟨x, hx, rfl⟩
    obtain ⟨_, _, y, hy, e⟩ := sumV_mem hin hm
    obtain ⟨z, hz, rfl⟩ := List.mem_map.1 hy
    have e' : z.l = x.l := e
    rw [← e']
    exact hl z hz
/-- the Book's rows, with what they hold -/
def allR (D : List (En × List Value)) (p : En) (pl : List Dat) (RS RT : List Ct) : List (En × List Value) := ((D ++ [(p, rowC pl)]) ++ rowsP RS) ++ rowsP RT
theorem allR_fst (D : List (En × List Value)) (p : En) (pl : List Dat) (RS RT : List Ct) : (allR D p pl RS RT).map (·.1) = ((D.map (·.1) ++ [p]) ++ RS.map enC) ++ RT.map enC := by
  unfold allR
  rw [List.map_append, List.map_append, List.map_append, rowsP_fst, rowsP_fst]
  rfl
structure Ready (w : World) (B h1 h7 : Nat) (D : List (En × List Value)) (p e s t : En) (pl : List Dat) (ks : List UInt8) (RS RT : List Ct) : Prop where
  hb : Lists w B 5 1 [e] (fun i => ([(e, Lib.byteCells ks)].getD i (En.zero, [])).2)
  hr : Lists w B 91 4 (((D.map (·.1) ++ [p]) ++ RS.map enC) ++ RT.map enC) (fun i => ((allR D p pl RS RT).getD i (En.zero, [])).2)
  hc : Lists w B 32 2 [s, t] (fun i => ([(s, ctsC RS), (t, ctsC RT)].getD i (En.zero, [])).2)
  br : ∀ k, Foot [e] k → ¬ Foot (((D.map (·.1) ++ [p]) ++ RS.map enC) ++ RT.map enC) k
  bc : ∀ k, Foot [e] k → ¬ Foot [s, t] k
  rc : ∀ k, Foot (((D.map (·.1) ++ [p]) ++ RS.map enC) ++ RT.map enC) k → ¬ Foot [s, t] k
  lt : ∀ k, OwnS [e] (((D.map (·.1) ++ [p]) ++ RS.map enC) ++ RT.map enC) [s, t] k → h1 ≤ k ∧ k < h7
theorem ready {w : World} {B h1 h2 h3 h4 h5 h6 h7 : Nat} {D : List (En × List Value)} {p e s t : En} {pl : List Dat} {ks : List UInt8} {RS RT : List Ct} (kp : KP w h1 h2 91 4 p (rowC pl)) (ke : KP w h2 h3 5 1 e (Lib.byteCells ks)) (S : KS w h3 h4 s RS) (T : KS w h4 h5 t RT)
    (kd : ∀ q ∈ D, KP w h6 h7 91 4 q.1 q.2) (hD : D.length ≤ 1) (hB : B ≤ h1) (o1 : h1 ≤ h2) (o2 : h2 ≤ h3) (o3 : h3 ≤ h4) (o4 : h4 ≤ h5) (o5 : h5 ≤ h6) (o6 : h6 ≤ h7) : Ready w B h1 h7 D p e s t pl ks RS RT := by
  have bp : ∀ k, p.b = some k → h1 ≤ k ∧ k < h2 := fun k hk => ⟨(kp.own.lt k hk).1, kp.top k hk⟩
  have be : ∀ k, e.b = some k → h2 ≤ k ∧ k < h3 := fun k hk => ⟨(ke.own.lt k hk).1, ke.top k hk⟩
  have bs : ∀ k, s.b = some k → h3 ≤ k ∧ k < h4 := fun k hk => ⟨(S.own.lt k hk).1, S.top k hk⟩
  have bt : ∀ k, t.b = some k → h4 ≤ k ∧ k < h5 := fun k hk => ⟨(T.own.lt k hk).1, T.top k hk⟩
  have bd : ∀ q ∈ D, ∀ k, q.1.b = some k → h6 ≤ k ∧ k < h7 := fun q hq k hk => ⟨((kd q hq).own.lt k hk).1, (kd q hq).top k hk⟩
  have br' : ∀ q ∈ rowsP RS, ∀ k, q.1.b = some k → h3 ≤ k ∧ k < h4 ∧ s.b ≠ some k := fun q hq k hk => S.rowAt hq hk
  have bu' : ∀ q ∈ rowsP RT, ∀ k, q.1.b = some k → h4 ≤ k ∧ k < h5 ∧ t.b ≠ some k := fun q hq k hk => T.rowAt hq hk
  have holdR : HoldAll w B 91 4 (allR D p pl RS RT) := by
    intro q hq
    unfold allR at hq
    rcases List.mem_append.1 hq with hq | hq
    · rcases List.mem_append.1 hq with hq | hq
      · rcases List.mem_append.1 hq with hq | hq
        · exact (kd q hq).own.mono (by omega)
        · rw [List.mem_singleton] at hq; subst hq; exact kp.own.mono hB
      · exact S.hold (by omega) q hq
    · exact T.hold (by omega) q hq
  have farR : Far (allR D p pl RS RT) := by
    unfold Far allR
    refine List.pairwise_append.2 ⟨List.pairwise_append.2 ⟨List.pairwise_append.2 ⟨?_, List.pairwise_singleton _ _, fun a ha b hb k e1 e2 => ?_⟩, rowsP_far S.apart, fun a ha b hb k e1 e2 => ?_⟩, rowsP_far T.apart, fun a ha b hb k e1 e2 => ?_⟩
    · match D, hD with
      | [], _ => exact List.Pairwise.nil
      | [x], _ => exact List.pairwise_singleton _ _
    · rw [List.mem_singleton] at hb; subst hb
      have := bd a ha k e1; have := bp k e2; omega
    · have h8 := br' b hb k e2
      rcases List.mem_append.1 ha with ha | ha
      · have := bd a ha k e1; omega
      · rw [List.mem_singleton] at ha; subst ha; have := bp k e1; omega
    · have h8 := bu' b hb k e2
      rcases List.mem_append.1 ha with ha | ha
      · rcases List.mem_append.1 ha with ha | ha
        · have := bd a ha k e1; omega
        · rw [List.mem_singleton] at ha; subst ha; have := bp k e1; omega
      · have := br' a ha k e1; omega
  have footR : ∀ k, Foot (((D.map (·.1) ++ [p]) ++ RS.map enC) ++ RT.map enC) k → (h6 ≤ k ∧ k < h7) ∨ (h1 ≤ k ∧ k < h2) ∨ (h3 ≤ k ∧ k < h4 ∧ s.b ≠ some k) ∨ (h4 ≤ k ∧ k < h5 ∧ t.b ≠ some k) := by
    intro k hk
    rw [← allR_fst D p pl RS RT] at hk
    obtain ⟨x, hx, hb⟩ := foot_mem hk
    obtain ⟨q, hq, rfl⟩ := List.mem_map.1 hx
    unfold allR at hq
    rcases List.mem_append.1 hq with hq | hq
    · rcases List.mem_append.1 hq with hq | hq
      · rcases List.mem_append.1 hq with hq | hq
        · exact .inl (bd q hq k hb)
        · rw [List.mem_singleton] at hq; subst hq; exact .inr (.inl (bp k hb))
      · exact .inr (.inr (.inl (br' q hq k hb)))
    · exact .inr (.inr (.inr (bu' q hq k hb)))
  have footB : ∀ k, Foot [e] k → h2 ≤ k ∧ k < h3 := fun k hk => by
    obtain ⟨x, hx, hb⟩ := foot_mem hk
    rw [List.mem_singleton] at hx; subst hx
    exact be k hb
  have footC : ∀ k, Foot [s, t] k → s.b = some k ∨ t.b = some k := fun k hk => by
    obtain ⟨x, hx, hb⟩ := foot_mem hk
    rcases List.mem_cons.1 hx with rfl | hx
    · exact .inl hb
    · rw [List.mem_singleton] at hx; subst hx; exact .inr hb
  refine ⟨?_, ?_, ?_, fun k h8 h9 => ?_, fun k h8 h9 => ?_, fun k h8 h9 => ?_, fun k hk => ?_⟩
  · exact lists_of (P := [(e, Lib.byteCells ks)]) (fun q hq => by rw [List.mem_singleton] at hq; subst hq; exact ke.own.mono (by omega)) (List.pairwise_singleton _ _)
  · have := lists_of holdR farR
    rwa [allR_fst] at this
  · refine lists_of (P := [(s, ctsC RS), (t, ctsC RT)]) (fun q hq => ?_) (List.pairwise_pair.2 fun k e1 e2 => by have := bs k e1; have := bt k e2; omega)
    rcases List.mem_cons.1 hq with rfl | hq
    · exact S.own.mono (by omega)
    · rw [List.mem_singleton] at hq; subst hq; exact T.own.mono (by omega)
  · have := footB k h8
    rcases footR k h9 with q | q | q | q <;> omega
  · have := footB k h8
    rcases footC k h9 with q | q
    · have := bs k q; omega
    · have := bt k q; omega
  · rcases footC k h9 with q | q
    · have := bs k q
      rcases footR k h8 with q2 | q2 | q2 | q2
      · omega
      · omega
      · exact q2.2.2 q
      · omega
    · have := bt k q
      rcases footR k h8 with q2 | q2 | q2 | q2
      · omega
      · omega
      · omega
      · exact q2.2.2 q
  · rcases hk with hk | hk | hk
    · have := footB k hk; omega
    · rcases footR k hk with q | q | q | q <;> omega
    · rcases footC k hk with q | q
      · have := bs k q; omega
      · have := bt k q; omega
end Go.Proofs.YtngeioghihbkeaaDoor
