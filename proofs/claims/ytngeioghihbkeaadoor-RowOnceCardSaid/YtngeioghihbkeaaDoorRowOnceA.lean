/- RowOnce: its parts. Conditions: each theorem states its own. -/
import Derived.Test.YtngeioghihbkeaaDoorSumOnce
import Derived.Test.YtngeioghihbkeaaDoorRowSumsLaw
namespace Go.Proofs.YtngeioghihbkeaaDoor
open Go.RowKit

theorem checkU (l : List Dat) {v : Int} (h : checkR l = v) : checkR l = v := h
set_option maxRecDepth 100000 in
set_option maxHeartbeats 1000000 in
theorem plain_any (A : Option Addr) (c n : Nat) (L : List Ct) (w : World) (b : Bool) (hb : b = true ↔ ∀ x ∈ L, checkR x.l = 0) (hn : n = L.length) (h : Cin w A c L) (ht : ∀ x ∈ L, RwTxt x.l) (G : Good w) :
    Calls Tryd.prog 22 #[.slice A n c] w fun e w' => e = .returned (.bool b) ∧ Ext w w' := by
  have hnm := h.sl.le
  rw [← hn] at hnm
  have HN := Lib.hid hn
  have H := Lib.hid h
  have HB := Lib.hid hb
  have HT := Lib.hid ht
  clear hn h hb ht
  go_enter Tryd.func22, Tryd.ntmps22
  go_wp2
  go_loopg [3] n (fun z v wr => ∃ i : Nat, z = n - i ∧ i ≤ n ∧ v = .int .i64 i ∧ Hid (∀ x ∈ L.take i, checkR x.l = 0) ∧ Ext w wr)
  case atStart => exact ⟨0, rfl, Nat.zero_le _, rfl, Lib.hid (fun x hx => by simp at hx), Ext.refl _⟩
  case round =>
    obtain ⟨i, rfl, hi, rfl, HO, er⟩ := hrel
    by_cases hlt : i < n
    · have hil : i < L.length := by rw [← HN.out]; exact hlt
      obtain ⟨ad, rfl, p0, p1⟩ := (H.out.ext er).at hil
      have hm := getD_mem hil
      obtain ⟨x, hx⟩ : ∃ x, L.getD i Ct.zero = x := ⟨_, rfl⟩
      rw [hx] at p0 p1 hm
      obtain ⟨nx, hnx⟩ : ∃ nx, nx = x.l.length := ⟨_, rfl⟩
      rw [← hnx] at p0
      have HNX := Lib.hid hnx
      have HR := Lib.hid ((H.out.rows x hm).ext er)
      have HTX := Lib.hid (HT.out x hm)
      have HM := Lib.hid hm
      have GW := Lib.hid (G.ext er)
      obtain ⟨v, hv⟩ : ∃ v, checkR x.l = v := ⟨_, rfl⟩
      have HV := Lib.hid hv
      by_cases hv0 : v = 0
      · subst hv0
        have HO2 : Hid (∀ x ∈ L.take (i + 1), checkR x.l = 0) := Lib.hid (by
          rw [take_snocC hil, hx]
          intro y hy
          rcases List.mem_append.1 hy with q | q
          · exact HO.out y q
          · rw [List.mem_singleton.1 q]; exact hv)
        clear hil hm hx hnx hv
        go_wp2_with (go_at_call 25; refine (rowCheck_lit x.A x.c nx x.l _ HV HNX HR HTX GW.out).mono ?_; rintro e w1 ⟨rfl, x1⟩)
        go_roundg (n - (i + 1))
        case measure => omega
        case rel => exact ⟨i + 1, rfl, by omega, by go_num, HO2, er.trans x1⟩
      · have zv : (v == 0) = false := by simpa using hv0
        have zv2 : (!(v == 0)) = true := by rw [zv]; rfl
        have hbb : b = false := by
          cases b with
          | false => rfl
          | true => exact absurd (hv.symm.trans (HB.out.1 rfl x hm)) hv0
        subst hbb
        clear hil hm hx hnx hv HO
        go_wp2_with (go_at_call 25; refine (rowCheck_lit x.A x.c nx x.l _ HV HNX HR HTX GW.out).mono ?_; rintro e w1 ⟨rfl, x1⟩)
        go_ret
        exact ⟨rfl, er.trans x1⟩
    · have hbb : b = true := HB.out.2 (by
        have := HO.out
        rwa [List.take_of_length_le (by rw [← HN.out]; omega)] at this)
      subst hbb
      go_wp2
      go_ret
      exact ⟨rfl, er⟩
def OkAll (L : List Ct) : Prop := ∀ x ∈ L, checkR x.l = 0
def NotOk (L : List Ct) : Prop := ¬ OkAll L
theorem plain_t (A : Option Addr) (c n : Nat) (L : List Ct) (w : World) (hb : Hid (OkAll L)) (hn : Hid (n = L.length)) (h : Hid (Cin w A c L)) (ht : Hid (∀ x ∈ L, RwTxt x.l)) (G : Good w) :
    Calls Tryd.prog 22 #[.slice A n c] w fun e w' => e = .returned (.bool true) ∧ Ext w w' := plain_any A c n L w true ⟨fun _ => hb.out, fun _ => rfl⟩ hn.out h.out ht.out G
theorem plain_f (A : Option Addr) (c n : Nat) (L : List Ct) (w : World) (hb : Hid (NotOk L)) (hn : Hid (n = L.length)) (h : Hid (Cin w A c L)) (ht : Hid (∀ x ∈ L, RwTxt x.l)) (G : Good w) :
    Calls Tryd.prog 22 #[.slice A n c] w fun e w' => e = .returned (.bool false) ∧ Ext w w' := plain_any A c n L w false ⟨fun q => (nomatch q), fun q => absurd q hb.out⟩ hn.out h.out ht.out G
/-- what all rows that may be are like -/
structure AllOk (L : List Ct) : Prop where
  inl : InL L
  ok : ∀ x ∈ L, checkR x.l = 0
theorem AllOk.sub {L M : List Ct} (h : AllOk L) (hs : ∀ x ∈ M, x ∈ L) : AllOk M := ⟨fun x hx => h.inl x (hs x hx), fun x hx => h.ok x (hs x hx)⟩
theorem AllOk.app {L M : List Ct} (h : AllOk L) (k : AllOk M) : AllOk (L ++ M) :=
  ⟨fun x hx => (List.mem_append.1 hx).elim (h.inl x) (k.inl x), fun x hx => (List.mem_append.1 hx).elim (h.ok x) (k.ok x)⟩
theorem AllOk.inc {L : List Ct} (h : AllOk L) : ∀ x ∈ L, InC x := fun x hx => ⟨(h.inl x hx).1.txt, (h.inl x hx).1.int, (h.inl x hx).2, by have := ((checkR_ok x.l).1 (h.ok x hx)).1; omega⟩
theorem AllOk.inv {L : List Ct} (h : AllOk L) : ∀ v ∈ L.map valC, InV v := fun v hv => by
  obtain ⟨x, hx, rfl⟩ := List.mem_map.1 hv
  exact (h.inl x hx).2
theorem AllOk.canon {L : List Ct} (h : AllOk L) : Canon (L.map valC) := fun v hv u hu e => by
  obtain ⟨x, hx, rfl⟩ := List.mem_map.1 hv
  obtain ⟨y, hy, rfl⟩ := List.mem_map.1 hu
  exact row_zero _ _ (ok_data (h.ok x hx) (h.inl x hx).1.int) (ok_data (h.ok y hy) (h.inl y hy).1.int) e
/-- rows that come of others -/
theorem AllOk.of {L M : List Ct} (h : AllOk L) (hm : ∀ v ∈ M.map valC, InV v ∧ ∃ u ∈ L.map valC, u.1 = v.1) : AllOk M := by
  have key : ∀ x ∈ M, ∃ y ∈ L, y.l = x.l := fun x hx => by
    obtain ⟨_, u, hu, e⟩ := hm (valC x) (List.mem_map.2 ⟨x, hx, rfl⟩)
    obtain ⟨y, hy, rfl⟩ := List.mem_map.1 hu
    exact ⟨y, hy, e⟩
  refine ⟨fun x hx => ?_, fun x hx => ?_⟩
  · obtain ⟨y, hy, e⟩ := key x hx
    rw [← e]
    exact ⟨(h.inl y hy).1, (hm (valC x) (List.mem_map.2 ⟨x, hx, rfl⟩)).1⟩
  · obtain ⟨y, hy, e⟩ := key x hx
    rw [← e]
    exact h.ok y hy
theorem AllOk.sum {L M : List Ct} (h : AllOk L) (hm : M.map valC = sumV (L.map valC)) : AllOk M := h.of fun v hv => by
  rw [hm] at hv
  obtain ⟨h1, _, h3⟩ := sumV_mem h.inv hv
  exact ⟨h1, h3⟩
theorem Cin.own {w w' : World} {B m c : Nat} {A : Option Addr} {xs : List Value} {M : List Ct} (o : Own w' B 32 2 A m c xs) (hx : xs = ctsC M) (hm : m = M.length) (hr : ∀ x ∈ M, Rw w' x.A x.c x.l) : Cin w' A c M :=
  ⟨by subst hx hm; exact o.sl, hr⟩
theorem Cin.left {w : World} {A B : Option Addr} {c d : Nat} {L M : List Ct} (h : Cin w A c L) (k : Cin w B d M) : ∀ x ∈ L ++ M, Rw w x.A x.c x.l := fun x hx => (List.mem_append.1 hx).elim (h.rows x) (k.rows x)
theorem cin_app {w w' : World} {P k1 k2 c4 c d : Nat} {A4 A B : Option Addr} {L1 M1 : List Ct} (o : Own w' P 32 2 A4 (k1 + k2) c4 (ctsC L1 ++ ctsC M1)) (h1 : k1 = L1.length) (h2 : k2 = M1.length) (c1 : Cin w A c L1) (c2 : Cin w B d M1) (X : Ext w w') : Cin w' A4 c4 (L1 ++ M1) := by
  subst h1 h2
  refine ⟨?_, fun x hx => (List.mem_append.1 hx).elim (fun q => (c1.rows x q).ext X) (fun q => (c2.rows x q).ext X)⟩
  rw [ctsC_append, List.length_append]
  exact o.sl
theorem cin_app2 {w' : World} {P k1 k2 c4 : Nat} {A4 : Option Addr} {L1 M1 : List Ct} (o : Own w' P 32 2 A4 (k1 + k2) c4 (ctsC L1 ++ ctsC M1)) (h1 : k1 = L1.length) (h2 : k2 = M1.length) (r1 : ∀ x ∈ L1, Rw w' x.A x.c x.l) (r2 : ∀ x ∈ M1, Rw w' x.A x.c x.l) : Cin w' A4 c4 (L1 ++ M1) := by
  subst h1 h2
  refine ⟨?_, fun x hx => (List.mem_append.1 hx).elim (r1 x) (r2 x)⟩
  rw [ctsC_append, List.length_append]
  exact o.sl
theorem rw_row {w w' : World} {A : Option Addr} {c : Nat} {l : List Dat} {row : Option Nat} (h : Rw w A c l) (hx : w.grownBy w' row) (ha : ∀ g, row = some g → ∀ ad, A = some ad → ad.block ≠ g) : Rw w' A c l := by
  cases row with
  | none => exact h.ext (Ext.grown (Ext.refl w) hx (fun k e => nomatch e))
  | some g => exact h.upd hx (ha g rfl)
def Sums (w : World) (R : List Ct) : Prop := ∀ x ∈ R, ∀ ad, x.A = some ad → w.heap.size ≤ ad.block
theorem SumRes.cin2 {w w' : World} {L : List Ct} {e : Ending} (h : SumRes w L e w') : ∃ A m c M, e = .returned (.slice A m c) ∧ m = M.length ∧ Cin w' A c M ∧ M.map valC = sumV (L.map valC) ∧ Ext w w' ∧ Sums w M := by
  obtain ⟨A, m, c, R, rfl, hm, ho, hr, _, hv, X⟩ := h
  exact ⟨A, m, c, R, rfl, hm, ⟨by subst hm; exact ho.sl, fun x hx => (hr x hx).1.rw⟩, hv, X, fun x hx ad e => ((hr x hx).2 ad e).1⟩
end Go.Proofs.YtngeioghihbkeaaDoor
