/- Lists of times in memory. Conditions: each theorem states its own. -/
import Derived.Test.YtmdakaflmheidaaGreatDoorChainLaw
import Derived.Test.YtmdakaflmheidaaGreatDoorTwo
import Derived.Test.YtmdakaflmheidaaGreatDoorOwnLaw
import Derived.Test.YtmdakaflmheidaaGreatDoorKeepA
namespace Go.Proofs.YtmdakaflmheidaaGreatDoor
open Go.RowKit

/-- a time that lies in memory -/
structure Tm where
  e : Int
  A : Option Addr
  c : Nat
  l : List Int
def Tm.zero : Tm := ⟨0, none, 0, []⟩
instance : Inhabited Tm := ⟨Tm.zero⟩
def Tm.v (x : Tm) : TV := (x.e, x.l)
def tmC (x : Tm) : List Value := [.int .u64 x.e, .slice x.A x.l.length x.c]
def tmV (x : Tm) : Value := .agg #[.int .u64 x.e, .slice x.A x.l.length x.c]
def tmsC (L : List Tm) : List Value := L.flatMap tmC
theorem tmsC_len (L : List Tm) : (tmsC L).length = L.length * 2 := by
  unfold tmsC
  induction L with
  | nil => rfl
  | cons d l ih => rw [List.flatMap_cons, List.length_append, ih, List.length_cons, show (tmC d).length = 2 from rfl]; omega
theorem tmsC_at : ∀ (L : List Tm) (i j : Nat), i < L.length → j < 2 → (tmsC L)[i * 2 + j]? = (tmC (L.getD i Tm.zero))[j]?
  | [], i, j, h, _ => absurd h (Nat.not_lt_zero _)
  | d :: l, 0, j, _, hj => by
    unfold tmsC
    rw [List.flatMap_cons, Nat.zero_mul, Nat.zero_add, List.getElem?_append_left (by rw [show (tmC d).length = 2 from rfl]; exact hj)]
    rfl
  | d :: l, i + 1, j, h, hj => by
    unfold tmsC
    rw [List.flatMap_cons, List.getElem?_append_right (by rw [show (tmC d).length = 2 from rfl]; omega), show (i + 1) * 2 + j - (tmC d).length = i * 2 + j by rw [show (tmC d).length = 2 from rfl]; omega]
    exact tmsC_at l i j (Nat.lt_of_succ_lt_succ h) hj
theorem tmsC_append (L M : List Tm) : tmsC (L ++ M) = tmsC L ++ tmsC M := List.flatMap_append
theorem tmsC_one (L : List Tm) : ∀ u ∈ tmsC L, u.oneCell' = true := by
  intro u hu
  obtain ⟨d, _, h⟩ := List.mem_flatMap.1 hu
  simp only [tmC, List.mem_cons, List.not_mem_nil, or_false] at h
  rcases h with rfl | rfl <;> rfl
theorem tmsC_take (L : List Tm) (k : Nat) : (tmsC L).take (k * 2) = tmsC (L.take k) := by
  induction L generalizing k with
  | nil => simp [tmsC]
  | cons x L ih =>
    cases k with
    | zero => simp [tmsC]
    | succ k =>
      show (tmC x ++ tmsC L).take _ = tmC x ++ tmsC (L.take k)
      rw [List.take_append, show (tmC x).length = 2 from rfl, show (k + 1) * 2 - 2 = k * 2 by omega, ih, List.take_of_length_le (by show 2 ≤ _; omega)]
theorem tmsC_drop (L : List Tm) (k : Nat) : (tmsC L).drop (k * 2) = tmsC (L.drop k) := by
  induction L generalizing k with
  | nil => simp [tmsC]
  | cons x L ih =>
    cases k with
    | zero => simp [tmsC]
    | succ k =>
      show (tmC x ++ tmsC L).drop _ = tmsC (L.drop k)
      rw [List.drop_append, show (tmC x).length = 2 from rfl, show (k + 1) * 2 - 2 = k * 2 by omega, ih, List.drop_of_length_le (by show 2 ≤ _; omega), List.nil_append]
/-- what every time is within: 64 bits, 32 bits -/
def InT (x : Tm) : Prop := (0 ≤ x.e ∧ x.e ≤ 18446744073709551615) ∧ U32 x.l ∧ x.l.length ≤ 100000
/-- a list of times as readings give it -/
structure Tin (w : World) (A : Option Addr) (c : Nat) (L : List Tm) : Prop where
  sl : Sl w 2 A L.length c (tmsC L)
  ls : ∀ x ∈ L, Sl w 1 x.A x.l.length x.c (wds x.l)
section
variable {w w' : World} {A : Option Addr} {c : Nat} {L : List Tm}
theorem Tin.ext (h : Tin w A c L) (x : Ext w w') : Tin w' A c L := ⟨h.sl.ext x, fun y hy => (h.ls y hy).ext x⟩
theorem Tin.nil (w : World) : Tin w none 0 [] := ⟨Sl.nil w 2, fun x hx => (nomatch hx)⟩
theorem Tin.at (h : Tin w A c L) {i : Nat} (hi : i < L.length) : ∃ ad, A = some ad ∧ w.cell? (ad.add (i * 2)) = some (.int .u64 (L.getD i Tm.zero).e) ∧ w.cell? ⟨(ad.add (i * 2)).block, (ad.add (i * 2)).off + 1, none⟩ = some (.slice (L.getD i Tm.zero).A (L.getD i Tm.zero).l.length (L.getD i Tm.zero).c) :=
  own_at2 h.sl hi (show tmC (L.getD i Tm.zero) = [.int .u64 (L.getD i Tm.zero).e, .slice (L.getD i Tm.zero).A (L.getD i Tm.zero).l.length (L.getD i Tm.zero).c] from rfl) (fun q hq => tmsC_at L i q hi hq)
theorem Tin.take (h : Tin w A c L) {k : Nat} (hk : k ≤ L.length) : Tin w A c (L.take k) := by
  have := Sl.take (k := k) h.sl hk
  rw [tmsC_take] at this
  exact ⟨by rw [List.length_take, Nat.min_eq_left hk]; exact this, fun x hx => h.ls x (List.mem_of_mem_take hx)⟩
end
theorem getT_mem {L : List Tm} {i : Nat} (h : i < L.length) : L.getD i Tm.zero ∈ L := by
  rw [List.getD_eq_getElem?_getD, List.getElem?_eq_getElem h]
  exact List.getElem_mem h
theorem getT_v {L : List Tm} {i : Nat} (h : i < L.length) : (L.map Tm.v)[i]'(by rw [List.length_map]; exact h) = (L.getD i Tm.zero).v := by
  rw [List.getElem_map, List.getD_eq_getElem?_getD, List.getElem?_eq_getElem h]
  rfl
theorem elemTimes : Elem Tryz.prog 54 26 2 32 (.agg #[.int .u64 0, .slice none 0 0]) := ⟨by kernel_rfl, by kernel_rfl, rfl, by decide⟩
/-- a list of times that a call has made, from block B on, each with counters of its own -/
structure Tout (w : World) (B : Nat) (A : Option Addr) (c : Nat) (L : List Tm) : Prop where
  own : Own w B 26 2 A L.length c (tmsC L)
  ls : ∀ x ∈ L, Own w B 74 1 x.A x.l.length x.c (wds x.l) ∧ ∀ k, blk x.A x.c = some k → blk A c ≠ some k
  apart : L.Pairwise fun x y => ∀ k, blk x.A x.c = some k → blk y.A y.c ≠ some k
section
variable {w w' : World} {B : Nat} {A : Option Addr} {c : Nat} {L : List Tm}
theorem Tout.ext (h : Tout w B A c L) (x : Ext w w') : Tout w' B A c L := ⟨h.own.ext x, fun y hy => ⟨(h.ls y hy).1.ext x, (h.ls y hy).2⟩, h.apart⟩
theorem Tout.mono (h : Tout w B A c L) {B' : Nat} (hb : B' ≤ B) : Tout w B' A c L := ⟨h.own.mono hb, fun y hy => ⟨(h.ls y hy).1.mono hb, (h.ls y hy).2⟩, h.apart⟩
theorem Tout.tin (h : Tout w B A c L) : Tin w A c L := ⟨h.own.sl, fun x hx => (h.ls x hx).1.sl⟩
theorem Tout.nil (w : World) (B : Nat) : Tout w B none 0 [] := ⟨Own.nil _ _ _ _, fun x hx => (nomatch hx), List.Pairwise.nil⟩
theorem Tout.upd {S : Nat → Prop} (h : Tout w B A c L) (x : Upd S w w') (hn : ∀ k, B ≤ k → ¬ S k) : Tout w' B A c L :=
  ⟨h.own.upd x (fun k hk => hn k (h.own.lt k hk).1), fun y hy => ⟨(h.ls y hy).1.upd x (fun k hk => hn k ((h.ls y hy).1.lt k hk).1), (h.ls y hy).2⟩, h.apart⟩
end
end Go.Proofs.YtmdakaflmheidaaGreatDoor
