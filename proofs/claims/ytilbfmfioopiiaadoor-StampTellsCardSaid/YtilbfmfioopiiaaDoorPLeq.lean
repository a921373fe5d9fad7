/- stamp.PathLeq: whether a way never comes behind where another one comes. Conditions: the slices are as readings give them, and not too long. -/
import Derived.Test.YtilbfmfioopiiaaDoorSmall
namespace Go.Proofs.YtilbfmfioopiiaaDoor
open Go.RowKit

/-- what a way does at a place -/
def placeT (L a : Int) (l : List Int) (d i : Int) : Bool × Int :=
  if i < d - L then (true, 0) else if i = d - L then (true, a) else (false, l.getD (i - (d - L) - 1).toNat 0)

set_option maxRecDepth 100000 in
set_option maxHeartbeats 400000 in
theorem within_w (L a d : Int) (A : Option Addr) (n c b : Nat) (w : World) (hd : w.cell? ⟨b, 0, none⟩ = some (.int .i64 d)) (hb : b < w.heap.size) :
    Calls Tryd.prog 37 #[.agg #[.int .i64 L, .int .u32 a, .slice A n c], .pointer (some ⟨b, 0, none⟩)] w (fun e w' => e = .returned (.bool (decide (0 ≤ L ∧ L ≤ d))) ∧ Ext w w') := by
  go_enter Tryd.func37, Tryd.ntmps37
  have hb1 : ¬ b = w.heap.size := by omega
  by_cases k1 : L ≥ 0
  · go_wp2
    by_cases k2 : L ≤ d
    · refine bodyPost_ret (v := .bool true) (by simp only [results, Tryd.results37]; go_simp) rfl ?_
      exact ⟨by simp [k2, show 0 ≤ L from k1], (Ext.refl w).alloc _⟩
    · refine bodyPost_ret (v := .bool false) (by simp only [results, Tryd.results37]; go_simp) rfl ?_
      exact ⟨by simp [k2], (Ext.refl w).alloc _⟩
  · go_wp2
    refine bodyPost_ret (v := .bool false) (by simp only [results, Tryd.results37]; go_simp) rfl ?_
    exact ⟨by simp [show ¬ 0 ≤ L by omega], (Ext.refl w).alloc _⟩

def PlaceOut (w : World) (r : Bool × Int) (e : Ending) (w' : World) : Prop := e = .returned (.tuple #[.bool r.1, .int .u32 r.2]) ∧ Ext w w'
set_option maxRecDepth 100000 in
set_option maxHeartbeats 1000000 in
theorem place_w (L a d i : Int) (A : Option Addr) (n c b : Nat) (l : List Int) (w : World) (hs : Sl w 1 A n c (wds l)) (hd : w.cell? ⟨b, 0, none⟩ = some (.int .i64 d)) (hb : b < w.heap.size)
    (h0 : 0 ≤ i) (h1 : 0 ≤ L) (h2 : L ≤ d) (h3 : d ≤ 1000) (hi : i - (d - L) - 1 < n) (hn : n ≤ 1000000) (hi2 : i ≤ 1000000) (ul : U32 l) :
    Calls Tryd.prog 38 #[.agg #[.int .i64 L, .int .u32 a, .slice A n c], .int .i64 i, .pointer (some ⟨b, 0, none⟩)] w (PlaceOut w (placeT L a l d i)) := by
  have i0 : IntKind.i64.wrap (d - L) = d - L := IntWalk.i64_in _ (by omega)
  have hb1 : ¬ b = w.heap.size := by omega
  by_cases k1 : i < d - L
  · have e : placeT L a l d i = (true, 0) := by unfold placeT; rw [if_pos k1]
    rw [e]
    go_enter Tryd.func38, Tryd.ntmps38
    go_wp2
    refine bodyPost_ret (v := .tuple #[.bool true, .int .u32 0]) (by simp only [results, Tryd.results38]; go_simp) rfl ?_
    exact ⟨rfl, (Ext.refl w).alloc _⟩
  by_cases k2 : i = d - L
  · have e : placeT L a l d i = (true, a) := by unfold placeT; rw [if_neg k1, if_pos k2]
    rw [e]
    subst k2
    go_enter Tryd.func38, Tryd.ntmps38
    go_wp2
    go_quiet (fail)
    go_wp2
    refine bodyPost_ret (v := .tuple #[.bool true, .int .u32 a]) (by simp only [results, Tryd.results38]; go_simp) rfl ?_
    exact ⟨rfl, ((Ext.refl w).alloc _).drewN _⟩
  have e : placeT L a l d i = (false, l.getD (i - (d - L) - 1).toNat 0) := by unfold placeT; rw [if_neg k1, if_neg k2]
  rw [e]
  have i1 : IntKind.i64.wrap (i - (d - L)) = i - (d - L) := IntWalk.i64_in _ (by omega)
  obtain ⟨m, hm⟩ : ∃ m : Nat, i - (d - L) - 1 = m := ⟨(i - (d - L) - 1).toNat, by omega⟩
  have i2 : IntKind.i64.wrap (i - (d - L) - 1) = m := by rw [hm]; exact IntWalk.i64_in _ (by omega)
  have e2 : (i - (d - L) - 1).toNat = m := by omega
  rw [e2]
  have hmn : m < n := by omega
  have x0 : Ext w (w.alloc (Obj.cells #[Value.int IntKind.i64 L, Value.int IntKind.u32 a, Value.slice A n c] 25)) := (Ext.refl w).alloc _
  obtain ⟨a1, ha1, hc1, _⟩ := (hs.ext x0).word hmn
  have ud := ul.getD m
  have WH := Lib.hid (show ∀ (r : Ending) (w' : World), PlaceOut w (false, l.getD m 0) r w' → PlaceOut w (false, l.getD m 0) r w' from fun _ _ h => h)
  clear ul
  subst ha1
  go_enter Tryd.func38, Tryd.ntmps38
  go_wp2
  go_quiet (fail)
  go_wp2
  refine bodyPost_ret (v := .tuple #[.bool false, .int .u32 (l.getD m 0)]) (by simp only [results, Tryd.results38]; go_simp) rfl ?_
  exact ⟨rfl, ((Ext.refl w).alloc _).drewN _⟩

/-- whether what is done at a place is never behind -/
def Never (x y : Bool × Int) : Prop := x.2 ≤ y.2 ∧ (x.1 = true → y.1 = true)
instance (x y : Bool × Int) : Decidable (Never x y) := by unfold Never; exact inferInstance
def pathLeqT (La aa : Int) (l1 : List Int) (Lb ab : Int) (l2 : List Int) (d : Int) : Bool :=
  decide (0 ≤ d ∧ d ≤ 3 ∧ 0 ≤ La ∧ La ≤ d ∧ 0 ≤ Lb ∧ Lb ≤ d ∧ d - La + l1.length ≤ 3 ∧ d - La + l1.length = d - Lb + l2.length ∧ ∀ k : Nat, k < (d - La + l1.length).toNat + 1 → Never (placeT La aa l1 d k) (placeT Lb ab l2 d k))

set_option maxRecDepth 100000 in
set_option maxHeartbeats 1000000 in
theorem pleq_off (La aa Lb ab d : Int) (A1 A2 : Option Addr) (n1 n2 c1 c2 : Nat) (w : World) (hn1 : n1 ≤ 1000000) (hn2 : n2 ≤ 1000000)
    (h : ¬ (0 ≤ d ∧ d ≤ 3 ∧ 0 ≤ La ∧ La ≤ d ∧ 0 ≤ Lb ∧ Lb ≤ d ∧ d - La + n1 ≤ 3 ∧ d - La + n1 = d - Lb + n2)) :
    Calls Tryd.prog 10 #[.agg #[.int .i64 La, .int .u32 aa, .slice A1 n1 c1], .agg #[.int .i64 Lb, .int .u32 ab, .slice A2 n2 c2], .int .i64 d] w (fun e w' => e = .returned (.bool false) ∧ Ext w w') := by
  by_cases k1 : d < 0
  · go_enter Tryd.func10, Tryd.ntmps10
    go_wp2
    refine bodyPost_ret (v := .bool false) (by simp only [results, Tryd.results10]; go_simp) rfl ?_
    refine ⟨rfl, ?_⟩
    have e1 := Ext.refl w
    (repeat' (first | with_reducible exact e1 | with_reducible refine Ext.drew ?_ | with_reducible refine Ext.drewN ?_ _ | with_reducible refine Ext.alloc ?_ _ | with_reducible refine Ext.set ?_ ?_ _ | omega | (simp; done) | (simp; omega)))
  by_cases k2 : 3 < d
  · go_enter Tryd.func10, Tryd.ntmps10
    go_wp2
    refine bodyPost_ret (v := .bool false) (by simp only [results, Tryd.results10]; go_simp) rfl ?_
    refine ⟨rfl, ?_⟩
    have e1 := Ext.refl w
    (repeat' (first | with_reducible exact e1 | with_reducible refine Ext.drew ?_ | with_reducible refine Ext.drewN ?_ _ | with_reducible refine Ext.alloc ?_ _ | with_reducible refine Ext.set ?_ ?_ _ | omega | (simp; done) | (simp; omega)))
  by_cases k3 : La < 0
  · go_enter Tryd.func10, Tryd.ntmps10
    go_wp2
    refine bodyPost_ret (v := .bool false) (by simp only [results, Tryd.results10]; go_simp) rfl ?_
    refine ⟨rfl, ?_⟩
    have e1 := Ext.refl w
    (repeat' (first | with_reducible exact e1 | with_reducible refine Ext.drew ?_ | with_reducible refine Ext.drewN ?_ _ | with_reducible refine Ext.alloc ?_ _ | with_reducible refine Ext.set ?_ ?_ _ | omega | (simp; done) | (simp; omega)))
  by_cases k4 : d < La
  · go_enter Tryd.func10, Tryd.ntmps10
    go_wp2
    refine bodyPost_ret (v := .bool false) (by simp only [results, Tryd.results10]; go_simp) rfl ?_
    refine ⟨rfl, ?_⟩
    have e1 := Ext.refl w
    (repeat' (first | with_reducible exact e1 | with_reducible refine Ext.drew ?_ | with_reducible refine Ext.drewN ?_ _ | with_reducible refine Ext.alloc ?_ _ | with_reducible refine Ext.set ?_ ?_ _ | omega | (simp; done) | (simp; omega)))
  by_cases k5 : Lb < 0
  · go_enter Tryd.func10, Tryd.ntmps10
    go_wp2
    refine bodyPost_ret (v := .bool false) (by simp only [results, Tryd.results10]; go_simp) rfl ?_
    refine ⟨rfl, ?_⟩
    have e1 := Ext.refl w
    (repeat' (first | with_reducible exact e1 | with_reducible refine Ext.drew ?_ | with_reducible refine Ext.drewN ?_ _ | with_reducible refine Ext.alloc ?_ _ | with_reducible refine Ext.set ?_ ?_ _ | omega | (simp; done) | (simp; omega)))
  by_cases k6 : d < Lb
  · have q6 : (!decide (Lb ≤ d)) = true := by simp; omega
    go_enter Tryd.func10, Tryd.ntmps10
    go_wp2
    refine bodyPost_ret (v := .bool false) (by simp only [results, Tryd.results10]; go_simp) rfl ?_
    refine ⟨rfl, ?_⟩
    have e1 := Ext.refl w
    (repeat' (first | with_reducible exact e1 | with_reducible refine Ext.drew ?_ | with_reducible refine Ext.drewN ?_ _ | with_reducible refine Ext.alloc ?_ _ | with_reducible refine Ext.set ?_ ?_ _ | omega | (simp; done) | (simp; omega)))
  have q6 : (!decide (Lb ≤ d)) = false := by simp; omega
  have i1 : IntKind.i64.wrap (d - La) = d - La := IntWalk.i64_in _ (by omega)
  have i2 : IntKind.i64.wrap (d - La + n1) = d - La + n1 := IntWalk.i64_in _ (by omega)
  have i3 : IntKind.i64.wrap (d - Lb) = d - Lb := IntWalk.i64_in _ (by omega)
  have i4 : IntKind.i64.wrap (d - Lb + n2) = d - Lb + n2 := IntWalk.i64_in _ (by omega)
  by_cases k7 : 3 < d - La + n1
  · go_enter Tryd.func10, Tryd.ntmps10
    go_wp2
    refine bodyPost_ret (v := .bool false) (by simp only [results, Tryd.results10]; go_simp) rfl ?_
    refine ⟨rfl, ?_⟩
    have e1 := Ext.refl w
    (repeat' (first | with_reducible exact e1 | with_reducible refine Ext.drew ?_ | with_reducible refine Ext.drewN ?_ _ | with_reducible refine Ext.alloc ?_ _ | with_reducible refine Ext.set ?_ ?_ _ | omega | (simp; done) | (simp; omega)))
  have k8 : (d - La + n1 != d - Lb + n2) = true := by simp; omega
  clear h
  go_enter Tryd.func10, Tryd.ntmps10
  go_wp2
  refine bodyPost_ret (v := .bool false) (by simp only [results, Tryd.results10]; go_simp) rfl ?_
  refine ⟨rfl, ?_⟩
  have e1 := Ext.refl w
  (repeat' (first | with_reducible exact e1 | with_reducible refine Ext.drew ?_ | with_reducible refine Ext.drewN ?_ _ | with_reducible refine Ext.alloc ?_ _ | with_reducible refine Ext.set ?_ ?_ _ | omega | (simp; done) | (simp; omega)))
end Go.Proofs.YtilbfmfioopiiaaDoor
