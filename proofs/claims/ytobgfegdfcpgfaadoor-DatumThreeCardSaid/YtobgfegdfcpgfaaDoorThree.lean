/- DatumThree: booleans and nulls: the walk. Conditions: the library's tables stand. -/
import Derived.Test.YtobgfegdfcpgfaaDoorDKnown
namespace Go.Proofs.YtobgfegdfcpgfaaDoor
open Go.RowKit

/-- a boolean or null -/
def k3 : Option Bool → Int
  | none => 1
  | some _ => 2
def b3 : Option Bool → Bool
  | none => false
  | some b => b
def dat3 (x : Option Bool) : Dat := ⟨k3 x, b3 x, 0, ⟨#[]⟩⟩
def and3 : Option Bool → Option Bool → Option Bool
  | some false, _ => some false
  | _, some false => some false
  | none, _ => none
  | _, none => none
  | some true, some true => some true
def or3 : Option Bool → Option Bool → Option Bool
  | some true, _ => some true
  | _, some true => some true
  | none, _ => none
  | _, none => none
  | some false, some false => some false
def not3 : Option Bool → Option Bool
  | none => none
  | some b => some (!b)
theorem and3_comm (x y : Option Bool) : and3 y x = and3 x y := by rcases x with _ | _ | _ <;> rcases y with _ | _ | _ <;> rfl
theorem morgan3 (x y : Option Bool) : or3 (not3 x) (not3 y) = not3 (and3 x y) := by rcases x with _ | _ | _ <;> rcases y with _ | _ | _ <;> rfl
theorem not3_not3 (x : Option Bool) : not3 (not3 x) = x := by rcases x with _ | _ | _ <;> rfl

theorem check3 (x : Option Bool) : (dat3 x).check = 0 := by
  unfold Dat.check dat3
  rcases x with _ | b
  · rw [checkT_on (by simp [k3, b3])]; rfl
  · rw [checkT_on (by simp [k3])]; rfl
theorem ok3 (x : Option Bool) : okD 2 (dat3 x) = true := by
  unfold okD
  rw [decide_eq_true_iff]
  exact ⟨check3 x, by rcases x with _ | b <;> simp [dat3, k3]⟩
theorem and_eq (x y : Option Bool) : eitherR false (dat3 x) (dat3 y) = (dat3 (and3 x y), 0) := by
  have h : ofT 2 [dat3 x, dat3 y] = ((dat3 x).k == 1 || (dat3 y).k == 1, 0) := by unfold ofT; rw [if_pos (by simp [ok3])]; simp
  unfold eitherR
  rw [h]
  rcases x with _ | _ | _ <;> rcases y with _ | _ | _ <;> rfl
theorem or_eq (x y : Option Bool) : eitherR true (dat3 x) (dat3 y) = (dat3 (or3 x y), 0) := by
  have h : ofT 2 [dat3 x, dat3 y] = ((dat3 x).k == 1 || (dat3 y).k == 1, 0) := by unfold ofT; rw [if_pos (by simp [ok3])]; simp
  unfold eitherR
  rw [h]
  rcases x with _ | _ | _ <;> rcases y with _ | _ | _ <;> rfl
theorem not_eq (x : Option Bool) : notR (dat3 x) = (dat3 (not3 x), 0) := by
  have h : ofT 2 [dat3 x] = ((dat3 x).k == 1, 0) := by unfold ofT; rw [if_pos (by simp [ok3])]; simp
  unfold notR applyR
  rw [h]
  rcases x with _ | _ | _ <;> rfl

theorem empty_le : (⟨#[]⟩ : ByteArray).size ≤ 9223372036854775807 := by simp [ByteArray.size]
def Tri (w : World) (z : Option Bool) (e : Ending) (w' : World) : Prop := e = .returned (.tuple #[.agg #[.int .u8 (k3 (z)), .bool (b3 (z)), .int .i64 0, .string ⟨#[]⟩], .int .u16 0]) ∧ Ext w w'
theorem and3_at (x y z : Option Bool) (h : and3 x y = z) (w : World) (G : Good w) : Calls Tryd.prog 19 #[.agg #[.int .u8 (k3 (x)), .bool (b3 (x)), .int .i64 0, .string ⟨#[]⟩], .agg #[.int .u8 (k3 (y)), .bool (b3 (y)), .int .i64 0, .string ⟨#[]⟩]] w (Tri w z) := by
  have := and_any (dat3 x) (dat3 y) w empty_le empty_le G
  rw [and_eq, h] at this
  exact this
theorem or3_at (x y z : Option Bool) (h : or3 x y = z) (w : World) (G : Good w) : Calls Tryd.prog 20 #[.agg #[.int .u8 (k3 (x)), .bool (b3 (x)), .int .i64 0, .string ⟨#[]⟩], .agg #[.int .u8 (k3 (y)), .bool (b3 (y)), .int .i64 0, .string ⟨#[]⟩]] w (Tri w z) := by
  have := or_any (dat3 x) (dat3 y) w empty_le empty_le G
  rw [or_eq, h] at this
  exact this
theorem not3_at (x z : Option Bool) (h : not3 x = z) (w : World) (G : Good w) : Calls Tryd.prog 18 #[.agg #[.int .u8 (k3 (x)), .bool (b3 (x)), .int .i64 0, .string ⟨#[]⟩]] w (Tri w z) := by
  have := not_any (dat3 x) w empty_le G
  rw [not_eq, h] at this
  exact this

def i3 : Option Bool → Nat
  | none => 0
  | some false => 1
  | some true => 2
theorem i3_lt (x : Option Bool) : i3 x < 3 := by rcases x with _ | _ | _ <;> decide
theorem ex3 (i : Int) : ∃ x, i % 3 = (i3 x : Int) := by
  have : i % 3 = 0 ∨ i % 3 = 1 ∨ i % 3 = 2 := by omega
  rcases this with h | h | h
  · exact ⟨none, h⟩
  · exact ⟨some false, h⟩
  · exact ⟨some true, h⟩
/-- the three data, one behind the other -/
def row3 : Array Value := #[.int .u8 1, .bool false, .int .i64 0, .string ⟨#[]⟩, .int .u8 2, .bool false, .int .i64 0, .string ⟨#[]⟩, .int .u8 2, .bool true, .int .i64 0, .string ⟨#[]⟩]
theorem row3_at (x : Option Bool) : row3[i3 x * 4]? = some (.int .u8 (k3 x)) ∧ row3[i3 x * 4 + 1]? = some (.bool (b3 x)) ∧ row3[i3 x * 4 + 2]? = some (.int .i64 0) ∧ row3[i3 x * 4 + 3]? = some (.string ⟨#[]⟩) := by
  rcases x with _ | _ | _ <;> exact ⟨rfl, rfl, rfl, rfl⟩
theorem row3_cells {w : World} {g : Nat} {t : TypeId} (h : Bk w g t row3) (x : Option Bool) : w.cell? ⟨g, i3 x * 4, none⟩ = some (.int .u8 (k3 x)) ∧ w.cell? ⟨g, i3 x * 4 + 1, none⟩ = some (.bool (b3 x)) ∧ w.cell? ⟨g, i3 x * 4 + 2, none⟩ = some (.int .i64 0) ∧ w.cell? ⟨g, i3 x * 4 + 3, none⟩ = some (.string ⟨#[]⟩) :=
  ⟨(h.cell _).trans (row3_at x).1, (h.cell _).trans (row3_at x).2.1, (h.cell _).trans (row3_at x).2.2.1, (h.cell _).trans (row3_at x).2.2.2⟩

set_option maxRecDepth 100000 in
set_option maxHeartbeats 1600000 in
theorem three_any (i k : Int) (w : World) (hi0 : 0 ≤ i ∧ i ≤ 255) (hk0 : 0 ≤ k ∧ k ≤ 255) (G : Good w) : Calls Tryd.prog 5 #[.int .u8 i, .int .u8 k] w fun e w' => e = .returned (.bool true) ∧ Ext w w' := by
  obtain ⟨hi1, hi2⟩ := hi0
  obtain ⟨hk1, hk2⟩ := hk0
  obtain ⟨x, hx⟩ := ex3 i
  obtain ⟨y, hy⟩ := ex3 k
  have lx := i3_lt x
  have ly := i3_lt y
  have Ix := Lib.hid hx
  have Iy := Lib.hid hy
  clear hx hy
  go_enter Tryd.func5, Tryd.ntmps5
  go_upto_region 2 with fail
  have r0 : Bk (w.alloc (.cells row3 24)) w.heap.size 24 row3 := Bk.new _ _ _
  have E0 : Ext w (w.alloc (.cells row3 24)) := (Ext.refl w).alloc _
  obtain ⟨w0, hw0⟩ : ∃ w0, w0 = w.alloc (.cells row3 24) := ⟨_, rfl⟩
  rw [← hw0] at r0 E0
  have hw0' : w.alloc (.cells #[.int .u8 1, .bool false, .int .i64 0, .string ⟨#[]⟩, .int .u8 2, .bool false, .int .i64 0, .string ⟨#[]⟩, .int .u8 2, .bool true, .int .i64 0, .string ⟨#[]⟩] 24) = w0 := hw0.symm
  rw [hw0']
  clear hw0 hw0'
  obtain ⟨x0, x1, x2, x3⟩ := row3_cells r0 x
  have r1 := r0.alloc (.cells #[.int .u8 (k3 (x)), .bool (b3 (x)), .int .i64 0, .string ⟨#[]⟩] 24)
  obtain ⟨y0, y1, y2, y3⟩ := row3_cells r1 y
  have hx := Ix.out
  have hy := Iy.out
  have A0 : Bk ((w0.alloc (.cells #[.int .u8 (k3 (x)), .bool (b3 (x)), .int .i64 0, .string ⟨#[]⟩] 24)).alloc (.cells #[.int .u8 (k3 (y)), .bool (b3 (y)), .int .i64 0, .string ⟨#[]⟩] 24)) w0.heap.size 24 #[.int .u8 (k3 (x)), .bool (b3 (x)), .int .i64 0, .string ⟨#[]⟩] := (Bk.new _ _ _).alloc _
  have B0 : Bk ((w0.alloc (.cells #[.int .u8 (k3 (x)), .bool (b3 (x)), .int .i64 0, .string ⟨#[]⟩] 24)).alloc (.cells #[.int .u8 (k3 (y)), .bool (b3 (y)), .int .i64 0, .string ⟨#[]⟩] 24)) (w0.heap.size + 1) 24 #[.int .u8 (k3 (y)), .bool (b3 (y)), .int .i64 0, .string ⟨#[]⟩] := Bk.at (by simp)
  have A00 : ((w0.alloc (.cells #[.int .u8 (k3 (x)), .bool (b3 (x)), .int .i64 0, .string ⟨#[]⟩] 24)).alloc (.cells #[.int .u8 (k3 (y)), .bool (b3 (y)), .int .i64 0, .string ⟨#[]⟩] 24)).cell? ⟨w0.heap.size, 0, none⟩ = some (.int .u8 (k3 (x))) := A0.cell 0; have A01 : ((w0.alloc (.cells #[.int .u8 (k3 (x)), .bool (b3 (x)), .int .i64 0, .string ⟨#[]⟩] 24)).alloc (.cells #[.int .u8 (k3 (y)), .bool (b3 (y)), .int .i64 0, .string ⟨#[]⟩] 24)).cell? ⟨w0.heap.size, 1, none⟩ = some (.bool (b3 (x))) := A0.cell 1; have A02 : ((w0.alloc (.cells #[.int .u8 (k3 (x)), .bool (b3 (x)), .int .i64 0, .string ⟨#[]⟩] 24)).alloc (.cells #[.int .u8 (k3 (y)), .bool (b3 (y)), .int .i64 0, .string ⟨#[]⟩] 24)).cell? ⟨w0.heap.size, 2, none⟩ = some (.int .i64 (0)) := A0.cell 2; have A03 : ((w0.alloc (.cells #[.int .u8 (k3 (x)), .bool (b3 (x)), .int .i64 0, .string ⟨#[]⟩] 24)).alloc (.cells #[.int .u8 (k3 (y)), .bool (b3 (y)), .int .i64 0, .string ⟨#[]⟩] 24)).cell? ⟨w0.heap.size, 3, none⟩ = some (.string (⟨#[]⟩)) := A0.cell 3
  have B00 : ((w0.alloc (.cells #[.int .u8 (k3 (x)), .bool (b3 (x)), .int .i64 0, .string ⟨#[]⟩] 24)).alloc (.cells #[.int .u8 (k3 (y)), .bool (b3 (y)), .int .i64 0, .string ⟨#[]⟩] 24)).cell? ⟨w0.heap.size + 1, 0, none⟩ = some (.int .u8 (k3 (y))) := B0.cell 0; have B01 : ((w0.alloc (.cells #[.int .u8 (k3 (x)), .bool (b3 (x)), .int .i64 0, .string ⟨#[]⟩] 24)).alloc (.cells #[.int .u8 (k3 (y)), .bool (b3 (y)), .int .i64 0, .string ⟨#[]⟩] 24)).cell? ⟨w0.heap.size + 1, 1, none⟩ = some (.bool (b3 (y))) := B0.cell 1; have B02 : ((w0.alloc (.cells #[.int .u8 (k3 (x)), .bool (b3 (x)), .int .i64 0, .string ⟨#[]⟩] 24)).alloc (.cells #[.int .u8 (k3 (y)), .bool (b3 (y)), .int .i64 0, .string ⟨#[]⟩] 24)).cell? ⟨w0.heap.size + 1, 2, none⟩ = some (.int .i64 (0)) := B0.cell 2; have B03 : ((w0.alloc (.cells #[.int .u8 (k3 (x)), .bool (b3 (x)), .int .i64 0, .string ⟨#[]⟩] 24)).alloc (.cells #[.int .u8 (k3 (y)), .bool (b3 (y)), .int .i64 0, .string ⟨#[]⟩] 24)).cell? ⟨w0.heap.size + 1, 3, none⟩ = some (.string (⟨#[]⟩)) := B0.cell 3
  have F0 : Ext w ((w0.alloc (.cells #[.int .u8 (k3 (x)), .bool (b3 (x)), .int .i64 0, .string ⟨#[]⟩] 24)).alloc (.cells #[.int .u8 (k3 (y)), .bool (b3 (y)), .int .i64 0, .string ⟨#[]⟩] 24)) := (E0.alloc _).alloc _
  clear r0 r1 E0
  have m1 : True := trivial
  go_wp2_with (first
    | (have z := m1; clear z m1; go_at_call 19; refine (and3_at (x) (y) (and3 x y) rfl _ (G.ext F0)).mono ?_; rintro e w1 ⟨rfl, x1⟩; have A1 := (A0.ext x1).alloc (.cells #[.int .u8 (k3 (and3 x y)), .bool (b3 (and3 x y)), .int .i64 0, .string ⟨#[]⟩] 24); have B1 := (B0.ext x1).alloc (.cells #[.int .u8 (k3 (and3 x y)), .bool (b3 (and3 x y)), .int .i64 0, .string ⟨#[]⟩] 24); have R11 := Bk.new w1 24 #[.int .u8 (k3 (and3 x y)), .bool (b3 (and3 x y)), .int .i64 0, .string ⟨#[]⟩]; have F1 : Ext w (w1.alloc (.cells #[.int .u8 (k3 (and3 x y)), .bool (b3 (and3 x y)), .int .i64 0, .string ⟨#[]⟩] 24)) := (F0.trans x1).alloc _; clear x1; have B10 : (w1.alloc (.cells #[.int .u8 (k3 (and3 x y)), .bool (b3 (and3 x y)), .int .i64 0, .string ⟨#[]⟩] 24)).cell? ⟨w0.heap.size + 1, 0, none⟩ = some (.int .u8 (k3 (y))) := B1.cell 0; have B11 : (w1.alloc (.cells #[.int .u8 (k3 (and3 x y)), .bool (b3 (and3 x y)), .int .i64 0, .string ⟨#[]⟩] 24)).cell? ⟨w0.heap.size + 1, 1, none⟩ = some (.bool (b3 (y))) := B1.cell 1; have B12 : (w1.alloc (.cells #[.int .u8 (k3 (and3 x y)), .bool (b3 (and3 x y)), .int .i64 0, .string ⟨#[]⟩] 24)).cell? ⟨w0.heap.size + 1, 2, none⟩ = some (.int .i64 (0)) := B1.cell 2; have B13 : (w1.alloc (.cells #[.int .u8 (k3 (and3 x y)), .bool (b3 (and3 x y)), .int .i64 0, .string ⟨#[]⟩] 24)).cell? ⟨w0.heap.size + 1, 3, none⟩ = some (.string (⟨#[]⟩)) := B1.cell 3; have A10 : (w1.alloc (.cells #[.int .u8 (k3 (and3 x y)), .bool (b3 (and3 x y)), .int .i64 0, .string ⟨#[]⟩] 24)).cell? ⟨w0.heap.size, 0, none⟩ = some (.int .u8 (k3 (x))) := A1.cell 0; have A11 : (w1.alloc (.cells #[.int .u8 (k3 (and3 x y)), .bool (b3 (and3 x y)), .int .i64 0, .string ⟨#[]⟩] 24)).cell? ⟨w0.heap.size, 1, none⟩ = some (.bool (b3 (x))) := A1.cell 1; have A12 : (w1.alloc (.cells #[.int .u8 (k3 (and3 x y)), .bool (b3 (and3 x y)), .int .i64 0, .string ⟨#[]⟩] 24)).cell? ⟨w0.heap.size, 2, none⟩ = some (.int .i64 (0)) := A1.cell 2; have A13 : (w1.alloc (.cells #[.int .u8 (k3 (and3 x y)), .bool (b3 (and3 x y)), .int .i64 0, .string ⟨#[]⟩] 24)).cell? ⟨w0.heap.size, 3, none⟩ = some (.string (⟨#[]⟩)) := A1.cell 3; have m2 : True := trivial)
    | (have z := m2; clear z m2; go_at_call 19; refine (and3_at (y) (x) (and3 x y) (and3_comm x y) _ (G.ext F1)).mono ?_; rintro e w2 ⟨rfl, x2⟩; have A2 := (A1.ext x2).alloc (.cells #[.int .u8 (k3 (and3 x y)), .bool (b3 (and3 x y)), .int .i64 0, .string ⟨#[]⟩] 24); have B2 := (B1.ext x2).alloc (.cells #[.int .u8 (k3 (and3 x y)), .bool (b3 (and3 x y)), .int .i64 0, .string ⟨#[]⟩] 24); have R12 := (R11.ext x2).alloc (.cells #[.int .u8 (k3 (and3 x y)), .bool (b3 (and3 x y)), .int .i64 0, .string ⟨#[]⟩] 24); have R22 := Bk.new w2 24 #[.int .u8 (k3 (and3 x y)), .bool (b3 (and3 x y)), .int .i64 0, .string ⟨#[]⟩]; have F2 : Ext w (w2.alloc (.cells #[.int .u8 (k3 (and3 x y)), .bool (b3 (and3 x y)), .int .i64 0, .string ⟨#[]⟩] 24)) := (F1.trans x2).alloc _; clear x2; have R120 : (w2.alloc (.cells #[.int .u8 (k3 (and3 x y)), .bool (b3 (and3 x y)), .int .i64 0, .string ⟨#[]⟩] 24)).cell? ⟨w1.heap.size, 0, none⟩ = some (.int .u8 (k3 (and3 x y))) := R12.cell 0; have R121 : (w2.alloc (.cells #[.int .u8 (k3 (and3 x y)), .bool (b3 (and3 x y)), .int .i64 0, .string ⟨#[]⟩] 24)).cell? ⟨w1.heap.size, 1, none⟩ = some (.bool (b3 (and3 x y))) := R12.cell 1; have R122 : (w2.alloc (.cells #[.int .u8 (k3 (and3 x y)), .bool (b3 (and3 x y)), .int .i64 0, .string ⟨#[]⟩] 24)).cell? ⟨w1.heap.size, 2, none⟩ = some (.int .i64 (0)) := R12.cell 2; have R123 : (w2.alloc (.cells #[.int .u8 (k3 (and3 x y)), .bool (b3 (and3 x y)), .int .i64 0, .string ⟨#[]⟩] 24)).cell? ⟨w1.heap.size, 3, none⟩ = some (.string (⟨#[]⟩)) := R12.cell 3; have m3 : True := trivial)
    | (have z := m3; clear z m3; go_at_call 18; refine (not3_at (and3 x y) (not3 (and3 x y)) rfl _ (G.ext F2)).mono ?_; rintro e w3 ⟨rfl, x3⟩; have A3 := (A2.ext x3).alloc (.cells #[.int .u8 (k3 (not3 (and3 x y))), .bool (b3 (not3 (and3 x y))), .int .i64 0, .string ⟨#[]⟩] 24); have B3 := (B2.ext x3).alloc (.cells #[.int .u8 (k3 (not3 (and3 x y))), .bool (b3 (not3 (and3 x y))), .int .i64 0, .string ⟨#[]⟩] 24); have R13 := (R12.ext x3).alloc (.cells #[.int .u8 (k3 (not3 (and3 x y))), .bool (b3 (not3 (and3 x y))), .int .i64 0, .string ⟨#[]⟩] 24); have R23 := (R22.ext x3).alloc (.cells #[.int .u8 (k3 (not3 (and3 x y))), .bool (b3 (not3 (and3 x y))), .int .i64 0, .string ⟨#[]⟩] 24); have R33 := Bk.new w3 24 #[.int .u8 (k3 (not3 (and3 x y))), .bool (b3 (not3 (and3 x y))), .int .i64 0, .string ⟨#[]⟩]; have F3 : Ext w (w3.alloc (.cells #[.int .u8 (k3 (not3 (and3 x y))), .bool (b3 (not3 (and3 x y))), .int .i64 0, .string ⟨#[]⟩] 24)) := (F2.trans x3).alloc _; clear x3; have A30 : (w3.alloc (.cells #[.int .u8 (k3 (not3 (and3 x y))), .bool (b3 (not3 (and3 x y))), .int .i64 0, .string ⟨#[]⟩] 24)).cell? ⟨w0.heap.size, 0, none⟩ = some (.int .u8 (k3 (x))) := A3.cell 0; have A31 : (w3.alloc (.cells #[.int .u8 (k3 (not3 (and3 x y))), .bool (b3 (not3 (and3 x y))), .int .i64 0, .string ⟨#[]⟩] 24)).cell? ⟨w0.heap.size, 1, none⟩ = some (.bool (b3 (x))) := A3.cell 1; have A32 : (w3.alloc (.cells #[.int .u8 (k3 (not3 (and3 x y))), .bool (b3 (not3 (and3 x y))), .int .i64 0, .string ⟨#[]⟩] 24)).cell? ⟨w0.heap.size, 2, none⟩ = some (.int .i64 (0)) := A3.cell 2; have A33 : (w3.alloc (.cells #[.int .u8 (k3 (not3 (and3 x y))), .bool (b3 (not3 (and3 x y))), .int .i64 0, .string ⟨#[]⟩] 24)).cell? ⟨w0.heap.size, 3, none⟩ = some (.string (⟨#[]⟩)) := A3.cell 3; have m4 : True := trivial)
    | (have z := m4; clear z m4; go_at_call 18; refine (not3_at (x) (not3 x) rfl _ (G.ext F3)).mono ?_; rintro e w4 ⟨rfl, x4⟩; have A4 := (A3.ext x4).alloc (.cells #[.int .u8 (k3 (not3 x)), .bool (b3 (not3 x)), .int .i64 0, .string ⟨#[]⟩] 24); have B4 := (B3.ext x4).alloc (.cells #[.int .u8 (k3 (not3 x)), .bool (b3 (not3 x)), .int .i64 0, .string ⟨#[]⟩] 24); have R14 := (R13.ext x4).alloc (.cells #[.int .u8 (k3 (not3 x)), .bool (b3 (not3 x)), .int .i64 0, .string ⟨#[]⟩] 24); have R24 := (R23.ext x4).alloc (.cells #[.int .u8 (k3 (not3 x)), .bool (b3 (not3 x)), .int .i64 0, .string ⟨#[]⟩] 24); have R34 := (R33.ext x4).alloc (.cells #[.int .u8 (k3 (not3 x)), .bool (b3 (not3 x)), .int .i64 0, .string ⟨#[]⟩] 24); have R44 := Bk.new w4 24 #[.int .u8 (k3 (not3 x)), .bool (b3 (not3 x)), .int .i64 0, .string ⟨#[]⟩]; have F4 : Ext w (w4.alloc (.cells #[.int .u8 (k3 (not3 x)), .bool (b3 (not3 x)), .int .i64 0, .string ⟨#[]⟩] 24)) := (F3.trans x4).alloc _; clear x4; have B40 : (w4.alloc (.cells #[.int .u8 (k3 (not3 x)), .bool (b3 (not3 x)), .int .i64 0, .string ⟨#[]⟩] 24)).cell? ⟨w0.heap.size + 1, 0, none⟩ = some (.int .u8 (k3 (y))) := B4.cell 0; have B41 : (w4.alloc (.cells #[.int .u8 (k3 (not3 x)), .bool (b3 (not3 x)), .int .i64 0, .string ⟨#[]⟩] 24)).cell? ⟨w0.heap.size + 1, 1, none⟩ = some (.bool (b3 (y))) := B4.cell 1; have B42 : (w4.alloc (.cells #[.int .u8 (k3 (not3 x)), .bool (b3 (not3 x)), .int .i64 0, .string ⟨#[]⟩] 24)).cell? ⟨w0.heap.size + 1, 2, none⟩ = some (.int .i64 (0)) := B4.cell 2; have B43 : (w4.alloc (.cells #[.int .u8 (k3 (not3 x)), .bool (b3 (not3 x)), .int .i64 0, .string ⟨#[]⟩] 24)).cell? ⟨w0.heap.size + 1, 3, none⟩ = some (.string (⟨#[]⟩)) := B4.cell 3; have m5 : True := trivial)
    | (have z := m5; clear z m5; go_at_call 18; refine (not3_at (y) (not3 y) rfl _ (G.ext F4)).mono ?_; rintro e w5 ⟨rfl, x5⟩; have A5 := (A4.ext x5).alloc (.cells #[.int .u8 (k3 (not3 y)), .bool (b3 (not3 y)), .int .i64 0, .string ⟨#[]⟩] 24); have B5 := (B4.ext x5).alloc (.cells #[.int .u8 (k3 (not3 y)), .bool (b3 (not3 y)), .int .i64 0, .string ⟨#[]⟩] 24); have R15 := (R14.ext x5).alloc (.cells #[.int .u8 (k3 (not3 y)), .bool (b3 (not3 y)), .int .i64 0, .string ⟨#[]⟩] 24); have R25 := (R24.ext x5).alloc (.cells #[.int .u8 (k3 (not3 y)), .bool (b3 (not3 y)), .int .i64 0, .string ⟨#[]⟩] 24); have R35 := (R34.ext x5).alloc (.cells #[.int .u8 (k3 (not3 y)), .bool (b3 (not3 y)), .int .i64 0, .string ⟨#[]⟩] 24); have R45 := (R44.ext x5).alloc (.cells #[.int .u8 (k3 (not3 y)), .bool (b3 (not3 y)), .int .i64 0, .string ⟨#[]⟩] 24); have R55 := Bk.new w5 24 #[.int .u8 (k3 (not3 y)), .bool (b3 (not3 y)), .int .i64 0, .string ⟨#[]⟩]; have F5 : Ext w (w5.alloc (.cells #[.int .u8 (k3 (not3 y)), .bool (b3 (not3 y)), .int .i64 0, .string ⟨#[]⟩] 24)) := (F4.trans x5).alloc _; clear x5; have R450 : (w5.alloc (.cells #[.int .u8 (k3 (not3 y)), .bool (b3 (not3 y)), .int .i64 0, .string ⟨#[]⟩] 24)).cell? ⟨w4.heap.size, 0, none⟩ = some (.int .u8 (k3 (not3 x))) := R45.cell 0; have R451 : (w5.alloc (.cells #[.int .u8 (k3 (not3 y)), .bool (b3 (not3 y)), .int .i64 0, .string ⟨#[]⟩] 24)).cell? ⟨w4.heap.size, 1, none⟩ = some (.bool (b3 (not3 x))) := R45.cell 1; have R452 : (w5.alloc (.cells #[.int .u8 (k3 (not3 y)), .bool (b3 (not3 y)), .int .i64 0, .string ⟨#[]⟩] 24)).cell? ⟨w4.heap.size, 2, none⟩ = some (.int .i64 (0)) := R45.cell 2; have R453 : (w5.alloc (.cells #[.int .u8 (k3 (not3 y)), .bool (b3 (not3 y)), .int .i64 0, .string ⟨#[]⟩] 24)).cell? ⟨w4.heap.size, 3, none⟩ = some (.string (⟨#[]⟩)) := R45.cell 3; have R550 : (w5.alloc (.cells #[.int .u8 (k3 (not3 y)), .bool (b3 (not3 y)), .int .i64 0, .string ⟨#[]⟩] 24)).cell? ⟨w5.heap.size, 0, none⟩ = some (.int .u8 (k3 (not3 y))) := R55.cell 0; have R551 : (w5.alloc (.cells #[.int .u8 (k3 (not3 y)), .bool (b3 (not3 y)), .int .i64 0, .string ⟨#[]⟩] 24)).cell? ⟨w5.heap.size, 1, none⟩ = some (.bool (b3 (not3 y))) := R55.cell 1; have R552 : (w5.alloc (.cells #[.int .u8 (k3 (not3 y)), .bool (b3 (not3 y)), .int .i64 0, .string ⟨#[]⟩] 24)).cell? ⟨w5.heap.size, 2, none⟩ = some (.int .i64 (0)) := R55.cell 2; have R553 : (w5.alloc (.cells #[.int .u8 (k3 (not3 y)), .bool (b3 (not3 y)), .int .i64 0, .string ⟨#[]⟩] 24)).cell? ⟨w5.heap.size, 3, none⟩ = some (.string (⟨#[]⟩)) := R55.cell 3; have m6 : True := trivial)
    | (have z := m6; clear z m6; go_at_call 20; refine (or3_at (not3 x) (not3 y) (not3 (and3 x y)) (morgan3 x y) _ (G.ext F5)).mono ?_; rintro e w6 ⟨rfl, x6⟩; have A6 := (A5.ext x6).alloc (.cells #[.int .u8 (k3 (not3 (and3 x y))), .bool (b3 (not3 (and3 x y))), .int .i64 0, .string ⟨#[]⟩] 24); have B6 := (B5.ext x6).alloc (.cells #[.int .u8 (k3 (not3 (and3 x y))), .bool (b3 (not3 (and3 x y))), .int .i64 0, .string ⟨#[]⟩] 24); have R16 := (R15.ext x6).alloc (.cells #[.int .u8 (k3 (not3 (and3 x y))), .bool (b3 (not3 (and3 x y))), .int .i64 0, .string ⟨#[]⟩] 24); have R26 := (R25.ext x6).alloc (.cells #[.int .u8 (k3 (not3 (and3 x y))), .bool (b3 (not3 (and3 x y))), .int .i64 0, .string ⟨#[]⟩] 24); have R36 := (R35.ext x6).alloc (.cells #[.int .u8 (k3 (not3 (and3 x y))), .bool (b3 (not3 (and3 x y))), .int .i64 0, .string ⟨#[]⟩] 24); have R46 := (R45.ext x6).alloc (.cells #[.int .u8 (k3 (not3 (and3 x y))), .bool (b3 (not3 (and3 x y))), .int .i64 0, .string ⟨#[]⟩] 24); have R56 := (R55.ext x6).alloc (.cells #[.int .u8 (k3 (not3 (and3 x y))), .bool (b3 (not3 (and3 x y))), .int .i64 0, .string ⟨#[]⟩] 24); have R66 := Bk.new w6 24 #[.int .u8 (k3 (not3 (and3 x y))), .bool (b3 (not3 (and3 x y))), .int .i64 0, .string ⟨#[]⟩]; have F6 : Ext w (w6.alloc (.cells #[.int .u8 (k3 (not3 (and3 x y))), .bool (b3 (not3 (and3 x y))), .int .i64 0, .string ⟨#[]⟩] 24)) := (F5.trans x6).alloc _; clear x6; have R460 : (w6.alloc (.cells #[.int .u8 (k3 (not3 (and3 x y))), .bool (b3 (not3 (and3 x y))), .int .i64 0, .string ⟨#[]⟩] 24)).cell? ⟨w4.heap.size, 0, none⟩ = some (.int .u8 (k3 (not3 x))) := R46.cell 0; have R461 : (w6.alloc (.cells #[.int .u8 (k3 (not3 (and3 x y))), .bool (b3 (not3 (and3 x y))), .int .i64 0, .string ⟨#[]⟩] 24)).cell? ⟨w4.heap.size, 1, none⟩ = some (.bool (b3 (not3 x))) := R46.cell 1; have R462 : (w6.alloc (.cells #[.int .u8 (k3 (not3 (and3 x y))), .bool (b3 (not3 (and3 x y))), .int .i64 0, .string ⟨#[]⟩] 24)).cell? ⟨w4.heap.size, 2, none⟩ = some (.int .i64 (0)) := R46.cell 2; have R463 : (w6.alloc (.cells #[.int .u8 (k3 (not3 (and3 x y))), .bool (b3 (not3 (and3 x y))), .int .i64 0, .string ⟨#[]⟩] 24)).cell? ⟨w4.heap.size, 3, none⟩ = some (.string (⟨#[]⟩)) := R46.cell 3; have m7 : True := trivial)
    | (have z := m7; clear z m7; go_at_call 18; refine (not3_at (not3 x) (x) (not3_not3 x) _ (G.ext F6)).mono ?_; rintro e w7 ⟨rfl, x7⟩; have A7 := (A6.ext x7).alloc (.cells #[.int .u8 (k3 (x)), .bool (b3 (x)), .int .i64 0, .string ⟨#[]⟩] 24); have B7 := (B6.ext x7).alloc (.cells #[.int .u8 (k3 (x)), .bool (b3 (x)), .int .i64 0, .string ⟨#[]⟩] 24); have R17 := (R16.ext x7).alloc (.cells #[.int .u8 (k3 (x)), .bool (b3 (x)), .int .i64 0, .string ⟨#[]⟩] 24); have R27 := (R26.ext x7).alloc (.cells #[.int .u8 (k3 (x)), .bool (b3 (x)), .int .i64 0, .string ⟨#[]⟩] 24); have R37 := (R36.ext x7).alloc (.cells #[.int .u8 (k3 (x)), .bool (b3 (x)), .int .i64 0, .string ⟨#[]⟩] 24); have R47 := (R46.ext x7).alloc (.cells #[.int .u8 (k3 (x)), .bool (b3 (x)), .int .i64 0, .string ⟨#[]⟩] 24); have R57 := (R56.ext x7).alloc (.cells #[.int .u8 (k3 (x)), .bool (b3 (x)), .int .i64 0, .string ⟨#[]⟩] 24); have R67 := (R66.ext x7).alloc (.cells #[.int .u8 (k3 (x)), .bool (b3 (x)), .int .i64 0, .string ⟨#[]⟩] 24); have R77 := Bk.new w7 24 #[.int .u8 (k3 (x)), .bool (b3 (x)), .int .i64 0, .string ⟨#[]⟩]; have F7 : Ext w (w7.alloc (.cells #[.int .u8 (k3 (x)), .bool (b3 (x)), .int .i64 0, .string ⟨#[]⟩] 24)) := (F6.trans x7).alloc _; clear x7; have m8 : True := trivial)
    | (have z := m8; clear z m8; go_at_call 16; refine (known_true _ (G.ext F7)).mono ?_; rintro e w8 ⟨rfl, x8⟩; have A7Z := A7.ext x8; have A7Z0 : w8.cell? ⟨w0.heap.size, 0, none⟩ = some (.int .u8 (k3 (x))) := A7Z.cell 0; have A7Z1 : w8.cell? ⟨w0.heap.size, 1, none⟩ = some (.bool (b3 (x))) := A7Z.cell 1; have A7Z2 : w8.cell? ⟨w0.heap.size, 2, none⟩ = some (.int .i64 (0)) := A7Z.cell 2; have A7Z3 : w8.cell? ⟨w0.heap.size, 3, none⟩ = some (.string (⟨#[]⟩)) := A7Z.cell 3; have B7Z := B7.ext x8; have B7Z0 : w8.cell? ⟨w0.heap.size + 1, 0, none⟩ = some (.int .u8 (k3 (y))) := B7Z.cell 0; have B7Z1 : w8.cell? ⟨w0.heap.size + 1, 1, none⟩ = some (.bool (b3 (y))) := B7Z.cell 1; have B7Z2 : w8.cell? ⟨w0.heap.size + 1, 2, none⟩ = some (.int .i64 (0)) := B7Z.cell 2; have B7Z3 : w8.cell? ⟨w0.heap.size + 1, 3, none⟩ = some (.string (⟨#[]⟩)) := B7Z.cell 3; have R17Z := R17.ext x8; have R17Z0 : w8.cell? ⟨w1.heap.size, 0, none⟩ = some (.int .u8 (k3 (and3 x y))) := R17Z.cell 0; have R17Z1 : w8.cell? ⟨w1.heap.size, 1, none⟩ = some (.bool (b3 (and3 x y))) := R17Z.cell 1; have R17Z2 : w8.cell? ⟨w1.heap.size, 2, none⟩ = some (.int .i64 (0)) := R17Z.cell 2; have R17Z3 : w8.cell? ⟨w1.heap.size, 3, none⟩ = some (.string (⟨#[]⟩)) := R17Z.cell 3; have R27Z := R27.ext x8; have R27Z0 : w8.cell? ⟨w2.heap.size, 0, none⟩ = some (.int .u8 (k3 (and3 x y))) := R27Z.cell 0; have R27Z1 : w8.cell? ⟨w2.heap.size, 1, none⟩ = some (.bool (b3 (and3 x y))) := R27Z.cell 1; have R27Z2 : w8.cell? ⟨w2.heap.size, 2, none⟩ = some (.int .i64 (0)) := R27Z.cell 2; have R27Z3 : w8.cell? ⟨w2.heap.size, 3, none⟩ = some (.string (⟨#[]⟩)) := R27Z.cell 3; have R37Z := R37.ext x8; have R37Z0 : w8.cell? ⟨w3.heap.size, 0, none⟩ = some (.int .u8 (k3 (not3 (and3 x y)))) := R37Z.cell 0; have R37Z1 : w8.cell? ⟨w3.heap.size, 1, none⟩ = some (.bool (b3 (not3 (and3 x y)))) := R37Z.cell 1; have R37Z2 : w8.cell? ⟨w3.heap.size, 2, none⟩ = some (.int .i64 (0)) := R37Z.cell 2; have R37Z3 : w8.cell? ⟨w3.heap.size, 3, none⟩ = some (.string (⟨#[]⟩)) := R37Z.cell 3; have R47Z := R47.ext x8; have R47Z0 : w8.cell? ⟨w4.heap.size, 0, none⟩ = some (.int .u8 (k3 (not3 x))) := R47Z.cell 0; have R47Z1 : w8.cell? ⟨w4.heap.size, 1, none⟩ = some (.bool (b3 (not3 x))) := R47Z.cell 1; have R47Z2 : w8.cell? ⟨w4.heap.size, 2, none⟩ = some (.int .i64 (0)) := R47Z.cell 2; have R47Z3 : w8.cell? ⟨w4.heap.size, 3, none⟩ = some (.string (⟨#[]⟩)) := R47Z.cell 3; have R57Z := R57.ext x8; have R57Z0 : w8.cell? ⟨w5.heap.size, 0, none⟩ = some (.int .u8 (k3 (not3 y))) := R57Z.cell 0; have R57Z1 : w8.cell? ⟨w5.heap.size, 1, none⟩ = some (.bool (b3 (not3 y))) := R57Z.cell 1; have R57Z2 : w8.cell? ⟨w5.heap.size, 2, none⟩ = some (.int .i64 (0)) := R57Z.cell 2; have R57Z3 : w8.cell? ⟨w5.heap.size, 3, none⟩ = some (.string (⟨#[]⟩)) := R57Z.cell 3; have R67Z := R67.ext x8; have R67Z0 : w8.cell? ⟨w6.heap.size, 0, none⟩ = some (.int .u8 (k3 (not3 (and3 x y)))) := R67Z.cell 0; have R67Z1 : w8.cell? ⟨w6.heap.size, 1, none⟩ = some (.bool (b3 (not3 (and3 x y)))) := R67Z.cell 1; have R67Z2 : w8.cell? ⟨w6.heap.size, 2, none⟩ = some (.int .i64 (0)) := R67Z.cell 2; have R67Z3 : w8.cell? ⟨w6.heap.size, 3, none⟩ = some (.string (⟨#[]⟩)) := R67Z.cell 3; have R77Z := R77.ext x8; have R77Z0 : w8.cell? ⟨w7.heap.size, 0, none⟩ = some (.int .u8 (k3 (x))) := R77Z.cell 0; have R77Z1 : w8.cell? ⟨w7.heap.size, 1, none⟩ = some (.bool (b3 (x))) := R77Z.cell 1; have R77Z2 : w8.cell? ⟨w7.heap.size, 2, none⟩ = some (.int .i64 (0)) := R77Z.cell 2; have R77Z3 : w8.cell? ⟨w7.heap.size, 3, none⟩ = some (.string (⟨#[]⟩)) := R77Z.cell 3)
    | fail)
  go_ret
  exact ⟨rfl, F7.trans x8⟩
end Go.Proofs.YtobgfegdfcpgfaaDoor
