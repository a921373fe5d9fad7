/- penstockref01.numbers, over, Neg, Add, Sub: they answer what datum's answer. Conditions: texts that lie in memory. -/
import Derived.Test.YtobgfegdfcpgfaaDoorRefOf
import Derived.Test.YtobgfegdfcpgfaaDoorRingLaw
namespace Go.Proofs.YtobgfegdfcpgfaaDoor
open Go.RowKit

set_option maxRecDepth 100000 in
set_option maxHeartbeats 400000 in
theorem over_yes (w : World) : Calls Tryd.prog 72 #[.bool true] w fun e w' => e = .returned (.int .i64 10) ∧ w = w' := by
  go_enter Tryd.func72, Tryd.ntmps72
  go_wp2
  go_ret
  exact ⟨rfl, rfl⟩
set_option maxRecDepth 100000 in
set_option maxHeartbeats 400000 in
theorem over_no (w : World) : Calls Tryd.prog 72 #[.bool false] w fun e w' => e = .returned (.int .i64 0) ∧ w = w' := by
  go_enter Tryd.func72, Tryd.ntmps72
  go_wp2
  go_ret
  exact ⟨rfl, rfl⟩
def overI (b : Bool) : Int := if b then 10 else 0
theorem over_any (b : Bool) (w : World) : Calls Tryd.prog 72 #[.bool b] w fun e w' => e = .returned (.int .i64 (overI b)) ∧ w = w' := by
  cases b
  · exact over_no w
  · exact over_yes w
/-- what numbers makes of a number and an error -/
def numR (n e : Int) : Dat × Int := if e = 0 then (Dat.int n, 0) else (Dat.zero, e)
section
variable (n e : Int) (g c m : Nat) (l : List Dat) (w : World)
set_option maxRecDepth 100000 in
set_option maxHeartbeats 800000 in
theorem numbers_bad (hm : l.length = m) (hl : m ≤ 1000) (hd : Dats w g l) (hs : ∀ d ∈ l, d.s.size ≤ 140737488355328) (ho : ofN 3 l = -1) :
    Calls Tryd.prog 71 #[.int .i64 n, .int .i64 e, .slice (some ⟨g, 0, none⟩) m c] w (RefOut w (⟨0, false, 0, ⟨#[]⟩⟩, 13)) := by
  have HO := Lib.hid ho
  clear ho
  have HM := Lib.hid hm
  clear hm
  have HD := Lib.hid hd
  clear hd
  have HS := Lib.hid hs
  clear hs
  have z_0 : Bk (w.alloc (.cells #[.int .u8 (0), .bool (false), .int .i64 (0), .string (⟨#[]⟩)] 24)) w.heap.size 24 #[.int .u8 (0), .bool (false), .int .i64 (0), .string (⟨#[]⟩)] := Bk.new _ _ _
  have F0 : Ext w (w.alloc (.cells #[.int .u8 (0), .bool (false), .int .i64 (0), .string (⟨#[]⟩)] 24)) := (Ext.refl w).alloc _
  have m1 : True := trivial
  go_enter Tryd.func71, Tryd.ntmps71
  go_wp2_with (first
    | (have z := m1; clear z m1; go_at_call 61; refine (rof_at 3 _ _ _ l _ HO HM.out hl (HD.out.ext F0) HS.out).mono ?_; rintro e w1 ⟨rfl, x1⟩; have z_1 := z_0.ext x1; have F1 : Ext w w1 := (F0.trans x1); clear x1; have z_10 : w1.cell? ⟨w.heap.size, 0, none⟩ = some (.int .u8 (0)) := z_1.cell 0; have z_11 : w1.cell? ⟨w.heap.size, 1, none⟩ = some (.bool (false)) := z_1.cell 1; have z_12 : w1.cell? ⟨w.heap.size, 2, none⟩ = some (.int .i64 (0)) := z_1.cell 2; have z_13 : w1.cell? ⟨w.heap.size, 3, none⟩ = some (.string (⟨#[]⟩)) := z_1.cell 3; have z_1f0 : w1.frozen? ⟨w.heap.size, 0, none⟩ = false := z_1.free 0; have z_1f1 : w1.frozen? ⟨w.heap.size, 1, none⟩ = false := z_1.free 1; have z_1f2 : w1.frozen? ⟨w.heap.size, 2, none⟩ = false := z_1.free 2; have z_1f3 : w1.frozen? ⟨w.heap.size, 3, none⟩ = false := z_1.free 3; have m2 : True := trivial)
    | fail)
  have q := z_1.set4 (.int .u8 (0)) (.bool (false)) (.int .i64 (0)) (.string (⟨#[]⟩))
  refine bodyPost_ret (v := .tuple #[.agg #[.int .u8 (0), .bool (false), .int .i64 (0), .string (⟨#[]⟩)], .int .i64 (13)]) (by simp [results, Tryd.results71, go_sem, q.1, q.2.1, q.2.2.1, q.2.2.2]) rfl ⟨rfl, Ext.set4 F1 (by first | omega | simp) _ _ _ _⟩
set_option maxRecDepth 100000 in
set_option maxHeartbeats 800000 in
theorem numbers_null (hm : l.length = m) (hl : m ≤ 1000) (hd : Dats w g l) (hs : ∀ d ∈ l, d.s.size ≤ 140737488355328) (ho : ofN 3 l = 1) :
    Calls Tryd.prog 71 #[.int .i64 n, .int .i64 e, .slice (some ⟨g, 0, none⟩) m c] w (RefOut w (⟨1, false, 0, ⟨#[]⟩⟩, 0)) := by
  have HO := Lib.hid ho
  clear ho
  have HM := Lib.hid hm
  clear hm
  have HD := Lib.hid hd
  clear hd
  have HS := Lib.hid hs
  clear hs
  have z_0 : Bk (w.alloc (.cells #[.int .u8 (0), .bool (false), .int .i64 (0), .string (⟨#[]⟩)] 24)) w.heap.size 24 #[.int .u8 (0), .bool (false), .int .i64 (0), .string (⟨#[]⟩)] := Bk.new _ _ _
  have F0 : Ext w (w.alloc (.cells #[.int .u8 (0), .bool (false), .int .i64 (0), .string (⟨#[]⟩)] 24)) := (Ext.refl w).alloc _
  have m1 : True := trivial
  go_enter Tryd.func71, Tryd.ntmps71
  go_wp2_with (first
    | (have z := m1; clear z m1; go_at_call 61; refine (rof_at 3 _ _ _ l _ HO HM.out hl (HD.out.ext F0) HS.out).mono ?_; rintro e w1 ⟨rfl, x1⟩; have z_1 := z_0.ext x1; have F1 : Ext w w1 := (F0.trans x1); clear x1; have z_10 : w1.cell? ⟨w.heap.size, 0, none⟩ = some (.int .u8 (0)) := z_1.cell 0; have z_11 : w1.cell? ⟨w.heap.size, 1, none⟩ = some (.bool (false)) := z_1.cell 1; have z_12 : w1.cell? ⟨w.heap.size, 2, none⟩ = some (.int .i64 (0)) := z_1.cell 2; have z_13 : w1.cell? ⟨w.heap.size, 3, none⟩ = some (.string (⟨#[]⟩)) := z_1.cell 3; have z_1f0 : w1.frozen? ⟨w.heap.size, 0, none⟩ = false := z_1.free 0; have z_1f1 : w1.frozen? ⟨w.heap.size, 1, none⟩ = false := z_1.free 1; have z_1f2 : w1.frozen? ⟨w.heap.size, 2, none⟩ = false := z_1.free 2; have z_1f3 : w1.frozen? ⟨w.heap.size, 3, none⟩ = false := z_1.free 3; have m2 : True := trivial)
    | (have z := m2; clear z m2; go_at_call 62; refine (rnull_any _).mono ?_; rintro e w2 ⟨rfl, x2⟩; have z_2 := z_1.ext x2; have F2 : Ext w w2 := (F1.trans x2); clear x2; have z_20 : w2.cell? ⟨w.heap.size, 0, none⟩ = some (.int .u8 (0)) := z_2.cell 0; have z_21 : w2.cell? ⟨w.heap.size, 1, none⟩ = some (.bool (false)) := z_2.cell 1; have z_22 : w2.cell? ⟨w.heap.size, 2, none⟩ = some (.int .i64 (0)) := z_2.cell 2; have z_23 : w2.cell? ⟨w.heap.size, 3, none⟩ = some (.string (⟨#[]⟩)) := z_2.cell 3; have z_2f0 : w2.frozen? ⟨w.heap.size, 0, none⟩ = false := z_2.free 0; have z_2f1 : w2.frozen? ⟨w.heap.size, 1, none⟩ = false := z_2.free 1; have z_2f2 : w2.frozen? ⟨w.heap.size, 2, none⟩ = false := z_2.free 2; have z_2f3 : w2.frozen? ⟨w.heap.size, 3, none⟩ = false := z_2.free 3; have m3 : True := trivial)
    | fail)
  have q := z_2.set4 (.int .u8 (1)) (.bool (false)) (.int .i64 (0)) (.string (⟨#[]⟩))
  refine bodyPost_ret (v := .tuple #[.agg #[.int .u8 (1), .bool (false), .int .i64 (0), .string (⟨#[]⟩)], .int .i64 (0)]) (by simp [results, Tryd.results71, go_sem, q.1, q.2.1, q.2.2.1, q.2.2.2]) rfl ⟨rfl, Ext.set4 F2 (by first | omega | simp) _ _ _ _⟩
set_option maxRecDepth 100000 in
set_option maxHeartbeats 800000 in
theorem numbers_err (hm : l.length = m) (hl : m ≤ 1000) (hd : Dats w g l) (hs : ∀ d ∈ l, d.s.size ≤ 140737488355328) (ho : ofN 3 l = 0) (he : (e != 0) = true) :
    Calls Tryd.prog 71 #[.int .i64 n, .int .i64 e, .slice (some ⟨g, 0, none⟩) m c] w (RefOut w (⟨0, false, 0, ⟨#[]⟩⟩, e)) := by
  have HO := Lib.hid ho
  clear ho
  have HM := Lib.hid hm
  clear hm
  have HD := Lib.hid hd
  clear hd
  have HS := Lib.hid hs
  clear hs
  have z_0 : Bk (w.alloc (.cells #[.int .u8 (0), .bool (false), .int .i64 (0), .string (⟨#[]⟩)] 24)) w.heap.size 24 #[.int .u8 (0), .bool (false), .int .i64 (0), .string (⟨#[]⟩)] := Bk.new _ _ _
  have F0 : Ext w (w.alloc (.cells #[.int .u8 (0), .bool (false), .int .i64 (0), .string (⟨#[]⟩)] 24)) := (Ext.refl w).alloc _
  have m1 : True := trivial
  go_enter Tryd.func71, Tryd.ntmps71
  go_wp2_with (first
    | (have z := m1; clear z m1; go_at_call 61; refine (rof_at 3 _ _ _ l _ HO HM.out hl (HD.out.ext F0) HS.out).mono ?_; rintro e w1 ⟨rfl, x1⟩; have z_1 := z_0.ext x1; have F1 : Ext w w1 := (F0.trans x1); clear x1; have z_10 : w1.cell? ⟨w.heap.size, 0, none⟩ = some (.int .u8 (0)) := z_1.cell 0; have z_11 : w1.cell? ⟨w.heap.size, 1, none⟩ = some (.bool (false)) := z_1.cell 1; have z_12 : w1.cell? ⟨w.heap.size, 2, none⟩ = some (.int .i64 (0)) := z_1.cell 2; have z_13 : w1.cell? ⟨w.heap.size, 3, none⟩ = some (.string (⟨#[]⟩)) := z_1.cell 3; have z_1f0 : w1.frozen? ⟨w.heap.size, 0, none⟩ = false := z_1.free 0; have z_1f1 : w1.frozen? ⟨w.heap.size, 1, none⟩ = false := z_1.free 1; have z_1f2 : w1.frozen? ⟨w.heap.size, 2, none⟩ = false := z_1.free 2; have z_1f3 : w1.frozen? ⟨w.heap.size, 3, none⟩ = false := z_1.free 3; have m2 : True := trivial)
    | fail)
  have q := z_1.set4 (.int .u8 (0)) (.bool (false)) (.int .i64 (0)) (.string (⟨#[]⟩))
  refine bodyPost_ret (v := .tuple #[.agg #[.int .u8 (0), .bool (false), .int .i64 (0), .string (⟨#[]⟩)], .int .i64 (e)]) (by simp [results, Tryd.results71, go_sem, q.1, q.2.1, q.2.2.1, q.2.2.2]) rfl ⟨rfl, Ext.set4 F1 (by first | omega | simp) _ _ _ _⟩
set_option maxRecDepth 100000 in
set_option maxHeartbeats 800000 in
theorem numbers_on (hm : l.length = m) (hl : m ≤ 1000) (hd : Dats w g l) (hs : ∀ d ∈ l, d.s.size ≤ 140737488355328) (ho : ofN 3 l = 0) (he : (e != 0) = false) :
    Calls Tryd.prog 71 #[.int .i64 n, .int .i64 e, .slice (some ⟨g, 0, none⟩) m c] w (RefOut w (⟨3, false, n, ⟨#[]⟩⟩, 0)) := by
  have HO := Lib.hid ho
  clear ho
  have HM := Lib.hid hm
  clear hm
  have HD := Lib.hid hd
  clear hd
  have HS := Lib.hid hs
  clear hs
  have z_0 : Bk (w.alloc (.cells #[.int .u8 (0), .bool (false), .int .i64 (0), .string (⟨#[]⟩)] 24)) w.heap.size 24 #[.int .u8 (0), .bool (false), .int .i64 (0), .string (⟨#[]⟩)] := Bk.new _ _ _
  have F0 : Ext w (w.alloc (.cells #[.int .u8 (0), .bool (false), .int .i64 (0), .string (⟨#[]⟩)] 24)) := (Ext.refl w).alloc _
  have m1 : True := trivial
  go_enter Tryd.func71, Tryd.ntmps71
  go_wp2_with (first
    | (have z := m1; clear z m1; go_at_call 61; refine (rof_at 3 _ _ _ l _ HO HM.out hl (HD.out.ext F0) HS.out).mono ?_; rintro e w1 ⟨rfl, x1⟩; have z_1 := z_0.ext x1; have F1 : Ext w w1 := (F0.trans x1); clear x1; have z_10 : w1.cell? ⟨w.heap.size, 0, none⟩ = some (.int .u8 (0)) := z_1.cell 0; have z_11 : w1.cell? ⟨w.heap.size, 1, none⟩ = some (.bool (false)) := z_1.cell 1; have z_12 : w1.cell? ⟨w.heap.size, 2, none⟩ = some (.int .i64 (0)) := z_1.cell 2; have z_13 : w1.cell? ⟨w.heap.size, 3, none⟩ = some (.string (⟨#[]⟩)) := z_1.cell 3; have z_1f0 : w1.frozen? ⟨w.heap.size, 0, none⟩ = false := z_1.free 0; have z_1f1 : w1.frozen? ⟨w.heap.size, 1, none⟩ = false := z_1.free 1; have z_1f2 : w1.frozen? ⟨w.heap.size, 2, none⟩ = false := z_1.free 2; have z_1f3 : w1.frozen? ⟨w.heap.size, 3, none⟩ = false := z_1.free 3; have m2 : True := trivial)
    | (have z := m2; clear z m2; go_at_call 52; refine (refInt_any _ _).mono ?_; rintro e w2 ⟨rfl, x2⟩; have z_2 := z_1.ext x2; have F2 : Ext w w2 := (F1.trans x2); clear x2; have z_20 : w2.cell? ⟨w.heap.size, 0, none⟩ = some (.int .u8 (0)) := z_2.cell 0; have z_21 : w2.cell? ⟨w.heap.size, 1, none⟩ = some (.bool (false)) := z_2.cell 1; have z_22 : w2.cell? ⟨w.heap.size, 2, none⟩ = some (.int .i64 (0)) := z_2.cell 2; have z_23 : w2.cell? ⟨w.heap.size, 3, none⟩ = some (.string (⟨#[]⟩)) := z_2.cell 3; have z_2f0 : w2.frozen? ⟨w.heap.size, 0, none⟩ = false := z_2.free 0; have z_2f1 : w2.frozen? ⟨w.heap.size, 1, none⟩ = false := z_2.free 1; have z_2f2 : w2.frozen? ⟨w.heap.size, 2, none⟩ = false := z_2.free 2; have z_2f3 : w2.frozen? ⟨w.heap.size, 3, none⟩ = false := z_2.free 3; have m3 : True := trivial)
    | fail)
  have q := z_2.set4 (.int .u8 (3)) (.bool (false)) (.int .i64 (n)) (.string (⟨#[]⟩))
  refine bodyPost_ret (v := .tuple #[.agg #[.int .u8 (3), .bool (false), .int .i64 (n), .string (⟨#[]⟩)], .int .i64 (0)]) (by simp [results, Tryd.results71, go_sem, q.1, q.2.1, q.2.2.1, q.2.2.2]) rfl ⟨rfl, Ext.set4 F2 (by first | omega | simp) _ _ _ _⟩
theorem numbers_any (hm : l.length = m) (hl : m ≤ 1000) (hd : Dats w g l) (hs : ∀ d ∈ l, d.s.size ≤ 140737488355328) : Calls Tryd.prog 71 #[.int .i64 n, .int .i64 e, .slice (some ⟨g, 0, none⟩) m c] w (RefOut w (applyR 3 l (numR n e))) := by
  rcases ofN_two 3 l with ⟨ho, h⟩ | ⟨ho, h⟩ | ⟨ho, h⟩ <;> rw [h]
  · exact numbers_bad n e g c m l w hm hl hd hs ho
  · exact numbers_null n e g c m l w hm hl hd hs ho
  · unfold numR
    by_cases he : e = 0
    · rw [if_pos he]; exact numbers_on n e g c m l w hm hl hd hs ho (by simpa using he)
    · rw [if_neg he]; exact numbers_err n e g c m l w hm hl hd hs ho (by simpa using he)
end
theorem numbers_at {r : Dat × Int} (n e : Int) (g c m : Nat) (l : List Dat) (w : World) (h : Hid (applyR 3 l (numR n e) = r)) (hm : l.length = m) (hl : m ≤ 1000) (hd : Dats w g l) (hs : ∀ d ∈ l, d.s.size ≤ 140737488355328) :
    Calls Tryd.prog 71 #[.int .i64 n, .int .i64 e, .slice (some ⟨g, 0, none⟩) m c] w (RefOut w r) := h.out ▸ numbers_any n e g c m l w hm hl hd hs
set_option maxRecDepth 100000 in
set_option maxHeartbeats 1600000 in
theorem rneg_0 (ka na : Int) (ba : Bool) (sa : ByteArray) (c : Int) (w : World) (hs : sa.size ≤ 140737488355328) (hw : wrap64 (-na) = c) (f0 : (na == -9223372036854775808) = false) :
    Calls Tryd.prog 32 #[.agg #[.int .u8 (ka), .bool (ba), .int .i64 (na), .string (sa)]] w (RefOut w (applyR 3 [⟨ka, ba, na, sa⟩] (numR c 0))) := by
  have hw2 : IntKind.i64.wrap (-na) = c := by rw [IntKind.wrap_i64]; simpa [wrap64] using hw
  obtain ⟨⟨⟨rk, rb, rn, rs⟩, re⟩, hr⟩ : ∃ r, applyR 3 [⟨ka, ba, na, sa⟩] (numR c 0) = r := ⟨_, rfl⟩
  rw [hr]
  have HR := Lib.hid hr
  clear hr
  go_enter Tryd.func32, Tryd.ntmps32
  go_upto_region 1 with fail
  have a0 : Bk ((w.alloc (.cells #[.int .u8 (ka), .bool (ba), .int .i64 (na), .string (sa)] 24)).alloc (.cells #[.int .u8 (0), .bool (false), .int .i64 (0), .string (⟨#[]⟩)] 24)) (w.heap.size) 24 #[.int .u8 (ka), .bool (ba), .int .i64 (na), .string (sa)] := (Bk.at (by simp)).alloc _
  have z0 : Bk ((w.alloc (.cells #[.int .u8 (ka), .bool (ba), .int .i64 (na), .string (sa)] 24)).alloc (.cells #[.int .u8 (0), .bool (false), .int .i64 (0), .string (⟨#[]⟩)] 24)) (w.heap.size + 1) 24 #[.int .u8 (0), .bool (false), .int .i64 (0), .string (⟨#[]⟩)] := Bk.at (by simp)
  have E0 : Ext w ((w.alloc (.cells #[.int .u8 (ka), .bool (ba), .int .i64 (na), .string (sa)] 24)).alloc (.cells #[.int .u8 (0), .bool (false), .int .i64 (0), .string (⟨#[]⟩)] 24)) := ((Ext.refl w).alloc _).alloc _
  obtain ⟨w0, hw0⟩ : ∃ w0, w0 = ((w.alloc (.cells #[.int .u8 (ka), .bool (ba), .int .i64 (na), .string (sa)] 24)).alloc (.cells #[.int .u8 (0), .bool (false), .int .i64 (0), .string (⟨#[]⟩)] 24)) := ⟨_, rfl⟩
  rw [← hw0] at a0 z0 E0 ⊢
  clear hw0
  have X : Ext w0 w0.drew := (Ext.refl w0).drew
  have p00 : ∀ y : Xt w0.drew, y.W.cell? ⟨w.heap.size, 0, none⟩ = some (.int .u8 (ka)) := fun y => (a0.ext (X.trans y.x)).cell 0
  have p01 : ∀ y : Xt w0.drew, y.W.cell? ⟨w.heap.size, 1, none⟩ = some (.bool (ba)) := fun y => (a0.ext (X.trans y.x)).cell 1
  have p02 : ∀ y : Xt w0.drew, y.W.cell? ⟨w.heap.size, 2, none⟩ = some (.int .i64 (na)) := fun y => (a0.ext (X.trans y.x)).cell 2
  have p03 : ∀ y : Xt w0.drew, y.W.cell? ⟨w.heap.size, 3, none⟩ = some (.string (sa)) := fun y => (a0.ext (X.trans y.x)).cell 3
  refine wp_region_ord [0,1,3,0,8,24,56,0,128,511,1023,1023,4095,8191] (.flo [0,1,2,3,4,5,7] (.both 6 8 (.ext 8 (.one 9 (.flo [10,11] (.one 12 (.flo [13] (.fin)))))) (.ext 6 (.one 9 (.flo [10,11] (.one 12 (.flo [13] (.fin)))))))) (by kernel_rfl) (by kernel_rfl) (by intro _ _ d _ _ h; cases d <;> exact h) ?_
  (refine ord_flo (pick_cons rfl (pick_cons rfl (pick_cons rfl (pick_cons rfl (pick_cons rfl (pick_cons rfl (pick_cons rfl pick_nil))))))) ?_; (repeat (go_big_quiet_step (fail))); refine wpQuiet_nil ?_; show ordWalk _ _ _ _ _ _ _)
  refine ord_both (pick_cons rfl pick_nil) (pick_cons rfl pick_nil) ?_ ?_ <;> intro K_ hK_
  · go_wp2_with (go_at_call 72; refine (over_any _ _).mono ?_; rintro e w9 ⟨rfl, rfl⟩)
    refine ordNext.mk (Ext.refl _) ?_
    refine ord_ext (pick_cons rfl pick_nil) ?_; intro K_ hK_
    go_wp2
    refine ordNext.mk ((Ext.refl _).alloc _) ?_
    refine ord_one (pick_cons rfl pick_nil) ?_; intro K_ hK_
    go_wp2_with (go_at_call 71; refine (numbers_at _ _ _ _ 1 [⟨ka, ba, na, sa⟩] _ HR rfl (by omega) (Dats.one (by first | exact Bk.at (by simp) | exact (Bk.at (by simp)).drew)) (by simpa using hs)).mono ?_; rintro e w2 ⟨rfl, x2⟩; have z2 : Bk w2 (w.heap.size + 1) 24 #[.int .u8 (0), .bool (false), .int .i64 (0), .string (⟨#[]⟩)] := (z0.ext ((X.alloc (.cells #[.int .u8 (ka), .bool (ba), .int .i64 (na), .string (sa)] 24)).trans (by exact x2))); have z2f0 : w2.frozen? ⟨w.heap.size + 1, 0, none⟩ = false := z2.free 0; have z2f1 : w2.frozen? ⟨w.heap.size + 1, 1, none⟩ = false := z2.free 1; have z2f2 : w2.frozen? ⟨w.heap.size + 1, 2, none⟩ = false := z2.free 2; have z2f3 : w2.frozen? ⟨w.heap.size + 1, 3, none⟩ = false := z2.free 3; have z2c0 : w2.cell? ⟨w.heap.size + 1, 0, none⟩ = some (.int .u8 (0)) := z2.cell 0; have z2c1 : w2.cell? ⟨w.heap.size + 1, 1, none⟩ = some (.bool (false)) := z2.cell 1; have z2c2 : w2.cell? ⟨w.heap.size + 1, 2, none⟩ = some (.int .i64 (0)) := z2.cell 2; have z2c3 : w2.cell? ⟨w.heap.size + 1, 3, none⟩ = some (.string (⟨#[]⟩)) := z2.cell 3)
    (refine ord_flo (pick_cons rfl (pick_cons rfl pick_nil)) ?_; (repeat (go_big_quiet_step (fail))); refine wpQuiet_nil ?_; show ordWalk _ _ _ _ _ _ _)
    refine ord_one (pick_cons rfl pick_nil) ?_; intro K_ hK_
    go_wp2
    (refine ord_flo (pick_cons rfl pick_nil) ?_; (repeat (go_big_quiet_step (fail))); refine wpQuiet_nil ?_; show ordWalk _ _ _ _ _ _ _)
    refine ord_fin ?_
    go_wp2
    have q := z2.set4 (.int .u8 rk) (.bool rb) (.int .i64 rn) (.string rs)
    refine bodyPost_ret (v := .tuple #[.agg #[.int .u8 rk, .bool rb, .int .i64 rn, .string rs], .int .i64 re]) (by simp [results, Tryd.results32, go_sem, q.1, q.2.1, q.2.2.1, q.2.2.2]) rfl ⟨rfl, Ext.set4 (E0.trans ((X.alloc (.cells #[.int .u8 (ka), .bool (ba), .int .i64 (na), .string (sa)] 24)).trans (by exact x2))) (by first | omega | simp) _ _ _ _⟩
  · go_wp2
    refine ordNext.mk ((Ext.refl _).alloc _) ?_
    refine ord_ext (pick_cons rfl pick_nil) ?_; intro K_ hK_
    go_wp2_with (go_at_call 72; refine (over_any _ _).mono ?_; rintro e w9 ⟨rfl, rfl⟩)
    refine ordNext.mk (Ext.refl _) ?_
    refine ord_one (pick_cons rfl pick_nil) ?_; intro K_ hK_
    go_wp2_with (go_at_call 71; refine (numbers_at _ _ _ _ 1 [⟨ka, ba, na, sa⟩] _ HR rfl (by omega) (Dats.one (by first | exact Bk.at (by simp) | exact (Bk.at (by simp)).drew)) (by simpa using hs)).mono ?_; rintro e w2 ⟨rfl, x2⟩; have z2 : Bk w2 (w.heap.size + 1) 24 #[.int .u8 (0), .bool (false), .int .i64 (0), .string (⟨#[]⟩)] := (z0.ext ((X.alloc (.cells #[.int .u8 (ka), .bool (ba), .int .i64 (na), .string (sa)] 24)).trans (by exact x2))); have z2f0 : w2.frozen? ⟨w.heap.size + 1, 0, none⟩ = false := z2.free 0; have z2f1 : w2.frozen? ⟨w.heap.size + 1, 1, none⟩ = false := z2.free 1; have z2f2 : w2.frozen? ⟨w.heap.size + 1, 2, none⟩ = false := z2.free 2; have z2f3 : w2.frozen? ⟨w.heap.size + 1, 3, none⟩ = false := z2.free 3; have z2c0 : w2.cell? ⟨w.heap.size + 1, 0, none⟩ = some (.int .u8 (0)) := z2.cell 0; have z2c1 : w2.cell? ⟨w.heap.size + 1, 1, none⟩ = some (.bool (false)) := z2.cell 1; have z2c2 : w2.cell? ⟨w.heap.size + 1, 2, none⟩ = some (.int .i64 (0)) := z2.cell 2; have z2c3 : w2.cell? ⟨w.heap.size + 1, 3, none⟩ = some (.string (⟨#[]⟩)) := z2.cell 3)
    (refine ord_flo (pick_cons rfl (pick_cons rfl pick_nil)) ?_; (repeat (go_big_quiet_step (fail))); refine wpQuiet_nil ?_; show ordWalk _ _ _ _ _ _ _)
    refine ord_one (pick_cons rfl pick_nil) ?_; intro K_ hK_
    go_wp2
    (refine ord_flo (pick_cons rfl pick_nil) ?_; (repeat (go_big_quiet_step (fail))); refine wpQuiet_nil ?_; show ordWalk _ _ _ _ _ _ _)
    refine ord_fin ?_
    go_wp2
    have q := z2.set4 (.int .u8 rk) (.bool rb) (.int .i64 rn) (.string rs)
    refine bodyPost_ret (v := .tuple #[.agg #[.int .u8 rk, .bool rb, .int .i64 rn, .string rs], .int .i64 re]) (by simp [results, Tryd.results32, go_sem, q.1, q.2.1, q.2.2.1, q.2.2.2]) rfl ⟨rfl, Ext.set4 (E0.trans ((X.alloc (.cells #[.int .u8 (ka), .bool (ba), .int .i64 (na), .string (sa)] 24)).trans (by exact x2))) (by first | omega | simp) _ _ _ _⟩
set_option maxRecDepth 100000 in
set_option maxHeartbeats 1600000 in
theorem rneg_1 (ka na : Int) (ba : Bool) (sa : ByteArray) (c : Int) (w : World) (hs : sa.size ≤ 140737488355328) (hw : wrap64 (-na) = c) (f0 : (na == -9223372036854775808) = true) :
    Calls Tryd.prog 32 #[.agg #[.int .u8 (ka), .bool (ba), .int .i64 (na), .string (sa)]] w (RefOut w (applyR 3 [⟨ka, ba, na, sa⟩] (numR c 10))) := by
  have hw2 : IntKind.i64.wrap (-na) = c := by rw [IntKind.wrap_i64]; simpa [wrap64] using hw
  obtain ⟨⟨⟨rk, rb, rn, rs⟩, re⟩, hr⟩ : ∃ r, applyR 3 [⟨ka, ba, na, sa⟩] (numR c 10) = r := ⟨_, rfl⟩
  rw [hr]
  have HR := Lib.hid hr
  clear hr
  go_enter Tryd.func32, Tryd.ntmps32
  go_upto_region 1 with fail
  have a0 : Bk ((w.alloc (.cells #[.int .u8 (ka), .bool (ba), .int .i64 (na), .string (sa)] 24)).alloc (.cells #[.int .u8 (0), .bool (false), .int .i64 (0), .string (⟨#[]⟩)] 24)) (w.heap.size) 24 #[.int .u8 (ka), .bool (ba), .int .i64 (na), .string (sa)] := (Bk.at (by simp)).alloc _
  have z0 : Bk ((w.alloc (.cells #[.int .u8 (ka), .bool (ba), .int .i64 (na), .string (sa)] 24)).alloc (.cells #[.int .u8 (0), .bool (false), .int .i64 (0), .string (⟨#[]⟩)] 24)) (w.heap.size + 1) 24 #[.int .u8 (0), .bool (false), .int .i64 (0), .string (⟨#[]⟩)] := Bk.at (by simp)
  have E0 : Ext w ((w.alloc (.cells #[.int .u8 (ka), .bool (ba), .int .i64 (na), .string (sa)] 24)).alloc (.cells #[.int .u8 (0), .bool (false), .int .i64 (0), .string (⟨#[]⟩)] 24)) := ((Ext.refl w).alloc _).alloc _
  obtain ⟨w0, hw0⟩ : ∃ w0, w0 = ((w.alloc (.cells #[.int .u8 (ka), .bool (ba), .int .i64 (na), .string (sa)] 24)).alloc (.cells #[.int .u8 (0), .bool (false), .int .i64 (0), .string (⟨#[]⟩)] 24)) := ⟨_, rfl⟩
  rw [← hw0] at a0 z0 E0 ⊢
  clear hw0
  have X : Ext w0 w0.drew := (Ext.refl w0).drew
  have p00 : ∀ y : Xt w0.drew, y.W.cell? ⟨w.heap.size, 0, none⟩ = some (.int .u8 (ka)) := fun y => (a0.ext (X.trans y.x)).cell 0
  have p01 : ∀ y : Xt w0.drew, y.W.cell? ⟨w.heap.size, 1, none⟩ = some (.bool (ba)) := fun y => (a0.ext (X.trans y.x)).cell 1
  have p02 : ∀ y : Xt w0.drew, y.W.cell? ⟨w.heap.size, 2, none⟩ = some (.int .i64 (na)) := fun y => (a0.ext (X.trans y.x)).cell 2
  have p03 : ∀ y : Xt w0.drew, y.W.cell? ⟨w.heap.size, 3, none⟩ = some (.string (sa)) := fun y => (a0.ext (X.trans y.x)).cell 3
  refine wp_region_ord [0,1,3,0,8,24,56,0,128,511,1023,1023,4095,8191] (.flo [0,1,2,3,4,5,7] (.both 6 8 (.ext 8 (.one 9 (.flo [10,11] (.one 12 (.flo [13] (.fin)))))) (.ext 6 (.one 9 (.flo [10,11] (.one 12 (.flo [13] (.fin)))))))) (by kernel_rfl) (by kernel_rfl) (by intro _ _ d _ _ h; cases d <;> exact h) ?_
  (refine ord_flo (pick_cons rfl (pick_cons rfl (pick_cons rfl (pick_cons rfl (pick_cons rfl (pick_cons rfl (pick_cons rfl pick_nil))))))) ?_; (repeat (go_big_quiet_step (fail))); refine wpQuiet_nil ?_; show ordWalk _ _ _ _ _ _ _)
  refine ord_both (pick_cons rfl pick_nil) (pick_cons rfl pick_nil) ?_ ?_ <;> intro K_ hK_
  · go_wp2_with (go_at_call 72; refine (over_any _ _).mono ?_; rintro e w9 ⟨rfl, rfl⟩)
    refine ordNext.mk (Ext.refl _) ?_
    refine ord_ext (pick_cons rfl pick_nil) ?_; intro K_ hK_
    go_wp2
    refine ordNext.mk ((Ext.refl _).alloc _) ?_
    refine ord_one (pick_cons rfl pick_nil) ?_; intro K_ hK_
    go_wp2_with (go_at_call 71; refine (numbers_at _ _ _ _ 1 [⟨ka, ba, na, sa⟩] _ HR rfl (by omega) (Dats.one (by first | exact Bk.at (by simp) | exact (Bk.at (by simp)).drew)) (by simpa using hs)).mono ?_; rintro e w2 ⟨rfl, x2⟩; have z2 : Bk w2 (w.heap.size + 1) 24 #[.int .u8 (0), .bool (false), .int .i64 (0), .string (⟨#[]⟩)] := (z0.ext ((X.alloc (.cells #[.int .u8 (ka), .bool (ba), .int .i64 (na), .string (sa)] 24)).trans (by exact x2))); have z2f0 : w2.frozen? ⟨w.heap.size + 1, 0, none⟩ = false := z2.free 0; have z2f1 : w2.frozen? ⟨w.heap.size + 1, 1, none⟩ = false := z2.free 1; have z2f2 : w2.frozen? ⟨w.heap.size + 1, 2, none⟩ = false := z2.free 2; have z2f3 : w2.frozen? ⟨w.heap.size + 1, 3, none⟩ = false := z2.free 3; have z2c0 : w2.cell? ⟨w.heap.size + 1, 0, none⟩ = some (.int .u8 (0)) := z2.cell 0; have z2c1 : w2.cell? ⟨w.heap.size + 1, 1, none⟩ = some (.bool (false)) := z2.cell 1; have z2c2 : w2.cell? ⟨w.heap.size + 1, 2, none⟩ = some (.int .i64 (0)) := z2.cell 2; have z2c3 : w2.cell? ⟨w.heap.size + 1, 3, none⟩ = some (.string (⟨#[]⟩)) := z2.cell 3)
    (refine ord_flo (pick_cons rfl (pick_cons rfl pick_nil)) ?_; (repeat (go_big_quiet_step (fail))); refine wpQuiet_nil ?_; show ordWalk _ _ _ _ _ _ _)
    refine ord_one (pick_cons rfl pick_nil) ?_; intro K_ hK_
    go_wp2
    (refine ord_flo (pick_cons rfl pick_nil) ?_; (repeat (go_big_quiet_step (fail))); refine wpQuiet_nil ?_; show ordWalk _ _ _ _ _ _ _)
    refine ord_fin ?_
    go_wp2
    have q := z2.set4 (.int .u8 rk) (.bool rb) (.int .i64 rn) (.string rs)
    refine bodyPost_ret (v := .tuple #[.agg #[.int .u8 rk, .bool rb, .int .i64 rn, .string rs], .int .i64 re]) (by simp [results, Tryd.results32, go_sem, q.1, q.2.1, q.2.2.1, q.2.2.2]) rfl ⟨rfl, Ext.set4 (E0.trans ((X.alloc (.cells #[.int .u8 (ka), .bool (ba), .int .i64 (na), .string (sa)] 24)).trans (by exact x2))) (by first | omega | simp) _ _ _ _⟩
  · go_wp2
    refine ordNext.mk ((Ext.refl _).alloc _) ?_
    refine ord_ext (pick_cons rfl pick_nil) ?_; intro K_ hK_
    go_wp2_with (go_at_call 72; refine (over_any _ _).mono ?_; rintro e w9 ⟨rfl, rfl⟩)
    refine ordNext.mk (Ext.refl _) ?_
    refine ord_one (pick_cons rfl pick_nil) ?_; intro K_ hK_
    go_wp2_with (go_at_call 71; refine (numbers_at _ _ _ _ 1 [⟨ka, ba, na, sa⟩] _ HR rfl (by omega) (Dats.one (by first | exact Bk.at (by simp) | exact (Bk.at (by simp)).drew)) (by simpa using hs)).mono ?_; rintro e w2 ⟨rfl, x2⟩; have z2 : Bk w2 (w.heap.size + 1) 24 #[.int .u8 (0), .bool (false), .int .i64 (0), .string (⟨#[]⟩)] := (z0.ext ((X.alloc (.cells #[.int .u8 (ka), .bool (ba), .int .i64 (na), .string (sa)] 24)).trans (by exact x2))); have z2f0 : w2.frozen? ⟨w.heap.size + 1, 0, none⟩ = false := z2.free 0; have z2f1 : w2.frozen? ⟨w.heap.size + 1, 1, none⟩ = false := z2.free 1; have z2f2 : w2.frozen? ⟨w.heap.size + 1, 2, none⟩ = false := z2.free 2; have z2f3 : w2.frozen? ⟨w.heap.size + 1, 3, none⟩ = false := z2.free 3; have z2c0 : w2.cell? ⟨w.heap.size + 1, 0, none⟩ = some (.int .u8 (0)) := z2.cell 0; have z2c1 : w2.cell? ⟨w.heap.size + 1, 1, none⟩ = some (.bool (false)) := z2.cell 1; have z2c2 : w2.cell? ⟨w.heap.size + 1, 2, none⟩ = some (.int .i64 (0)) := z2.cell 2; have z2c3 : w2.cell? ⟨w.heap.size + 1, 3, none⟩ = some (.string (⟨#[]⟩)) := z2.cell 3)
    (refine ord_flo (pick_cons rfl (pick_cons rfl pick_nil)) ?_; (repeat (go_big_quiet_step (fail))); refine wpQuiet_nil ?_; show ordWalk _ _ _ _ _ _ _)
    refine ord_one (pick_cons rfl pick_nil) ?_; intro K_ hK_
    go_wp2
    (refine ord_flo (pick_cons rfl pick_nil) ?_; (repeat (go_big_quiet_step (fail))); refine wpQuiet_nil ?_; show ordWalk _ _ _ _ _ _ _)
    refine ord_fin ?_
    go_wp2
    have q := z2.set4 (.int .u8 rk) (.bool rb) (.int .i64 rn) (.string rs)
    refine bodyPost_ret (v := .tuple #[.agg #[.int .u8 rk, .bool rb, .int .i64 rn, .string rs], .int .i64 re]) (by simp [results, Tryd.results32, go_sem, q.1, q.2.1, q.2.2.1, q.2.2.2]) rfl ⟨rfl, Ext.set4 (E0.trans ((X.alloc (.cells #[.int .u8 (ka), .bool (ba), .int .i64 (na), .string (sa)] 24)).trans (by exact x2))) (by first | omega | simp) _ _ _ _⟩
set_option maxRecDepth 100000 in
set_option maxHeartbeats 1600000 in
theorem rdiv_m0 (ka na kb nb : Int) (ba bb : Bool) (sa sb : ByteArray) (c : Int) (w : World) (hs : sa.size ≤ 140737488355328) (hs2 : sb.size ≤ 140737488355328) (y0 : (nb == 0) = false) (y1 : (nb == -1) = true) (hw : wrap64 (-na) = c) (f0 : (na == -9223372036854775808) = false) :
    Calls Tryd.prog 36 #[.agg #[.int .u8 (ka), .bool (ba), .int .i64 (na), .string (sa)], .agg #[.int .u8 (kb), .bool (bb), .int .i64 (nb), .string (sb)]] w (RefOut w (applyR 3 [⟨ka, ba, na, sa⟩, ⟨kb, bb, nb, sb⟩] (numR c 0))) := by
  have hw2 : IntKind.i64.wrap (-na) = c := by rw [IntKind.wrap_i64]; simpa [wrap64] using hw
  obtain ⟨⟨⟨rk, rb, rn, rs⟩, re⟩, hr⟩ : ∃ r, applyR 3 [⟨ka, ba, na, sa⟩, ⟨kb, bb, nb, sb⟩] (numR c 0) = r := ⟨_, rfl⟩
  rw [hr]
  have HR := Lib.hid hr
  clear hr
  go_enter Tryd.func36, Tryd.ntmps36
  go_upto_region 4 with fail
  have a0 : Bk (((w.alloc (.cells #[.int .u8 (ka), .bool (ba), .int .i64 (na), .string (sa)] 24)).alloc (.cells #[.int .u8 (kb), .bool (bb), .int .i64 (nb), .string (sb)] 24)).alloc (.cells #[.int .u8 (0), .bool (false), .int .i64 (0), .string (⟨#[]⟩)] 24)) (w.heap.size) 24 #[.int .u8 (ka), .bool (ba), .int .i64 (na), .string (sa)] := ((Bk.at (by simp)).alloc _).alloc _
  have b0 : Bk (((w.alloc (.cells #[.int .u8 (ka), .bool (ba), .int .i64 (na), .string (sa)] 24)).alloc (.cells #[.int .u8 (kb), .bool (bb), .int .i64 (nb), .string (sb)] 24)).alloc (.cells #[.int .u8 (0), .bool (false), .int .i64 (0), .string (⟨#[]⟩)] 24)) (w.heap.size + 1) 24 #[.int .u8 (kb), .bool (bb), .int .i64 (nb), .string (sb)] := (Bk.at (by simp)).alloc _
  have z0 : Bk (((w.alloc (.cells #[.int .u8 (ka), .bool (ba), .int .i64 (na), .string (sa)] 24)).alloc (.cells #[.int .u8 (kb), .bool (bb), .int .i64 (nb), .string (sb)] 24)).alloc (.cells #[.int .u8 (0), .bool (false), .int .i64 (0), .string (⟨#[]⟩)] 24)) (w.heap.size + 1 + 1) 24 #[.int .u8 (0), .bool (false), .int .i64 (0), .string (⟨#[]⟩)] := Bk.at (by simp)
  have E0 : Ext w (((w.alloc (.cells #[.int .u8 (ka), .bool (ba), .int .i64 (na), .string (sa)] 24)).alloc (.cells #[.int .u8 (kb), .bool (bb), .int .i64 (nb), .string (sb)] 24)).alloc (.cells #[.int .u8 (0), .bool (false), .int .i64 (0), .string (⟨#[]⟩)] 24)) := (((Ext.refl w).alloc _).alloc _).alloc _
  obtain ⟨w0, hw0⟩ : ∃ w0, w0 = (((w.alloc (.cells #[.int .u8 (ka), .bool (ba), .int .i64 (na), .string (sa)] 24)).alloc (.cells #[.int .u8 (kb), .bool (bb), .int .i64 (nb), .string (sb)] 24)).alloc (.cells #[.int .u8 (0), .bool (false), .int .i64 (0), .string (⟨#[]⟩)] 24)) := ⟨_, rfl⟩
  rw [← hw0] at a0 b0 z0 E0 ⊢
  clear hw0
  have X : Ext w0 w0.drew := (Ext.refl w0).drew
  have p00 : ∀ y : Xt w0.drew, y.W.cell? ⟨w.heap.size, 0, none⟩ = some (.int .u8 (ka)) := fun y => (a0.ext (X.trans y.x)).cell 0
  have p01 : ∀ y : Xt w0.drew, y.W.cell? ⟨w.heap.size, 1, none⟩ = some (.bool (ba)) := fun y => (a0.ext (X.trans y.x)).cell 1
  have p02 : ∀ y : Xt w0.drew, y.W.cell? ⟨w.heap.size, 2, none⟩ = some (.int .i64 (na)) := fun y => (a0.ext (X.trans y.x)).cell 2
  have p03 : ∀ y : Xt w0.drew, y.W.cell? ⟨w.heap.size, 3, none⟩ = some (.string (sa)) := fun y => (a0.ext (X.trans y.x)).cell 3
  have p10 : ∀ y : Xt w0.drew, y.W.cell? ⟨w.heap.size + 1, 0, none⟩ = some (.int .u8 (kb)) := fun y => (b0.ext (X.trans y.x)).cell 0
  have p11 : ∀ y : Xt w0.drew, y.W.cell? ⟨w.heap.size + 1, 1, none⟩ = some (.bool (bb)) := fun y => (b0.ext (X.trans y.x)).cell 1
  have p12 : ∀ y : Xt w0.drew, y.W.cell? ⟨w.heap.size + 1, 2, none⟩ = some (.int .i64 (nb)) := fun y => (b0.ext (X.trans y.x)).cell 2
  have p13 : ∀ y : Xt w0.drew, y.W.cell? ⟨w.heap.size + 1, 3, none⟩ = some (.string (sb)) := fun y => (b0.ext (X.trans y.x)).cell 3
  refine wp_region_ord [0,1,3,0,8,24,56,0,0,384,1023,2047,2047,8191,16383] (.flo [0,1,2,3,4,5,7,8] (.both 6 9 (.ext 9 (.one 10 (.flo [11,12] (.one 13 (.flo [14] (.fin)))))) (.ext 6 (.one 10 (.flo [11,12] (.one 13 (.flo [14] (.fin)))))))) (by kernel_rfl) (by kernel_rfl) (by intro _ _ d _ _ h; cases d <;> exact h) ?_
  (refine ord_flo (pick_cons rfl (pick_cons rfl (pick_cons rfl (pick_cons rfl (pick_cons rfl (pick_cons rfl (pick_cons rfl (pick_cons rfl pick_nil)))))))) ?_; (repeat (go_big_quiet_step (fail))); refine wpQuiet_nil ?_; show ordWalk _ _ _ _ _ _ _)
  refine ord_both (pick_cons rfl pick_nil) (pick_cons rfl pick_nil) ?_ ?_ <;> intro K_ hK_
  · go_wp2_with (go_at_call 72; refine (over_any _ _).mono ?_; rintro e w9 ⟨rfl, rfl⟩)
    refine ordNext.mk (Ext.refl _) ?_
    refine ord_ext (pick_cons rfl pick_nil) ?_; intro K_ hK_
    go_wp2
    refine ordNext.mk ((Ext.refl _).alloc _) ?_
    refine ord_one (pick_cons rfl pick_nil) ?_; intro K_ hK_
    go_wp2_with (go_at_call 71; refine (numbers_at _ _ _ _ 2 [⟨ka, ba, na, sa⟩, ⟨kb, bb, nb, sb⟩] _ HR rfl (by omega) (Dats.two (by first | exact Bk.at (by simp) | exact (Bk.at (by simp)).drew)) (by simpa using ⟨hs, hs2⟩)).mono ?_; rintro e w2 ⟨rfl, x2⟩; have z2 : Bk w2 (w.heap.size + 1 + 1) 24 #[.int .u8 (0), .bool (false), .int .i64 (0), .string (⟨#[]⟩)] := (z0.ext ((X.alloc (.cells #[.int .u8 (ka), .bool (ba), .int .i64 (na), .string (sa), .int .u8 (kb), .bool (bb), .int .i64 (nb), .string (sb)] 24)).trans (by exact x2))); have z2f0 : w2.frozen? ⟨w.heap.size + 1 + 1, 0, none⟩ = false := z2.free 0; have z2f1 : w2.frozen? ⟨w.heap.size + 1 + 1, 1, none⟩ = false := z2.free 1; have z2f2 : w2.frozen? ⟨w.heap.size + 1 + 1, 2, none⟩ = false := z2.free 2; have z2f3 : w2.frozen? ⟨w.heap.size + 1 + 1, 3, none⟩ = false := z2.free 3; have z2c0 : w2.cell? ⟨w.heap.size + 1 + 1, 0, none⟩ = some (.int .u8 (0)) := z2.cell 0; have z2c1 : w2.cell? ⟨w.heap.size + 1 + 1, 1, none⟩ = some (.bool (false)) := z2.cell 1; have z2c2 : w2.cell? ⟨w.heap.size + 1 + 1, 2, none⟩ = some (.int .i64 (0)) := z2.cell 2; have z2c3 : w2.cell? ⟨w.heap.size + 1 + 1, 3, none⟩ = some (.string (⟨#[]⟩)) := z2.cell 3)
    (refine ord_flo (pick_cons rfl (pick_cons rfl pick_nil)) ?_; (repeat (go_big_quiet_step (fail))); refine wpQuiet_nil ?_; show ordWalk _ _ _ _ _ _ _)
    refine ord_one (pick_cons rfl pick_nil) ?_; intro K_ hK_
    go_wp2
    (refine ord_flo (pick_cons rfl pick_nil) ?_; (repeat (go_big_quiet_step (fail))); refine wpQuiet_nil ?_; show ordWalk _ _ _ _ _ _ _)
    refine ord_fin ?_
    go_wp2
    have q := z2.set4 (.int .u8 rk) (.bool rb) (.int .i64 rn) (.string rs)
    refine bodyPost_ret (v := .tuple #[.agg #[.int .u8 rk, .bool rb, .int .i64 rn, .string rs], .int .i64 re]) (by simp [results, Tryd.results36, go_sem, q.1, q.2.1, q.2.2.1, q.2.2.2]) rfl ⟨rfl, Ext.set4 (E0.trans ((X.alloc (.cells #[.int .u8 (ka), .bool (ba), .int .i64 (na), .string (sa), .int .u8 (kb), .bool (bb), .int .i64 (nb), .string (sb)] 24)).trans (by exact x2))) (by first | omega | simp) _ _ _ _⟩
  · go_wp2
    refine ordNext.mk ((Ext.refl _).alloc _) ?_
    refine ord_ext (pick_cons rfl pick_nil) ?_; intro K_ hK_
    go_wp2_with (go_at_call 72; refine (over_any _ _).mono ?_; rintro e w9 ⟨rfl, rfl⟩)
    refine ordNext.mk (Ext.refl _) ?_
    refine ord_one (pick_cons rfl pick_nil) ?_; intro K_ hK_
    go_wp2_with (go_at_call 71; refine (numbers_at _ _ _ _ 2 [⟨ka, ba, na, sa⟩, ⟨kb, bb, nb, sb⟩] _ HR rfl (by omega) (Dats.two (by first | exact Bk.at (by simp) | exact (Bk.at (by simp)).drew)) (by simpa using ⟨hs, hs2⟩)).mono ?_; rintro e w2 ⟨rfl, x2⟩; have z2 : Bk w2 (w.heap.size + 1 + 1) 24 #[.int .u8 (0), .bool (false), .int .i64 (0), .string (⟨#[]⟩)] := (z0.ext ((X.alloc (.cells #[.int .u8 (ka), .bool (ba), .int .i64 (na), .string (sa), .int .u8 (kb), .bool (bb), .int .i64 (nb), .string (sb)] 24)).trans (by exact x2))); have z2f0 : w2.frozen? ⟨w.heap.size + 1 + 1, 0, none⟩ = false := z2.free 0; have z2f1 : w2.frozen? ⟨w.heap.size + 1 + 1, 1, none⟩ = false := z2.free 1; have z2f2 : w2.frozen? ⟨w.heap.size + 1 + 1, 2, none⟩ = false := z2.free 2; have z2f3 : w2.frozen? ⟨w.heap.size + 1 + 1, 3, none⟩ = false := z2.free 3; have z2c0 : w2.cell? ⟨w.heap.size + 1 + 1, 0, none⟩ = some (.int .u8 (0)) := z2.cell 0; have z2c1 : w2.cell? ⟨w.heap.size + 1 + 1, 1, none⟩ = some (.bool (false)) := z2.cell 1; have z2c2 : w2.cell? ⟨w.heap.size + 1 + 1, 2, none⟩ = some (.int .i64 (0)) := z2.cell 2; have z2c3 : w2.cell? ⟨w.heap.size + 1 + 1, 3, none⟩ = some (.string (⟨#[]⟩)) := z2.cell 3)
    (refine ord_flo (pick_cons rfl (pick_cons rfl pick_nil)) ?_; (repeat (go_big_quiet_step (fail))); refine wpQuiet_nil ?_; show ordWalk _ _ _ _ _ _ _)
    refine ord_one (pick_cons rfl pick_nil) ?_; intro K_ hK_
    go_wp2
    (refine ord_flo (pick_cons rfl pick_nil) ?_; (repeat (go_big_quiet_step (fail))); refine wpQuiet_nil ?_; show ordWalk _ _ _ _ _ _ _)
    refine ord_fin ?_
    go_wp2
    have q := z2.set4 (.int .u8 rk) (.bool rb) (.int .i64 rn) (.string rs)
    refine bodyPost_ret (v := .tuple #[.agg #[.int .u8 rk, .bool rb, .int .i64 rn, .string rs], .int .i64 re]) (by simp [results, Tryd.results36, go_sem, q.1, q.2.1, q.2.2.1, q.2.2.2]) rfl ⟨rfl, Ext.set4 (E0.trans ((X.alloc (.cells #[.int .u8 (ka), .bool (ba), .int .i64 (na), .string (sa), .int .u8 (kb), .bool (bb), .int .i64 (nb), .string (sb)] 24)).trans (by exact x2))) (by first | omega | simp) _ _ _ _⟩
set_option maxRecDepth 100000 in
set_option maxHeartbeats 1600000 in
theorem rdiv_m1 (ka na kb nb : Int) (ba bb : Bool) (sa sb : ByteArray) (c : Int) (w : World) (hs : sa.size ≤ 140737488355328) (hs2 : sb.size ≤ 140737488355328) (y0 : (nb == 0) = false) (y1 : (nb == -1) = true) (hw : wrap64 (-na) = c) (f0 : (na == -9223372036854775808) = true) :
    Calls Tryd.prog 36 #[.agg #[.int .u8 (ka), .bool (ba), .int .i64 (na), .string (sa)], .agg #[.int .u8 (kb), .bool (bb), .int .i64 (nb), .string (sb)]] w (RefOut w (applyR 3 [⟨ka, ba, na, sa⟩, ⟨kb, bb, nb, sb⟩] (numR c 10))) := by
  have hw2 : IntKind.i64.wrap (-na) = c := by rw [IntKind.wrap_i64]; simpa [wrap64] using hw
  obtain ⟨⟨⟨rk, rb, rn, rs⟩, re⟩, hr⟩ : ∃ r, applyR 3 [⟨ka, ba, na, sa⟩, ⟨kb, bb, nb, sb⟩] (numR c 10) = r := ⟨_, rfl⟩
  rw [hr]
  have HR := Lib.hid hr
  clear hr
  go_enter Tryd.func36, Tryd.ntmps36
  go_upto_region 4 with fail
  have a0 : Bk (((w.alloc (.cells #[.int .u8 (ka), .bool (ba), .int .i64 (na), .string (sa)] 24)).alloc (.cells #[.int .u8 (kb), .bool (bb), .int .i64 (nb), .string (sb)] 24)).alloc (.cells #[.int .u8 (0), .bool (false), .int .i64 (0), .string (⟨#[]⟩)] 24)) (w.heap.size) 24 #[.int .u8 (ka), .bool (ba), .int .i64 (na), .string (sa)] := ((Bk.at (by simp)).alloc _).alloc _
  have b0 : Bk (((w.alloc (.cells #[.int .u8 (ka), .bool (ba), .int .i64 (na), .string (sa)] 24)).alloc (.cells #[.int .u8 (kb), .bool (bb), .int .i64 (nb), .string (sb)] 24)).alloc (.cells #[.int .u8 (0), .bool (false), .int .i64 (0), .string (⟨#[]⟩)] 24)) (w.heap.size + 1) 24 #[.int .u8 (kb), .bool (bb), .int .i64 (nb), .string (sb)] := (Bk.at (by simp)).alloc _
  have z0 : Bk (((w.alloc (.cells #[.int .u8 (ka), .bool (ba), .int .i64 (na), .string (sa)] 24)).alloc (.cells #[.int .u8 (kb), .bool (bb), .int .i64 (nb), .string (sb)] 24)).alloc (.cells #[.int .u8 (0), .bool (false), .int .i64 (0), .string (⟨#[]⟩)] 24)) (w.heap.size + 1 + 1) 24 #[.int .u8 (0), .bool (false), .int .i64 (0), .string (⟨#[]⟩)] := Bk.at (by simp)
  have E0 : Ext w (((w.alloc (.cells #[.int .u8 (ka), .bool (ba), .int .i64 (na), .string (sa)] 24)).alloc (.cells #[.int .u8 (kb), .bool (bb), .int .i64 (nb), .string (sb)] 24)).alloc (.cells #[.int .u8 (0), .bool (false), .int .i64 (0), .string (⟨#[]⟩)] 24)) := (((Ext.refl w).alloc _).alloc _).alloc _
  obtain ⟨w0, hw0⟩ : ∃ w0, w0 = (((w.alloc (.cells #[.int .u8 (ka), .bool (ba), .int .i64 (na), .string (sa)] 24)).alloc (.cells #[.int .u8 (kb), .bool (bb), .int .i64 (nb), .string (sb)] 24)).alloc (.cells #[.int .u8 (0), .bool (false), .int .i64 (0), .string (⟨#[]⟩)] 24)) := ⟨_, rfl⟩
  rw [← hw0] at a0 b0 z0 E0 ⊢
  clear hw0
  have X : Ext w0 w0.drew := (Ext.refl w0).drew
  have p00 : ∀ y : Xt w0.drew, y.W.cell? ⟨w.heap.size, 0, none⟩ = some (.int .u8 (ka)) := fun y => (a0.ext (X.trans y.x)).cell 0
  have p01 : ∀ y : Xt w0.drew, y.W.cell? ⟨w.heap.size, 1, none⟩ = some (.bool (ba)) := fun y => (a0.ext (X.trans y.x)).cell 1
  have p02 : ∀ y : Xt w0.drew, y.W.cell? ⟨w.heap.size, 2, none⟩ = some (.int .i64 (na)) := fun y => (a0.ext (X.trans y.x)).cell 2
  have p03 : ∀ y : Xt w0.drew, y.W.cell? ⟨w.heap.size, 3, none⟩ = some (.string (sa)) := fun y => (a0.ext (X.trans y.x)).cell 3
  have p10 : ∀ y : Xt w0.drew, y.W.cell? ⟨w.heap.size + 1, 0, none⟩ = some (.int .u8 (kb)) := fun y => (b0.ext (X.trans y.x)).cell 0
  have p11 : ∀ y : Xt w0.drew, y.W.cell? ⟨w.heap.size + 1, 1, none⟩ = some (.bool (bb)) := fun y => (b0.ext (X.trans y.x)).cell 1
  have p12 : ∀ y : Xt w0.drew, y.W.cell? ⟨w.heap.size + 1, 2, none⟩ = some (.int .i64 (nb)) := fun y => (b0.ext (X.trans y.x)).cell 2
  have p13 : ∀ y : Xt w0.drew, y.W.cell? ⟨w.heap.size + 1, 3, none⟩ = some (.string (sb)) := fun y => (b0.ext (X.trans y.x)).cell 3
  refine wp_region_ord [0,1,3,0,8,24,56,0,0,384,1023,2047,2047,8191,16383] (.flo [0,1,2,3,4,5,7,8] (.both 6 9 (.ext 9 (.one 10 (.flo [11,12] (.one 13 (.flo [14] (.fin)))))) (.ext 6 (.one 10 (.flo [11,12] (.one 13 (.flo [14] (.fin)))))))) (by kernel_rfl) (by kernel_rfl) (by intro _ _ d _ _ h; cases d <;> exact h) ?_
  (refine ord_flo (pick_cons rfl (pick_cons rfl (pick_cons rfl (pick_cons rfl (pick_cons rfl (pick_cons rfl (pick_cons rfl (pick_cons rfl pick_nil)))))))) ?_; (repeat (go_big_quiet_step (fail))); refine wpQuiet_nil ?_; show ordWalk _ _ _ _ _ _ _)
  refine ord_both (pick_cons rfl pick_nil) (pick_cons rfl pick_nil) ?_ ?_ <;> intro K_ hK_
  · go_wp2_with (go_at_call 72; refine (over_any _ _).mono ?_; rintro e w9 ⟨rfl, rfl⟩)
    refine ordNext.mk (Ext.refl _) ?_
    refine ord_ext (pick_cons rfl pick_nil) ?_; intro K_ hK_
    go_wp2
    refine ordNext.mk ((Ext.refl _).alloc _) ?_
    refine ord_one (pick_cons rfl pick_nil) ?_; intro K_ hK_
    go_wp2_with (go_at_call 71; refine (numbers_at _ _ _ _ 2 [⟨ka, ba, na, sa⟩, ⟨kb, bb, nb, sb⟩] _ HR rfl (by omega) (Dats.two (by first | exact Bk.at (by simp) | exact (Bk.at (by simp)).drew)) (by simpa using ⟨hs, hs2⟩)).mono ?_; rintro e w2 ⟨rfl, x2⟩; have z2 : Bk w2 (w.heap.size + 1 + 1) 24 #[.int .u8 (0), .bool (false), .int .i64 (0), .string (⟨#[]⟩)] := (z0.ext ((X.alloc (.cells #[.int .u8 (ka), .bool (ba), .int .i64 (na), .string (sa), .int .u8 (kb), .bool (bb), .int .i64 (nb), .string (sb)] 24)).trans (by exact x2))); have z2f0 : w2.frozen? ⟨w.heap.size + 1 + 1, 0, none⟩ = false := z2.free 0; have z2f1 : w2.frozen? ⟨w.heap.size + 1 + 1, 1, none⟩ = false := z2.free 1; have z2f2 : w2.frozen? ⟨w.heap.size + 1 + 1, 2, none⟩ = false := z2.free 2; have z2f3 : w2.frozen? ⟨w.heap.size + 1 + 1, 3, none⟩ = false := z2.free 3; have z2c0 : w2.cell? ⟨w.heap.size + 1 + 1, 0, none⟩ = some (.int .u8 (0)) := z2.cell 0; have z2c1 : w2.cell? ⟨w.heap.size + 1 + 1, 1, none⟩ = some (.bool (false)) := z2.cell 1; have z2c2 : w2.cell? ⟨w.heap.size + 1 + 1, 2, none⟩ = some (.int .i64 (0)) := z2.cell 2; have z2c3 : w2.cell? ⟨w.heap.size + 1 + 1, 3, none⟩ = some (.string (⟨#[]⟩)) := z2.cell 3)
    (refine ord_flo (pick_cons rfl (pick_cons rfl pick_nil)) ?_; (repeat (go_big_quiet_step (fail))); refine wpQuiet_nil ?_; show ordWalk _ _ _ _ _ _ _)
    refine ord_one (pick_cons rfl pick_nil) ?_; intro K_ hK_
    go_wp2
    (refine ord_flo (pick_cons rfl pick_nil) ?_; (repeat (go_big_quiet_step (fail))); refine wpQuiet_nil ?_; show ordWalk _ _ _ _ _ _ _)
    refine ord_fin ?_
    go_wp2
    have q := z2.set4 (.int .u8 rk) (.bool rb) (.int .i64 rn) (.string rs)
    refine bodyPost_ret (v := .tuple #[.agg #[.int .u8 rk, .bool rb, .int .i64 rn, .string rs], .int .i64 re]) (by simp [results, Tryd.results36, go_sem, q.1, q.2.1, q.2.2.1, q.2.2.2]) rfl ⟨rfl, Ext.set4 (E0.trans ((X.alloc (.cells #[.int .u8 (ka), .bool (ba), .int .i64 (na), .string (sa), .int .u8 (kb), .bool (bb), .int .i64 (nb), .string (sb)] 24)).trans (by exact x2))) (by first | omega | simp) _ _ _ _⟩
  · go_wp2
    refine ordNext.mk ((Ext.refl _).alloc _) ?_
    refine ord_ext (pick_cons rfl pick_nil) ?_; intro K_ hK_
    go_wp2_with (go_at_call 72; refine (over_any _ _).mono ?_; rintro e w9 ⟨rfl, rfl⟩)
    refine ordNext.mk (Ext.refl _) ?_
    refine ord_one (pick_cons rfl pick_nil) ?_; intro K_ hK_
    go_wp2_with (go_at_call 71; refine (numbers_at _ _ _ _ 2 [⟨ka, ba, na, sa⟩, ⟨kb, bb, nb, sb⟩] _ HR rfl (by omega) (Dats.two (by first | exact Bk.at (by simp) | exact (Bk.at (by simp)).drew)) (by simpa using ⟨hs, hs2⟩)).mono ?_; rintro e w2 ⟨rfl, x2⟩; have z2 : Bk w2 (w.heap.size + 1 + 1) 24 #[.int .u8 (0), .bool (false), .int .i64 (0), .string (⟨#[]⟩)] := (z0.ext ((X.alloc (.cells #[.int .u8 (ka), .bool (ba), .int .i64 (na), .string (sa), .int .u8 (kb), .bool (bb), .int .i64 (nb), .string (sb)] 24)).trans (by exact x2))); have z2f0 : w2.frozen? ⟨w.heap.size + 1 + 1, 0, none⟩ = false := z2.free 0; have z2f1 : w2.frozen? ⟨w.heap.size + 1 + 1, 1, none⟩ = false := z2.free 1; have z2f2 : w2.frozen? ⟨w.heap.size + 1 + 1, 2, none⟩ = false := z2.free 2; have z2f3 : w2.frozen? ⟨w.heap.size + 1 + 1, 3, none⟩ = false := z2.free 3; have z2c0 : w2.cell? ⟨w.heap.size + 1 + 1, 0, none⟩ = some (.int .u8 (0)) := z2.cell 0; have z2c1 : w2.cell? ⟨w.heap.size + 1 + 1, 1, none⟩ = some (.bool (false)) := z2.cell 1; have z2c2 : w2.cell? ⟨w.heap.size + 1 + 1, 2, none⟩ = some (.int .i64 (0)) := z2.cell 2; have z2c3 : w2.cell? ⟨w.heap.size + 1 + 1, 3, none⟩ = some (.string (⟨#[]⟩)) := z2.cell 3)
    (refine ord_flo (pick_cons rfl (pick_cons rfl pick_nil)) ?_; (repeat (go_big_quiet_step (fail))); refine wpQuiet_nil ?_; show ordWalk _ _ _ _ _ _ _)
    refine ord_one (pick_cons rfl pick_nil) ?_; intro K_ hK_
    go_wp2
    (refine ord_flo (pick_cons rfl pick_nil) ?_; (repeat (go_big_quiet_step (fail))); refine wpQuiet_nil ?_; show ordWalk _ _ _ _ _ _ _)
    refine ord_fin ?_
    go_wp2
    have q := z2.set4 (.int .u8 rk) (.bool rb) (.int .i64 rn) (.string rs)
    refine bodyPost_ret (v := .tuple #[.agg #[.int .u8 rk, .bool rb, .int .i64 rn, .string rs], .int .i64 re]) (by simp [results, Tryd.results36, go_sem, q.1, q.2.1, q.2.2.1, q.2.2.2]) rfl ⟨rfl, Ext.set4 (E0.trans ((X.alloc (.cells #[.int .u8 (ka), .bool (ba), .int .i64 (na), .string (sa), .int .u8 (kb), .bool (bb), .int .i64 (nb), .string (sb)] 24)).trans (by exact x2))) (by first | omega | simp) _ _ _ _⟩
set_option maxRecDepth 100000 in
set_option maxHeartbeats 1600000 in
theorem rdiv_z (ka na kb nb : Int) (ba bb : Bool) (sa sb : ByteArray) (w : World) (hs : sa.size ≤ 140737488355328) (hs2 : sb.size ≤ 140737488355328) (y0 : (nb == 0) = true) :
    Calls Tryd.prog 36 #[.agg #[.int .u8 (ka), .bool (ba), .int .i64 (na), .string (sa)], .agg #[.int .u8 (kb), .bool (bb), .int .i64 (nb), .string (sb)]] w (RefOut w (applyR 3 [⟨ka, ba, na, sa⟩, ⟨kb, bb, nb, sb⟩] (numR 0 11))) := by
  obtain ⟨⟨⟨rk, rb, rn, rs⟩, re⟩, hr⟩ : ∃ r, applyR 3 [⟨ka, ba, na, sa⟩, ⟨kb, bb, nb, sb⟩] (numR 0 11) = r := ⟨_, rfl⟩
  rw [hr]
  have HR := Lib.hid hr
  clear hr
  have z_0 : Bk ((((w.alloc (.cells #[.int .u8 (ka), .bool (ba), .int .i64 (na), .string (sa)] 24)).alloc (.cells #[.int .u8 (kb), .bool (bb), .int .i64 (nb), .string (sb)] 24)).alloc (.cells #[.int .u8 (0), .bool (false), .int .i64 (0), .string (⟨#[]⟩)] 24)).alloc (.cells #[.int .u8 (ka), .bool (ba), .int .i64 (na), .string (sa), .int .u8 (kb), .bool (bb), .int .i64 (nb), .string (sb)] 24)) (w.heap.size + 1 + 1) 24 #[.int .u8 (0), .bool (false), .int .i64 (0), .string (⟨#[]⟩)] := (Bk.at (by simp)).alloc _
  have F0 : Ext w ((((w.alloc (.cells #[.int .u8 (ka), .bool (ba), .int .i64 (na), .string (sa)] 24)).alloc (.cells #[.int .u8 (kb), .bool (bb), .int .i64 (nb), .string (sb)] 24)).alloc (.cells #[.int .u8 (0), .bool (false), .int .i64 (0), .string (⟨#[]⟩)] 24)).alloc (.cells #[.int .u8 (ka), .bool (ba), .int .i64 (na), .string (sa), .int .u8 (kb), .bool (bb), .int .i64 (nb), .string (sb)] 24)) := ((((Ext.refl w).alloc _).alloc _).alloc _).alloc _
  have m1 : True := trivial
  go_enter Tryd.func36, Tryd.ntmps36
  go_wp2_with (first
    | (have z := m1; clear z m1; go_at_call 71; refine (numbers_at _ _ _ _ 2 [⟨ka, ba, na, sa⟩, ⟨kb, bb, nb, sb⟩] _ HR rfl (by omega) (Dats.two (Bk.at (by simp))) (by simpa using ⟨hs, hs2⟩)).mono ?_; rintro e w1 ⟨rfl, x1⟩; have z_1 := z_0.ext x1; have F1 : Ext w w1 := (F0.trans x1); clear x1; have z_10 : w1.cell? ⟨w.heap.size + 1 + 1, 0, none⟩ = some (.int .u8 (0)) := z_1.cell 0; have z_11 : w1.cell? ⟨w.heap.size + 1 + 1, 1, none⟩ = some (.bool (false)) := z_1.cell 1; have z_12 : w1.cell? ⟨w.heap.size + 1 + 1, 2, none⟩ = some (.int .i64 (0)) := z_1.cell 2; have z_13 : w1.cell? ⟨w.heap.size + 1 + 1, 3, none⟩ = some (.string (⟨#[]⟩)) := z_1.cell 3; have z_1f0 : w1.frozen? ⟨w.heap.size + 1 + 1, 0, none⟩ = false := z_1.free 0; have z_1f1 : w1.frozen? ⟨w.heap.size + 1 + 1, 1, none⟩ = false := z_1.free 1; have z_1f2 : w1.frozen? ⟨w.heap.size + 1 + 1, 2, none⟩ = false := z_1.free 2; have z_1f3 : w1.frozen? ⟨w.heap.size + 1 + 1, 3, none⟩ = false := z_1.free 3; have m2 : True := trivial)
    | fail)
  have q := z_1.set4 (.int .u8 rk) (.bool rb) (.int .i64 rn) (.string rs)
  refine bodyPost_ret (v := .tuple #[.agg #[.int .u8 rk, .bool rb, .int .i64 rn, .string rs], .int .i64 re]) (by simp [results, Tryd.results36, go_sem, q.1, q.2.1, q.2.2.1, q.2.2.2]) rfl ⟨rfl, Ext.set4 F1 (by first | omega | simp) _ _ _ _⟩
set_option maxRecDepth 100000 in
set_option maxHeartbeats 1600000 in
theorem rmod_z (ka na kb nb : Int) (ba bb : Bool) (sa sb : ByteArray) (w : World) (hs : sa.size ≤ 140737488355328) (hs2 : sb.size ≤ 140737488355328) (y0 : (nb == 0) = true) :
    Calls Tryd.prog 37 #[.agg #[.int .u8 (ka), .bool (ba), .int .i64 (na), .string (sa)], .agg #[.int .u8 (kb), .bool (bb), .int .i64 (nb), .string (sb)]] w (RefOut w (applyR 3 [⟨ka, ba, na, sa⟩, ⟨kb, bb, nb, sb⟩] (numR 0 11))) := by
  obtain ⟨⟨⟨rk, rb, rn, rs⟩, re⟩, hr⟩ : ∃ r, applyR 3 [⟨ka, ba, na, sa⟩, ⟨kb, bb, nb, sb⟩] (numR 0 11) = r := ⟨_, rfl⟩
  rw [hr]
  have HR := Lib.hid hr
  clear hr
  have z_0 : Bk ((((w.alloc (.cells #[.int .u8 (ka), .bool (ba), .int .i64 (na), .string (sa)] 24)).alloc (.cells #[.int .u8 (kb), .bool (bb), .int .i64 (nb), .string (sb)] 24)).alloc (.cells #[.int .u8 (0), .bool (false), .int .i64 (0), .string (⟨#[]⟩)] 24)).alloc (.cells #[.int .u8 (ka), .bool (ba), .int .i64 (na), .string (sa), .int .u8 (kb), .bool (bb), .int .i64 (nb), .string (sb)] 24)) (w.heap.size + 1 + 1) 24 #[.int .u8 (0), .bool (false), .int .i64 (0), .string (⟨#[]⟩)] := (Bk.at (by simp)).alloc _
  have F0 : Ext w ((((w.alloc (.cells #[.int .u8 (ka), .bool (ba), .int .i64 (na), .string (sa)] 24)).alloc (.cells #[.int .u8 (kb), .bool (bb), .int .i64 (nb), .string (sb)] 24)).alloc (.cells #[.int .u8 (0), .bool (false), .int .i64 (0), .string (⟨#[]⟩)] 24)).alloc (.cells #[.int .u8 (ka), .bool (ba), .int .i64 (na), .string (sa), .int .u8 (kb), .bool (bb), .int .i64 (nb), .string (sb)] 24)) := ((((Ext.refl w).alloc _).alloc _).alloc _).alloc _
  have m1 : True := trivial
  go_enter Tryd.func37, Tryd.ntmps37
  go_wp2_with (first
    | (have z := m1; clear z m1; go_at_call 71; refine (numbers_at _ _ _ _ 2 [⟨ka, ba, na, sa⟩, ⟨kb, bb, nb, sb⟩] _ HR rfl (by omega) (Dats.two (Bk.at (by simp))) (by simpa using ⟨hs, hs2⟩)).mono ?_; rintro e w1 ⟨rfl, x1⟩; have z_1 := z_0.ext x1; have F1 : Ext w w1 := (F0.trans x1); clear x1; have z_10 : w1.cell? ⟨w.heap.size + 1 + 1, 0, none⟩ = some (.int .u8 (0)) := z_1.cell 0; have z_11 : w1.cell? ⟨w.heap.size + 1 + 1, 1, none⟩ = some (.bool (false)) := z_1.cell 1; have z_12 : w1.cell? ⟨w.heap.size + 1 + 1, 2, none⟩ = some (.int .i64 (0)) := z_1.cell 2; have z_13 : w1.cell? ⟨w.heap.size + 1 + 1, 3, none⟩ = some (.string (⟨#[]⟩)) := z_1.cell 3; have z_1f0 : w1.frozen? ⟨w.heap.size + 1 + 1, 0, none⟩ = false := z_1.free 0; have z_1f1 : w1.frozen? ⟨w.heap.size + 1 + 1, 1, none⟩ = false := z_1.free 1; have z_1f2 : w1.frozen? ⟨w.heap.size + 1 + 1, 2, none⟩ = false := z_1.free 2; have z_1f3 : w1.frozen? ⟨w.heap.size + 1 + 1, 3, none⟩ = false := z_1.free 3; have m2 : True := trivial)
    | fail)
  have q := z_1.set4 (.int .u8 rk) (.bool rb) (.int .i64 rn) (.string rs)
  refine bodyPost_ret (v := .tuple #[.agg #[.int .u8 rk, .bool rb, .int .i64 rn, .string rs], .int .i64 re]) (by simp [results, Tryd.results37, go_sem, q.1, q.2.1, q.2.2.1, q.2.2.2]) rfl ⟨rfl, Ext.set4 F1 (by first | omega | simp) _ _ _ _⟩
set_option maxRecDepth 100000 in
set_option maxHeartbeats 1600000 in
theorem rmod_m (ka na kb nb : Int) (ba bb : Bool) (sa sb : ByteArray) (w : World) (hs : sa.size ≤ 140737488355328) (hs2 : sb.size ≤ 140737488355328) (y0 : (nb == 0) = false) (y1 : (nb == -1) = true) :
    Calls Tryd.prog 37 #[.agg #[.int .u8 (ka), .bool (ba), .int .i64 (na), .string (sa)], .agg #[.int .u8 (kb), .bool (bb), .int .i64 (nb), .string (sb)]] w (RefOut w (applyR 3 [⟨ka, ba, na, sa⟩, ⟨kb, bb, nb, sb⟩] (numR 0 0))) := by
  obtain ⟨⟨⟨rk, rb, rn, rs⟩, re⟩, hr⟩ : ∃ r, applyR 3 [⟨ka, ba, na, sa⟩, ⟨kb, bb, nb, sb⟩] (numR 0 0) = r := ⟨_, rfl⟩
  rw [hr]
  have HR := Lib.hid hr
  clear hr
  have z_0 : Bk ((((w.alloc (.cells #[.int .u8 (ka), .bool (ba), .int .i64 (na), .string (sa)] 24)).alloc (.cells #[.int .u8 (kb), .bool (bb), .int .i64 (nb), .string (sb)] 24)).alloc (.cells #[.int .u8 (0), .bool (false), .int .i64 (0), .string (⟨#[]⟩)] 24)).alloc (.cells #[.int .u8 (ka), .bool (ba), .int .i64 (na), .string (sa), .int .u8 (kb), .bool (bb), .int .i64 (nb), .string (sb)] 24)) (w.heap.size + 1 + 1) 24 #[.int .u8 (0), .bool (false), .int .i64 (0), .string (⟨#[]⟩)] := (Bk.at (by simp)).alloc _
  have F0 : Ext w ((((w.alloc (.cells #[.int .u8 (ka), .bool (ba), .int .i64 (na), .string (sa)] 24)).alloc (.cells #[.int .u8 (kb), .bool (bb), .int .i64 (nb), .string (sb)] 24)).alloc (.cells #[.int .u8 (0), .bool (false), .int .i64 (0), .string (⟨#[]⟩)] 24)).alloc (.cells #[.int .u8 (ka), .bool (ba), .int .i64 (na), .string (sa), .int .u8 (kb), .bool (bb), .int .i64 (nb), .string (sb)] 24)) := ((((Ext.refl w).alloc _).alloc _).alloc _).alloc _
  have m1 : True := trivial
  go_enter Tryd.func37, Tryd.ntmps37
  go_wp2_with (first
    | (have z := m1; clear z m1; go_at_call 71; refine (numbers_at _ _ _ _ 2 [⟨ka, ba, na, sa⟩, ⟨kb, bb, nb, sb⟩] _ HR rfl (by omega) (Dats.two (Bk.at (by simp))) (by simpa using ⟨hs, hs2⟩)).mono ?_; rintro e w1 ⟨rfl, x1⟩; have z_1 := z_0.ext x1; have F1 : Ext w w1 := (F0.trans x1); clear x1; have z_10 : w1.cell? ⟨w.heap.size + 1 + 1, 0, none⟩ = some (.int .u8 (0)) := z_1.cell 0; have z_11 : w1.cell? ⟨w.heap.size + 1 + 1, 1, none⟩ = some (.bool (false)) := z_1.cell 1; have z_12 : w1.cell? ⟨w.heap.size + 1 + 1, 2, none⟩ = some (.int .i64 (0)) := z_1.cell 2; have z_13 : w1.cell? ⟨w.heap.size + 1 + 1, 3, none⟩ = some (.string (⟨#[]⟩)) := z_1.cell 3; have z_1f0 : w1.frozen? ⟨w.heap.size + 1 + 1, 0, none⟩ = false := z_1.free 0; have z_1f1 : w1.frozen? ⟨w.heap.size + 1 + 1, 1, none⟩ = false := z_1.free 1; have z_1f2 : w1.frozen? ⟨w.heap.size + 1 + 1, 2, none⟩ = false := z_1.free 2; have z_1f3 : w1.frozen? ⟨w.heap.size + 1 + 1, 3, none⟩ = false := z_1.free 3; have m2 : True := trivial)
    | fail)
  have q := z_1.set4 (.int .u8 rk) (.bool rb) (.int .i64 rn) (.string rs)
  refine bodyPost_ret (v := .tuple #[.agg #[.int .u8 rk, .bool rb, .int .i64 rn, .string rs], .int .i64 re]) (by simp [results, Tryd.results37, go_sem, q.1, q.2.1, q.2.2.1, q.2.2.2]) rfl ⟨rfl, Ext.set4 F1 (by first | omega | simp) _ _ _ _⟩
set_option maxRecDepth 100000 in
set_option maxHeartbeats 1600000 in
theorem rdiv_q (ka na kb nb : Int) (ba bb : Bool) (sa sb : ByteArray) (c : Int) (w : World) (hs : sa.size ≤ 140737488355328) (hs2 : sb.size ≤ 140737488355328) (y0 : (nb == 0) = false) (y1 : (nb == -1) = false) (hw : na.tdiv nb = c) (bc : -9223372036854775808 ≤ c ∧ c ≤ 9223372036854775807) :
    Calls Tryd.prog 36 #[.agg #[.int .u8 (ka), .bool (ba), .int .i64 (na), .string (sa)], .agg #[.int .u8 (kb), .bool (bb), .int .i64 (nb), .string (sb)]] w (RefOut w (applyR 3 [⟨ka, ba, na, sa⟩, ⟨kb, bb, nb, sb⟩] (numR c 0))) := by
  have hw2 : IntKind.i64.wrap (na.tdiv nb) = c := by rw [hw]; exact IntWalk.i64_in _ (by omega)
  have hw3 : wrap64 (na.tdiv nb) = c := by rw [hw]; exact wrap_in bc
  have hw4 : IntKind.i64.wrap c = c := IntWalk.i64_in _ (by omega)
  have hw5 : ¬ nb = 0 := by simpa using y0
  clear hw
  obtain ⟨⟨⟨rk, rb, rn, rs⟩, re⟩, hr⟩ : ∃ r, applyR 3 [⟨ka, ba, na, sa⟩, ⟨kb, bb, nb, sb⟩] (numR c 0) = r := ⟨_, rfl⟩
  rw [hr]
  have HR := Lib.hid hr
  clear hr
  go_enter Tryd.func36, Tryd.ntmps36
  go_upto_region 5 with fail
  have a0 : Bk (((w.alloc (.cells #[.int .u8 (ka), .bool (ba), .int .i64 (na), .string (sa)] 24)).alloc (.cells #[.int .u8 (kb), .bool (bb), .int .i64 (nb), .string (sb)] 24)).alloc (.cells #[.int .u8 (0), .bool (false), .int .i64 (0), .string (⟨#[]⟩)] 24)) (w.heap.size) 24 #[.int .u8 (ka), .bool (ba), .int .i64 (na), .string (sa)] := ((Bk.at (by simp)).alloc _).alloc _
  have b0 : Bk (((w.alloc (.cells #[.int .u8 (ka), .bool (ba), .int .i64 (na), .string (sa)] 24)).alloc (.cells #[.int .u8 (kb), .bool (bb), .int .i64 (nb), .string (sb)] 24)).alloc (.cells #[.int .u8 (0), .bool (false), .int .i64 (0), .string (⟨#[]⟩)] 24)) (w.heap.size + 1) 24 #[.int .u8 (kb), .bool (bb), .int .i64 (nb), .string (sb)] := (Bk.at (by simp)).alloc _
  have z0 : Bk (((w.alloc (.cells #[.int .u8 (ka), .bool (ba), .int .i64 (na), .string (sa)] 24)).alloc (.cells #[.int .u8 (kb), .bool (bb), .int .i64 (nb), .string (sb)] 24)).alloc (.cells #[.int .u8 (0), .bool (false), .int .i64 (0), .string (⟨#[]⟩)] 24)) (w.heap.size + 1 + 1) 24 #[.int .u8 (0), .bool (false), .int .i64 (0), .string (⟨#[]⟩)] := Bk.at (by simp)
  have E0 : Ext w (((w.alloc (.cells #[.int .u8 (ka), .bool (ba), .int .i64 (na), .string (sa)] 24)).alloc (.cells #[.int .u8 (kb), .bool (bb), .int .i64 (nb), .string (sb)] 24)).alloc (.cells #[.int .u8 (0), .bool (false), .int .i64 (0), .string (⟨#[]⟩)] 24)) := (((Ext.refl w).alloc _).alloc _).alloc _
  obtain ⟨w0, hw0⟩ : ∃ w0, w0 = (((w.alloc (.cells #[.int .u8 (ka), .bool (ba), .int .i64 (na), .string (sa)] 24)).alloc (.cells #[.int .u8 (kb), .bool (bb), .int .i64 (nb), .string (sb)] 24)).alloc (.cells #[.int .u8 (0), .bool (false), .int .i64 (0), .string (⟨#[]⟩)] 24)) := ⟨_, rfl⟩
  rw [← hw0] at a0 b0 z0 E0 ⊢
  clear hw0
  have X : Ext w0 w0.drew := (Ext.refl w0).drew
  have p00 : ∀ y : Xt w0.drew, y.W.cell? ⟨w.heap.size, 0, none⟩ = some (.int .u8 (ka)) := fun y => (a0.ext (X.trans y.x)).cell 0
  have p01 : ∀ y : Xt w0.drew, y.W.cell? ⟨w.heap.size, 1, none⟩ = some (.bool (ba)) := fun y => (a0.ext (X.trans y.x)).cell 1
  have p02 : ∀ y : Xt w0.drew, y.W.cell? ⟨w.heap.size, 2, none⟩ = some (.int .i64 (na)) := fun y => (a0.ext (X.trans y.x)).cell 2
  have p03 : ∀ y : Xt w0.drew, y.W.cell? ⟨w.heap.size, 3, none⟩ = some (.string (sa)) := fun y => (a0.ext (X.trans y.x)).cell 3
  have p10 : ∀ y : Xt w0.drew, y.W.cell? ⟨w.heap.size + 1, 0, none⟩ = some (.int .u8 (kb)) := fun y => (b0.ext (X.trans y.x)).cell 0
  have p11 : ∀ y : Xt w0.drew, y.W.cell? ⟨w.heap.size + 1, 1, none⟩ = some (.bool (bb)) := fun y => (b0.ext (X.trans y.x)).cell 1
  have p12 : ∀ y : Xt w0.drew, y.W.cell? ⟨w.heap.size + 1, 2, none⟩ = some (.int .i64 (nb)) := fun y => (b0.ext (X.trans y.x)).cell 2
  have p13 : ∀ y : Xt w0.drew, y.W.cell? ⟨w.heap.size + 1, 3, none⟩ = some (.string (sb)) := fun y => (b0.ext (X.trans y.x)).cell 3
  refine wp_region_ord [0,1,0,4,15,0,0,96,255,511,511,2047,4095] (.flo [0,1,2,3,4,5,6] (.ext 7 (.one 8 (.flo [9,10] (.one 11 (.flo [12] (.fin))))))) (by kernel_rfl) (by kernel_rfl) (by intro _ _ d _ _ h; cases d <;> exact h) ?_
  (refine ord_flo (pick_cons rfl (pick_cons rfl (pick_cons rfl (pick_cons rfl (pick_cons rfl (pick_cons rfl (pick_cons rfl pick_nil))))))) ?_; (repeat (go_big_quiet_step (fail))); refine wpQuiet_nil ?_; show ordWalk _ _ _ _ _ _ _)
  refine ord_ext (pick_cons rfl pick_nil) ?_; intro K_ hK_
  go_wp2
  refine ordNext.mk ((Ext.refl _).alloc _) ?_
  refine ord_one (pick_cons rfl pick_nil) ?_; intro K_ hK_
  go_wp2_with (go_at_call 71; refine (numbers_at _ _ _ _ 2 [⟨ka, ba, na, sa⟩, ⟨kb, bb, nb, sb⟩] _ HR rfl (by omega) (Dats.two (by first | exact Bk.at (by simp) | exact (Bk.at (by simp)).drew)) (by simpa using ⟨hs, hs2⟩)).mono ?_; rintro e w2 ⟨rfl, x2⟩; have z2 : Bk w2 (w.heap.size + 1 + 1) 24 #[.int .u8 (0), .bool (false), .int .i64 (0), .string (⟨#[]⟩)] := (z0.ext ((X.alloc (.cells #[.int .u8 (ka), .bool (ba), .int .i64 (na), .string (sa), .int .u8 (kb), .bool (bb), .int .i64 (nb), .string (sb)] 24)).trans (by exact x2))); have z2f0 : w2.frozen? ⟨w.heap.size + 1 + 1, 0, none⟩ = false := z2.free 0; have z2f1 : w2.frozen? ⟨w.heap.size + 1 + 1, 1, none⟩ = false := z2.free 1; have z2f2 : w2.frozen? ⟨w.heap.size + 1 + 1, 2, none⟩ = false := z2.free 2; have z2f3 : w2.frozen? ⟨w.heap.size + 1 + 1, 3, none⟩ = false := z2.free 3; have z2c0 : w2.cell? ⟨w.heap.size + 1 + 1, 0, none⟩ = some (.int .u8 (0)) := z2.cell 0; have z2c1 : w2.cell? ⟨w.heap.size + 1 + 1, 1, none⟩ = some (.bool (false)) := z2.cell 1; have z2c2 : w2.cell? ⟨w.heap.size + 1 + 1, 2, none⟩ = some (.int .i64 (0)) := z2.cell 2; have z2c3 : w2.cell? ⟨w.heap.size + 1 + 1, 3, none⟩ = some (.string (⟨#[]⟩)) := z2.cell 3)
  (refine ord_flo (pick_cons rfl (pick_cons rfl pick_nil)) ?_; (repeat (go_big_quiet_step (fail))); refine wpQuiet_nil ?_; show ordWalk _ _ _ _ _ _ _)
  refine ord_one (pick_cons rfl pick_nil) ?_; intro K_ hK_
  go_wp2
  (refine ord_flo (pick_cons rfl pick_nil) ?_; (repeat (go_big_quiet_step (fail))); refine wpQuiet_nil ?_; show ordWalk _ _ _ _ _ _ _)
  refine ord_fin ?_
  go_wp2
  have q := z2.set4 (.int .u8 rk) (.bool rb) (.int .i64 rn) (.string rs)
  refine bodyPost_ret (v := .tuple #[.agg #[.int .u8 rk, .bool rb, .int .i64 rn, .string rs], .int .i64 re]) (by simp [results, Tryd.results36, go_sem, q.1, q.2.1, q.2.2.1, q.2.2.2]) rfl ⟨rfl, Ext.set4 (E0.trans ((X.alloc (.cells #[.int .u8 (ka), .bool (ba), .int .i64 (na), .string (sa), .int .u8 (kb), .bool (bb), .int .i64 (nb), .string (sb)] 24)).trans (by exact x2))) (by first | omega | simp) _ _ _ _⟩
set_option maxRecDepth 100000 in
set_option maxHeartbeats 1600000 in
theorem rmod_q (ka na kb nb : Int) (ba bb : Bool) (sa sb : ByteArray) (c : Int) (w : World) (hs : sa.size ≤ 140737488355328) (hs2 : sb.size ≤ 140737488355328) (y0 : (nb == 0) = false) (y1 : (nb == -1) = false) (hw : na.tmod nb = c) (bc : -9223372036854775808 ≤ c ∧ c ≤ 9223372036854775807) :
    Calls Tryd.prog 37 #[.agg #[.int .u8 (ka), .bool (ba), .int .i64 (na), .string (sa)], .agg #[.int .u8 (kb), .bool (bb), .int .i64 (nb), .string (sb)]] w (RefOut w (applyR 3 [⟨ka, ba, na, sa⟩, ⟨kb, bb, nb, sb⟩] (numR c 0))) := by
  have hw2 : IntKind.i64.wrap (na.tmod nb) = c := by rw [hw]; exact IntWalk.i64_in _ (by omega)
  have hw3 : wrap64 (na.tmod nb) = c := by rw [hw]; exact wrap_in bc
  have hw4 : IntKind.i64.wrap c = c := IntWalk.i64_in _ (by omega)
  have hw5 : ¬ nb = 0 := by simpa using y0
  obtain ⟨⟨⟨rk, rb, rn, rs⟩, re⟩, hr⟩ : ∃ r, applyR 3 [⟨ka, ba, na, sa⟩, ⟨kb, bb, nb, sb⟩] (numR c 0) = r := ⟨_, rfl⟩
  rw [hr]
  have HR := Lib.hid hr
  clear hr
  go_enter Tryd.func37, Tryd.ntmps37
  go_upto_region 6 with fail
  have a0 : Bk (((w.alloc (.cells #[.int .u8 (ka), .bool (ba), .int .i64 (na), .string (sa)] 24)).alloc (.cells #[.int .u8 (kb), .bool (bb), .int .i64 (nb), .string (sb)] 24)).alloc (.cells #[.int .u8 (0), .bool (false), .int .i64 (0), .string (⟨#[]⟩)] 24)) (w.heap.size) 24 #[.int .u8 (ka), .bool (ba), .int .i64 (na), .string (sa)] := ((Bk.at (by simp)).alloc _).alloc _
  have b0 : Bk (((w.alloc (.cells #[.int .u8 (ka), .bool (ba), .int .i64 (na), .string (sa)] 24)).alloc (.cells #[.int .u8 (kb), .bool (bb), .int .i64 (nb), .string (sb)] 24)).alloc (.cells #[.int .u8 (0), .bool (false), .int .i64 (0), .string (⟨#[]⟩)] 24)) (w.heap.size + 1) 24 #[.int .u8 (kb), .bool (bb), .int .i64 (nb), .string (sb)] := (Bk.at (by simp)).alloc _
  have z0 : Bk (((w.alloc (.cells #[.int .u8 (ka), .bool (ba), .int .i64 (na), .string (sa)] 24)).alloc (.cells #[.int .u8 (kb), .bool (bb), .int .i64 (nb), .string (sb)] 24)).alloc (.cells #[.int .u8 (0), .bool (false), .int .i64 (0), .string (⟨#[]⟩)] 24)) (w.heap.size + 1 + 1) 24 #[.int .u8 (0), .bool (false), .int .i64 (0), .string (⟨#[]⟩)] := Bk.at (by simp)
  have E0 : Ext w (((w.alloc (.cells #[.int .u8 (ka), .bool (ba), .int .i64 (na), .string (sa)] 24)).alloc (.cells #[.int .u8 (kb), .bool (bb), .int .i64 (nb), .string (sb)] 24)).alloc (.cells #[.int .u8 (0), .bool (false), .int .i64 (0), .string (⟨#[]⟩)] 24)) := (((Ext.refl w).alloc _).alloc _).alloc _
  obtain ⟨w0, hw0⟩ : ∃ w0, w0 = (((w.alloc (.cells #[.int .u8 (ka), .bool (ba), .int .i64 (na), .string (sa)] 24)).alloc (.cells #[.int .u8 (kb), .bool (bb), .int .i64 (nb), .string (sb)] 24)).alloc (.cells #[.int .u8 (0), .bool (false), .int .i64 (0), .string (⟨#[]⟩)] 24)) := ⟨_, rfl⟩
  rw [← hw0] at a0 b0 z0 E0 ⊢
  clear hw0
  have X : Ext w0 w0.drew := (Ext.refl w0).drew
  have p00 : ∀ y : Xt w0.drew, y.W.cell? ⟨w.heap.size, 0, none⟩ = some (.int .u8 (ka)) := fun y => (a0.ext (X.trans y.x)).cell 0
  have p01 : ∀ y : Xt w0.drew, y.W.cell? ⟨w.heap.size, 1, none⟩ = some (.bool (ba)) := fun y => (a0.ext (X.trans y.x)).cell 1
  have p02 : ∀ y : Xt w0.drew, y.W.cell? ⟨w.heap.size, 2, none⟩ = some (.int .i64 (na)) := fun y => (a0.ext (X.trans y.x)).cell 2
  have p03 : ∀ y : Xt w0.drew, y.W.cell? ⟨w.heap.size, 3, none⟩ = some (.string (sa)) := fun y => (a0.ext (X.trans y.x)).cell 3
  have p10 : ∀ y : Xt w0.drew, y.W.cell? ⟨w.heap.size + 1, 0, none⟩ = some (.int .u8 (kb)) := fun y => (b0.ext (X.trans y.x)).cell 0
  have p11 : ∀ y : Xt w0.drew, y.W.cell? ⟨w.heap.size + 1, 1, none⟩ = some (.bool (bb)) := fun y => (b0.ext (X.trans y.x)).cell 1
  have p12 : ∀ y : Xt w0.drew, y.W.cell? ⟨w.heap.size + 1, 2, none⟩ = some (.int .i64 (nb)) := fun y => (b0.ext (X.trans y.x)).cell 2
  have p13 : ∀ y : Xt w0.drew, y.W.cell? ⟨w.heap.size + 1, 3, none⟩ = some (.string (sb)) := fun y => (b0.ext (X.trans y.x)).cell 3
  refine wp_region_ord [0,1,0,4,15,0,0,96,255,511,511,2047,4095] (.flo [0,1,2,3,4,5,6] (.ext 7 (.one 8 (.flo [9,10] (.one 11 (.flo [12] (.fin))))))) (by kernel_rfl) (by kernel_rfl) (by intro _ _ d _ _ h; cases d <;> exact h) ?_
  (refine ord_flo (pick_cons rfl (pick_cons rfl (pick_cons rfl (pick_cons rfl (pick_cons rfl (pick_cons rfl (pick_cons rfl pick_nil))))))) ?_; (repeat (go_big_quiet_step (fail))); refine wpQuiet_nil ?_; show ordWalk _ _ _ _ _ _ _)
  refine ord_ext (pick_cons rfl pick_nil) ?_; intro K_ hK_
  go_wp2
  refine ordNext.mk ((Ext.refl _).alloc _) ?_
  refine ord_one (pick_cons rfl pick_nil) ?_; intro K_ hK_
  go_wp2_with (go_at_call 71; refine (numbers_at _ _ _ _ 2 [⟨ka, ba, na, sa⟩, ⟨kb, bb, nb, sb⟩] _ HR rfl (by omega) (Dats.two (by first | exact Bk.at (by simp) | exact (Bk.at (by simp)).drew)) (by simpa using ⟨hs, hs2⟩)).mono ?_; rintro e w2 ⟨rfl, x2⟩; have z2 : Bk w2 (w.heap.size + 1 + 1) 24 #[.int .u8 (0), .bool (false), .int .i64 (0), .string (⟨#[]⟩)] := (z0.ext ((X.alloc (.cells #[.int .u8 (ka), .bool (ba), .int .i64 (na), .string (sa), .int .u8 (kb), .bool (bb), .int .i64 (nb), .string (sb)] 24)).trans (by exact x2))); have z2f0 : w2.frozen? ⟨w.heap.size + 1 + 1, 0, none⟩ = false := z2.free 0; have z2f1 : w2.frozen? ⟨w.heap.size + 1 + 1, 1, none⟩ = false := z2.free 1; have z2f2 : w2.frozen? ⟨w.heap.size + 1 + 1, 2, none⟩ = false := z2.free 2; have z2f3 : w2.frozen? ⟨w.heap.size + 1 + 1, 3, none⟩ = false := z2.free 3; have z2c0 : w2.cell? ⟨w.heap.size + 1 + 1, 0, none⟩ = some (.int .u8 (0)) := z2.cell 0; have z2c1 : w2.cell? ⟨w.heap.size + 1 + 1, 1, none⟩ = some (.bool (false)) := z2.cell 1; have z2c2 : w2.cell? ⟨w.heap.size + 1 + 1, 2, none⟩ = some (.int .i64 (0)) := z2.cell 2; have z2c3 : w2.cell? ⟨w.heap.size + 1 + 1, 3, none⟩ = some (.string (⟨#[]⟩)) := z2.cell 3)
  (refine ord_flo (pick_cons rfl (pick_cons rfl pick_nil)) ?_; (repeat (go_big_quiet_step (fail))); refine wpQuiet_nil ?_; show ordWalk _ _ _ _ _ _ _)
  refine ord_one (pick_cons rfl pick_nil) ?_; intro K_ hK_
  go_wp2
  (refine ord_flo (pick_cons rfl pick_nil) ?_; (repeat (go_big_quiet_step (fail))); refine wpQuiet_nil ?_; show ordWalk _ _ _ _ _ _ _)
  refine ord_fin ?_
  go_wp2
  have q := z2.set4 (.int .u8 rk) (.bool rb) (.int .i64 rn) (.string rs)
  refine bodyPost_ret (v := .tuple #[.agg #[.int .u8 rk, .bool rb, .int .i64 rn, .string rs], .int .i64 re]) (by simp [results, Tryd.results37, go_sem, q.1, q.2.1, q.2.2.1, q.2.2.2]) rfl ⟨rfl, Ext.set4 (E0.trans ((X.alloc (.cells #[.int .u8 (ka), .bool (ba), .int .i64 (na), .string (sa), .int .u8 (kb), .bool (bb), .int .i64 (nb), .string (sb)] 24)).trans (by exact x2))) (by first | omega | simp) _ _ _ _⟩
end Go.Proofs.YtobgfegdfcpgfaaDoor
