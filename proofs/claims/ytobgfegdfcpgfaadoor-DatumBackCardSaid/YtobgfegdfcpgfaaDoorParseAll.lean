/- datum.Parse: what it answers. datum.Parse of a text that is none of the words and not between quotes: what it answers. datum.Parse of a text between quotes: what it answers. What ParseInt reads lies in int64; texts that are none of the words. A text between quotes, told by its size, its first and its last byte. datum.Parse of any text: what it answers. The plain law of reading a number digit by digit. Conditions: each theorem states its own. -/
import Derived.Test.YtobgfegdfcpgfaaDoorParsLaw2
import Derived.Test.YtobgfegdfcpgfaaDoorDKnown
namespace Go.Proofs.YtobgfegdfcpgfaaDoor
open Go.RowKit

theorem checkK {k n : Int} {b : Bool} {s : ByteArray} {c : Int} (w : World) (h : Hid (checkT k b n s = c)) (hs : s.size ≤ 140737488355328) (g : Good w) :
    Calls Tryd.prog 15 #[.agg #[.int .u8 k, .bool b, .int .i64 n, .string s]] w fun e w' => e = .returned (.int .u16 c) ∧ Ext w w' := h.out ▸ check_any k b n s w (by omega) g
theorem printK {k n : Int} {b : Bool} {s p : ByteArray} (w : World) (h : Hid (printT k b n s = p)) (hs : s.size ≤ 140737488355328) (hn : In64 n) (g : Good2 w) :
    Calls Tryd.prog 17 #[.agg #[.int .u8 k, .bool b, .int .i64 n, .string s]] w fun e w' => e = .returned (.string p) ∧ Ext w w' := h.out ▸ print_any k b n s w (by omega) hn g
set_option maxRecDepth 100000 in
set_option maxHeartbeats 2000000 in
theorem parse_null (w : World) (G : Good3 w) : Calls Tryd.prog 49 #[.string ⟨#[110, 117, 108, 108]⟩] w (Out w (⟨1, false, 0, ⟨#[]⟩⟩, 0)) := by
  have HC : Hid (checkT 1 false 0 ⟨#[]⟩ = 0) := Lib.hid (by decide +kernel)
  have HP : Hid (printT 1 false 0 ⟨#[]⟩ = ⟨#[110, 117, 108, 108]⟩) := Lib.hid (by decide +kernel)
  go_enter Tryd.func49, Tryd.ntmps49
  go_wp2_with (first
    | (go_at_call 85; refine (null_any _).mono ?_; rintro r w1 ⟨rfl, x1⟩; have X1 : Ext (w.alloc (.cells #[.int .u8 0, .bool false, .int .i64 0, .string ⟨#[]⟩] 24)) w1 := ((Ext.refl _).alloc _).trans x1; have bd : Bk w1 (w.heap.size + 1) 24 #[.int .u8 0, .bool false, .int .i64 0, .string ⟨#[]⟩] := (Bk.at (by simp)).ext x1; have s1 := X1.size; have bdf0 : w1.frozen? ⟨w.heap.size + 1, 0, none⟩ = false := bd.free 0; have bdf1 : w1.frozen? ⟨w.heap.size + 1, 1, none⟩ = false := bd.free 1; have bdf2 : w1.frozen? ⟨w.heap.size + 1, 2, none⟩ = false := bd.free 2; have bdf3 : w1.frozen? ⟨w.heap.size + 1, 3, none⟩ = false := bd.free 3; have bd0 : w1.cell? ⟨w.heap.size + 1, 0, none⟩ = some (.int .u8 (0)) := bd.cell 0; have bd1 : w1.cell? ⟨w.heap.size + 1, 1, none⟩ = some (.bool (false)) := bd.cell 1; have bd2 : w1.cell? ⟨w.heap.size + 1, 2, none⟩ = some (.int .i64 (0)) := bd.cell 2; have bd3 : w1.cell? ⟨w.heap.size + 1, 3, none⟩ = some (.string (⟨#[]⟩)) := bd.cell 3; have bd4 := bd.set4 (.int .u8 (1)) (.bool false) (.int .i64 0) (.string ⟨#[]⟩); have d0 := bd4.1; have d1 := bd4.2.1; have d2 := bd4.2.2.1; have d3 := bd4.2.2.2; have X1s := Lib.hid (X1.set4 (g := w.heap.size + 1) (by simp) (.int .u8 (1)) (.bool false) (.int .i64 0) (.string ⟨#[]⟩)); clear bd4)
    | (go_at_call 15; refine (checkK _ HC (by decide) (G.good.good.ext (((Ext.refl w).alloc _).trans X1s.out))).mono ?_; rintro r w2 ⟨rfl, x2⟩; have X2 : Ext (w.alloc (.cells #[.int .u8 0, .bool false, .int .i64 0, .string ⟨#[]⟩] 24)) w2 := X1s.out.trans x2; have be : Bk w2 (w.heap.size + 1) 24 #[.int .u8 1, .bool false, .int .i64 0, .string ⟨#[]⟩] := ((((bd.set 0 _).set 1 _).set 2 _).set 3 _).ext x2; have be0 : w2.cell? ⟨w.heap.size + 1, 0, none⟩ = some (.int .u8 (1)) := be.cell 0; have be1 : w2.cell? ⟨w.heap.size + 1, 1, none⟩ = some (.bool (false)) := be.cell 1; have be2 : w2.cell? ⟨w.heap.size + 1, 2, none⟩ = some (.int .i64 (0)) := be.cell 2; have be3 : w2.cell? ⟨w.heap.size + 1, 3, none⟩ = some (.string (⟨#[]⟩)) := be.cell 3)
    | (go_at_call 17; refine (printK _ HP (by decide) (by decide) (G.good.ext (((Ext.refl w).alloc _).trans X2))).mono ?_; rintro r w3 ⟨rfl, x3⟩; have X3 : Ext (w.alloc (.cells #[.int .u8 0, .bool false, .int .i64 0, .string ⟨#[]⟩] 24)) w3 := X2.trans x3; have bf : Bk w3 (w.heap.size + 1) 24 #[.int .u8 1, .bool false, .int .i64 0, .string ⟨#[]⟩] := be.ext x3; have bz : Bk w3 w.heap.size 24 #[.int .u8 0, .bool false, .int .i64 0, .string ⟨#[]⟩] := (Bk.new w _ _).ext X3; have bf0 : w3.cell? ⟨w.heap.size + 1, 0, none⟩ = some (.int .u8 (1)) := bf.cell 0; have bf1 : w3.cell? ⟨w.heap.size + 1, 1, none⟩ = some (.bool (false)) := bf.cell 1; have bf2 : w3.cell? ⟨w.heap.size + 1, 2, none⟩ = some (.int .i64 (0)) := bf.cell 2; have bf3 : w3.cell? ⟨w.heap.size + 1, 3, none⟩ = some (.string (⟨#[]⟩)) := bf.cell 3; have bzf0 : w3.frozen? ⟨w.heap.size, 0, none⟩ = false := bz.free 0; have bzf1 : w3.frozen? ⟨w.heap.size, 1, none⟩ = false := bz.free 1; have bzf2 : w3.frozen? ⟨w.heap.size, 2, none⟩ = false := bz.free 2; have bzf3 : w3.frozen? ⟨w.heap.size, 3, none⟩ = false := bz.free 3; have bz0 : w3.cell? ⟨w.heap.size, 0, none⟩ = some (.int .u8 (0)) := bz.cell 0; have bz1 : w3.cell? ⟨w.heap.size, 1, none⟩ = some (.bool (false)) := bz.cell 1; have bz2 : w3.cell? ⟨w.heap.size, 2, none⟩ = some (.int .i64 (0)) := bz.cell 2; have bz3 : w3.cell? ⟨w.heap.size, 3, none⟩ = some (.string (⟨#[]⟩)) := bz.cell 3))
  have q := bz.set4 (.int .u8 (1)) (.bool (false)) (.int .i64 (0)) (.string (⟨#[]⟩)); refine bodyPost_ret (v := .tuple #[.agg #[.int .u8 (1), .bool (false), .int .i64 (0), .string (⟨#[]⟩)], .int .u16 (0)]) (by simp [results, Tryd.results49, go_sem, q.1, q.2.1, q.2.2.1, q.2.2.2]) rfl ⟨rfl, Ext.set4 (((Ext.refl w).alloc _).trans X3) (by first | omega | simp) _ _ _ _⟩
set_option maxRecDepth 100000 in
set_option maxHeartbeats 2000000 in
theorem parse_true (w : World) (G : Good3 w) : Calls Tryd.prog 49 #[.string ⟨#[116, 114, 117, 101]⟩] w (Out w (⟨2, true, 0, ⟨#[]⟩⟩, 0)) := by
  have HC : Hid (checkT 2 true 0 ⟨#[]⟩ = 0) := Lib.hid (by decide +kernel)
  have HP : Hid (printT 2 true 0 ⟨#[]⟩ = ⟨#[116, 114, 117, 101]⟩) := Lib.hid (by decide +kernel)
  go_enter Tryd.func49, Tryd.ntmps49
  go_wp2_with (first
    | (go_at_call 59; refine (boolean_any _ _).mono ?_; rintro r w1 ⟨rfl, x1⟩; have X1 : Ext (w.alloc (.cells #[.int .u8 0, .bool false, .int .i64 0, .string ⟨#[]⟩] 24)) w1 := ((Ext.refl _).alloc _).trans x1; have bd : Bk w1 (w.heap.size + 1) 24 #[.int .u8 0, .bool false, .int .i64 0, .string ⟨#[]⟩] := (Bk.at (by simp)).ext x1; have s1 := X1.size; have bdf0 : w1.frozen? ⟨w.heap.size + 1, 0, none⟩ = false := bd.free 0; have bdf1 : w1.frozen? ⟨w.heap.size + 1, 1, none⟩ = false := bd.free 1; have bdf2 : w1.frozen? ⟨w.heap.size + 1, 2, none⟩ = false := bd.free 2; have bdf3 : w1.frozen? ⟨w.heap.size + 1, 3, none⟩ = false := bd.free 3; have bd0 : w1.cell? ⟨w.heap.size + 1, 0, none⟩ = some (.int .u8 (0)) := bd.cell 0; have bd1 : w1.cell? ⟨w.heap.size + 1, 1, none⟩ = some (.bool (false)) := bd.cell 1; have bd2 : w1.cell? ⟨w.heap.size + 1, 2, none⟩ = some (.int .i64 (0)) := bd.cell 2; have bd3 : w1.cell? ⟨w.heap.size + 1, 3, none⟩ = some (.string (⟨#[]⟩)) := bd.cell 3; have bd4 := bd.set4 (.int .u8 (2)) (.bool true) (.int .i64 0) (.string ⟨#[]⟩); have d0 := bd4.1; have d1 := bd4.2.1; have d2 := bd4.2.2.1; have d3 := bd4.2.2.2; have X1s := Lib.hid (X1.set4 (g := w.heap.size + 1) (by simp) (.int .u8 (2)) (.bool true) (.int .i64 0) (.string ⟨#[]⟩)); clear bd4)
    | (go_at_call 15; refine (checkK _ HC (by decide) (G.good.good.ext (((Ext.refl w).alloc _).trans X1s.out))).mono ?_; rintro r w2 ⟨rfl, x2⟩; have X2 : Ext (w.alloc (.cells #[.int .u8 0, .bool false, .int .i64 0, .string ⟨#[]⟩] 24)) w2 := X1s.out.trans x2; have be : Bk w2 (w.heap.size + 1) 24 #[.int .u8 2, .bool true, .int .i64 0, .string ⟨#[]⟩] := ((((bd.set 0 _).set 1 _).set 2 _).set 3 _).ext x2; have be0 : w2.cell? ⟨w.heap.size + 1, 0, none⟩ = some (.int .u8 (2)) := be.cell 0; have be1 : w2.cell? ⟨w.heap.size + 1, 1, none⟩ = some (.bool (true)) := be.cell 1; have be2 : w2.cell? ⟨w.heap.size + 1, 2, none⟩ = some (.int .i64 (0)) := be.cell 2; have be3 : w2.cell? ⟨w.heap.size + 1, 3, none⟩ = some (.string (⟨#[]⟩)) := be.cell 3)
    | (go_at_call 17; refine (printK _ HP (by decide) (by decide) (G.good.ext (((Ext.refl w).alloc _).trans X2))).mono ?_; rintro r w3 ⟨rfl, x3⟩; have X3 : Ext (w.alloc (.cells #[.int .u8 0, .bool false, .int .i64 0, .string ⟨#[]⟩] 24)) w3 := X2.trans x3; have bf : Bk w3 (w.heap.size + 1) 24 #[.int .u8 2, .bool true, .int .i64 0, .string ⟨#[]⟩] := be.ext x3; have bz : Bk w3 w.heap.size 24 #[.int .u8 0, .bool false, .int .i64 0, .string ⟨#[]⟩] := (Bk.new w _ _).ext X3; have bf0 : w3.cell? ⟨w.heap.size + 1, 0, none⟩ = some (.int .u8 (2)) := bf.cell 0; have bf1 : w3.cell? ⟨w.heap.size + 1, 1, none⟩ = some (.bool (true)) := bf.cell 1; have bf2 : w3.cell? ⟨w.heap.size + 1, 2, none⟩ = some (.int .i64 (0)) := bf.cell 2; have bf3 : w3.cell? ⟨w.heap.size + 1, 3, none⟩ = some (.string (⟨#[]⟩)) := bf.cell 3; have bzf0 : w3.frozen? ⟨w.heap.size, 0, none⟩ = false := bz.free 0; have bzf1 : w3.frozen? ⟨w.heap.size, 1, none⟩ = false := bz.free 1; have bzf2 : w3.frozen? ⟨w.heap.size, 2, none⟩ = false := bz.free 2; have bzf3 : w3.frozen? ⟨w.heap.size, 3, none⟩ = false := bz.free 3; have bz0 : w3.cell? ⟨w.heap.size, 0, none⟩ = some (.int .u8 (0)) := bz.cell 0; have bz1 : w3.cell? ⟨w.heap.size, 1, none⟩ = some (.bool (false)) := bz.cell 1; have bz2 : w3.cell? ⟨w.heap.size, 2, none⟩ = some (.int .i64 (0)) := bz.cell 2; have bz3 : w3.cell? ⟨w.heap.size, 3, none⟩ = some (.string (⟨#[]⟩)) := bz.cell 3))
  have q := bz.set4 (.int .u8 (2)) (.bool (true)) (.int .i64 (0)) (.string (⟨#[]⟩)); refine bodyPost_ret (v := .tuple #[.agg #[.int .u8 (2), .bool (true), .int .i64 (0), .string (⟨#[]⟩)], .int .u16 (0)]) (by simp [results, Tryd.results49, go_sem, q.1, q.2.1, q.2.2.1, q.2.2.2]) rfl ⟨rfl, Ext.set4 (((Ext.refl w).alloc _).trans X3) (by first | omega | simp) _ _ _ _⟩
set_option maxRecDepth 100000 in
set_option maxHeartbeats 2000000 in
theorem parse_false (w : World) (G : Good3 w) : Calls Tryd.prog 49 #[.string ⟨#[102, 97, 108, 115, 101]⟩] w (Out w (⟨2, false, 0, ⟨#[]⟩⟩, 0)) := by
  have HC : Hid (checkT 2 false 0 ⟨#[]⟩ = 0) := Lib.hid (by decide +kernel)
  have HP : Hid (printT 2 false 0 ⟨#[]⟩ = ⟨#[102, 97, 108, 115, 101]⟩) := Lib.hid (by decide +kernel)
  go_enter Tryd.func49, Tryd.ntmps49
  go_wp2_with (first
    | (go_at_call 59; refine (boolean_any _ _).mono ?_; rintro r w1 ⟨rfl, x1⟩; have X1 : Ext (w.alloc (.cells #[.int .u8 0, .bool false, .int .i64 0, .string ⟨#[]⟩] 24)) w1 := ((Ext.refl _).alloc _).trans x1; have bd : Bk w1 (w.heap.size + 1) 24 #[.int .u8 0, .bool false, .int .i64 0, .string ⟨#[]⟩] := (Bk.at (by simp)).ext x1; have s1 := X1.size; have bdf0 : w1.frozen? ⟨w.heap.size + 1, 0, none⟩ = false := bd.free 0; have bdf1 : w1.frozen? ⟨w.heap.size + 1, 1, none⟩ = false := bd.free 1; have bdf2 : w1.frozen? ⟨w.heap.size + 1, 2, none⟩ = false := bd.free 2; have bdf3 : w1.frozen? ⟨w.heap.size + 1, 3, none⟩ = false := bd.free 3; have bd0 : w1.cell? ⟨w.heap.size + 1, 0, none⟩ = some (.int .u8 (0)) := bd.cell 0; have bd1 : w1.cell? ⟨w.heap.size + 1, 1, none⟩ = some (.bool (false)) := bd.cell 1; have bd2 : w1.cell? ⟨w.heap.size + 1, 2, none⟩ = some (.int .i64 (0)) := bd.cell 2; have bd3 : w1.cell? ⟨w.heap.size + 1, 3, none⟩ = some (.string (⟨#[]⟩)) := bd.cell 3; have bd4 := bd.set4 (.int .u8 (2)) (.bool false) (.int .i64 0) (.string ⟨#[]⟩); have d0 := bd4.1; have d1 := bd4.2.1; have d2 := bd4.2.2.1; have d3 := bd4.2.2.2; have X1s := Lib.hid (X1.set4 (g := w.heap.size + 1) (by simp) (.int .u8 (2)) (.bool false) (.int .i64 0) (.string ⟨#[]⟩)); clear bd4)
    | (go_at_call 15; refine (checkK _ HC (by decide) (G.good.good.ext (((Ext.refl w).alloc _).trans X1s.out))).mono ?_; rintro r w2 ⟨rfl, x2⟩; have X2 : Ext (w.alloc (.cells #[.int .u8 0, .bool false, .int .i64 0, .string ⟨#[]⟩] 24)) w2 := X1s.out.trans x2; have be : Bk w2 (w.heap.size + 1) 24 #[.int .u8 2, .bool false, .int .i64 0, .string ⟨#[]⟩] := ((((bd.set 0 _).set 1 _).set 2 _).set 3 _).ext x2; have be0 : w2.cell? ⟨w.heap.size + 1, 0, none⟩ = some (.int .u8 (2)) := be.cell 0; have be1 : w2.cell? ⟨w.heap.size + 1, 1, none⟩ = some (.bool (false)) := be.cell 1; have be2 : w2.cell? ⟨w.heap.size + 1, 2, none⟩ = some (.int .i64 (0)) := be.cell 2; have be3 : w2.cell? ⟨w.heap.size + 1, 3, none⟩ = some (.string (⟨#[]⟩)) := be.cell 3)
    | (go_at_call 17; refine (printK _ HP (by decide) (by decide) (G.good.ext (((Ext.refl w).alloc _).trans X2))).mono ?_; rintro r w3 ⟨rfl, x3⟩; have X3 : Ext (w.alloc (.cells #[.int .u8 0, .bool false, .int .i64 0, .string ⟨#[]⟩] 24)) w3 := X2.trans x3; have bf : Bk w3 (w.heap.size + 1) 24 #[.int .u8 2, .bool false, .int .i64 0, .string ⟨#[]⟩] := be.ext x3; have bz : Bk w3 w.heap.size 24 #[.int .u8 0, .bool false, .int .i64 0, .string ⟨#[]⟩] := (Bk.new w _ _).ext X3; have bf0 : w3.cell? ⟨w.heap.size + 1, 0, none⟩ = some (.int .u8 (2)) := bf.cell 0; have bf1 : w3.cell? ⟨w.heap.size + 1, 1, none⟩ = some (.bool (false)) := bf.cell 1; have bf2 : w3.cell? ⟨w.heap.size + 1, 2, none⟩ = some (.int .i64 (0)) := bf.cell 2; have bf3 : w3.cell? ⟨w.heap.size + 1, 3, none⟩ = some (.string (⟨#[]⟩)) := bf.cell 3; have bzf0 : w3.frozen? ⟨w.heap.size, 0, none⟩ = false := bz.free 0; have bzf1 : w3.frozen? ⟨w.heap.size, 1, none⟩ = false := bz.free 1; have bzf2 : w3.frozen? ⟨w.heap.size, 2, none⟩ = false := bz.free 2; have bzf3 : w3.frozen? ⟨w.heap.size, 3, none⟩ = false := bz.free 3; have bz0 : w3.cell? ⟨w.heap.size, 0, none⟩ = some (.int .u8 (0)) := bz.cell 0; have bz1 : w3.cell? ⟨w.heap.size, 1, none⟩ = some (.bool (false)) := bz.cell 1; have bz2 : w3.cell? ⟨w.heap.size, 2, none⟩ = some (.int .i64 (0)) := bz.cell 2; have bz3 : w3.cell? ⟨w.heap.size, 3, none⟩ = some (.string (⟨#[]⟩)) := bz.cell 3))
  have q := bz.set4 (.int .u8 (2)) (.bool (false)) (.int .i64 (0)) (.string (⟨#[]⟩)); refine bodyPost_ret (v := .tuple #[.agg #[.int .u8 (2), .bool (false), .int .i64 (0), .string (⟨#[]⟩)], .int .u16 (0)]) (by simp [results, Tryd.results49, go_sem, q.1, q.2.1, q.2.2.1, q.2.2.2]) rfl ⟨rfl, Ext.set4 (((Ext.refl w).alloc _).trans X3) (by first | omega | simp) _ _ _ _⟩
end Go.Proofs.YtobgfegdfcpgfaaDoor
namespace Go.Proofs.YtobgfegdfcpgfaaDoor
open Go.RowKit

set_option maxRecDepth 100000 in
set_option maxHeartbeats 4000000 in
theorem parse_num_a (s : ByteArray) (w : World) (hs : s.size ≤ 140737488355328) (h1 : (s.toList == [110, 117, 108, 108]) = false) (h2 : (s.toList == [116, 114, 117, 101]) = false) (h3 : (s.toList == [102, 97, 108, 115, 101]) = false) (hc : ∀ x : Dat, Ok x → printT x.k x.b x.n x.s = s → ∃ v, parseOk s v ∧ x = ⟨3, false, v, ⟨#[]⟩⟩) (hv64 : ∀ v, parseOk s v → In64 v) (h4 : 2 ≤ s.size) (h5 : ¬ s[0].toNat = 39) (G : Good3 w) :
    Calls Tryd.prog 49 #[.string s] w fun e w' => ∃ d x, ParseRel s d x ∧ Out w (d, x) e w' := by
  have HC := Lib.hid hc
  have HV := Lib.hid hv64
  clear hc hv64
  have z5 : ((s[0].toNat : Int) == 39) = false := by simp; omega
  go_enter Tryd.func49, Tryd.ntmps49
  go_wp2_with fail
  refine (parseInt_any s _ (by omega) (G.ext (((Ext.refl w).alloc _).alloc _))).mono ?_
  rintro e w1 ⟨he, x1⟩
  have X1 : Ext (w.alloc (.cells #[.int .u8 0, .bool false, .int .i64 0, .string ⟨#[]⟩] 24)) w1 := ((Ext.refl _).alloc _).trans x1
  have bd : Bk w1 (w.heap.size + 1) 24 #[.int .u8 0, .bool false, .int .i64 0, .string ⟨#[]⟩] := (Bk.at (by simp)).ext x1
  have s1 := X1.size
  have bz : Bk w1 w.heap.size 24 #[.int .u8 0, .bool false, .int .i64 0, .string ⟨#[]⟩] := (Bk.new w _ _).ext X1
  rcases he with ⟨v, hv, rfl⟩ | ⟨hv, n, t, p, rfl⟩
  · have hn := HV.out v hv
    have hcand : Cand s ⟨3, false, v, ⟨#[]⟩⟩ := fun x hx hp => (by obtain ⟨u, q, e⟩ := HC.out x hx hp; obtain rfl : v = u := (by unfold parseOk at hv q; rw [hv] at q; injection q); exact e)
    have hck : checkT 3 false v ⟨#[]⟩ = 0 := by rw [checkT_on ⟨.inr (.inr (.inl rfl)), fun _ => rfl, fun h => absurd rfl h, fun _ => rfl⟩]; decide +kernel
    have HN := Lib.hid hn; have HK := Lib.hid hcand; have HC2 := Lib.hid hck
    clear hn hcand hck hv
    by_cases hp : printT 3 false v ⟨#[]⟩ = s
    · have HP := Lib.hid hp
      clear hp
      go_wp2_with (first
        | (go_at_call 67; refine (number_any _ _).mono ?_; rintro r w2 ⟨rfl, x2⟩; have Y1 : Ext (w.alloc (.cells #[.int .u8 0, .bool false, .int .i64 0, .string ⟨#[]⟩] 24)) w2 := X1.trans x2; have be : Bk w2 (w.heap.size + 1) 24 #[.int .u8 0, .bool false, .int .i64 0, .string ⟨#[]⟩] := bd.ext x2; have s2 := Y1.size; have bef0 : w2.frozen? ⟨w.heap.size + 1, 0, none⟩ = false := be.free 0; have bef1 : w2.frozen? ⟨w.heap.size + 1, 1, none⟩ = false := be.free 1; have bef2 : w2.frozen? ⟨w.heap.size + 1, 2, none⟩ = false := be.free 2; have bef3 : w2.frozen? ⟨w.heap.size + 1, 3, none⟩ = false := be.free 3; have be0 : w2.cell? ⟨w.heap.size + 1, 0, none⟩ = some (.int .u8 (0)) := be.cell 0; have be1 : w2.cell? ⟨w.heap.size + 1, 1, none⟩ = some (.bool (false)) := be.cell 1; have be2 : w2.cell? ⟨w.heap.size + 1, 2, none⟩ = some (.int .i64 (0)) := be.cell 2; have be3 : w2.cell? ⟨w.heap.size + 1, 3, none⟩ = some (.string (⟨#[]⟩)) := be.cell 3; have be4 := be.set4 (.int .u8 (3)) (.bool false) (.int .i64 v) (.string ⟨#[]⟩); have d0 := be4.1; have d1 := be4.2.1; have d2 := be4.2.2.1; have d3 := be4.2.2.2; have X1s := Lib.hid (Y1.set4 (g := w.heap.size + 1) (by simp) (.int .u8 (3)) (.bool false) (.int .i64 v) (.string ⟨#[]⟩)); clear be4)
        | (go_at_call 15; refine (checkK _ HC2 (by decide) (G.good.good.ext (((Ext.refl w).alloc _).trans X1s.out))).mono ?_; rintro r w3 ⟨rfl, x3⟩; have X2 : Ext (w.alloc (.cells #[.int .u8 0, .bool false, .int .i64 0, .string ⟨#[]⟩] 24)) w3 := X1s.out.trans x3; have bf : Bk w3 (w.heap.size + 1) 24 #[.int .u8 3, .bool false, .int .i64 v, .string ⟨#[]⟩] := ((((be.set 0 _).set 1 _).set 2 _).set 3 _).ext x3; have bf0 : w3.cell? ⟨w.heap.size + 1, 0, none⟩ = some (.int .u8 (3)) := bf.cell 0; have bf1 : w3.cell? ⟨w.heap.size + 1, 1, none⟩ = some (.bool (false)) := bf.cell 1; have bf2 : w3.cell? ⟨w.heap.size + 1, 2, none⟩ = some (.int .i64 (v)) := bf.cell 2; have bf3 : w3.cell? ⟨w.heap.size + 1, 3, none⟩ = some (.string (⟨#[]⟩)) := bf.cell 3)
        | (go_at_call 17; refine (printK _ HP (by decide) HN.out (G.good.ext (((Ext.refl w).alloc _).trans X2))).mono ?_; rintro r w4 ⟨rfl, x4⟩; have X3 : Ext (w.alloc (.cells #[.int .u8 0, .bool false, .int .i64 0, .string ⟨#[]⟩] 24)) w4 := X2.trans x4; have bg : Bk w4 (w.heap.size + 1) 24 #[.int .u8 3, .bool false, .int .i64 v, .string ⟨#[]⟩] := bf.ext x4; have bh : Bk w4 w.heap.size 24 #[.int .u8 0, .bool false, .int .i64 0, .string ⟨#[]⟩] := (Bk.new w _ _).ext X3; have bg0 : w4.cell? ⟨w.heap.size + 1, 0, none⟩ = some (.int .u8 (3)) := bg.cell 0; have bg1 : w4.cell? ⟨w.heap.size + 1, 1, none⟩ = some (.bool (false)) := bg.cell 1; have bg2 : w4.cell? ⟨w.heap.size + 1, 2, none⟩ = some (.int .i64 (v)) := bg.cell 2; have bg3 : w4.cell? ⟨w.heap.size + 1, 3, none⟩ = some (.string (⟨#[]⟩)) := bg.cell 3; have bhf0 : w4.frozen? ⟨w.heap.size, 0, none⟩ = false := bh.free 0; have bhf1 : w4.frozen? ⟨w.heap.size, 1, none⟩ = false := bh.free 1; have bhf2 : w4.frozen? ⟨w.heap.size, 2, none⟩ = false := bh.free 2; have bhf3 : w4.frozen? ⟨w.heap.size, 3, none⟩ = false := bh.free 3; have bh0 : w4.cell? ⟨w.heap.size, 0, none⟩ = some (.int .u8 (0)) := bh.cell 0; have bh1 : w4.cell? ⟨w.heap.size, 1, none⟩ = some (.bool (false)) := bh.cell 1; have bh2 : w4.cell? ⟨w.heap.size, 2, none⟩ = some (.int .i64 (0)) := bh.cell 2; have bh3 : w4.cell? ⟨w.heap.size, 3, none⟩ = some (.string (⟨#[]⟩)) := bh.cell 3))
      have q := bh.set4 (.int .u8 (3)) (.bool (false)) (.int .i64 (v)) (.string (⟨#[]⟩)); refine bodyPost_ret (v := .tuple #[.agg #[.int .u8 (3), .bool (false), .int .i64 (v), .string (⟨#[]⟩)], .int .u16 (0)]) (by simp [results, Tryd.results49, go_sem, q.1, q.2.1, q.2.2.1, q.2.2.2]) rfl ⟨⟨3, false, v, ⟨#[]⟩⟩, 0, parse_on ⟨HC2.out, HN.out⟩ HP.out, rfl, Ext.set4 (((Ext.refl w).alloc _).trans X3) (by first | omega | simp) _ _ _ _⟩
    · obtain ⟨p, hpp⟩ : ∃ p, printT 3 false v ⟨#[]⟩ = p := ⟨_, rfl⟩
      have HNo : Hid (¬ (Ok ⟨3, false, v, ⟨#[]⟩⟩ ∧ printT 3 false v ⟨#[]⟩ = s)) := Lib.hid fun h => hp h.2
      rw [hpp] at hp
      have HP := Lib.hid hpp
      have hpl : ¬ p.toList = s.toList := fun h => hp (data_inj (by rw [Lib.toList_data, Lib.toList_data] at h; exact h))
      have zp : (!(p.toList == s.toList)) = true := by simpa using hpl
      have zq : (p.toList == s.toList) = false := by simpa using hpl
      clear hpp
      go_wp2_with (first
        | (go_at_call 67; refine (number_any _ _).mono ?_; rintro r w2 ⟨rfl, x2⟩; have Y1 : Ext (w.alloc (.cells #[.int .u8 0, .bool false, .int .i64 0, .string ⟨#[]⟩] 24)) w2 := X1.trans x2; have be : Bk w2 (w.heap.size + 1) 24 #[.int .u8 0, .bool false, .int .i64 0, .string ⟨#[]⟩] := bd.ext x2; have s2 := Y1.size; have bef0 : w2.frozen? ⟨w.heap.size + 1, 0, none⟩ = false := be.free 0; have bef1 : w2.frozen? ⟨w.heap.size + 1, 1, none⟩ = false := be.free 1; have bef2 : w2.frozen? ⟨w.heap.size + 1, 2, none⟩ = false := be.free 2; have bef3 : w2.frozen? ⟨w.heap.size + 1, 3, none⟩ = false := be.free 3; have be0 : w2.cell? ⟨w.heap.size + 1, 0, none⟩ = some (.int .u8 (0)) := be.cell 0; have be1 : w2.cell? ⟨w.heap.size + 1, 1, none⟩ = some (.bool (false)) := be.cell 1; have be2 : w2.cell? ⟨w.heap.size + 1, 2, none⟩ = some (.int .i64 (0)) := be.cell 2; have be3 : w2.cell? ⟨w.heap.size + 1, 3, none⟩ = some (.string (⟨#[]⟩)) := be.cell 3; have be4 := be.set4 (.int .u8 (3)) (.bool false) (.int .i64 v) (.string ⟨#[]⟩); have d0 := be4.1; have d1 := be4.2.1; have d2 := be4.2.2.1; have d3 := be4.2.2.2; have X1s := Lib.hid (Y1.set4 (g := w.heap.size + 1) (by simp) (.int .u8 (3)) (.bool false) (.int .i64 v) (.string ⟨#[]⟩)); clear be4)
        | (go_at_call 15; refine (checkK _ HC2 (by decide) (G.good.good.ext (((Ext.refl w).alloc _).trans X1s.out))).mono ?_; rintro r w3 ⟨rfl, x3⟩; have X2 : Ext (w.alloc (.cells #[.int .u8 0, .bool false, .int .i64 0, .string ⟨#[]⟩] 24)) w3 := X1s.out.trans x3; have bf : Bk w3 (w.heap.size + 1) 24 #[.int .u8 3, .bool false, .int .i64 v, .string ⟨#[]⟩] := ((((be.set 0 _).set 1 _).set 2 _).set 3 _).ext x3; have bf0 : w3.cell? ⟨w.heap.size + 1, 0, none⟩ = some (.int .u8 (3)) := bf.cell 0; have bf1 : w3.cell? ⟨w.heap.size + 1, 1, none⟩ = some (.bool (false)) := bf.cell 1; have bf2 : w3.cell? ⟨w.heap.size + 1, 2, none⟩ = some (.int .i64 (v)) := bf.cell 2; have bf3 : w3.cell? ⟨w.heap.size + 1, 3, none⟩ = some (.string (⟨#[]⟩)) := bf.cell 3)
        | (go_at_call 17; refine (printK _ HP (by decide) HN.out (G.good.ext (((Ext.refl w).alloc _).trans X2))).mono ?_; rintro r w4 ⟨rfl, x4⟩; have X3 : Ext (w.alloc (.cells #[.int .u8 0, .bool false, .int .i64 0, .string ⟨#[]⟩] 24)) w4 := X2.trans x4; have bg : Bk w4 (w.heap.size + 1) 24 #[.int .u8 3, .bool false, .int .i64 v, .string ⟨#[]⟩] := bf.ext x4; have bh : Bk w4 w.heap.size 24 #[.int .u8 0, .bool false, .int .i64 0, .string ⟨#[]⟩] := (Bk.new w _ _).ext X3; have bg0 : w4.cell? ⟨w.heap.size + 1, 0, none⟩ = some (.int .u8 (3)) := bg.cell 0; have bg1 : w4.cell? ⟨w.heap.size + 1, 1, none⟩ = some (.bool (false)) := bg.cell 1; have bg2 : w4.cell? ⟨w.heap.size + 1, 2, none⟩ = some (.int .i64 (v)) := bg.cell 2; have bg3 : w4.cell? ⟨w.heap.size + 1, 3, none⟩ = some (.string (⟨#[]⟩)) := bg.cell 3; have bhf0 : w4.frozen? ⟨w.heap.size, 0, none⟩ = false := bh.free 0; have bhf1 : w4.frozen? ⟨w.heap.size, 1, none⟩ = false := bh.free 1; have bhf2 : w4.frozen? ⟨w.heap.size, 2, none⟩ = false := bh.free 2; have bhf3 : w4.frozen? ⟨w.heap.size, 3, none⟩ = false := bh.free 3; have bh0 : w4.cell? ⟨w.heap.size, 0, none⟩ = some (.int .u8 (0)) := bh.cell 0; have bh1 : w4.cell? ⟨w.heap.size, 1, none⟩ = some (.bool (false)) := bh.cell 1; have bh2 : w4.cell? ⟨w.heap.size, 2, none⟩ = some (.int .i64 (0)) := bh.cell 2; have bh3 : w4.cell? ⟨w.heap.size, 3, none⟩ = some (.string (⟨#[]⟩)) := bh.cell 3))
      have q := bh.set4 (.int .u8 (0)) (.bool (false)) (.int .i64 (0)) (.string (⟨#[]⟩)); refine bodyPost_ret (v := .tuple #[.agg #[.int .u8 (0), .bool (false), .int .i64 (0), .string (⟨#[]⟩)], .int .u16 (13)]) (by simp [results, Tryd.results49, go_sem, q.1, q.2.1, q.2.2.1, q.2.2.2]) rfl ⟨⟨0, false, 0, ⟨#[]⟩⟩, 13, parse_off HK.out HNo.out, rfl, Ext.set4 (((Ext.refl w).alloc _).trans X3) (by first | omega | simp) _ _ _ _⟩
  · have hN : Hid (NoCand s) := Lib.hid fun x hx hp => (by obtain ⟨v, q, _⟩ := HC.out x hx hp; exact hv v q)
    clear hv
    have bzf0 : w1.frozen? ⟨w.heap.size, 0, none⟩ = false := bz.free 0; have bzf1 : w1.frozen? ⟨w.heap.size, 1, none⟩ = false := bz.free 1; have bzf2 : w1.frozen? ⟨w.heap.size, 2, none⟩ = false := bz.free 2; have bzf3 : w1.frozen? ⟨w.heap.size, 3, none⟩ = false := bz.free 3
    have bz0 : w1.cell? ⟨w.heap.size, 0, none⟩ = some (.int .u8 (0)) := bz.cell 0; have bz1 : w1.cell? ⟨w.heap.size, 1, none⟩ = some (.bool (false)) := bz.cell 1; have bz2 : w1.cell? ⟨w.heap.size, 2, none⟩ = some (.int .i64 (0)) := bz.cell 2; have bz3 : w1.cell? ⟨w.heap.size, 3, none⟩ = some (.string (⟨#[]⟩)) := bz.cell 3
    go_wp2
    have q := bz.set4 (.int .u8 (0)) (.bool (false)) (.int .i64 (0)) (.string (⟨#[]⟩)); refine bodyPost_ret (v := .tuple #[.agg #[.int .u8 (0), .bool (false), .int .i64 (0), .string (⟨#[]⟩)], .int .u16 (13)]) (by simp [results, Tryd.results49, go_sem, q.1, q.2.1, q.2.2.1, q.2.2.2]) rfl ⟨⟨0, false, 0, ⟨#[]⟩⟩, 13, .inr ⟨rfl, rfl, hN.out⟩, rfl, Ext.set4 (((Ext.refl w).alloc _).trans X1) (by first | omega | simp) _ _ _ _⟩
set_option maxRecDepth 100000 in
set_option maxHeartbeats 4000000 in
theorem parse_num_c (s : ByteArray) (w : World) (hs : s.size ≤ 140737488355328) (h1 : (s.toList == [110, 117, 108, 108]) = false) (h2 : (s.toList == [116, 114, 117, 101]) = false) (h3 : (s.toList == [102, 97, 108, 115, 101]) = false) (hc : ∀ x : Dat, Ok x → printT x.k x.b x.n x.s = s → ∃ v, parseOk s v ∧ x = ⟨3, false, v, ⟨#[]⟩⟩) (hv64 : ∀ v, parseOk s v → In64 v) (h4 : s.size < 2) (G : Good3 w) :
    Calls Tryd.prog 49 #[.string s] w fun e w' => ∃ d x, ParseRel s d x ∧ Out w (d, x) e w' := by
  have HC := Lib.hid hc
  have HV := Lib.hid hv64
  clear hc hv64
  go_enter Tryd.func49, Tryd.ntmps49
  go_wp2_with fail
  refine (parseInt_any s _ (by omega) (G.ext (((Ext.refl w).alloc _).alloc _))).mono ?_
  rintro e w1 ⟨he, x1⟩
  have X1 : Ext (w.alloc (.cells #[.int .u8 0, .bool false, .int .i64 0, .string ⟨#[]⟩] 24)) w1 := ((Ext.refl _).alloc _).trans x1
  have bd : Bk w1 (w.heap.size + 1) 24 #[.int .u8 0, .bool false, .int .i64 0, .string ⟨#[]⟩] := (Bk.at (by simp)).ext x1
  have s1 := X1.size
  have bz : Bk w1 w.heap.size 24 #[.int .u8 0, .bool false, .int .i64 0, .string ⟨#[]⟩] := (Bk.new w _ _).ext X1
  rcases he with ⟨v, hv, rfl⟩ | ⟨hv, n, t, p, rfl⟩
  · have hn := HV.out v hv
    have hcand : Cand s ⟨3, false, v, ⟨#[]⟩⟩ := fun x hx hp => (by obtain ⟨u, q, e⟩ := HC.out x hx hp; obtain rfl : v = u := (by unfold parseOk at hv q; rw [hv] at q; injection q); exact e)
    have hck : checkT 3 false v ⟨#[]⟩ = 0 := by rw [checkT_on ⟨.inr (.inr (.inl rfl)), fun _ => rfl, fun h => absurd rfl h, fun _ => rfl⟩]; decide +kernel
    have HN := Lib.hid hn; have HK := Lib.hid hcand; have HC2 := Lib.hid hck
    clear hn hcand hck hv
    by_cases hp : printT 3 false v ⟨#[]⟩ = s
    · have HP := Lib.hid hp
      clear hp
      go_wp2_with (first
        | (go_at_call 67; refine (number_any _ _).mono ?_; rintro r w2 ⟨rfl, x2⟩; have Y1 : Ext (w.alloc (.cells #[.int .u8 0, .bool false, .int .i64 0, .string ⟨#[]⟩] 24)) w2 := X1.trans x2; have be : Bk w2 (w.heap.size + 1) 24 #[.int .u8 0, .bool false, .int .i64 0, .string ⟨#[]⟩] := bd.ext x2; have s2 := Y1.size; have bef0 : w2.frozen? ⟨w.heap.size + 1, 0, none⟩ = false := be.free 0; have bef1 : w2.frozen? ⟨w.heap.size + 1, 1, none⟩ = false := be.free 1; have bef2 : w2.frozen? ⟨w.heap.size + 1, 2, none⟩ = false := be.free 2; have bef3 : w2.frozen? ⟨w.heap.size + 1, 3, none⟩ = false := be.free 3; have be0 : w2.cell? ⟨w.heap.size + 1, 0, none⟩ = some (.int .u8 (0)) := be.cell 0; have be1 : w2.cell? ⟨w.heap.size + 1, 1, none⟩ = some (.bool (false)) := be.cell 1; have be2 : w2.cell? ⟨w.heap.size + 1, 2, none⟩ = some (.int .i64 (0)) := be.cell 2; have be3 : w2.cell? ⟨w.heap.size + 1, 3, none⟩ = some (.string (⟨#[]⟩)) := be.cell 3; have be4 := be.set4 (.int .u8 (3)) (.bool false) (.int .i64 v) (.string ⟨#[]⟩); have d0 := be4.1; have d1 := be4.2.1; have d2 := be4.2.2.1; have d3 := be4.2.2.2; have X1s := Lib.hid (Y1.set4 (g := w.heap.size + 1) (by simp) (.int .u8 (3)) (.bool false) (.int .i64 v) (.string ⟨#[]⟩)); clear be4)
        | (go_at_call 15; refine (checkK _ HC2 (by decide) (G.good.good.ext (((Ext.refl w).alloc _).trans X1s.out))).mono ?_; rintro r w3 ⟨rfl, x3⟩; have X2 : Ext (w.alloc (.cells #[.int .u8 0, .bool false, .int .i64 0, .string ⟨#[]⟩] 24)) w3 := X1s.out.trans x3; have bf : Bk w3 (w.heap.size + 1) 24 #[.int .u8 3, .bool false, .int .i64 v, .string ⟨#[]⟩] := ((((be.set 0 _).set 1 _).set 2 _).set 3 _).ext x3; have bf0 : w3.cell? ⟨w.heap.size + 1, 0, none⟩ = some (.int .u8 (3)) := bf.cell 0; have bf1 : w3.cell? ⟨w.heap.size + 1, 1, none⟩ = some (.bool (false)) := bf.cell 1; have bf2 : w3.cell? ⟨w.heap.size + 1, 2, none⟩ = some (.int .i64 (v)) := bf.cell 2; have bf3 : w3.cell? ⟨w.heap.size + 1, 3, none⟩ = some (.string (⟨#[]⟩)) := bf.cell 3)
        | (go_at_call 17; refine (printK _ HP (by decide) HN.out (G.good.ext (((Ext.refl w).alloc _).trans X2))).mono ?_; rintro r w4 ⟨rfl, x4⟩; have X3 : Ext (w.alloc (.cells #[.int .u8 0, .bool false, .int .i64 0, .string ⟨#[]⟩] 24)) w4 := X2.trans x4; have bg : Bk w4 (w.heap.size + 1) 24 #[.int .u8 3, .bool false, .int .i64 v, .string ⟨#[]⟩] := bf.ext x4; have bh : Bk w4 w.heap.size 24 #[.int .u8 0, .bool false, .int .i64 0, .string ⟨#[]⟩] := (Bk.new w _ _).ext X3; have bg0 : w4.cell? ⟨w.heap.size + 1, 0, none⟩ = some (.int .u8 (3)) := bg.cell 0; have bg1 : w4.cell? ⟨w.heap.size + 1, 1, none⟩ = some (.bool (false)) := bg.cell 1; have bg2 : w4.cell? ⟨w.heap.size + 1, 2, none⟩ = some (.int .i64 (v)) := bg.cell 2; have bg3 : w4.cell? ⟨w.heap.size + 1, 3, none⟩ = some (.string (⟨#[]⟩)) := bg.cell 3; have bhf0 : w4.frozen? ⟨w.heap.size, 0, none⟩ = false := bh.free 0; have bhf1 : w4.frozen? ⟨w.heap.size, 1, none⟩ = false := bh.free 1; have bhf2 : w4.frozen? ⟨w.heap.size, 2, none⟩ = false := bh.free 2; have bhf3 : w4.frozen? ⟨w.heap.size, 3, none⟩ = false := bh.free 3; have bh0 : w4.cell? ⟨w.heap.size, 0, none⟩ = some (.int .u8 (0)) := bh.cell 0; have bh1 : w4.cell? ⟨w.heap.size, 1, none⟩ = some (.bool (false)) := bh.cell 1; have bh2 : w4.cell? ⟨w.heap.size, 2, none⟩ = some (.int .i64 (0)) := bh.cell 2; have bh3 : w4.cell? ⟨w.heap.size, 3, none⟩ = some (.string (⟨#[]⟩)) := bh.cell 3))
      have q := bh.set4 (.int .u8 (3)) (.bool (false)) (.int .i64 (v)) (.string (⟨#[]⟩)); refine bodyPost_ret (v := .tuple #[.agg #[.int .u8 (3), .bool (false), .int .i64 (v), .string (⟨#[]⟩)], .int .u16 (0)]) (by simp [results, Tryd.results49, go_sem, q.1, q.2.1, q.2.2.1, q.2.2.2]) rfl ⟨⟨3, false, v, ⟨#[]⟩⟩, 0, parse_on ⟨HC2.out, HN.out⟩ HP.out, rfl, Ext.set4 (((Ext.refl w).alloc _).trans X3) (by first | omega | simp) _ _ _ _⟩
    · obtain ⟨p, hpp⟩ : ∃ p, printT 3 false v ⟨#[]⟩ = p := ⟨_, rfl⟩
      have HNo : Hid (¬ (Ok ⟨3, false, v, ⟨#[]⟩⟩ ∧ printT 3 false v ⟨#[]⟩ = s)) := Lib.hid fun h => hp h.2
      rw [hpp] at hp
      have HP := Lib.hid hpp
      have hpl : ¬ p.toList = s.toList := fun h => hp (data_inj (by rw [Lib.toList_data, Lib.toList_data] at h; exact h))
      have zp : (!(p.toList == s.toList)) = true := by simpa using hpl
      have zq : (p.toList == s.toList) = false := by simpa using hpl
      clear hpp
      go_wp2_with (first
        | (go_at_call 67; refine (number_any _ _).mono ?_; rintro r w2 ⟨rfl, x2⟩; have Y1 : Ext (w.alloc (.cells #[.int .u8 0, .bool false, .int .i64 0, .string ⟨#[]⟩] 24)) w2 := X1.trans x2; have be : Bk w2 (w.heap.size + 1) 24 #[.int .u8 0, .bool false, .int .i64 0, .string ⟨#[]⟩] := bd.ext x2; have s2 := Y1.size; have bef0 : w2.frozen? ⟨w.heap.size + 1, 0, none⟩ = false := be.free 0; have bef1 : w2.frozen? ⟨w.heap.size + 1, 1, none⟩ = false := be.free 1; have bef2 : w2.frozen? ⟨w.heap.size + 1, 2, none⟩ = false := be.free 2; have bef3 : w2.frozen? ⟨w.heap.size + 1, 3, none⟩ = false := be.free 3; have be0 : w2.cell? ⟨w.heap.size + 1, 0, none⟩ = some (.int .u8 (0)) := be.cell 0; have be1 : w2.cell? ⟨w.heap.size + 1, 1, none⟩ = some (.bool (false)) := be.cell 1; have be2 : w2.cell? ⟨w.heap.size + 1, 2, none⟩ = some (.int .i64 (0)) := be.cell 2; have be3 : w2.cell? ⟨w.heap.size + 1, 3, none⟩ = some (.string (⟨#[]⟩)) := be.cell 3; have be4 := be.set4 (.int .u8 (3)) (.bool false) (.int .i64 v) (.string ⟨#[]⟩); have d0 := be4.1; have d1 := be4.2.1; have d2 := be4.2.2.1; have d3 := be4.2.2.2; have X1s := Lib.hid (Y1.set4 (g := w.heap.size + 1) (by simp) (.int .u8 (3)) (.bool false) (.int .i64 v) (.string ⟨#[]⟩)); clear be4)
        | (go_at_call 15; refine (checkK _ HC2 (by decide) (G.good.good.ext (((Ext.refl w).alloc _).trans X1s.out))).mono ?_; rintro r w3 ⟨rfl, x3⟩; have X2 : Ext (w.alloc (.cells #[.int .u8 0, .bool false, .int .i64 0, .string ⟨#[]⟩] 24)) w3 := X1s.out.trans x3; have bf : Bk w3 (w.heap.size + 1) 24 #[.int .u8 3, .bool false, .int .i64 v, .string ⟨#[]⟩] := ((((be.set 0 _).set 1 _).set 2 _).set 3 _).ext x3; have bf0 : w3.cell? ⟨w.heap.size + 1, 0, none⟩ = some (.int .u8 (3)) := bf.cell 0; have bf1 : w3.cell? ⟨w.heap.size + 1, 1, none⟩ = some (.bool (false)) := bf.cell 1; have bf2 : w3.cell? ⟨w.heap.size + 1, 2, none⟩ = some (.int .i64 (v)) := bf.cell 2; have bf3 : w3.cell? ⟨w.heap.size + 1, 3, none⟩ = some (.string (⟨#[]⟩)) := bf.cell 3)
        | (go_at_call 17; refine (printK _ HP (by decide) HN.out (G.good.ext (((Ext.refl w).alloc _).trans X2))).mono ?_; rintro r w4 ⟨rfl, x4⟩; have X3 : Ext (w.alloc (.cells #[.int .u8 0, .bool false, .int .i64 0, .string ⟨#[]⟩] 24)) w4 := X2.trans x4; have bg : Bk w4 (w.heap.size + 1) 24 #[.int .u8 3, .bool false, .int .i64 v, .string ⟨#[]⟩] := bf.ext x4; have bh : Bk w4 w.heap.size 24 #[.int .u8 0, .bool false, .int .i64 0, .string ⟨#[]⟩] := (Bk.new w _ _).ext X3; have bg0 : w4.cell? ⟨w.heap.size + 1, 0, none⟩ = some (.int .u8 (3)) := bg.cell 0; have bg1 : w4.cell? ⟨w.heap.size + 1, 1, none⟩ = some (.bool (false)) := bg.cell 1; have bg2 : w4.cell? ⟨w.heap.size + 1, 2, none⟩ = some (.int .i64 (v)) := bg.cell 2; have bg3 : w4.cell? ⟨w.heap.size + 1, 3, none⟩ = some (.string (⟨#[]⟩)) := bg.cell 3; have bhf0 : w4.frozen? ⟨w.heap.size, 0, none⟩ = false := bh.free 0; have bhf1 : w4.frozen? ⟨w.heap.size, 1, none⟩ = false := bh.free 1; have bhf2 : w4.frozen? ⟨w.heap.size, 2, none⟩ = false := bh.free 2; have bhf3 : w4.frozen? ⟨w.heap.size, 3, none⟩ = false := bh.free 3; have bh0 : w4.cell? ⟨w.heap.size, 0, none⟩ = some (.int .u8 (0)) := bh.cell 0; have bh1 : w4.cell? ⟨w.heap.size, 1, none⟩ = some (.bool (false)) := bh.cell 1; have bh2 : w4.cell? ⟨w.heap.size, 2, none⟩ = some (.int .i64 (0)) := bh.cell 2; have bh3 : w4.cell? ⟨w.heap.size, 3, none⟩ = some (.string (⟨#[]⟩)) := bh.cell 3))
      have q := bh.set4 (.int .u8 (0)) (.bool (false)) (.int .i64 (0)) (.string (⟨#[]⟩)); refine bodyPost_ret (v := .tuple #[.agg #[.int .u8 (0), .bool (false), .int .i64 (0), .string (⟨#[]⟩)], .int .u16 (13)]) (by simp [results, Tryd.results49, go_sem, q.1, q.2.1, q.2.2.1, q.2.2.2]) rfl ⟨⟨0, false, 0, ⟨#[]⟩⟩, 13, parse_off HK.out HNo.out, rfl, Ext.set4 (((Ext.refl w).alloc _).trans X3) (by first | omega | simp) _ _ _ _⟩
  · have hN : Hid (NoCand s) := Lib.hid fun x hx hp => (by obtain ⟨v, q, _⟩ := HC.out x hx hp; exact hv v q)
    clear hv
    have bzf0 : w1.frozen? ⟨w.heap.size, 0, none⟩ = false := bz.free 0; have bzf1 : w1.frozen? ⟨w.heap.size, 1, none⟩ = false := bz.free 1; have bzf2 : w1.frozen? ⟨w.heap.size, 2, none⟩ = false := bz.free 2; have bzf3 : w1.frozen? ⟨w.heap.size, 3, none⟩ = false := bz.free 3
    have bz0 : w1.cell? ⟨w.heap.size, 0, none⟩ = some (.int .u8 (0)) := bz.cell 0; have bz1 : w1.cell? ⟨w.heap.size, 1, none⟩ = some (.bool (false)) := bz.cell 1; have bz2 : w1.cell? ⟨w.heap.size, 2, none⟩ = some (.int .i64 (0)) := bz.cell 2; have bz3 : w1.cell? ⟨w.heap.size, 3, none⟩ = some (.string (⟨#[]⟩)) := bz.cell 3
    go_wp2
    have q := bz.set4 (.int .u8 (0)) (.bool (false)) (.int .i64 (0)) (.string (⟨#[]⟩)); refine bodyPost_ret (v := .tuple #[.agg #[.int .u8 (0), .bool (false), .int .i64 (0), .string (⟨#[]⟩)], .int .u16 (13)]) (by simp [results, Tryd.results49, go_sem, q.1, q.2.1, q.2.2.1, q.2.2.2]) rfl ⟨⟨0, false, 0, ⟨#[]⟩⟩, 13, .inr ⟨rfl, rfl, hN.out⟩, rfl, Ext.set4 (((Ext.refl w).alloc _).trans X1) (by first | omega | simp) _ _ _ _⟩
set_option maxRecDepth 100000 in
set_option maxHeartbeats 4000000 in
theorem parse_num_b (s : ByteArray) (w : World) (hs : s.size ≤ 140737488355328) (h1 : (s.toList == [110, 117, 108, 108]) = false) (h2 : (s.toList == [116, 114, 117, 101]) = false) (h3 : (s.toList == [102, 97, 108, 115, 101]) = false) (hc : ∀ x : Dat, Ok x → printT x.k x.b x.n x.s = s → ∃ v, parseOk s v ∧ x = ⟨3, false, v, ⟨#[]⟩⟩) (hv64 : ∀ v, parseOk s v → In64 v) (h4 : 2 ≤ s.size) (h5 : s[0].toNat = 39) (h6 : ¬ s[s.size - 1].toNat = 39) (G : Good3 w) :
    Calls Tryd.prog 49 #[.string s] w fun e w' => ∃ d x, ParseRel s d x ∧ Out w (d, x) e w' := by
  have HC := Lib.hid hc
  have HV := Lib.hid hv64
  clear hc hv64
  have z5 : ((s[0].toNat : Int) == 39) = true := by simp; omega
  have z6 : ((s[s.size - 1].toNat : Int) == 39) = false := by simp; omega
  go_enter Tryd.func49, Tryd.ntmps49
  go_wp2_with fail
  refine (parseInt_any s _ (by omega) (G.ext (((Ext.refl w).alloc _).alloc _))).mono ?_
  rintro e w1 ⟨he, x1⟩
  have X1 : Ext (w.alloc (.cells #[.int .u8 0, .bool false, .int .i64 0, .string ⟨#[]⟩] 24)) w1 := ((Ext.refl _).alloc _).trans x1
  have bd : Bk w1 (w.heap.size + 1) 24 #[.int .u8 0, .bool false, .int .i64 0, .string ⟨#[]⟩] := (Bk.at (by simp)).ext x1
  have s1 := X1.size
  have bz : Bk w1 w.heap.size 24 #[.int .u8 0, .bool false, .int .i64 0, .string ⟨#[]⟩] := (Bk.new w _ _).ext X1
  rcases he with ⟨v, hv, rfl⟩ | ⟨hv, n, t, p, rfl⟩
  · have hn := HV.out v hv
    have hcand : Cand s ⟨3, false, v, ⟨#[]⟩⟩ := fun x hx hp => (by obtain ⟨u, q, e⟩ := HC.out x hx hp; obtain rfl : v = u := (by unfold parseOk at hv q; rw [hv] at q; injection q); exact e)
    have hck : checkT 3 false v ⟨#[]⟩ = 0 := by rw [checkT_on ⟨.inr (.inr (.inl rfl)), fun _ => rfl, fun h => absurd rfl h, fun _ => rfl⟩]; decide +kernel
    have HN := Lib.hid hn; have HK := Lib.hid hcand; have HC2 := Lib.hid hck
    clear hn hcand hck hv
    by_cases hp : printT 3 false v ⟨#[]⟩ = s
    · have HP := Lib.hid hp
      clear hp
      go_wp2_with (first
        | (go_at_call 67; refine (number_any _ _).mono ?_; rintro r w2 ⟨rfl, x2⟩; have Y1 : Ext (w.alloc (.cells #[.int .u8 0, .bool false, .int .i64 0, .string ⟨#[]⟩] 24)) w2 := X1.trans x2; have be : Bk w2 (w.heap.size + 1) 24 #[.int .u8 0, .bool false, .int .i64 0, .string ⟨#[]⟩] := bd.ext x2; have s2 := Y1.size; have bef0 : w2.frozen? ⟨w.heap.size + 1, 0, none⟩ = false := be.free 0; have bef1 : w2.frozen? ⟨w.heap.size + 1, 1, none⟩ = false := be.free 1; have bef2 : w2.frozen? ⟨w.heap.size + 1, 2, none⟩ = false := be.free 2; have bef3 : w2.frozen? ⟨w.heap.size + 1, 3, none⟩ = false := be.free 3; have be0 : w2.cell? ⟨w.heap.size + 1, 0, none⟩ = some (.int .u8 (0)) := be.cell 0; have be1 : w2.cell? ⟨w.heap.size + 1, 1, none⟩ = some (.bool (false)) := be.cell 1; have be2 : w2.cell? ⟨w.heap.size + 1, 2, none⟩ = some (.int .i64 (0)) := be.cell 2; have be3 : w2.cell? ⟨w.heap.size + 1, 3, none⟩ = some (.string (⟨#[]⟩)) := be.cell 3; have be4 := be.set4 (.int .u8 (3)) (.bool false) (.int .i64 v) (.string ⟨#[]⟩); have d0 := be4.1; have d1 := be4.2.1; have d2 := be4.2.2.1; have d3 := be4.2.2.2; have X1s := Lib.hid (Y1.set4 (g := w.heap.size + 1) (by simp) (.int .u8 (3)) (.bool false) (.int .i64 v) (.string ⟨#[]⟩)); clear be4)
        | (go_at_call 15; refine (checkK _ HC2 (by decide) (G.good.good.ext (((Ext.refl w).alloc _).trans X1s.out))).mono ?_; rintro r w3 ⟨rfl, x3⟩; have X2 : Ext (w.alloc (.cells #[.int .u8 0, .bool false, .int .i64 0, .string ⟨#[]⟩] 24)) w3 := X1s.out.trans x3; have bf : Bk w3 (w.heap.size + 1) 24 #[.int .u8 3, .bool false, .int .i64 v, .string ⟨#[]⟩] := ((((be.set 0 _).set 1 _).set 2 _).set 3 _).ext x3; have bf0 : w3.cell? ⟨w.heap.size + 1, 0, none⟩ = some (.int .u8 (3)) := bf.cell 0; have bf1 : w3.cell? ⟨w.heap.size + 1, 1, none⟩ = some (.bool (false)) := bf.cell 1; have bf2 : w3.cell? ⟨w.heap.size + 1, 2, none⟩ = some (.int .i64 (v)) := bf.cell 2; have bf3 : w3.cell? ⟨w.heap.size + 1, 3, none⟩ = some (.string (⟨#[]⟩)) := bf.cell 3)
        | (go_at_call 17; refine (printK _ HP (by decide) HN.out (G.good.ext (((Ext.refl w).alloc _).trans X2))).mono ?_; rintro r w4 ⟨rfl, x4⟩; have X3 : Ext (w.alloc (.cells #[.int .u8 0, .bool false, .int .i64 0, .string ⟨#[]⟩] 24)) w4 := X2.trans x4; have bg : Bk w4 (w.heap.size + 1) 24 #[.int .u8 3, .bool false, .int .i64 v, .string ⟨#[]⟩] := bf.ext x4; have bh : Bk w4 w.heap.size 24 #[.int .u8 0, .bool false, .int .i64 0, .string ⟨#[]⟩] := (Bk.new w _ _).ext X3; have bg0 : w4.cell? ⟨w.heap.size + 1, 0, none⟩ = some (.int .u8 (3)) := bg.cell 0; have bg1 : w4.cell? ⟨w.heap.size + 1, 1, none⟩ = some (.bool (false)) := bg.cell 1; have bg2 : w4.cell? ⟨w.heap.size + 1, 2, none⟩ = some (.int .i64 (v)) := bg.cell 2; have bg3 : w4.cell? ⟨w.heap.size + 1, 3, none⟩ = some (.string (⟨#[]⟩)) := bg.cell 3; have bhf0 : w4.frozen? ⟨w.heap.size, 0, none⟩ = false := bh.free 0; have bhf1 : w4.frozen? ⟨w.heap.size, 1, none⟩ = false := bh.free 1; have bhf2 : w4.frozen? ⟨w.heap.size, 2, none⟩ = false := bh.free 2; have bhf3 : w4.frozen? ⟨w.heap.size, 3, none⟩ = false := bh.free 3; have bh0 : w4.cell? ⟨w.heap.size, 0, none⟩ = some (.int .u8 (0)) := bh.cell 0; have bh1 : w4.cell? ⟨w.heap.size, 1, none⟩ = some (.bool (false)) := bh.cell 1; have bh2 : w4.cell? ⟨w.heap.size, 2, none⟩ = some (.int .i64 (0)) := bh.cell 2; have bh3 : w4.cell? ⟨w.heap.size, 3, none⟩ = some (.string (⟨#[]⟩)) := bh.cell 3))
      have q := bh.set4 (.int .u8 (3)) (.bool (false)) (.int .i64 (v)) (.string (⟨#[]⟩)); refine bodyPost_ret (v := .tuple #[.agg #[.int .u8 (3), .bool (false), .int .i64 (v), .string (⟨#[]⟩)], .int .u16 (0)]) (by simp [results, Tryd.results49, go_sem, q.1, q.2.1, q.2.2.1, q.2.2.2]) rfl ⟨⟨3, false, v, ⟨#[]⟩⟩, 0, parse_on ⟨HC2.out, HN.out⟩ HP.out, rfl, Ext.set4 (((Ext.refl w).alloc _).trans X3) (by first | omega | simp) _ _ _ _⟩
    · obtain ⟨p, hpp⟩ : ∃ p, printT 3 false v ⟨#[]⟩ = p := ⟨_, rfl⟩
      have HNo : Hid (¬ (Ok ⟨3, false, v, ⟨#[]⟩⟩ ∧ printT 3 false v ⟨#[]⟩ = s)) := Lib.hid fun h => hp h.2
      rw [hpp] at hp
      have HP := Lib.hid hpp
      have hpl : ¬ p.toList = s.toList := fun h => hp (data_inj (by rw [Lib.toList_data, Lib.toList_data] at h; exact h))
      have zp : (!(p.toList == s.toList)) = true := by simpa using hpl
      have zq : (p.toList == s.toList) = false := by simpa using hpl
      clear hpp
      go_wp2_with (first
        | (go_at_call 67; refine (number_any _ _).mono ?_; rintro r w2 ⟨rfl, x2⟩; have Y1 : Ext (w.alloc (.cells #[.int .u8 0, .bool false, .int .i64 0, .string ⟨#[]⟩] 24)) w2 := X1.trans x2; have be : Bk w2 (w.heap.size + 1) 24 #[.int .u8 0, .bool false, .int .i64 0, .string ⟨#[]⟩] := bd.ext x2; have s2 := Y1.size; have bef0 : w2.frozen? ⟨w.heap.size + 1, 0, none⟩ = false := be.free 0; have bef1 : w2.frozen? ⟨w.heap.size + 1, 1, none⟩ = false := be.free 1; have bef2 : w2.frozen? ⟨w.heap.size + 1, 2, none⟩ = false := be.free 2; have bef3 : w2.frozen? ⟨w.heap.size + 1, 3, none⟩ = false := be.free 3; have be0 : w2.cell? ⟨w.heap.size + 1, 0, none⟩ = some (.int .u8 (0)) := be.cell 0; have be1 : w2.cell? ⟨w.heap.size + 1, 1, none⟩ = some (.bool (false)) := be.cell 1; have be2 : w2.cell? ⟨w.heap.size + 1, 2, none⟩ = some (.int .i64 (0)) := be.cell 2; have be3 : w2.cell? ⟨w.heap.size + 1, 3, none⟩ = some (.string (⟨#[]⟩)) := be.cell 3; have be4 := be.set4 (.int .u8 (3)) (.bool false) (.int .i64 v) (.string ⟨#[]⟩); have d0 := be4.1; have d1 := be4.2.1; have d2 := be4.2.2.1; have d3 := be4.2.2.2; have X1s := Lib.hid (Y1.set4 (g := w.heap.size + 1) (by simp) (.int .u8 (3)) (.bool false) (.int .i64 v) (.string ⟨#[]⟩)); clear be4)
        | (go_at_call 15; refine (checkK _ HC2 (by decide) (G.good.good.ext (((Ext.refl w).alloc _).trans X1s.out))).mono ?_; rintro r w3 ⟨rfl, x3⟩; have X2 : Ext (w.alloc (.cells #[.int .u8 0, .bool false, .int .i64 0, .string ⟨#[]⟩] 24)) w3 := X1s.out.trans x3; have bf : Bk w3 (w.heap.size + 1) 24 #[.int .u8 3, .bool false, .int .i64 v, .string ⟨#[]⟩] := ((((be.set 0 _).set 1 _).set 2 _).set 3 _).ext x3; have bf0 : w3.cell? ⟨w.heap.size + 1, 0, none⟩ = some (.int .u8 (3)) := bf.cell 0; have bf1 : w3.cell? ⟨w.heap.size + 1, 1, none⟩ = some (.bool (false)) := bf.cell 1; have bf2 : w3.cell? ⟨w.heap.size + 1, 2, none⟩ = some (.int .i64 (v)) := bf.cell 2; have bf3 : w3.cell? ⟨w.heap.size + 1, 3, none⟩ = some (.string (⟨#[]⟩)) := bf.cell 3)
        | (go_at_call 17; refine (printK _ HP (by decide) HN.out (G.good.ext (((Ext.refl w).alloc _).trans X2))).mono ?_; rintro r w4 ⟨rfl, x4⟩; have X3 : Ext (w.alloc (.cells #[.int .u8 0, .bool false, .int .i64 0, .string ⟨#[]⟩] 24)) w4 := X2.trans x4; have bg : Bk w4 (w.heap.size + 1) 24 #[.int .u8 3, .bool false, .int .i64 v, .string ⟨#[]⟩] := bf.ext x4; have bh : Bk w4 w.heap.size 24 #[.int .u8 0, .bool false, .int .i64 0, .string ⟨#[]⟩] := (Bk.new w _ _).ext X3; have bg0 : w4.cell? ⟨w.heap.size + 1, 0, none⟩ = some (.int .u8 (3)) := bg.cell 0; have bg1 : w4.cell? ⟨w.heap.size + 1, 1, none⟩ = some (.bool (false)) := bg.cell 1; have bg2 : w4.cell? ⟨w.heap.size + 1, 2, none⟩ = some (.int .i64 (v)) := bg.cell 2; have bg3 : w4.cell? ⟨w.heap.size + 1, 3, none⟩ = some (.string (⟨#[]⟩)) := bg.cell 3; have bhf0 : w4.frozen? ⟨w.heap.size, 0, none⟩ = false := bh.free 0; have bhf1 : w4.frozen? ⟨w.heap.size, 1, none⟩ = false := bh.free 1; have bhf2 : w4.frozen? ⟨w.heap.size, 2, none⟩ = false := bh.free 2; have bhf3 : w4.frozen? ⟨w.heap.size, 3, none⟩ = false := bh.free 3; have bh0 : w4.cell? ⟨w.heap.size, 0, none⟩ = some (.int .u8 (0)) := bh.cell 0; have bh1 : w4.cell? ⟨w.heap.size, 1, none⟩ = some (.bool (false)) := bh.cell 1; have bh2 : w4.cell? ⟨w.heap.size, 2, none⟩ = some (.int .i64 (0)) := bh.cell 2; have bh3 : w4.cell? ⟨w.heap.size, 3, none⟩ = some (.string (⟨#[]⟩)) := bh.cell 3))
      have q := bh.set4 (.int .u8 (0)) (.bool (false)) (.int .i64 (0)) (.string (⟨#[]⟩)); refine bodyPost_ret (v := .tuple #[.agg #[.int .u8 (0), .bool (false), .int .i64 (0), .string (⟨#[]⟩)], .int .u16 (13)]) (by simp [results, Tryd.results49, go_sem, q.1, q.2.1, q.2.2.1, q.2.2.2]) rfl ⟨⟨0, false, 0, ⟨#[]⟩⟩, 13, parse_off HK.out HNo.out, rfl, Ext.set4 (((Ext.refl w).alloc _).trans X3) (by first | omega | simp) _ _ _ _⟩
  · have hN : Hid (NoCand s) := Lib.hid fun x hx hp => (by obtain ⟨v, q, _⟩ := HC.out x hx hp; exact hv v q)
    clear hv
    have bzf0 : w1.frozen? ⟨w.heap.size, 0, none⟩ = false := bz.free 0; have bzf1 : w1.frozen? ⟨w.heap.size, 1, none⟩ = false := bz.free 1; have bzf2 : w1.frozen? ⟨w.heap.size, 2, none⟩ = false := bz.free 2; have bzf3 : w1.frozen? ⟨w.heap.size, 3, none⟩ = false := bz.free 3
    have bz0 : w1.cell? ⟨w.heap.size, 0, none⟩ = some (.int .u8 (0)) := bz.cell 0; have bz1 : w1.cell? ⟨w.heap.size, 1, none⟩ = some (.bool (false)) := bz.cell 1; have bz2 : w1.cell? ⟨w.heap.size, 2, none⟩ = some (.int .i64 (0)) := bz.cell 2; have bz3 : w1.cell? ⟨w.heap.size, 3, none⟩ = some (.string (⟨#[]⟩)) := bz.cell 3
    go_wp2
    have q := bz.set4 (.int .u8 (0)) (.bool (false)) (.int .i64 (0)) (.string (⟨#[]⟩)); refine bodyPost_ret (v := .tuple #[.agg #[.int .u8 (0), .bool (false), .int .i64 (0), .string (⟨#[]⟩)], .int .u16 (13)]) (by simp [results, Tryd.results49, go_sem, q.1, q.2.1, q.2.2.1, q.2.2.2]) rfl ⟨⟨0, false, 0, ⟨#[]⟩⟩, 13, .inr ⟨rfl, rfl, hN.out⟩, rfl, Ext.set4 (((Ext.refl w).alloc _).trans X1) (by first | omega | simp) _ _ _ _⟩
end Go.Proofs.YtobgfegdfcpgfaaDoor
namespace Go.Proofs.YtobgfegdfcpgfaaDoor
open Go.RowKit

set_option maxRecDepth 100000 in
set_option maxHeartbeats 4000000 in
theorem parse_text (s : ByteArray) (w : World) (hs : s.size ≤ 140737488355328) (h1 : (s.toList == [110, 117, 108, 108]) = false) (h2 : (s.toList == [116, 114, 117, 101]) = false) (h3 : (s.toList == [102, 97, 108, 115, 101]) = false) (h4 : 2 ≤ s.size) (h5 : s[0].toNat = 39) (h6 : s[s.size - 1].toNat = 39)
    (hc : ∀ (t : ByteArray) (ok : Bool), Unq (s.extract 1 (s.size - 1)) t ok → ∀ x : Dat, Ok x → printT x.k x.b x.n x.s = s → x = ⟨4, false, 0, t⟩ ∧ ok = true) (G : Good3 w) :
    Calls Tryd.prog 49 #[.string s] w fun e w' => ∃ d x, ParseRel s d x ∧ Out w (d, x) e w' := by
  have z5 : ((s[0].toNat : Int) == 39) = true := by simp; omega
  have z6 : ((s[s.size - 1].toNat : Int) == 39) = true := by simp; omega
  have hz : (s.extract 1 (s.size - 1)).size ≤ s.size := by simp; omega
  have HZ := Lib.hid hz
  have HC := Lib.hid hc
  clear hc hz
  go_enter Tryd.func49, Tryd.ntmps49
  go_wp2_with fail
  refine (unquoted_any _ _ (by have := HZ.out; omega) (G.ext (((Ext.refl w).alloc _).alloc _))).mono ?_
  rintro e w1 ⟨⟨t, ok, rfl, hu, ht⟩, x1⟩
  have HU := Lib.hid (HC.out t ok hu)
  have ht4 : t.size ≤ 140737488355328 := by have := HZ.out; omega
  have HT := Lib.hid ht4
  clear hu ht ht4
  have X1 : Ext (w.alloc (.cells #[.int .u8 0, .bool false, .int .i64 0, .string ⟨#[]⟩] 24)) w1 := ((Ext.refl _).alloc _).trans x1
  have bd : Bk w1 (w.heap.size + 1) 24 #[.int .u8 0, .bool false, .int .i64 0, .string ⟨#[]⟩] := (Bk.at (by simp)).ext x1
  have s1 := X1.size
  have bz : Bk w1 w.heap.size 24 #[.int .u8 0, .bool false, .int .i64 0, .string ⟨#[]⟩] := (Bk.new w _ _).ext X1
  cases ok
  · have hN : Hid (NoCand s) := Lib.hid fun x hx hp => (by cases (HU.out x hx hp).2)
    have bzf0 : w1.frozen? ⟨w.heap.size, 0, none⟩ = false := bz.free 0; have bzf1 : w1.frozen? ⟨w.heap.size, 1, none⟩ = false := bz.free 1; have bzf2 : w1.frozen? ⟨w.heap.size, 2, none⟩ = false := bz.free 2; have bzf3 : w1.frozen? ⟨w.heap.size, 3, none⟩ = false := bz.free 3
    have bz0 : w1.cell? ⟨w.heap.size, 0, none⟩ = some (.int .u8 (0)) := bz.cell 0; have bz1 : w1.cell? ⟨w.heap.size, 1, none⟩ = some (.bool (false)) := bz.cell 1; have bz2 : w1.cell? ⟨w.heap.size, 2, none⟩ = some (.int .i64 (0)) := bz.cell 2; have bz3 : w1.cell? ⟨w.heap.size, 3, none⟩ = some (.string (⟨#[]⟩)) := bz.cell 3
    go_wp2
    have q := bz.set4 (.int .u8 (0)) (.bool (false)) (.int .i64 (0)) (.string (⟨#[]⟩)); refine bodyPost_ret (v := .tuple #[.agg #[.int .u8 (0), .bool (false), .int .i64 (0), .string (⟨#[]⟩)], .int .u16 (13)]) (by simp [results, Tryd.results49, go_sem, q.1, q.2.1, q.2.2.1, q.2.2.2]) rfl ⟨⟨0, false, 0, ⟨#[]⟩⟩, 13, .inr ⟨rfl, rfl, hN.out⟩, rfl, Ext.set4 (((Ext.refl w).alloc _).trans X1) (by first | omega | simp) _ _ _ _⟩
  · have HK : Hid (Cand s ⟨4, false, 0, t⟩) := Lib.hid fun x hx hp => (HU.out x hx hp).1
    have hn : In64 0 := by decide
    have HN := Lib.hid hn
    clear hn
    by_cases hk : checkT 4 false 0 t = 0
    · have HC2 := Lib.hid hk
      clear hk
      by_cases hp : printT 4 false 0 t = s
      · have HP := Lib.hid hp
        clear hp
        go_wp2_with (first
        | (go_at_call 83; refine (text_any _ _).mono ?_; rintro r w2 ⟨rfl, x2⟩; have Y1 : Ext (w.alloc (.cells #[.int .u8 0, .bool false, .int .i64 0, .string ⟨#[]⟩] 24)) w2 := X1.trans x2; have be : Bk w2 (w.heap.size + 1) 24 #[.int .u8 0, .bool false, .int .i64 0, .string ⟨#[]⟩] := bd.ext x2; have s2 := Y1.size; have bef0 : w2.frozen? ⟨w.heap.size + 1, 0, none⟩ = false := be.free 0; have bef1 : w2.frozen? ⟨w.heap.size + 1, 1, none⟩ = false := be.free 1; have bef2 : w2.frozen? ⟨w.heap.size + 1, 2, none⟩ = false := be.free 2; have bef3 : w2.frozen? ⟨w.heap.size + 1, 3, none⟩ = false := be.free 3; have be0 : w2.cell? ⟨w.heap.size + 1, 0, none⟩ = some (.int .u8 (0)) := be.cell 0; have be1 : w2.cell? ⟨w.heap.size + 1, 1, none⟩ = some (.bool (false)) := be.cell 1; have be2 : w2.cell? ⟨w.heap.size + 1, 2, none⟩ = some (.int .i64 (0)) := be.cell 2; have be3 : w2.cell? ⟨w.heap.size + 1, 3, none⟩ = some (.string (⟨#[]⟩)) := be.cell 3; have be4 := be.set4 (.int .u8 (4)) (.bool false) (.int .i64 0) (.string t); have d0 := be4.1; have d1 := be4.2.1; have d2 := be4.2.2.1; have d3 := be4.2.2.2; have X1s := Lib.hid (Y1.set4 (g := w.heap.size + 1) (by simp) (.int .u8 (4)) (.bool false) (.int .i64 0) (.string t)); clear be4)
        | (go_at_call 15; refine (checkK _ HC2 HT.out (G.good.good.ext (((Ext.refl w).alloc _).trans X1s.out))).mono ?_; rintro r w3 ⟨rfl, x3⟩; have X2 : Ext (w.alloc (.cells #[.int .u8 0, .bool false, .int .i64 0, .string ⟨#[]⟩] 24)) w3 := X1s.out.trans x3; have bf : Bk w3 (w.heap.size + 1) 24 #[.int .u8 4, .bool false, .int .i64 0, .string t] := ((((be.set 0 _).set 1 _).set 2 _).set 3 _).ext x3; have bf0 : w3.cell? ⟨w.heap.size + 1, 0, none⟩ = some (.int .u8 (4)) := bf.cell 0; have bf1 : w3.cell? ⟨w.heap.size + 1, 1, none⟩ = some (.bool (false)) := bf.cell 1; have bf2 : w3.cell? ⟨w.heap.size + 1, 2, none⟩ = some (.int .i64 (0)) := bf.cell 2; have bf3 : w3.cell? ⟨w.heap.size + 1, 3, none⟩ = some (.string (t)) := bf.cell 3)
        | (go_at_call 17; refine (printK _ HP HT.out HN.out (G.good.ext (((Ext.refl w).alloc _).trans X2))).mono ?_; rintro r w4 ⟨rfl, x4⟩; have X3 : Ext (w.alloc (.cells #[.int .u8 0, .bool false, .int .i64 0, .string ⟨#[]⟩] 24)) w4 := X2.trans x4; have bg : Bk w4 (w.heap.size + 1) 24 #[.int .u8 4, .bool false, .int .i64 0, .string t] := bf.ext x4; have bh : Bk w4 w.heap.size 24 #[.int .u8 0, .bool false, .int .i64 0, .string ⟨#[]⟩] := (Bk.new w _ _).ext X3; have bg0 : w4.cell? ⟨w.heap.size + 1, 0, none⟩ = some (.int .u8 (4)) := bg.cell 0; have bg1 : w4.cell? ⟨w.heap.size + 1, 1, none⟩ = some (.bool (false)) := bg.cell 1; have bg2 : w4.cell? ⟨w.heap.size + 1, 2, none⟩ = some (.int .i64 (0)) := bg.cell 2; have bg3 : w4.cell? ⟨w.heap.size + 1, 3, none⟩ = some (.string (t)) := bg.cell 3; have bhf0 : w4.frozen? ⟨w.heap.size, 0, none⟩ = false := bh.free 0; have bhf1 : w4.frozen? ⟨w.heap.size, 1, none⟩ = false := bh.free 1; have bhf2 : w4.frozen? ⟨w.heap.size, 2, none⟩ = false := bh.free 2; have bhf3 : w4.frozen? ⟨w.heap.size, 3, none⟩ = false := bh.free 3; have bh0 : w4.cell? ⟨w.heap.size, 0, none⟩ = some (.int .u8 (0)) := bh.cell 0; have bh1 : w4.cell? ⟨w.heap.size, 1, none⟩ = some (.bool (false)) := bh.cell 1; have bh2 : w4.cell? ⟨w.heap.size, 2, none⟩ = some (.int .i64 (0)) := bh.cell 2; have bh3 : w4.cell? ⟨w.heap.size, 3, none⟩ = some (.string (⟨#[]⟩)) := bh.cell 3))
        have q := bh.set4 (.int .u8 (4)) (.bool (false)) (.int .i64 (0)) (.string (t)); refine bodyPost_ret (v := .tuple #[.agg #[.int .u8 (4), .bool (false), .int .i64 (0), .string (t)], .int .u16 (0)]) (by simp [results, Tryd.results49, go_sem, q.1, q.2.1, q.2.2.1, q.2.2.2]) rfl ⟨⟨4, false, 0, t⟩, 0, parse_on ⟨HC2.out, HN.out⟩ HP.out, rfl, Ext.set4 (((Ext.refl w).alloc _).trans X3) (by first | omega | simp) _ _ _ _⟩
      · obtain ⟨p, hpp⟩ : ∃ p, printT 4 false 0 t = p := ⟨_, rfl⟩
        have HNo : Hid (¬ (Ok ⟨4, false, 0, t⟩ ∧ printT 4 false 0 t = s)) := Lib.hid fun h => hp h.2
        rw [hpp] at hp
        have HP := Lib.hid hpp
        have hpl : ¬ p.toList = s.toList := fun h => hp (data_inj (by rw [Lib.toList_data, Lib.toList_data] at h; exact h))
        have zp : (!(p.toList == s.toList)) = true := by simpa using hpl
        have zq : (p.toList == s.toList) = false := by simpa using hpl
        clear hpp
        go_wp2_with (first
        | (go_at_call 83; refine (text_any _ _).mono ?_; rintro r w2 ⟨rfl, x2⟩; have Y1 : Ext (w.alloc (.cells #[.int .u8 0, .bool false, .int .i64 0, .string ⟨#[]⟩] 24)) w2 := X1.trans x2; have be : Bk w2 (w.heap.size + 1) 24 #[.int .u8 0, .bool false, .int .i64 0, .string ⟨#[]⟩] := bd.ext x2; have s2 := Y1.size; have bef0 : w2.frozen? ⟨w.heap.size + 1, 0, none⟩ = false := be.free 0; have bef1 : w2.frozen? ⟨w.heap.size + 1, 1, none⟩ = false := be.free 1; have bef2 : w2.frozen? ⟨w.heap.size + 1, 2, none⟩ = false := be.free 2; have bef3 : w2.frozen? ⟨w.heap.size + 1, 3, none⟩ = false := be.free 3; have be0 : w2.cell? ⟨w.heap.size + 1, 0, none⟩ = some (.int .u8 (0)) := be.cell 0; have be1 : w2.cell? ⟨w.heap.size + 1, 1, none⟩ = some (.bool (false)) := be.cell 1; have be2 : w2.cell? ⟨w.heap.size + 1, 2, none⟩ = some (.int .i64 (0)) := be.cell 2; have be3 : w2.cell? ⟨w.heap.size + 1, 3, none⟩ = some (.string (⟨#[]⟩)) := be.cell 3; have be4 := be.set4 (.int .u8 (4)) (.bool false) (.int .i64 0) (.string t); have d0 := be4.1; have d1 := be4.2.1; have d2 := be4.2.2.1; have d3 := be4.2.2.2; have X1s := Lib.hid (Y1.set4 (g := w.heap.size + 1) (by simp) (.int .u8 (4)) (.bool false) (.int .i64 0) (.string t)); clear be4)
        | (go_at_call 15; refine (checkK _ HC2 HT.out (G.good.good.ext (((Ext.refl w).alloc _).trans X1s.out))).mono ?_; rintro r w3 ⟨rfl, x3⟩; have X2 : Ext (w.alloc (.cells #[.int .u8 0, .bool false, .int .i64 0, .string ⟨#[]⟩] 24)) w3 := X1s.out.trans x3; have bf : Bk w3 (w.heap.size + 1) 24 #[.int .u8 4, .bool false, .int .i64 0, .string t] := ((((be.set 0 _).set 1 _).set 2 _).set 3 _).ext x3; have bf0 : w3.cell? ⟨w.heap.size + 1, 0, none⟩ = some (.int .u8 (4)) := bf.cell 0; have bf1 : w3.cell? ⟨w.heap.size + 1, 1, none⟩ = some (.bool (false)) := bf.cell 1; have bf2 : w3.cell? ⟨w.heap.size + 1, 2, none⟩ = some (.int .i64 (0)) := bf.cell 2; have bf3 : w3.cell? ⟨w.heap.size + 1, 3, none⟩ = some (.string (t)) := bf.cell 3)
        | (go_at_call 17; refine (printK _ HP HT.out HN.out (G.good.ext (((Ext.refl w).alloc _).trans X2))).mono ?_; rintro r w4 ⟨rfl, x4⟩; have X3 : Ext (w.alloc (.cells #[.int .u8 0, .bool false, .int .i64 0, .string ⟨#[]⟩] 24)) w4 := X2.trans x4; have bg : Bk w4 (w.heap.size + 1) 24 #[.int .u8 4, .bool false, .int .i64 0, .string t] := bf.ext x4; have bh : Bk w4 w.heap.size 24 #[.int .u8 0, .bool false, .int .i64 0, .string ⟨#[]⟩] := (Bk.new w _ _).ext X3; have bg0 : w4.cell? ⟨w.heap.size + 1, 0, none⟩ = some (.int .u8 (4)) := bg.cell 0; have bg1 : w4.cell? ⟨w.heap.size + 1, 1, none⟩ = some (.bool (false)) := bg.cell 1; have bg2 : w4.cell? ⟨w.heap.size + 1, 2, none⟩ = some (.int .i64 (0)) := bg.cell 2; have bg3 : w4.cell? ⟨w.heap.size + 1, 3, none⟩ = some (.string (t)) := bg.cell 3; have bhf0 : w4.frozen? ⟨w.heap.size, 0, none⟩ = false := bh.free 0; have bhf1 : w4.frozen? ⟨w.heap.size, 1, none⟩ = false := bh.free 1; have bhf2 : w4.frozen? ⟨w.heap.size, 2, none⟩ = false := bh.free 2; have bhf3 : w4.frozen? ⟨w.heap.size, 3, none⟩ = false := bh.free 3; have bh0 : w4.cell? ⟨w.heap.size, 0, none⟩ = some (.int .u8 (0)) := bh.cell 0; have bh1 : w4.cell? ⟨w.heap.size, 1, none⟩ = some (.bool (false)) := bh.cell 1; have bh2 : w4.cell? ⟨w.heap.size, 2, none⟩ = some (.int .i64 (0)) := bh.cell 2; have bh3 : w4.cell? ⟨w.heap.size, 3, none⟩ = some (.string (⟨#[]⟩)) := bh.cell 3))
        have q := bh.set4 (.int .u8 (0)) (.bool (false)) (.int .i64 (0)) (.string (⟨#[]⟩)); refine bodyPost_ret (v := .tuple #[.agg #[.int .u8 (0), .bool (false), .int .i64 (0), .string (⟨#[]⟩)], .int .u16 (13)]) (by simp [results, Tryd.results49, go_sem, q.1, q.2.1, q.2.2.1, q.2.2.2]) rfl ⟨⟨0, false, 0, ⟨#[]⟩⟩, 13, parse_off HK.out HNo.out, rfl, Ext.set4 (((Ext.refl w).alloc _).trans X3) (by first | omega | simp) _ _ _ _⟩
    · obtain ⟨c, hcc⟩ : ∃ c, checkT 4 false 0 t = c := ⟨_, rfl⟩
      have HNo : Hid (¬ (Ok ⟨4, false, 0, t⟩ ∧ printT 4 false 0 t = s)) := Lib.hid fun h => hk h.1.1
      rw [hcc] at hk
      have HC2 := Lib.hid hcc
      have zc : (c != 0) = true := by simpa using hk
      have zd : (c == 0) = false := by simpa using hk
      clear hcc
      go_wp2_with (first
        | (go_at_call 83; refine (text_any _ _).mono ?_; rintro r w2 ⟨rfl, x2⟩; have Y1 : Ext (w.alloc (.cells #[.int .u8 0, .bool false, .int .i64 0, .string ⟨#[]⟩] 24)) w2 := X1.trans x2; have be : Bk w2 (w.heap.size + 1) 24 #[.int .u8 0, .bool false, .int .i64 0, .string ⟨#[]⟩] := bd.ext x2; have s2 := Y1.size; have bef0 : w2.frozen? ⟨w.heap.size + 1, 0, none⟩ = false := be.free 0; have bef1 : w2.frozen? ⟨w.heap.size + 1, 1, none⟩ = false := be.free 1; have bef2 : w2.frozen? ⟨w.heap.size + 1, 2, none⟩ = false := be.free 2; have bef3 : w2.frozen? ⟨w.heap.size + 1, 3, none⟩ = false := be.free 3; have be0 : w2.cell? ⟨w.heap.size + 1, 0, none⟩ = some (.int .u8 (0)) := be.cell 0; have be1 : w2.cell? ⟨w.heap.size + 1, 1, none⟩ = some (.bool (false)) := be.cell 1; have be2 : w2.cell? ⟨w.heap.size + 1, 2, none⟩ = some (.int .i64 (0)) := be.cell 2; have be3 : w2.cell? ⟨w.heap.size + 1, 3, none⟩ = some (.string (⟨#[]⟩)) := be.cell 3; have be4 := be.set4 (.int .u8 (4)) (.bool false) (.int .i64 0) (.string t); have d0 := be4.1; have d1 := be4.2.1; have d2 := be4.2.2.1; have d3 := be4.2.2.2; have X1s := Lib.hid (Y1.set4 (g := w.heap.size + 1) (by simp) (.int .u8 (4)) (.bool false) (.int .i64 0) (.string t)); clear be4)
        | (go_at_call 15; refine (checkK _ HC2 HT.out (G.good.good.ext (((Ext.refl w).alloc _).trans X1s.out))).mono ?_; rintro r w3 ⟨rfl, x3⟩; have X2 : Ext (w.alloc (.cells #[.int .u8 0, .bool false, .int .i64 0, .string ⟨#[]⟩] 24)) w3 := X1s.out.trans x3; have bf : Bk w3 (w.heap.size + 1) 24 #[.int .u8 4, .bool false, .int .i64 0, .string t] := ((((be.set 0 _).set 1 _).set 2 _).set 3 _).ext x3; have bf0 : w3.cell? ⟨w.heap.size + 1, 0, none⟩ = some (.int .u8 (4)) := bf.cell 0; have bf1 : w3.cell? ⟨w.heap.size + 1, 1, none⟩ = some (.bool (false)) := bf.cell 1; have bf2 : w3.cell? ⟨w.heap.size + 1, 2, none⟩ = some (.int .i64 (0)) := bf.cell 2; have bf3 : w3.cell? ⟨w.heap.size + 1, 3, none⟩ = some (.string (t)) := bf.cell 3; have bh : Bk w3 w.heap.size 24 #[.int .u8 0, .bool false, .int .i64 0, .string ⟨#[]⟩] := (Bk.new w _ _).ext X2; have bhf0 : w3.frozen? ⟨w.heap.size, 0, none⟩ = false := bh.free 0; have bhf1 : w3.frozen? ⟨w.heap.size, 1, none⟩ = false := bh.free 1; have bhf2 : w3.frozen? ⟨w.heap.size, 2, none⟩ = false := bh.free 2; have bhf3 : w3.frozen? ⟨w.heap.size, 3, none⟩ = false := bh.free 3; have bh0 : w3.cell? ⟨w.heap.size, 0, none⟩ = some (.int .u8 (0)) := bh.cell 0; have bh1 : w3.cell? ⟨w.heap.size, 1, none⟩ = some (.bool (false)) := bh.cell 1; have bh2 : w3.cell? ⟨w.heap.size, 2, none⟩ = some (.int .i64 (0)) := bh.cell 2; have bh3 : w3.cell? ⟨w.heap.size, 3, none⟩ = some (.string (⟨#[]⟩)) := bh.cell 3))
      have q := bh.set4 (.int .u8 (0)) (.bool (false)) (.int .i64 (0)) (.string (⟨#[]⟩)); refine bodyPost_ret (v := .tuple #[.agg #[.int .u8 (0), .bool (false), .int .i64 (0), .string (⟨#[]⟩)], .int .u16 (13)]) (by simp [results, Tryd.results49, go_sem, q.1, q.2.1, q.2.2.1, q.2.2.2]) rfl ⟨⟨0, false, 0, ⟨#[]⟩⟩, 13, parse_off HK.out HNo.out, rfl, Ext.set4 (((Ext.refl w).alloc _).trans X2) (by first | omega | simp) _ _ _ _⟩
end Go.Proofs.YtobgfegdfcpgfaaDoor
namespace Go.Proofs.YtobgfegdfcpgfaaDoor
open Go.RowKit
theorem parse_in {s : ByteArray} {v : Int} (h : parseOk s v) : In64 v := by
  unfold parseOk Lib.parseIntB at h
  split at h
  · cases h
  · simp only at h
    split at h
    · cases h
    · cases h
    · rename_i c r u hu
      have eC : (2 : Nat) ^ (64 - 1) = 9223372036854775808 := by decide
      rw [eC] at h
      unfold In64
      split at h
      · cases h
      · split at h
        · cases h
        · injection h with h
          split at h <;> omega
theorem word_no {s : ByteArray} {l : List UInt8} (h : ¬ s = ⟨l.toArray⟩) : (s.toList == l) = false := by
  have : ¬ s.toList = l := fun e => h (data_inj (by rw [Lib.toList_data] at e; rw [e]))
  simpa using this
end Go.Proofs.YtobgfegdfcpgfaaDoor
namespace Go.Proofs.YtobgfegdfcpgfaaDoor
open Go.RowKit
theorem last_list {s : ByteArray} (h : 0 < s.size) : ∃ t, s.data.toList = t ++ [s[s.size - 1]] ∧ t = s.data.toList.take (s.size - 1) := by
  have e : s.data.toList.length = s.size := by simp
  refine ⟨_, ?_, rfl⟩
  have := List.take_succ_eq_append_getElem (l := s.data.toList) (i := s.size - 1) (by omega)
  rw [show s.size - 1 + 1 = s.size by omega, List.take_of_length_le (by omega)] at this
  rw [this]
  simp
  rfl
theorem quote_last {s : ByteArray} {m : List UInt8} (h0 : 0 < s.size) (h : s.data.toList = 39 :: (m ++ [39])) : 2 ≤ s.size ∧ s[0].toNat = 39 ∧ s[s.size - 1].toNat = 39 := by
  have e : s.data.toList.length = s.size := by simp
  obtain ⟨t, h1, _⟩ := last_list h0
  refine ⟨by rw [← e, h]; simp, ?_, ?_⟩
  · have := head_list h0
    rw [h] at this
    injection this with q _
    rw [← q]; rfl
  · rw [h, ← List.cons_append] at h1
    have := (List.append_inj' h1 rfl).2
    injection this with q _
    rw [← q]; rfl
theorem mid_list (s : ByteArray) : (s.extract 1 (s.size - 1)).data.toList = (s.data.toList.take (s.size - 1)).drop 1 := by
  rw [ByteArray.data_extract, Array.toList_extract]
  unfold List.extract
  rw [List.drop_take]
theorem quote_of {s : ByteArray} (h2 : 2 ≤ s.size) (h5 : s[0].toNat = 39) (h6 : s[s.size - 1].toNat = 39) : s.data.toList = 39 :: ((s.extract 1 (s.size - 1)).data.toList ++ [39]) := by
  have e : s.data.toList.length = s.size := by simp
  obtain ⟨t, h1, ht⟩ := last_list (show 0 < s.size by omega)
  have h0 := head_list (show 0 < s.size by omega)
  rw [mid_list, ← ht]
  have e5 : s[0] = 39 := UInt8.toNat_inj.1 h5
  have e6 : s[s.size - 1] = 39 := UInt8.toNat_inj.1 h6
  rw [e6] at h1
  rw [e5] at h0
  have hl : t.length = s.size - 1 := by rw [ht, List.length_take]; omega
  cases t with
  | nil => simp at hl; omega
  | cons a t =>
    rw [h1] at h0 ⊢
    rw [List.cons_append] at h0 ⊢
    injection h0 with q _
    rw [q]
    rfl
end Go.Proofs.YtobgfegdfcpgfaaDoor
namespace Go.Proofs.YtobgfegdfcpgfaaDoor
open Go.RowKit
theorem parse_any (s : ByteArray) (w : World) (hs : s.size ≤ 140737488355328) (G : Good3 w) :
    Calls Tryd.prog 49 #[.string s] w fun e w' => ∃ d x, ParseRel s d x ∧ Out w (d, x) e w' := by
  by_cases w1 : s = ⟨#[110, 117, 108, 108]⟩
  · subst w1
    exact (parse_null w G).mono fun _ _ h => ⟨_, _, parse_on ⟨by decide +kernel, by decide⟩ (by decide +kernel), h⟩
  by_cases w2 : s = ⟨#[116, 114, 117, 101]⟩
  · subst w2
    exact (parse_true w G).mono fun _ _ h => ⟨_, _, parse_on ⟨by decide +kernel, by decide⟩ (by decide +kernel), h⟩
  by_cases w3 : s = ⟨#[102, 97, 108, 115, 101]⟩
  · subst w3
    exact (parse_false w G).mono fun _ _ h => ⟨_, _, parse_on ⟨by decide +kernel, by decide⟩ (by decide +kernel), h⟩
  have h1 := word_no (l := [110, 117, 108, 108]) w1
  have h2 := word_no (l := [116, 114, 117, 101]) w2
  have h3 := word_no (l := [102, 97, 108, 115, 101]) w3
  have n1 : ¬ s.data.toList = [110, 117, 108, 108] := fun e => w1 (data_inj e)
  have n2 : ¬ s.data.toList = Lib.formatBool true := fun e => w2 (data_inj e)
  have n3 : ¬ s.data.toList = Lib.formatBool false := fun e => w3 (data_inj e)
  have pos : ∀ m, s.data.toList = 39 :: (m ++ [39]) → 0 < s.size := fun m e => by
    have q : s.data.toList.length = s.size := by simp
    rw [e] at q
    simp at q
    omega
  by_cases h4 : 2 ≤ s.size
  · by_cases h5 : s[0].toNat = 39
    · by_cases h6 : s[s.size - 1].toNat = 39
      · exact parse_text s w hs h1 h2 h3 h4 h5 h6 (fun t ok hu => cand_text (quote_of h4 h5 h6) hu) G
      · exact parse_num_b s w hs h1 h2 h3 (cand_num n1 n2 n3 (fun m e => h6 (quote_last (pos m e) e).2.2)) (fun _ => parse_in) h4 h5 h6 G
    · exact parse_num_a s w hs h1 h2 h3 (cand_num n1 n2 n3 (fun m e => h5 (quote_last (pos m e) e).2.1)) (fun _ => parse_in) h4 h5 G
  · exact parse_num_c s w hs h1 h2 h3 (cand_num n1 n2 n3 (fun m e => h4 (quote_last (pos m e) e).1)) (fun _ => parse_in) (by omega) G
end Go.Proofs.YtobgfegdfcpgfaaDoor
namespace Go.Proofs.YtobgfegdfcpgfaaDoor
open Go.RowKit

/-- a text that is none of the words, and not between quotes, is a number's, or nothing's -/
theorem cand_itoa {s : ByteArray} (h1 : ¬ s.data.toList = [110, 117, 108, 108]) (h2 : ¬ s.data.toList = Lib.formatBool true) (h3 : ¬ s.data.toList = Lib.formatBool false) (h4 : ∀ m, ¬ s.data.toList = 39 :: (m ++ [39])) :
    ∀ x : Dat, Ok x → printT x.k x.b x.n x.s = s → ∃ v, In64 v ∧ s.data.toList = Lib.itoa v ∧ x = ⟨3, false, v, ⟨#[]⟩⟩ := by
  intro x hx hp
  have hl := list_of hx hp
  obtain ⟨hk, a1, a2, a3⟩ := form_of hx.1
  obtain ⟨hok, hn⟩ := hx
  obtain ⟨k, b, n, z⟩ := x
  simp only at hk a1 a2 a3 hl hn
  rcases hk with rfl | rfl | rfl | rfl
  · exact absurd hl h1
  · cases b
    · exact absurd hl h3
    · exact absurd hl h2
  · refine ⟨n, hn, hl, ?_⟩
    rw [a1 (by omega), a3 (by omega)]
  · exact absurd hl (h4 _)
theorem itoa_len {v : Int} (h : In64 v) : 0 < (Lib.itoa v).length ∧ (Lib.itoa v).length ≤ 20 := by
  obtain ⟨h1, h2⟩ := h
  have e : (10 : Nat) ^ 19 = 10000000000000000000 := by decide
  unfold Lib.itoa
  split
  · have q := digits_len 18 v.natAbs (by omega)
    rw [List.length_cons]
    omega
  · have q := digits_len 18 v.toNat (by omega)
    have p := List.length_pos_iff.2 (digits_ne v.toNat)
    omega
/-- what is behind the sign: j is 1 where there is one -/
def sgn (s : ByteArray) : Nat := if s.data.toList.head? = some 45 then 1 else 0
/-- what the first k bytes tell -/
def dig (s : ByteArray) (j k : Nat) : Nat := fold10 0 ((s.data.toList.take k).drop j) % 18446744073709551616
theorem fold_app (a : Nat) (l : List UInt8) (c : UInt8) : fold10 a (l ++ [c]) = 10 * fold10 a l + (c.toNat - 48) := by
  unfold fold10
  rw [List.foldl_append]
  rfl
theorem take_one {s : ByteArray} {k : Nat} (h : k < s.size) : s.data.toList.take (k + 1) = s.data.toList.take k ++ [s[k]] := by
  have h' : k < s.data.toList.length := by simpa using h
  rw [List.take_succ_eq_append_getElem h']
  rfl
theorem dig_step {s : ByteArray} {j k m : Nat} (hj : j ≤ k) (h : k < s.size) (hm : dig s j k = m) : dig s j (k + 1) = (10 * m % 18446744073709551616 + (s[k].toNat - 48)) % 18446744073709551616 := by
  have hl : (s.data.toList.take k).length = k := by
    have : k ≤ s.data.toList.length := by simp; omega
    rw [List.length_take]
    omega
  subst hm
  unfold dig
  rw [take_one h, List.drop_append_of_le_length (by omega), fold_app]
  omega
theorem dig_zero (s : ByteArray) (j : Nat) : dig s j 0 = 0 := by
  unfold dig
  rw [List.take_zero, List.drop_nil]
  rfl
theorem dig_one (s : ByteArray) : dig s 1 1 = 0 := by
  unfold dig
  rw [List.drop_eq_nil_of_le (List.length_take_le _ _)]
  rfl
/-- the bytes of a number: digits, but for the sign -/
theorem itoa_digit {v : Int} {k : Nat} {c : UInt8} (h : (Lib.itoa v)[k]? = some c) (hk : ¬ (k = 0 ∧ c.toNat = 45)) : 48 ≤ c.toNat ∧ c.toNat ≤ 57 := by
  unfold Lib.itoa at h
  split at h
  · cases k with
    | zero =>
      rw [List.getElem?_cons_zero] at h
      injection h with h
      exact absurd ⟨rfl, by rw [← h]; rfl⟩ hk
    | succ k =>
      rw [List.getElem?_cons_succ] at h
      exact digits_fine _ _ (Nat.le_refl _) c (List.mem_of_getElem? h)
  · exact digits_fine _ _ (Nat.le_refl _) c (List.mem_of_getElem? h)
theorem size_data (s : ByteArray) : s.data.toList.length = s.size := by simp
theorem at_data {s : ByteArray} {k : Nat} (h : k < s.size) : s.data.toList[k]? = some s[k] := by
  rw [List.getElem?_eq_getElem (by rw [size_data]; exact h)]
  rfl
/-- a byte that is none of a number's -/
theorem not_itoa {s : ByteArray} {k : Nat} (h : k < s.size) (hk : ¬ (k = 0 ∧ s[k].toNat = 45)) (hd : ¬ (48 ≤ s[k].toNat ∧ s[k].toNat ≤ 57)) (v : Int) : ¬ s.data.toList = Lib.itoa v := fun e => hd (itoa_digit (v := v) (by rw [← e]; exact at_data h) hk)
/-- what is read at a number's end, without a sign -/
theorem dig_pos {s : ByteArray} {v : Int} (hv : In64 v) (e : s.data.toList = Lib.itoa v) (h0 : 0 < s.size) (h : ¬ s[0].toNat = 45) : IntKind.i64.wrap (dig s 0 s.size : Nat) = v := by
  obtain ⟨h1, h2⟩ := hv
  unfold Lib.itoa at e
  split at e
  · have := head_list h0
    rw [e] at this
    injection this with q _
    exact absurd (by rw [← q]; rfl) h
  · have q : dig s 0 s.size = v.toNat := by
      unfold dig
      rw [List.take_of_length_le (by rw [size_data]; exact Nat.le_refl _), List.drop_zero, e, show fold10 0 (Lib.decDigits v.toNat) = v.toNat from val_digits _ _ (Nat.le_refl _)]
      omega
    rw [q, IntWalk.i64_in _ (by omega)]
    omega
theorem dig_neg {s : ByteArray} {v : Int} (hv : In64 v) (e : s.data.toList = Lib.itoa v) (h0 : 0 < s.size) (h : s[0].toNat = 45) : IntKind.i64.wrap (-(IntKind.i64.wrap (dig s 1 s.size : Nat))) = v := by
  obtain ⟨h1, h2⟩ := hv
  unfold Lib.itoa at e
  split at e
  · have q : dig s 1 s.size = v.natAbs := by
      unfold dig
      rw [List.take_of_length_le (by rw [size_data]; exact Nat.le_refl _), e, List.drop_one, List.tail_cons, show fold10 0 (Lib.decDigits v.natAbs) = v.natAbs from val_digits _ _ (Nat.le_refl _)]
      omega
    rw [q]
    simp only [IntKind.wrap_i64]
    omega
  · have := head_list h0
    rw [e] at this
    have := digits_head this
    omega
end Go.Proofs.YtobgfegdfcpgfaaDoor
