/- penstockref01.Parse of a word: what it answers. penstockref01.Parse of a text that is none of the words and not between quotes: what it answers. penstockref01.Parse of a text between quotes: what it answers. penstockref01.Parse of any text: what it answers. The two errors' variables, of what a row lays. Conditions: each theorem states its own. -/
import Derived.Test.YtobgfegdfcpgfaaDoorRefUnq
namespace Go.Proofs.YtobgfegdfcpgfaaDoor
open Go.RowKit

theorem rcheckK {k n : Int} {b : Bool} {s : ByteArray} {c : Int} (w : World) (h : Hid (checkT k b n s = c)) (hs : s.size ≤ 4000000) :
    Calls Tryd.prog 38 #[.agg #[.int .u8 k, .bool b, .int .i64 n, .string s]] w fun e w' => e = .returned (.int .i64 c) ∧ Ext w w' := rcheck_at _ _ _ _ _ h (by omega)
theorem rprintK {k n : Int} {b : Bool} {s p : ByteArray} (w : World) (h : Hid (printT k b n s = p)) (hs : s.size ≤ 4000000) (hn : In64 n) :
    Calls Tryd.prog 41 #[.agg #[.int .u8 k, .bool b, .int .i64 n, .string s]] w fun e w' => e = .returned (.string p) ∧ Ext w w' := rprint_lit _ _ _ _ _ h (by omega) hn
set_option maxRecDepth 100000 in
set_option maxHeartbeats 2000000 in
theorem rparse_null (w : World) : Calls Tryd.prog 50 #[.string ⟨#[110, 117, 108, 108]⟩] w (RefOut w (⟨1, false, 0, ⟨#[]⟩⟩, 0)) := by
  go_enter Tryd.func50, Tryd.ntmps50
  go_wp2_with (go_at_call 62; refine (rnull_any _).mono ?_; rintro r w1 ⟨rfl, x1⟩; have X1 : Ext (w.alloc (.cells #[.int .u8 0, .bool false, .int .i64 0, .string ⟨#[]⟩] 24)) w1 := ((Ext.refl _).alloc _).trans x1; have bz : Bk w1 w.heap.size 24 #[.int .u8 0, .bool false, .int .i64 0, .string ⟨#[]⟩] := (Bk.new w _ _).ext X1; have bzf0 : w1.frozen? ⟨w.heap.size, 0, none⟩ = false := bz.free 0; have bzf1 : w1.frozen? ⟨w.heap.size, 1, none⟩ = false := bz.free 1; have bzf2 : w1.frozen? ⟨w.heap.size, 2, none⟩ = false := bz.free 2; have bzf3 : w1.frozen? ⟨w.heap.size, 3, none⟩ = false := bz.free 3; have bz0 : w1.cell? ⟨w.heap.size, 0, none⟩ = some (.int .u8 (0)) := bz.cell 0; have bz1 : w1.cell? ⟨w.heap.size, 1, none⟩ = some (.bool (false)) := bz.cell 1; have bz2 : w1.cell? ⟨w.heap.size, 2, none⟩ = some (.int .i64 (0)) := bz.cell 2; have bz3 : w1.cell? ⟨w.heap.size, 3, none⟩ = some (.string (⟨#[]⟩)) := bz.cell 3)
  have q := bz.set4 (.int .u8 (1)) (.bool (false)) (.int .i64 (0)) (.string (⟨#[]⟩)); refine bodyPost_ret (v := .tuple #[.agg #[.int .u8 (1), .bool (false), .int .i64 (0), .string (⟨#[]⟩)], .int .i64 (0)]) (by simp [results, Tryd.results50, go_sem, q.1, q.2.1, q.2.2.1, q.2.2.2]) rfl ⟨rfl, Ext.set4 (((Ext.refl w).alloc _).trans X1) (by first | omega | simp) _ _ _ _⟩
set_option maxRecDepth 100000 in
set_option maxHeartbeats 2000000 in
theorem rparse_true (w : World) : Calls Tryd.prog 50 #[.string ⟨#[116, 114, 117, 101]⟩] w (RefOut w (⟨2, true, 0, ⟨#[]⟩⟩, 0)) := by
  go_enter Tryd.func50, Tryd.ntmps50
  go_wp2_with (go_at_call 63; refine (rbool_any _ _).mono ?_; rintro r w1 ⟨rfl, x1⟩; have X1 : Ext (w.alloc (.cells #[.int .u8 0, .bool false, .int .i64 0, .string ⟨#[]⟩] 24)) w1 := ((Ext.refl _).alloc _).trans x1; have bz : Bk w1 w.heap.size 24 #[.int .u8 0, .bool false, .int .i64 0, .string ⟨#[]⟩] := (Bk.new w _ _).ext X1; have bzf0 : w1.frozen? ⟨w.heap.size, 0, none⟩ = false := bz.free 0; have bzf1 : w1.frozen? ⟨w.heap.size, 1, none⟩ = false := bz.free 1; have bzf2 : w1.frozen? ⟨w.heap.size, 2, none⟩ = false := bz.free 2; have bzf3 : w1.frozen? ⟨w.heap.size, 3, none⟩ = false := bz.free 3; have bz0 : w1.cell? ⟨w.heap.size, 0, none⟩ = some (.int .u8 (0)) := bz.cell 0; have bz1 : w1.cell? ⟨w.heap.size, 1, none⟩ = some (.bool (false)) := bz.cell 1; have bz2 : w1.cell? ⟨w.heap.size, 2, none⟩ = some (.int .i64 (0)) := bz.cell 2; have bz3 : w1.cell? ⟨w.heap.size, 3, none⟩ = some (.string (⟨#[]⟩)) := bz.cell 3)
  have q := bz.set4 (.int .u8 (2)) (.bool (true)) (.int .i64 (0)) (.string (⟨#[]⟩)); refine bodyPost_ret (v := .tuple #[.agg #[.int .u8 (2), .bool (true), .int .i64 (0), .string (⟨#[]⟩)], .int .i64 (0)]) (by simp [results, Tryd.results50, go_sem, q.1, q.2.1, q.2.2.1, q.2.2.2]) rfl ⟨rfl, Ext.set4 (((Ext.refl w).alloc _).trans X1) (by first | omega | simp) _ _ _ _⟩
set_option maxRecDepth 100000 in
set_option maxHeartbeats 2000000 in
theorem rparse_false (w : World) : Calls Tryd.prog 50 #[.string ⟨#[102, 97, 108, 115, 101]⟩] w (RefOut w (⟨2, false, 0, ⟨#[]⟩⟩, 0)) := by
  go_enter Tryd.func50, Tryd.ntmps50
  go_wp2_with (go_at_call 63; refine (rbool_any _ _).mono ?_; rintro r w1 ⟨rfl, x1⟩; have X1 : Ext (w.alloc (.cells #[.int .u8 0, .bool false, .int .i64 0, .string ⟨#[]⟩] 24)) w1 := ((Ext.refl _).alloc _).trans x1; have bz : Bk w1 w.heap.size 24 #[.int .u8 0, .bool false, .int .i64 0, .string ⟨#[]⟩] := (Bk.new w _ _).ext X1; have bzf0 : w1.frozen? ⟨w.heap.size, 0, none⟩ = false := bz.free 0; have bzf1 : w1.frozen? ⟨w.heap.size, 1, none⟩ = false := bz.free 1; have bzf2 : w1.frozen? ⟨w.heap.size, 2, none⟩ = false := bz.free 2; have bzf3 : w1.frozen? ⟨w.heap.size, 3, none⟩ = false := bz.free 3; have bz0 : w1.cell? ⟨w.heap.size, 0, none⟩ = some (.int .u8 (0)) := bz.cell 0; have bz1 : w1.cell? ⟨w.heap.size, 1, none⟩ = some (.bool (false)) := bz.cell 1; have bz2 : w1.cell? ⟨w.heap.size, 2, none⟩ = some (.int .i64 (0)) := bz.cell 2; have bz3 : w1.cell? ⟨w.heap.size, 3, none⟩ = some (.string (⟨#[]⟩)) := bz.cell 3)
  have q := bz.set4 (.int .u8 (2)) (.bool (false)) (.int .i64 (0)) (.string (⟨#[]⟩)); refine bodyPost_ret (v := .tuple #[.agg #[.int .u8 (2), .bool (false), .int .i64 (0), .string (⟨#[]⟩)], .int .i64 (0)]) (by simp [results, Tryd.results50, go_sem, q.1, q.2.1, q.2.2.1, q.2.2.2]) rfl ⟨rfl, Ext.set4 (((Ext.refl w).alloc _).trans X1) (by first | omega | simp) _ _ _ _⟩
end Go.Proofs.YtobgfegdfcpgfaaDoor
namespace Go.Proofs.YtobgfegdfcpgfaaDoor
open Go.RowKit

theorem wrap_in64 (n : Int) : In64 (IntKind.i64.wrap n) := by
  rw [IntKind.wrap_i64]
  unfold In64
  omega
set_option maxRecDepth 100000 in
set_option maxHeartbeats 2000000 in
theorem rparse_none_a (s : ByteArray) (w : World) (hs : s.size ≤ 4000000) (h1 : (s.toList == [110, 117, 108, 108]) = false) (h2 : (s.toList == [116, 114, 117, 101]) = false) (h3 : (s.toList == [102, 97, 108, 115, 101]) = false) (hc : ∀ x : Dat, Ok x → printT x.k x.b x.n x.s = s → ∃ v, In64 v ∧ s.data.toList = Lib.itoa v ∧ x = ⟨3, false, v, ⟨#[]⟩⟩) (h4 : 2 ≤ s.size) (h5 : ¬ s[0].toNat = 39) (hz : 20 < s.size) : Calls Tryd.prog 50 #[.string s] w fun e w' => ∃ d x, ParseRel s d x ∧ RefOut w (d, x) e w' := by
  have hN : Hid (NoCand s) := Lib.hid fun x hx hp => (by
    obtain ⟨v, q1, q2, _⟩ := hc x hx hp
    have := itoa_len q1
    rw [← q2, size_data] at this
    omega)
  have HC2 : Hid (checkT 0 false 0 ⟨#[]⟩ = 13) := Lib.hid (by decide +kernel)
  clear hc
  have z5 : ((s[0].toNat : Int) == 39) = false := by simp; omega
  go_enter Tryd.func50, Tryd.ntmps50
  go_wp2_with (go_at_call 38; refine (rcheckK _ HC2 (by decide)).mono ?_; rintro r w1 ⟨rfl, x1⟩; have X1 : Ext (w.alloc (.cells #[.int .u8 0, .bool false, .int .i64 0, .string ⟨#[]⟩] 24)) w1 := ((Ext.refl _).alloc _).trans x1; have bz : Bk w1 w.heap.size 24 #[.int .u8 0, .bool false, .int .i64 0, .string ⟨#[]⟩] := (Bk.new w _ _).ext X1; have bzf0 : w1.frozen? ⟨w.heap.size, 0, none⟩ = false := bz.free 0; have bzf1 : w1.frozen? ⟨w.heap.size, 1, none⟩ = false := bz.free 1; have bzf2 : w1.frozen? ⟨w.heap.size, 2, none⟩ = false := bz.free 2; have bzf3 : w1.frozen? ⟨w.heap.size, 3, none⟩ = false := bz.free 3; have bz0 : w1.cell? ⟨w.heap.size, 0, none⟩ = some (.int .u8 (0)) := bz.cell 0; have bz1 : w1.cell? ⟨w.heap.size, 1, none⟩ = some (.bool (false)) := bz.cell 1; have bz2 : w1.cell? ⟨w.heap.size, 2, none⟩ = some (.int .i64 (0)) := bz.cell 2; have bz3 : w1.cell? ⟨w.heap.size, 3, none⟩ = some (.string (⟨#[]⟩)) := bz.cell 3)
  have q := bz.set4 (.int .u8 (0)) (.bool (false)) (.int .i64 (0)) (.string (⟨#[]⟩)); refine bodyPost_ret (v := .tuple #[.agg #[.int .u8 (0), .bool (false), .int .i64 (0), .string (⟨#[]⟩)], .int .i64 (13)]) (by simp [results, Tryd.results50, go_sem, q.1, q.2.1, q.2.2.1, q.2.2.2]) rfl ⟨⟨0, false, 0, ⟨#[]⟩⟩, 13, .inr ⟨rfl, rfl, hN.out⟩, rfl, Ext.set4 (((Ext.refl w).alloc _).trans X1) (by first | omega | simp) _ _ _ _⟩
set_option maxRecDepth 100000 in
set_option maxHeartbeats 2000000 in
theorem rparse_none_c (s : ByteArray) (w : World) (hs : s.size ≤ 4000000) (h1 : (s.toList == [110, 117, 108, 108]) = false) (h2 : (s.toList == [116, 114, 117, 101]) = false) (h3 : (s.toList == [102, 97, 108, 115, 101]) = false) (hc : ∀ x : Dat, Ok x → printT x.k x.b x.n x.s = s → ∃ v, In64 v ∧ s.data.toList = Lib.itoa v ∧ x = ⟨3, false, v, ⟨#[]⟩⟩) (h4 : s.size < 2) (hz : s.size = 0) : Calls Tryd.prog 50 #[.string s] w fun e w' => ∃ d x, ParseRel s d x ∧ RefOut w (d, x) e w' := by
  have hN : Hid (NoCand s) := Lib.hid fun x hx hp => (by
    obtain ⟨v, q1, q2, _⟩ := hc x hx hp
    have := itoa_len q1
    rw [← q2, size_data] at this
    omega)
  have HC2 : Hid (checkT 0 false 0 ⟨#[]⟩ = 13) := Lib.hid (by decide +kernel)
  clear hc
  go_enter Tryd.func50, Tryd.ntmps50
  go_wp2_with (go_at_call 38; refine (rcheckK _ HC2 (by decide)).mono ?_; rintro r w1 ⟨rfl, x1⟩; have X1 : Ext (w.alloc (.cells #[.int .u8 0, .bool false, .int .i64 0, .string ⟨#[]⟩] 24)) w1 := ((Ext.refl _).alloc _).trans x1; have bz : Bk w1 w.heap.size 24 #[.int .u8 0, .bool false, .int .i64 0, .string ⟨#[]⟩] := (Bk.new w _ _).ext X1; have bzf0 : w1.frozen? ⟨w.heap.size, 0, none⟩ = false := bz.free 0; have bzf1 : w1.frozen? ⟨w.heap.size, 1, none⟩ = false := bz.free 1; have bzf2 : w1.frozen? ⟨w.heap.size, 2, none⟩ = false := bz.free 2; have bzf3 : w1.frozen? ⟨w.heap.size, 3, none⟩ = false := bz.free 3; have bz0 : w1.cell? ⟨w.heap.size, 0, none⟩ = some (.int .u8 (0)) := bz.cell 0; have bz1 : w1.cell? ⟨w.heap.size, 1, none⟩ = some (.bool (false)) := bz.cell 1; have bz2 : w1.cell? ⟨w.heap.size, 2, none⟩ = some (.int .i64 (0)) := bz.cell 2; have bz3 : w1.cell? ⟨w.heap.size, 3, none⟩ = some (.string (⟨#[]⟩)) := bz.cell 3)
  have q := bz.set4 (.int .u8 (0)) (.bool (false)) (.int .i64 (0)) (.string (⟨#[]⟩)); refine bodyPost_ret (v := .tuple #[.agg #[.int .u8 (0), .bool (false), .int .i64 (0), .string (⟨#[]⟩)], .int .i64 (13)]) (by simp [results, Tryd.results50, go_sem, q.1, q.2.1, q.2.2.1, q.2.2.2]) rfl ⟨⟨0, false, 0, ⟨#[]⟩⟩, 13, .inr ⟨rfl, rfl, hN.out⟩, rfl, Ext.set4 (((Ext.refl w).alloc _).trans X1) (by first | omega | simp) _ _ _ _⟩
set_option maxRecDepth 100000 in
set_option maxHeartbeats 2000000 in
theorem rparse_none_b (s : ByteArray) (w : World) (hs : s.size ≤ 4000000) (h1 : (s.toList == [110, 117, 108, 108]) = false) (h2 : (s.toList == [116, 114, 117, 101]) = false) (h3 : (s.toList == [102, 97, 108, 115, 101]) = false) (hc : ∀ x : Dat, Ok x → printT x.k x.b x.n x.s = s → ∃ v, In64 v ∧ s.data.toList = Lib.itoa v ∧ x = ⟨3, false, v, ⟨#[]⟩⟩) (h4 : 2 ≤ s.size) (h5 : s[0].toNat = 39) (h6 : ¬ s[s.size - 1].toNat = 39) (hz : 20 < s.size) : Calls Tryd.prog 50 #[.string s] w fun e w' => ∃ d x, ParseRel s d x ∧ RefOut w (d, x) e w' := by
  have hN : Hid (NoCand s) := Lib.hid fun x hx hp => (by
    obtain ⟨v, q1, q2, _⟩ := hc x hx hp
    have := itoa_len q1
    rw [← q2, size_data] at this
    omega)
  have HC2 : Hid (checkT 0 false 0 ⟨#[]⟩ = 13) := Lib.hid (by decide +kernel)
  clear hc
  have z5 : ((s[0].toNat : Int) == 39) = true := by simp; omega
  have z6 : ((s[s.size - 1].toNat : Int) == 39) = false := by simp; omega
  go_enter Tryd.func50, Tryd.ntmps50
  go_wp2_with (go_at_call 38; refine (rcheckK _ HC2 (by decide)).mono ?_; rintro r w1 ⟨rfl, x1⟩; have X1 : Ext (w.alloc (.cells #[.int .u8 0, .bool false, .int .i64 0, .string ⟨#[]⟩] 24)) w1 := ((Ext.refl _).alloc _).trans x1; have bz : Bk w1 w.heap.size 24 #[.int .u8 0, .bool false, .int .i64 0, .string ⟨#[]⟩] := (Bk.new w _ _).ext X1; have bzf0 : w1.frozen? ⟨w.heap.size, 0, none⟩ = false := bz.free 0; have bzf1 : w1.frozen? ⟨w.heap.size, 1, none⟩ = false := bz.free 1; have bzf2 : w1.frozen? ⟨w.heap.size, 2, none⟩ = false := bz.free 2; have bzf3 : w1.frozen? ⟨w.heap.size, 3, none⟩ = false := bz.free 3; have bz0 : w1.cell? ⟨w.heap.size, 0, none⟩ = some (.int .u8 (0)) := bz.cell 0; have bz1 : w1.cell? ⟨w.heap.size, 1, none⟩ = some (.bool (false)) := bz.cell 1; have bz2 : w1.cell? ⟨w.heap.size, 2, none⟩ = some (.int .i64 (0)) := bz.cell 2; have bz3 : w1.cell? ⟨w.heap.size, 3, none⟩ = some (.string (⟨#[]⟩)) := bz.cell 3)
  have q := bz.set4 (.int .u8 (0)) (.bool (false)) (.int .i64 (0)) (.string (⟨#[]⟩)); refine bodyPost_ret (v := .tuple #[.agg #[.int .u8 (0), .bool (false), .int .i64 (0), .string (⟨#[]⟩)], .int .i64 (13)]) (by simp [results, Tryd.results50, go_sem, q.1, q.2.1, q.2.2.1, q.2.2.2]) rfl ⟨⟨0, false, 0, ⟨#[]⟩⟩, 13, .inr ⟨rfl, rfl, hN.out⟩, rfl, Ext.set4 (((Ext.refl w).alloc _).trans X1) (by first | omega | simp) _ _ _ _⟩
set_option maxRecDepth 100000 in
set_option maxHeartbeats 8000000 in
theorem rparse_num_a0 (s : ByteArray) (w : World) (h1 : (s.toList == [110, 117, 108, 108]) = false) (h2 : (s.toList == [116, 114, 117, 101]) = false) (h3 : (s.toList == [102, 97, 108, 115, 101]) = false) (hc : ∀ x : Dat, Ok x → printT x.k x.b x.n x.s = s → ∃ v, In64 v ∧ s.data.toList = Lib.itoa v ∧ x = ⟨3, false, v, ⟨#[]⟩⟩) (h4 : 2 ≤ s.size) (h5 : ¬ s[0].toNat = 39) (h0 : 0 < s.size) (h20 : s.size ≤ 20) (hsg : ¬ s[0].toNat = 45) : Calls Tryd.prog 50 #[.string s] w fun e w' => ∃ d x, ParseRel s d x ∧ RefOut w (d, x) e w' := by
  have HC := Lib.hid hc
  clear hc
  have z5 : ((s[0].toNat : Int) == 39) = false := by simp; omega
  have z45 : ((s[0].toNat : Int) == 45) = false := by simp; omega
  go_enter Tryd.func50, Tryd.ntmps50
  go_upto_region 12 with fail
  have bd : Bk ((w.alloc (.cells #[.int .u8 0, .bool false, .int .i64 0, .string ⟨#[]⟩] 24)).alloc (.cells #[.int .u8 0, .bool false, .int .i64 0, .string ⟨#[]⟩] 24)) (w.heap.size + 1) 24 #[.int .u8 0, .bool false, .int .i64 0, .string ⟨#[]⟩] := Bk.at (by simp)
  have E0 : Ext (w.alloc (.cells #[.int .u8 0, .bool false, .int .i64 0, .string ⟨#[]⟩] 24)) ((w.alloc (.cells #[.int .u8 0, .bool false, .int .i64 0, .string ⟨#[]⟩] 24)).alloc (.cells #[.int .u8 0, .bool false, .int .i64 0, .string ⟨#[]⟩] 24)) := (Ext.refl _).alloc _
  obtain ⟨w0, hw0⟩ : ∃ x, x = ((w.alloc (.cells #[.int .u8 0, .bool false, .int .i64 0, .string ⟨#[]⟩] 24)).alloc (.cells #[.int .u8 0, .bool false, .int .i64 0, .string ⟨#[]⟩] 24)) := ⟨_, rfl⟩
  rw [← hw0] at bd E0 ⊢
  clear hw0
  have bz : Bk w0 w.heap.size 24 #[.int .u8 0, .bool false, .int .i64 0, .string ⟨#[]⟩] := (Bk.new w _ _).ext E0
  have E1 : Ext w w0 := ((Ext.refl w).alloc _).trans E0
  have s0 := E0.size
  have bzf0 : w0.frozen? ⟨w.heap.size, 0, none⟩ = false := bz.free 0; have bzf1 : w0.frozen? ⟨w.heap.size, 1, none⟩ = false := bz.free 1; have bzf2 : w0.frozen? ⟨w.heap.size, 2, none⟩ = false := bz.free 2; have bzf3 : w0.frozen? ⟨w.heap.size, 3, none⟩ = false := bz.free 3
  have bz0 : w0.cell? ⟨w.heap.size, 0, none⟩ = some (.int .u8 (0)) := bz.cell 0; have bz1 : w0.cell? ⟨w.heap.size, 1, none⟩ = some (.bool (false)) := bz.cell 1; have bz2 : w0.cell? ⟨w.heap.size, 2, none⟩ = some (.int .i64 (0)) := bz.cell 2; have bz3 : w0.cell? ⟨w.heap.size, 3, none⟩ = some (.string (⟨#[]⟩)) := bz.cell 3
  have bdf0 : w0.frozen? ⟨w.heap.size + 1, 0, none⟩ = false := bd.free 0; have bdf1 : w0.frozen? ⟨w.heap.size + 1, 1, none⟩ = false := bd.free 1; have bdf2 : w0.frozen? ⟨w.heap.size + 1, 2, none⟩ = false := bd.free 2; have bdf3 : w0.frozen? ⟨w.heap.size + 1, 3, none⟩ = false := bd.free 3
  have bd0 : w0.cell? ⟨w.heap.size + 1, 0, none⟩ = some (.int .u8 (0)) := bd.cell 0; have bd1 : w0.cell? ⟨w.heap.size + 1, 1, none⟩ = some (.bool (false)) := bd.cell 1; have bd2 : w0.cell? ⟨w.heap.size + 1, 2, none⟩ = some (.int .i64 (0)) := bd.cell 2; have bd3 : w0.cell? ⟨w.heap.size + 1, 3, none⟩ = some (.string (⟨#[]⟩)) := bd.cell 3
  go_wp2
  go_loop [7, 8] (fun u v => ∃ k m : Nat, k ≤ s.size ∧ m < 18446744073709551616 ∧ u = .int .u64 m ∧ v = .int .i64 k ∧ Hid (dig s 0 k = m)) (fun _ v => s.size - (intOf v).toNat)
  case atStart => exact ⟨0, 0, Nat.zero_le _, by decide, rfl, rfl, Lib.hid (dig_zero s 0)⟩
  case round =>
    obtain ⟨k, m, hk, hm, rfl, rfl, HM⟩ := hrel
    by_cases hlt : k < s.size
    · have hzk : ((k : Int) == 0) = false ∨ (((k : Int) == 0) = true ∧ k = 0) := by
        by_cases q : k = 0
        · exact .inr ⟨by simp; omega, q⟩
        · exact .inl (by simp; omega)
      have hnk : ¬ (k = 0 ∧ s[k].toNat = 45) := fun q => hsg (by obtain ⟨rfl, q⟩ := q; exact q)
      have hjk : 0 ≤ k := Nat.zero_le _
      have hc256 : s[k].toNat < 256 := s[k].toNat_lt
      have HS : Hid (dig s 0 (k + 1) = (10 * m % 18446744073709551616 + (s[k].toNat - 48)) % 18446744073709551616) := Lib.hid (dig_step hjk hlt HM.out)
      have HN := Lib.hid (not_itoa hlt hnk)
      clear hnk HM
      by_cases hd1 : s[k].toNat < 48
      · have hN : Hid (NoCand s) := Lib.hid fun x hx hp => (by obtain ⟨v, _, q2, _⟩ := HC.out x hx hp; exact HN.out (by omega) v q2)
        have y1 : decide ((s[k].toNat : Int) < 48) = true := by simp; omega
        rcases hzk with zk | ⟨zk, rfl⟩
        all_goals
          go_wp2
          have q := bz.set4 (.int .u8 (0)) (.bool (false)) (.int .i64 (0)) (.string (⟨#[]⟩)); refine bodyPost_ret (v := .tuple #[.agg #[.int .u8 (0), .bool (false), .int .i64 (0), .string (⟨#[]⟩)], .int .i64 (13)]) (by simp [results, Tryd.results50, go_sem, q.1, q.2.1, q.2.2.1, q.2.2.2]) rfl ⟨⟨0, false, 0, ⟨#[]⟩⟩, 13, .inr ⟨rfl, rfl, hN.out⟩, rfl, Ext.set4 E1 (by first | omega | simp) _ _ _ _⟩
      have y1 : decide ((s[k].toNat : Int) < 48) = false := by simp; omega
      by_cases hd2 : 57 < s[k].toNat
      · have hN : Hid (NoCand s) := Lib.hid fun x hx hp => (by obtain ⟨v, _, q2, _⟩ := HC.out x hx hp; exact HN.out (by omega) v q2)
        have y2 : decide ((57 : Int) < (s[k].toNat : Int)) = true := by simp; omega
        rcases hzk with zk | ⟨zk, rfl⟩
        all_goals
          go_wp2
          have q := bz.set4 (.int .u8 (0)) (.bool (false)) (.int .i64 (0)) (.string (⟨#[]⟩)); refine bodyPost_ret (v := .tuple #[.agg #[.int .u8 (0), .bool (false), .int .i64 (0), .string (⟨#[]⟩)], .int .i64 (13)]) (by simp [results, Tryd.results50, go_sem, q.1, q.2.1, q.2.2.1, q.2.2.2]) rfl ⟨⟨0, false, 0, ⟨#[]⟩⟩, 13, .inr ⟨rfl, rfl, hN.out⟩, rfl, Ext.set4 E1 (by first | omega | simp) _ _ _ _⟩
      have y2 : decide ((57 : Int) < (s[k].toNat : Int)) = false := by simp; omega
      obtain ⟨m1, hm1⟩ : ∃ x, 10 * m % 18446744073709551616 = x := ⟨_, rfl⟩
      obtain ⟨m2, hm2⟩ : ∃ x, (m1 + (s[k].toNat - 48)) % 18446744073709551616 = x := ⟨_, rfl⟩
      have hb2 : m2 < 18446744073709551616 := by omega
      have q1 : IntKind.u64.wrap (10 * (m : Int)) = (m1 : Int) := by rw [IntKind.wrap_u64]; omega
      have q2 : IntKind.u8.wrap ((s[k].toNat : Int) - 48) = (s[k].toNat : Int) - 48 := IntWalk.u8_in _ (by omega)
      have q3 : IntKind.u64.wrap ((s[k].toNat : Int) - 48) = (s[k].toNat : Int) - 48 := IntWalk.u64_in _ (by omega)
      have q4 : IntKind.u64.wrap ((m1 : Int) + ((s[k].toNat : Int) - 48)) = (m2 : Int) := by rw [IntKind.wrap_u64]; omega
      have HM2 : Hid (dig s 0 (k + 1) = m2) := Lib.hid (by rw [HS.out, hm1, hm2])
      clear HS HN hm1 hm2 hm hd1 hd2 hc256
      rcases hzk with zk | ⟨zk, rfl⟩
      · go_wp2
        go_round
        case rel => exact ⟨k + 1, m2, by omega, hb2, rfl, by go_num, HM2⟩
        case measure => simp [intOf]; omega
      · go_wp2
        go_round
        case rel => exact ⟨1, m2, by omega, hb2, rfl, rfl, HM2⟩
        case measure => simp [intOf]; omega
    · obtain rfl : k = s.size := by omega
      obtain ⟨v, hv⟩ : ∃ v, IntKind.i64.wrap (m : Int) = v := ⟨_, rfl⟩
      have hn : In64 v := hv ▸ wrap_in64 _
      have hcand : Cand s ⟨3, false, v, ⟨#[]⟩⟩ := fun x hx hp => (by obtain ⟨y, q1, q2, e⟩ := HC.out x hx hp; rw [e, ← hv, ← HM.out, dig_pos q1 q2 h0 hsg])
      have hck : checkT 3 false v ⟨#[]⟩ = 0 := by rw [checkT_on ⟨.inr (.inr (.inl rfl)), fun _ => rfl, fun h => absurd rfl h, fun _ => rfl⟩]; decide +kernel
      have HN := Lib.hid hn; have HK := Lib.hid hcand; have HC2 := Lib.hid hck
      clear hn hcand hck HM hk hlt
      by_cases hp : printT 3 false v ⟨#[]⟩ = s
      · have HP := Lib.hid hp
        clear hp
        have m1 : True := trivial
        go_wp2_with (first
          | (have z := m1; clear z m1; go_at_call 52; refine (refInt_any _ _).mono ?_; rintro r w1 ⟨rfl, x1⟩; have Y1 : Ext (w.alloc (.cells #[.int .u8 0, .bool false, .int .i64 0, .string ⟨#[]⟩] 24)) w1 := E0.trans x1; have be : Bk w1 (w.heap.size + 1) 24 #[.int .u8 0, .bool false, .int .i64 0, .string ⟨#[]⟩] := bd.ext x1; have s1 := Y1.size; have bef0 : w1.frozen? ⟨w.heap.size + 1, 0, none⟩ = false := be.free 0; have bef1 : w1.frozen? ⟨w.heap.size + 1, 1, none⟩ = false := be.free 1; have bef2 : w1.frozen? ⟨w.heap.size + 1, 2, none⟩ = false := be.free 2; have bef3 : w1.frozen? ⟨w.heap.size + 1, 3, none⟩ = false := be.free 3; have be0 : w1.cell? ⟨w.heap.size + 1, 0, none⟩ = some (.int .u8 (0)) := be.cell 0; have be1 : w1.cell? ⟨w.heap.size + 1, 1, none⟩ = some (.bool (false)) := be.cell 1; have be2 : w1.cell? ⟨w.heap.size + 1, 2, none⟩ = some (.int .i64 (0)) := be.cell 2; have be3 : w1.cell? ⟨w.heap.size + 1, 3, none⟩ = some (.string (⟨#[]⟩)) := be.cell 3; have be4 := be.set4 (.int .u8 (3)) (.bool false) (.int .i64 v) (.string ⟨#[]⟩); have bed0 := be4.1; have bed1 := be4.2.1; have bed2 := be4.2.2.1; have bed3 := be4.2.2.2; have Y1s := Lib.hid (Y1.set4 (g := w.heap.size + 1) (by simp) (.int .u8 (3)) (.bool false) (.int .i64 v) (.string ⟨#[]⟩)); clear be4; have m2 : True := trivial)
          | (go_at_call 38; refine (rcheckK _ HC2 (by decide)).mono ?_; rintro r w3 ⟨rfl, x3⟩; have Y3 : Ext (w.alloc (.cells #[.int .u8 0, .bool false, .int .i64 0, .string ⟨#[]⟩] 24)) w3 := Y1s.out.trans x3; have bi : Bk w3 (w.heap.size + 1) 24 #[.int .u8 3, .bool false, .int .i64 v, .string ⟨#[]⟩] := ((((be.set 0 _).set 1 _).set 2 _).set 3 _).ext x3; have bi0 : w3.cell? ⟨w.heap.size + 1, 0, none⟩ = some (.int .u8 (3)) := bi.cell 0; have bi1 : w3.cell? ⟨w.heap.size + 1, 1, none⟩ = some (.bool (false)) := bi.cell 1; have bi2 : w3.cell? ⟨w.heap.size + 1, 2, none⟩ = some (.int .i64 (v)) := bi.cell 2; have bi3 : w3.cell? ⟨w.heap.size + 1, 3, none⟩ = some (.string (⟨#[]⟩)) := bi.cell 3)
          | (go_at_call 41; refine (rprintK _ HP (by decide) HN.out).mono ?_; rintro r w4 ⟨rfl, x4⟩; have Y4 : Ext (w.alloc (.cells #[.int .u8 0, .bool false, .int .i64 0, .string ⟨#[]⟩] 24)) w4 := Y3.trans x4; have bj : Bk w4 (w.heap.size + 1) 24 #[.int .u8 3, .bool false, .int .i64 v, .string ⟨#[]⟩] := bi.ext x4; have bh : Bk w4 w.heap.size 24 #[.int .u8 0, .bool false, .int .i64 0, .string ⟨#[]⟩] := (Bk.new w _ _).ext Y4; have bj0 : w4.cell? ⟨w.heap.size + 1, 0, none⟩ = some (.int .u8 (3)) := bj.cell 0; have bj1 : w4.cell? ⟨w.heap.size + 1, 1, none⟩ = some (.bool (false)) := bj.cell 1; have bj2 : w4.cell? ⟨w.heap.size + 1, 2, none⟩ = some (.int .i64 (v)) := bj.cell 2; have bj3 : w4.cell? ⟨w.heap.size + 1, 3, none⟩ = some (.string (⟨#[]⟩)) := bj.cell 3; have bhf0 : w4.frozen? ⟨w.heap.size, 0, none⟩ = false := bh.free 0; have bhf1 : w4.frozen? ⟨w.heap.size, 1, none⟩ = false := bh.free 1; have bhf2 : w4.frozen? ⟨w.heap.size, 2, none⟩ = false := bh.free 2; have bhf3 : w4.frozen? ⟨w.heap.size, 3, none⟩ = false := bh.free 3; have bh0 : w4.cell? ⟨w.heap.size, 0, none⟩ = some (.int .u8 (0)) := bh.cell 0; have bh1 : w4.cell? ⟨w.heap.size, 1, none⟩ = some (.bool (false)) := bh.cell 1; have bh2 : w4.cell? ⟨w.heap.size, 2, none⟩ = some (.int .i64 (0)) := bh.cell 2; have bh3 : w4.cell? ⟨w.heap.size, 3, none⟩ = some (.string (⟨#[]⟩)) := bh.cell 3))
        have q := bh.set4 (.int .u8 (3)) (.bool (false)) (.int .i64 (v)) (.string (⟨#[]⟩)); refine bodyPost_ret (v := .tuple #[.agg #[.int .u8 (3), .bool (false), .int .i64 (v), .string (⟨#[]⟩)], .int .i64 (0)]) (by simp [results, Tryd.results50, go_sem, q.1, q.2.1, q.2.2.1, q.2.2.2]) rfl ⟨⟨3, false, v, ⟨#[]⟩⟩, 0, parse_on ⟨HC2.out, HN.out⟩ HP.out, rfl, Ext.set4 (((Ext.refl w).alloc _).trans Y4) (by first | omega | simp) _ _ _ _⟩
      · obtain ⟨p, hpp⟩ : ∃ p, printT 3 false v ⟨#[]⟩ = p := ⟨_, rfl⟩
        have HNo : Hid (¬ (Ok ⟨3, false, v, ⟨#[]⟩⟩ ∧ printT 3 false v ⟨#[]⟩ = s)) := Lib.hid fun h => hp h.2
        rw [hpp] at hp
        have HP := Lib.hid hpp
        have hpl : ¬ p.toList = s.toList := fun h => hp (data_inj (by rw [Lib.toList_data, Lib.toList_data] at h; exact h))
        have zp : (!(p.toList == s.toList)) = true := by simpa using hpl
        have zq : (p.toList == s.toList) = false := by simpa using hpl
        clear hpp
        have m1 : True := trivial
        go_wp2_with (first
          | (have z := m1; clear z m1; go_at_call 52; refine (refInt_any _ _).mono ?_; rintro r w1 ⟨rfl, x1⟩; have Y1 : Ext (w.alloc (.cells #[.int .u8 0, .bool false, .int .i64 0, .string ⟨#[]⟩] 24)) w1 := E0.trans x1; have be : Bk w1 (w.heap.size + 1) 24 #[.int .u8 0, .bool false, .int .i64 0, .string ⟨#[]⟩] := bd.ext x1; have s1 := Y1.size; have bef0 : w1.frozen? ⟨w.heap.size + 1, 0, none⟩ = false := be.free 0; have bef1 : w1.frozen? ⟨w.heap.size + 1, 1, none⟩ = false := be.free 1; have bef2 : w1.frozen? ⟨w.heap.size + 1, 2, none⟩ = false := be.free 2; have bef3 : w1.frozen? ⟨w.heap.size + 1, 3, none⟩ = false := be.free 3; have be0 : w1.cell? ⟨w.heap.size + 1, 0, none⟩ = some (.int .u8 (0)) := be.cell 0; have be1 : w1.cell? ⟨w.heap.size + 1, 1, none⟩ = some (.bool (false)) := be.cell 1; have be2 : w1.cell? ⟨w.heap.size + 1, 2, none⟩ = some (.int .i64 (0)) := be.cell 2; have be3 : w1.cell? ⟨w.heap.size + 1, 3, none⟩ = some (.string (⟨#[]⟩)) := be.cell 3; have be4 := be.set4 (.int .u8 (3)) (.bool false) (.int .i64 v) (.string ⟨#[]⟩); have bed0 := be4.1; have bed1 := be4.2.1; have bed2 := be4.2.2.1; have bed3 := be4.2.2.2; have Y1s := Lib.hid (Y1.set4 (g := w.heap.size + 1) (by simp) (.int .u8 (3)) (.bool false) (.int .i64 v) (.string ⟨#[]⟩)); clear be4; have m2 : True := trivial)
          | (go_at_call 38; refine (rcheckK _ HC2 (by decide)).mono ?_; rintro r w3 ⟨rfl, x3⟩; have Y3 : Ext (w.alloc (.cells #[.int .u8 0, .bool false, .int .i64 0, .string ⟨#[]⟩] 24)) w3 := Y1s.out.trans x3; have bi : Bk w3 (w.heap.size + 1) 24 #[.int .u8 3, .bool false, .int .i64 v, .string ⟨#[]⟩] := ((((be.set 0 _).set 1 _).set 2 _).set 3 _).ext x3; have bi0 : w3.cell? ⟨w.heap.size + 1, 0, none⟩ = some (.int .u8 (3)) := bi.cell 0; have bi1 : w3.cell? ⟨w.heap.size + 1, 1, none⟩ = some (.bool (false)) := bi.cell 1; have bi2 : w3.cell? ⟨w.heap.size + 1, 2, none⟩ = some (.int .i64 (v)) := bi.cell 2; have bi3 : w3.cell? ⟨w.heap.size + 1, 3, none⟩ = some (.string (⟨#[]⟩)) := bi.cell 3)
          | (go_at_call 41; refine (rprintK _ HP (by decide) HN.out).mono ?_; rintro r w4 ⟨rfl, x4⟩; have Y4 : Ext (w.alloc (.cells #[.int .u8 0, .bool false, .int .i64 0, .string ⟨#[]⟩] 24)) w4 := Y3.trans x4; have bj : Bk w4 (w.heap.size + 1) 24 #[.int .u8 3, .bool false, .int .i64 v, .string ⟨#[]⟩] := bi.ext x4; have bh : Bk w4 w.heap.size 24 #[.int .u8 0, .bool false, .int .i64 0, .string ⟨#[]⟩] := (Bk.new w _ _).ext Y4; have bj0 : w4.cell? ⟨w.heap.size + 1, 0, none⟩ = some (.int .u8 (3)) := bj.cell 0; have bj1 : w4.cell? ⟨w.heap.size + 1, 1, none⟩ = some (.bool (false)) := bj.cell 1; have bj2 : w4.cell? ⟨w.heap.size + 1, 2, none⟩ = some (.int .i64 (v)) := bj.cell 2; have bj3 : w4.cell? ⟨w.heap.size + 1, 3, none⟩ = some (.string (⟨#[]⟩)) := bj.cell 3; have bhf0 : w4.frozen? ⟨w.heap.size, 0, none⟩ = false := bh.free 0; have bhf1 : w4.frozen? ⟨w.heap.size, 1, none⟩ = false := bh.free 1; have bhf2 : w4.frozen? ⟨w.heap.size, 2, none⟩ = false := bh.free 2; have bhf3 : w4.frozen? ⟨w.heap.size, 3, none⟩ = false := bh.free 3; have bh0 : w4.cell? ⟨w.heap.size, 0, none⟩ = some (.int .u8 (0)) := bh.cell 0; have bh1 : w4.cell? ⟨w.heap.size, 1, none⟩ = some (.bool (false)) := bh.cell 1; have bh2 : w4.cell? ⟨w.heap.size, 2, none⟩ = some (.int .i64 (0)) := bh.cell 2; have bh3 : w4.cell? ⟨w.heap.size, 3, none⟩ = some (.string (⟨#[]⟩)) := bh.cell 3))
        have q := bh.set4 (.int .u8 (0)) (.bool (false)) (.int .i64 (0)) (.string (⟨#[]⟩)); refine bodyPost_ret (v := .tuple #[.agg #[.int .u8 (0), .bool (false), .int .i64 (0), .string (⟨#[]⟩)], .int .i64 (13)]) (by simp [results, Tryd.results50, go_sem, q.1, q.2.1, q.2.2.1, q.2.2.2]) rfl ⟨⟨0, false, 0, ⟨#[]⟩⟩, 13, parse_off HK.out HNo.out, rfl, Ext.set4 (((Ext.refl w).alloc _).trans Y4) (by first | omega | simp) _ _ _ _⟩
set_option maxRecDepth 100000 in
set_option maxHeartbeats 8000000 in
theorem rparse_num_a1 (s : ByteArray) (w : World) (h1 : (s.toList == [110, 117, 108, 108]) = false) (h2 : (s.toList == [116, 114, 117, 101]) = false) (h3 : (s.toList == [102, 97, 108, 115, 101]) = false) (hc : ∀ x : Dat, Ok x → printT x.k x.b x.n x.s = s → ∃ v, In64 v ∧ s.data.toList = Lib.itoa v ∧ x = ⟨3, false, v, ⟨#[]⟩⟩) (h4 : 2 ≤ s.size) (h5 : ¬ s[0].toNat = 39) (h0 : 0 < s.size) (h20 : s.size ≤ 20) (hsg : s[0].toNat = 45) : Calls Tryd.prog 50 #[.string s] w fun e w' => ∃ d x, ParseRel s d x ∧ RefOut w (d, x) e w' := by
  have HC := Lib.hid hc
  clear hc
  have z5 : ((s[0].toNat : Int) == 39) = false := by simp; omega
  have z45 : ((s[0].toNat : Int) == 45) = true := by simp; omega
  go_enter Tryd.func50, Tryd.ntmps50
  go_upto_region 12 with fail
  have bd : Bk ((w.alloc (.cells #[.int .u8 0, .bool false, .int .i64 0, .string ⟨#[]⟩] 24)).alloc (.cells #[.int .u8 0, .bool false, .int .i64 0, .string ⟨#[]⟩] 24)) (w.heap.size + 1) 24 #[.int .u8 0, .bool false, .int .i64 0, .string ⟨#[]⟩] := Bk.at (by simp)
  have E0 : Ext (w.alloc (.cells #[.int .u8 0, .bool false, .int .i64 0, .string ⟨#[]⟩] 24)) ((w.alloc (.cells #[.int .u8 0, .bool false, .int .i64 0, .string ⟨#[]⟩] 24)).alloc (.cells #[.int .u8 0, .bool false, .int .i64 0, .string ⟨#[]⟩] 24)) := (Ext.refl _).alloc _
  obtain ⟨w0, hw0⟩ : ∃ x, x = ((w.alloc (.cells #[.int .u8 0, .bool false, .int .i64 0, .string ⟨#[]⟩] 24)).alloc (.cells #[.int .u8 0, .bool false, .int .i64 0, .string ⟨#[]⟩] 24)) := ⟨_, rfl⟩
  rw [← hw0] at bd E0 ⊢
  clear hw0
  have bz : Bk w0 w.heap.size 24 #[.int .u8 0, .bool false, .int .i64 0, .string ⟨#[]⟩] := (Bk.new w _ _).ext E0
  have E1 : Ext w w0 := ((Ext.refl w).alloc _).trans E0
  have s0 := E0.size
  have bzf0 : w0.frozen? ⟨w.heap.size, 0, none⟩ = false := bz.free 0; have bzf1 : w0.frozen? ⟨w.heap.size, 1, none⟩ = false := bz.free 1; have bzf2 : w0.frozen? ⟨w.heap.size, 2, none⟩ = false := bz.free 2; have bzf3 : w0.frozen? ⟨w.heap.size, 3, none⟩ = false := bz.free 3
  have bz0 : w0.cell? ⟨w.heap.size, 0, none⟩ = some (.int .u8 (0)) := bz.cell 0; have bz1 : w0.cell? ⟨w.heap.size, 1, none⟩ = some (.bool (false)) := bz.cell 1; have bz2 : w0.cell? ⟨w.heap.size, 2, none⟩ = some (.int .i64 (0)) := bz.cell 2; have bz3 : w0.cell? ⟨w.heap.size, 3, none⟩ = some (.string (⟨#[]⟩)) := bz.cell 3
  have bdf0 : w0.frozen? ⟨w.heap.size + 1, 0, none⟩ = false := bd.free 0; have bdf1 : w0.frozen? ⟨w.heap.size + 1, 1, none⟩ = false := bd.free 1; have bdf2 : w0.frozen? ⟨w.heap.size + 1, 2, none⟩ = false := bd.free 2; have bdf3 : w0.frozen? ⟨w.heap.size + 1, 3, none⟩ = false := bd.free 3
  have bd0 : w0.cell? ⟨w.heap.size + 1, 0, none⟩ = some (.int .u8 (0)) := bd.cell 0; have bd1 : w0.cell? ⟨w.heap.size + 1, 1, none⟩ = some (.bool (false)) := bd.cell 1; have bd2 : w0.cell? ⟨w.heap.size + 1, 2, none⟩ = some (.int .i64 (0)) := bd.cell 2; have bd3 : w0.cell? ⟨w.heap.size + 1, 3, none⟩ = some (.string (⟨#[]⟩)) := bd.cell 3
  go_wp2
  go_loop [7, 8] (fun u v => ∃ k m : Nat, k ≤ s.size ∧ m < 18446744073709551616 ∧ u = .int .u64 m ∧ v = .int .i64 k ∧ Hid (dig s 1 k = m)) (fun _ v => s.size - (intOf v).toNat)
  case atStart => exact ⟨0, 0, Nat.zero_le _, by decide, rfl, rfl, Lib.hid (dig_zero s 1)⟩
  case round =>
    obtain ⟨k, m, hk, hm, rfl, rfl, HM⟩ := hrel
    by_cases hlt : k < s.size
    · by_cases hk0 : k = 0
      · subst hk0
        have HM1 : Hid (m = 0) := Lib.hid (by rw [← HM.out]; exact dig_zero s 1)
        obtain rfl := HM1.out
        have HM2 : Hid (dig s 1 1 = 0) := Lib.hid (dig_one s)
        clear HM HM1
        go_wp2
        go_round
        case rel => exact ⟨1, 0, by omega, by decide, rfl, rfl, HM2⟩
        case measure => simp [intOf]; omega
      have zk : ((k : Int) == 0) = false := by simp; omega
      have hnk : ¬ (k = 0 ∧ s[k].toNat = 45) := fun q => hk0 q.1
      have hjk : 1 ≤ k := by omega
      have hc256 : s[k].toNat < 256 := s[k].toNat_lt
      have HS : Hid (dig s 1 (k + 1) = (10 * m % 18446744073709551616 + (s[k].toNat - 48)) % 18446744073709551616) := Lib.hid (dig_step hjk hlt HM.out)
      have HN := Lib.hid (not_itoa hlt hnk)
      clear hnk HM
      by_cases hd1 : s[k].toNat < 48
      · have hN : Hid (NoCand s) := Lib.hid fun x hx hp => (by obtain ⟨v, _, q2, _⟩ := HC.out x hx hp; exact HN.out (by omega) v q2)
        have y1 : decide ((s[k].toNat : Int) < 48) = true := by simp; omega
        go_wp2
        have q := bz.set4 (.int .u8 (0)) (.bool (false)) (.int .i64 (0)) (.string (⟨#[]⟩)); refine bodyPost_ret (v := .tuple #[.agg #[.int .u8 (0), .bool (false), .int .i64 (0), .string (⟨#[]⟩)], .int .i64 (13)]) (by simp [results, Tryd.results50, go_sem, q.1, q.2.1, q.2.2.1, q.2.2.2]) rfl ⟨⟨0, false, 0, ⟨#[]⟩⟩, 13, .inr ⟨rfl, rfl, hN.out⟩, rfl, Ext.set4 E1 (by first | omega | simp) _ _ _ _⟩
      have y1 : decide ((s[k].toNat : Int) < 48) = false := by simp; omega
      by_cases hd2 : 57 < s[k].toNat
      · have hN : Hid (NoCand s) := Lib.hid fun x hx hp => (by obtain ⟨v, _, q2, _⟩ := HC.out x hx hp; exact HN.out (by omega) v q2)
        have y2 : decide ((57 : Int) < (s[k].toNat : Int)) = true := by simp; omega
        go_wp2
        have q := bz.set4 (.int .u8 (0)) (.bool (false)) (.int .i64 (0)) (.string (⟨#[]⟩)); refine bodyPost_ret (v := .tuple #[.agg #[.int .u8 (0), .bool (false), .int .i64 (0), .string (⟨#[]⟩)], .int .i64 (13)]) (by simp [results, Tryd.results50, go_sem, q.1, q.2.1, q.2.2.1, q.2.2.2]) rfl ⟨⟨0, false, 0, ⟨#[]⟩⟩, 13, .inr ⟨rfl, rfl, hN.out⟩, rfl, Ext.set4 E1 (by first | omega | simp) _ _ _ _⟩
      have y2 : decide ((57 : Int) < (s[k].toNat : Int)) = false := by simp; omega
      obtain ⟨m1, hm1⟩ : ∃ x, 10 * m % 18446744073709551616 = x := ⟨_, rfl⟩
      obtain ⟨m2, hm2⟩ : ∃ x, (m1 + (s[k].toNat - 48)) % 18446744073709551616 = x := ⟨_, rfl⟩
      have hb2 : m2 < 18446744073709551616 := by omega
      have q1 : IntKind.u64.wrap (10 * (m : Int)) = (m1 : Int) := by rw [IntKind.wrap_u64]; omega
      have q2 : IntKind.u8.wrap ((s[k].toNat : Int) - 48) = (s[k].toNat : Int) - 48 := IntWalk.u8_in _ (by omega)
      have q3 : IntKind.u64.wrap ((s[k].toNat : Int) - 48) = (s[k].toNat : Int) - 48 := IntWalk.u64_in _ (by omega)
      have q4 : IntKind.u64.wrap ((m1 : Int) + ((s[k].toNat : Int) - 48)) = (m2 : Int) := by rw [IntKind.wrap_u64]; omega
      have HM2 : Hid (dig s 1 (k + 1) = m2) := Lib.hid (by rw [HS.out, hm1, hm2])
      clear HS HN hm1 hm2 hm hd1 hd2 hc256
      go_wp2
      go_round
      case rel => exact ⟨k + 1, m2, by omega, hb2, rfl, by go_num, HM2⟩
      case measure => simp [intOf]; omega
    · obtain rfl : k = s.size := by omega
      obtain ⟨u, hu⟩ : ∃ u, IntKind.i64.wrap (m : Int) = u := ⟨_, rfl⟩
      obtain ⟨v, hv⟩ : ∃ v, IntKind.i64.wrap (-u) = v := ⟨_, rfl⟩
      have hn : In64 v := hv ▸ wrap_in64 _
      have hcand : Cand s ⟨3, false, v, ⟨#[]⟩⟩ := fun x hx hp => (by obtain ⟨y, q1, q2, e⟩ := HC.out x hx hp; rw [e, ← hv, ← hu, ← HM.out, dig_neg q1 q2 h0 hsg])
      have hck : checkT 3 false v ⟨#[]⟩ = 0 := by rw [checkT_on ⟨.inr (.inr (.inl rfl)), fun _ => rfl, fun h => absurd rfl h, fun _ => rfl⟩]; decide +kernel
      have HN := Lib.hid hn; have HK := Lib.hid hcand; have HC2 := Lib.hid hck
      clear hn hcand hck HM hk hlt
      by_cases hp : printT 3 false v ⟨#[]⟩ = s
      · have HP := Lib.hid hp
        clear hp
        have m1 : True := trivial
        go_wp2_with (first
          | (have z := m1; clear z m1; go_at_call 52; refine (refInt_any _ _).mono ?_; rintro r w1 ⟨rfl, x1⟩; have Y1 : Ext (w.alloc (.cells #[.int .u8 0, .bool false, .int .i64 0, .string ⟨#[]⟩] 24)) w1 := E0.trans x1; have be : Bk w1 (w.heap.size + 1) 24 #[.int .u8 0, .bool false, .int .i64 0, .string ⟨#[]⟩] := bd.ext x1; have s1 := Y1.size; have bef0 : w1.frozen? ⟨w.heap.size + 1, 0, none⟩ = false := be.free 0; have bef1 : w1.frozen? ⟨w.heap.size + 1, 1, none⟩ = false := be.free 1; have bef2 : w1.frozen? ⟨w.heap.size + 1, 2, none⟩ = false := be.free 2; have bef3 : w1.frozen? ⟨w.heap.size + 1, 3, none⟩ = false := be.free 3; have be0 : w1.cell? ⟨w.heap.size + 1, 0, none⟩ = some (.int .u8 (0)) := be.cell 0; have be1 : w1.cell? ⟨w.heap.size + 1, 1, none⟩ = some (.bool (false)) := be.cell 1; have be2 : w1.cell? ⟨w.heap.size + 1, 2, none⟩ = some (.int .i64 (0)) := be.cell 2; have be3 : w1.cell? ⟨w.heap.size + 1, 3, none⟩ = some (.string (⟨#[]⟩)) := be.cell 3; have be4 := be.set4 (.int .u8 (3)) (.bool false) (.int .i64 u) (.string ⟨#[]⟩); have bed0 := be4.1; have bed1 := be4.2.1; have bed2 := be4.2.2.1; have bed3 := be4.2.2.2; have Y1s := Lib.hid (Y1.set4 (g := w.heap.size + 1) (by simp) (.int .u8 (3)) (.bool false) (.int .i64 u) (.string ⟨#[]⟩)); clear be4; have m2 : True := trivial)
          | (have z := m2; clear z m2; go_at_call 52; refine (refInt_any _ _).mono ?_; rintro r w2 ⟨rfl, x2⟩; have Y2 : Ext (w.alloc (.cells #[.int .u8 0, .bool false, .int .i64 0, .string ⟨#[]⟩] 24)) w2 := Y1s.out.trans x2; have bg : Bk w2 (w.heap.size + 1) 24 #[.int .u8 3, .bool false, .int .i64 u, .string ⟨#[]⟩] := ((((be.set 0 _).set 1 _).set 2 _).set 3 _).ext x2; have s2 := Y2.size; have bgf0 : w2.frozen? ⟨w.heap.size + 1, 0, none⟩ = false := bg.free 0; have bgf1 : w2.frozen? ⟨w.heap.size + 1, 1, none⟩ = false := bg.free 1; have bgf2 : w2.frozen? ⟨w.heap.size + 1, 2, none⟩ = false := bg.free 2; have bgf3 : w2.frozen? ⟨w.heap.size + 1, 3, none⟩ = false := bg.free 3; have bg0 : w2.cell? ⟨w.heap.size + 1, 0, none⟩ = some (.int .u8 (3)) := bg.cell 0; have bg1 : w2.cell? ⟨w.heap.size + 1, 1, none⟩ = some (.bool (false)) := bg.cell 1; have bg2 : w2.cell? ⟨w.heap.size + 1, 2, none⟩ = some (.int .i64 (u)) := bg.cell 2; have bg3 : w2.cell? ⟨w.heap.size + 1, 3, none⟩ = some (.string (⟨#[]⟩)) := bg.cell 3; have bg4 := bg.set4 (.int .u8 (3)) (.bool false) (.int .i64 v) (.string ⟨#[]⟩); have bgd0 := bg4.1; have bgd1 := bg4.2.1; have bgd2 := bg4.2.2.1; have bgd3 := bg4.2.2.2; have Y2s := Lib.hid (Y2.set4 (g := w.heap.size + 1) (by simp) (.int .u8 (3)) (.bool false) (.int .i64 v) (.string ⟨#[]⟩)); clear bg4)
          | (go_at_call 38; refine (rcheckK _ HC2 (by decide)).mono ?_; rintro r w3 ⟨rfl, x3⟩; have Y3 : Ext (w.alloc (.cells #[.int .u8 0, .bool false, .int .i64 0, .string ⟨#[]⟩] 24)) w3 := Y2s.out.trans x3; have bi : Bk w3 (w.heap.size + 1) 24 #[.int .u8 3, .bool false, .int .i64 v, .string ⟨#[]⟩] := ((((bg.set 0 _).set 1 _).set 2 _).set 3 _).ext x3; have bi0 : w3.cell? ⟨w.heap.size + 1, 0, none⟩ = some (.int .u8 (3)) := bi.cell 0; have bi1 : w3.cell? ⟨w.heap.size + 1, 1, none⟩ = some (.bool (false)) := bi.cell 1; have bi2 : w3.cell? ⟨w.heap.size + 1, 2, none⟩ = some (.int .i64 (v)) := bi.cell 2; have bi3 : w3.cell? ⟨w.heap.size + 1, 3, none⟩ = some (.string (⟨#[]⟩)) := bi.cell 3)
          | (go_at_call 41; refine (rprintK _ HP (by decide) HN.out).mono ?_; rintro r w4 ⟨rfl, x4⟩; have Y4 : Ext (w.alloc (.cells #[.int .u8 0, .bool false, .int .i64 0, .string ⟨#[]⟩] 24)) w4 := Y3.trans x4; have bj : Bk w4 (w.heap.size + 1) 24 #[.int .u8 3, .bool false, .int .i64 v, .string ⟨#[]⟩] := bi.ext x4; have bh : Bk w4 w.heap.size 24 #[.int .u8 0, .bool false, .int .i64 0, .string ⟨#[]⟩] := (Bk.new w _ _).ext Y4; have bj0 : w4.cell? ⟨w.heap.size + 1, 0, none⟩ = some (.int .u8 (3)) := bj.cell 0; have bj1 : w4.cell? ⟨w.heap.size + 1, 1, none⟩ = some (.bool (false)) := bj.cell 1; have bj2 : w4.cell? ⟨w.heap.size + 1, 2, none⟩ = some (.int .i64 (v)) := bj.cell 2; have bj3 : w4.cell? ⟨w.heap.size + 1, 3, none⟩ = some (.string (⟨#[]⟩)) := bj.cell 3; have bhf0 : w4.frozen? ⟨w.heap.size, 0, none⟩ = false := bh.free 0; have bhf1 : w4.frozen? ⟨w.heap.size, 1, none⟩ = false := bh.free 1; have bhf2 : w4.frozen? ⟨w.heap.size, 2, none⟩ = false := bh.free 2; have bhf3 : w4.frozen? ⟨w.heap.size, 3, none⟩ = false := bh.free 3; have bh0 : w4.cell? ⟨w.heap.size, 0, none⟩ = some (.int .u8 (0)) := bh.cell 0; have bh1 : w4.cell? ⟨w.heap.size, 1, none⟩ = some (.bool (false)) := bh.cell 1; have bh2 : w4.cell? ⟨w.heap.size, 2, none⟩ = some (.int .i64 (0)) := bh.cell 2; have bh3 : w4.cell? ⟨w.heap.size, 3, none⟩ = some (.string (⟨#[]⟩)) := bh.cell 3))
        have q := bh.set4 (.int .u8 (3)) (.bool (false)) (.int .i64 (v)) (.string (⟨#[]⟩)); refine bodyPost_ret (v := .tuple #[.agg #[.int .u8 (3), .bool (false), .int .i64 (v), .string (⟨#[]⟩)], .int .i64 (0)]) (by simp [results, Tryd.results50, go_sem, q.1, q.2.1, q.2.2.1, q.2.2.2]) rfl ⟨⟨3, false, v, ⟨#[]⟩⟩, 0, parse_on ⟨HC2.out, HN.out⟩ HP.out, rfl, Ext.set4 (((Ext.refl w).alloc _).trans Y4) (by first | omega | simp) _ _ _ _⟩
      · obtain ⟨p, hpp⟩ : ∃ p, printT 3 false v ⟨#[]⟩ = p := ⟨_, rfl⟩
        have HNo : Hid (¬ (Ok ⟨3, false, v, ⟨#[]⟩⟩ ∧ printT 3 false v ⟨#[]⟩ = s)) := Lib.hid fun h => hp h.2
        rw [hpp] at hp
        have HP := Lib.hid hpp
        have hpl : ¬ p.toList = s.toList := fun h => hp (data_inj (by rw [Lib.toList_data, Lib.toList_data] at h; exact h))
        have zp : (!(p.toList == s.toList)) = true := by simpa using hpl
        have zq : (p.toList == s.toList) = false := by simpa using hpl
        clear hpp
        have m1 : True := trivial
        go_wp2_with (first
          | (have z := m1; clear z m1; go_at_call 52; refine (refInt_any _ _).mono ?_; rintro r w1 ⟨rfl, x1⟩; have Y1 : Ext (w.alloc (.cells #[.int .u8 0, .bool false, .int .i64 0, .string ⟨#[]⟩] 24)) w1 := E0.trans x1; have be : Bk w1 (w.heap.size + 1) 24 #[.int .u8 0, .bool false, .int .i64 0, .string ⟨#[]⟩] := bd.ext x1; have s1 := Y1.size; have bef0 : w1.frozen? ⟨w.heap.size + 1, 0, none⟩ = false := be.free 0; have bef1 : w1.frozen? ⟨w.heap.size + 1, 1, none⟩ = false := be.free 1; have bef2 : w1.frozen? ⟨w.heap.size + 1, 2, none⟩ = false := be.free 2; have bef3 : w1.frozen? ⟨w.heap.size + 1, 3, none⟩ = false := be.free 3; have be0 : w1.cell? ⟨w.heap.size + 1, 0, none⟩ = some (.int .u8 (0)) := be.cell 0; have be1 : w1.cell? ⟨w.heap.size + 1, 1, none⟩ = some (.bool (false)) := be.cell 1; have be2 : w1.cell? ⟨w.heap.size + 1, 2, none⟩ = some (.int .i64 (0)) := be.cell 2; have be3 : w1.cell? ⟨w.heap.size + 1, 3, none⟩ = some (.string (⟨#[]⟩)) := be.cell 3; have be4 := be.set4 (.int .u8 (3)) (.bool false) (.int .i64 u) (.string ⟨#[]⟩); have bed0 := be4.1; have bed1 := be4.2.1; have bed2 := be4.2.2.1; have bed3 := be4.2.2.2; have Y1s := Lib.hid (Y1.set4 (g := w.heap.size + 1) (by simp) (.int .u8 (3)) (.bool false) (.int .i64 u) (.string ⟨#[]⟩)); clear be4; have m2 : True := trivial)
          | (have z := m2; clear z m2; go_at_call 52; refine (refInt_any _ _).mono ?_; rintro r w2 ⟨rfl, x2⟩; have Y2 : Ext (w.alloc (.cells #[.int .u8 0, .bool false, .int .i64 0, .string ⟨#[]⟩] 24)) w2 := Y1s.out.trans x2; have bg : Bk w2 (w.heap.size + 1) 24 #[.int .u8 3, .bool false, .int .i64 u, .string ⟨#[]⟩] := ((((be.set 0 _).set 1 _).set 2 _).set 3 _).ext x2; have s2 := Y2.size; have bgf0 : w2.frozen? ⟨w.heap.size + 1, 0, none⟩ = false := bg.free 0; have bgf1 : w2.frozen? ⟨w.heap.size + 1, 1, none⟩ = false := bg.free 1; have bgf2 : w2.frozen? ⟨w.heap.size + 1, 2, none⟩ = false := bg.free 2; have bgf3 : w2.frozen? ⟨w.heap.size + 1, 3, none⟩ = false := bg.free 3; have bg0 : w2.cell? ⟨w.heap.size + 1, 0, none⟩ = some (.int .u8 (3)) := bg.cell 0; have bg1 : w2.cell? ⟨w.heap.size + 1, 1, none⟩ = some (.bool (false)) := bg.cell 1; have bg2 : w2.cell? ⟨w.heap.size + 1, 2, none⟩ = some (.int .i64 (u)) := bg.cell 2; have bg3 : w2.cell? ⟨w.heap.size + 1, 3, none⟩ = some (.string (⟨#[]⟩)) := bg.cell 3; have bg4 := bg.set4 (.int .u8 (3)) (.bool false) (.int .i64 v) (.string ⟨#[]⟩); have bgd0 := bg4.1; have bgd1 := bg4.2.1; have bgd2 := bg4.2.2.1; have bgd3 := bg4.2.2.2; have Y2s := Lib.hid (Y2.set4 (g := w.heap.size + 1) (by simp) (.int .u8 (3)) (.bool false) (.int .i64 v) (.string ⟨#[]⟩)); clear bg4)
          | (go_at_call 38; refine (rcheckK _ HC2 (by decide)).mono ?_; rintro r w3 ⟨rfl, x3⟩; have Y3 : Ext (w.alloc (.cells #[.int .u8 0, .bool false, .int .i64 0, .string ⟨#[]⟩] 24)) w3 := Y2s.out.trans x3; have bi : Bk w3 (w.heap.size + 1) 24 #[.int .u8 3, .bool false, .int .i64 v, .string ⟨#[]⟩] := ((((bg.set 0 _).set 1 _).set 2 _).set 3 _).ext x3; have bi0 : w3.cell? ⟨w.heap.size + 1, 0, none⟩ = some (.int .u8 (3)) := bi.cell 0; have bi1 : w3.cell? ⟨w.heap.size + 1, 1, none⟩ = some (.bool (false)) := bi.cell 1; have bi2 : w3.cell? ⟨w.heap.size + 1, 2, none⟩ = some (.int .i64 (v)) := bi.cell 2; have bi3 : w3.cell? ⟨w.heap.size + 1, 3, none⟩ = some (.string (⟨#[]⟩)) := bi.cell 3)
          | (go_at_call 41; refine (rprintK _ HP (by decide) HN.out).mono ?_; rintro r w4 ⟨rfl, x4⟩; have Y4 : Ext (w.alloc (.cells #[.int .u8 0, .bool false, .int .i64 0, .string ⟨#[]⟩] 24)) w4 := Y3.trans x4; have bj : Bk w4 (w.heap.size + 1) 24 #[.int .u8 3, .bool false, .int .i64 v, .string ⟨#[]⟩] := bi.ext x4; have bh : Bk w4 w.heap.size 24 #[.int .u8 0, .bool false, .int .i64 0, .string ⟨#[]⟩] := (Bk.new w _ _).ext Y4; have bj0 : w4.cell? ⟨w.heap.size + 1, 0, none⟩ = some (.int .u8 (3)) := bj.cell 0; have bj1 : w4.cell? ⟨w.heap.size + 1, 1, none⟩ = some (.bool (false)) := bj.cell 1; have bj2 : w4.cell? ⟨w.heap.size + 1, 2, none⟩ = some (.int .i64 (v)) := bj.cell 2; have bj3 : w4.cell? ⟨w.heap.size + 1, 3, none⟩ = some (.string (⟨#[]⟩)) := bj.cell 3; have bhf0 : w4.frozen? ⟨w.heap.size, 0, none⟩ = false := bh.free 0; have bhf1 : w4.frozen? ⟨w.heap.size, 1, none⟩ = false := bh.free 1; have bhf2 : w4.frozen? ⟨w.heap.size, 2, none⟩ = false := bh.free 2; have bhf3 : w4.frozen? ⟨w.heap.size, 3, none⟩ = false := bh.free 3; have bh0 : w4.cell? ⟨w.heap.size, 0, none⟩ = some (.int .u8 (0)) := bh.cell 0; have bh1 : w4.cell? ⟨w.heap.size, 1, none⟩ = some (.bool (false)) := bh.cell 1; have bh2 : w4.cell? ⟨w.heap.size, 2, none⟩ = some (.int .i64 (0)) := bh.cell 2; have bh3 : w4.cell? ⟨w.heap.size, 3, none⟩ = some (.string (⟨#[]⟩)) := bh.cell 3))
        have q := bh.set4 (.int .u8 (0)) (.bool (false)) (.int .i64 (0)) (.string (⟨#[]⟩)); refine bodyPost_ret (v := .tuple #[.agg #[.int .u8 (0), .bool (false), .int .i64 (0), .string (⟨#[]⟩)], .int .i64 (13)]) (by simp [results, Tryd.results50, go_sem, q.1, q.2.1, q.2.2.1, q.2.2.2]) rfl ⟨⟨0, false, 0, ⟨#[]⟩⟩, 13, parse_off HK.out HNo.out, rfl, Ext.set4 (((Ext.refl w).alloc _).trans Y4) (by first | omega | simp) _ _ _ _⟩
set_option maxRecDepth 100000 in
set_option maxHeartbeats 8000000 in
theorem rparse_num_c0 (s : ByteArray) (w : World) (h1 : (s.toList == [110, 117, 108, 108]) = false) (h2 : (s.toList == [116, 114, 117, 101]) = false) (h3 : (s.toList == [102, 97, 108, 115, 101]) = false) (hc : ∀ x : Dat, Ok x → printT x.k x.b x.n x.s = s → ∃ v, In64 v ∧ s.data.toList = Lib.itoa v ∧ x = ⟨3, false, v, ⟨#[]⟩⟩) (h4 : s.size < 2) (h0 : 0 < s.size) (h20 : s.size ≤ 20) (hsg : ¬ s[0].toNat = 45) : Calls Tryd.prog 50 #[.string s] w fun e w' => ∃ d x, ParseRel s d x ∧ RefOut w (d, x) e w' := by
  have HC := Lib.hid hc
  clear hc
  have z45 : ((s[0].toNat : Int) == 45) = false := by simp; omega
  go_enter Tryd.func50, Tryd.ntmps50
  go_upto_region 12 with fail
  have bd : Bk ((w.alloc (.cells #[.int .u8 0, .bool false, .int .i64 0, .string ⟨#[]⟩] 24)).alloc (.cells #[.int .u8 0, .bool false, .int .i64 0, .string ⟨#[]⟩] 24)) (w.heap.size + 1) 24 #[.int .u8 0, .bool false, .int .i64 0, .string ⟨#[]⟩] := Bk.at (by simp)
  have E0 : Ext (w.alloc (.cells #[.int .u8 0, .bool false, .int .i64 0, .string ⟨#[]⟩] 24)) ((w.alloc (.cells #[.int .u8 0, .bool false, .int .i64 0, .string ⟨#[]⟩] 24)).alloc (.cells #[.int .u8 0, .bool false, .int .i64 0, .string ⟨#[]⟩] 24)) := (Ext.refl _).alloc _
  obtain ⟨w0, hw0⟩ : ∃ x, x = ((w.alloc (.cells #[.int .u8 0, .bool false, .int .i64 0, .string ⟨#[]⟩] 24)).alloc (.cells #[.int .u8 0, .bool false, .int .i64 0, .string ⟨#[]⟩] 24)) := ⟨_, rfl⟩
  rw [← hw0] at bd E0 ⊢
  clear hw0
  have bz : Bk w0 w.heap.size 24 #[.int .u8 0, .bool false, .int .i64 0, .string ⟨#[]⟩] := (Bk.new w _ _).ext E0
  have E1 : Ext w w0 := ((Ext.refl w).alloc _).trans E0
  have s0 := E0.size
  have bzf0 : w0.frozen? ⟨w.heap.size, 0, none⟩ = false := bz.free 0; have bzf1 : w0.frozen? ⟨w.heap.size, 1, none⟩ = false := bz.free 1; have bzf2 : w0.frozen? ⟨w.heap.size, 2, none⟩ = false := bz.free 2; have bzf3 : w0.frozen? ⟨w.heap.size, 3, none⟩ = false := bz.free 3
  have bz0 : w0.cell? ⟨w.heap.size, 0, none⟩ = some (.int .u8 (0)) := bz.cell 0; have bz1 : w0.cell? ⟨w.heap.size, 1, none⟩ = some (.bool (false)) := bz.cell 1; have bz2 : w0.cell? ⟨w.heap.size, 2, none⟩ = some (.int .i64 (0)) := bz.cell 2; have bz3 : w0.cell? ⟨w.heap.size, 3, none⟩ = some (.string (⟨#[]⟩)) := bz.cell 3
  have bdf0 : w0.frozen? ⟨w.heap.size + 1, 0, none⟩ = false := bd.free 0; have bdf1 : w0.frozen? ⟨w.heap.size + 1, 1, none⟩ = false := bd.free 1; have bdf2 : w0.frozen? ⟨w.heap.size + 1, 2, none⟩ = false := bd.free 2; have bdf3 : w0.frozen? ⟨w.heap.size + 1, 3, none⟩ = false := bd.free 3
  have bd0 : w0.cell? ⟨w.heap.size + 1, 0, none⟩ = some (.int .u8 (0)) := bd.cell 0; have bd1 : w0.cell? ⟨w.heap.size + 1, 1, none⟩ = some (.bool (false)) := bd.cell 1; have bd2 : w0.cell? ⟨w.heap.size + 1, 2, none⟩ = some (.int .i64 (0)) := bd.cell 2; have bd3 : w0.cell? ⟨w.heap.size + 1, 3, none⟩ = some (.string (⟨#[]⟩)) := bd.cell 3
  go_wp2
  go_loop [7, 8] (fun u v => ∃ k m : Nat, k ≤ s.size ∧ m < 18446744073709551616 ∧ u = .int .u64 m ∧ v = .int .i64 k ∧ Hid (dig s 0 k = m)) (fun _ v => s.size - (intOf v).toNat)
  case atStart => exact ⟨0, 0, Nat.zero_le _, by decide, rfl, rfl, Lib.hid (dig_zero s 0)⟩
  case round =>
    obtain ⟨k, m, hk, hm, rfl, rfl, HM⟩ := hrel
    by_cases hlt : k < s.size
    · have hzk : ((k : Int) == 0) = false ∨ (((k : Int) == 0) = true ∧ k = 0) := by
        by_cases q : k = 0
        · exact .inr ⟨by simp; omega, q⟩
        · exact .inl (by simp; omega)
      have hnk : ¬ (k = 0 ∧ s[k].toNat = 45) := fun q => hsg (by obtain ⟨rfl, q⟩ := q; exact q)
      have hjk : 0 ≤ k := Nat.zero_le _
      have hc256 : s[k].toNat < 256 := s[k].toNat_lt
      have HS : Hid (dig s 0 (k + 1) = (10 * m % 18446744073709551616 + (s[k].toNat - 48)) % 18446744073709551616) := Lib.hid (dig_step hjk hlt HM.out)
      have HN := Lib.hid (not_itoa hlt hnk)
      clear hnk HM
      by_cases hd1 : s[k].toNat < 48
      · have hN : Hid (NoCand s) := Lib.hid fun x hx hp => (by obtain ⟨v, _, q2, _⟩ := HC.out x hx hp; exact HN.out (by omega) v q2)
        have y1 : decide ((s[k].toNat : Int) < 48) = true := by simp; omega
        rcases hzk with zk | ⟨zk, rfl⟩
        all_goals
          go_wp2
          have q := bz.set4 (.int .u8 (0)) (.bool (false)) (.int .i64 (0)) (.string (⟨#[]⟩)); refine bodyPost_ret (v := .tuple #[.agg #[.int .u8 (0), .bool (false), .int .i64 (0), .string (⟨#[]⟩)], .int .i64 (13)]) (by simp [results, Tryd.results50, go_sem, q.1, q.2.1, q.2.2.1, q.2.2.2]) rfl ⟨⟨0, false, 0, ⟨#[]⟩⟩, 13, .inr ⟨rfl, rfl, hN.out⟩, rfl, Ext.set4 E1 (by first | omega | simp) _ _ _ _⟩
      have y1 : decide ((s[k].toNat : Int) < 48) = false := by simp; omega
      by_cases hd2 : 57 < s[k].toNat
      · have hN : Hid (NoCand s) := Lib.hid fun x hx hp => (by obtain ⟨v, _, q2, _⟩ := HC.out x hx hp; exact HN.out (by omega) v q2)
        have y2 : decide ((57 : Int) < (s[k].toNat : Int)) = true := by simp; omega
        rcases hzk with zk | ⟨zk, rfl⟩
        all_goals
          go_wp2
          have q := bz.set4 (.int .u8 (0)) (.bool (false)) (.int .i64 (0)) (.string (⟨#[]⟩)); refine bodyPost_ret (v := .tuple #[.agg #[.int .u8 (0), .bool (false), .int .i64 (0), .string (⟨#[]⟩)], .int .i64 (13)]) (by simp [results, Tryd.results50, go_sem, q.1, q.2.1, q.2.2.1, q.2.2.2]) rfl ⟨⟨0, false, 0, ⟨#[]⟩⟩, 13, .inr ⟨rfl, rfl, hN.out⟩, rfl, Ext.set4 E1 (by first | omega | simp) _ _ _ _⟩
      have y2 : decide ((57 : Int) < (s[k].toNat : Int)) = false := by simp; omega
      obtain ⟨m1, hm1⟩ : ∃ x, 10 * m % 18446744073709551616 = x := ⟨_, rfl⟩
      obtain ⟨m2, hm2⟩ : ∃ x, (m1 + (s[k].toNat - 48)) % 18446744073709551616 = x := ⟨_, rfl⟩
      have hb2 : m2 < 18446744073709551616 := by omega
      have q1 : IntKind.u64.wrap (10 * (m : Int)) = (m1 : Int) := by rw [IntKind.wrap_u64]; omega
      have q2 : IntKind.u8.wrap ((s[k].toNat : Int) - 48) = (s[k].toNat : Int) - 48 := IntWalk.u8_in _ (by omega)
      have q3 : IntKind.u64.wrap ((s[k].toNat : Int) - 48) = (s[k].toNat : Int) - 48 := IntWalk.u64_in _ (by omega)
      have q4 : IntKind.u64.wrap ((m1 : Int) + ((s[k].toNat : Int) - 48)) = (m2 : Int) := by rw [IntKind.wrap_u64]; omega
      have HM2 : Hid (dig s 0 (k + 1) = m2) := Lib.hid (by rw [HS.out, hm1, hm2])
      clear HS HN hm1 hm2 hm hd1 hd2 hc256
      rcases hzk with zk | ⟨zk, rfl⟩
      · go_wp2
        go_round
        case rel => exact ⟨k + 1, m2, by omega, hb2, rfl, by go_num, HM2⟩
        case measure => simp [intOf]; omega
      · go_wp2
        go_round
        case rel => exact ⟨1, m2, by omega, hb2, rfl, rfl, HM2⟩
        case measure => simp [intOf]; omega
    · obtain rfl : k = s.size := by omega
      obtain ⟨v, hv⟩ : ∃ v, IntKind.i64.wrap (m : Int) = v := ⟨_, rfl⟩
      have hn : In64 v := hv ▸ wrap_in64 _
      have hcand : Cand s ⟨3, false, v, ⟨#[]⟩⟩ := fun x hx hp => (by obtain ⟨y, q1, q2, e⟩ := HC.out x hx hp; rw [e, ← hv, ← HM.out, dig_pos q1 q2 h0 hsg])
      have hck : checkT 3 false v ⟨#[]⟩ = 0 := by rw [checkT_on ⟨.inr (.inr (.inl rfl)), fun _ => rfl, fun h => absurd rfl h, fun _ => rfl⟩]; decide +kernel
      have HN := Lib.hid hn; have HK := Lib.hid hcand; have HC2 := Lib.hid hck
      clear hn hcand hck HM hk hlt
      by_cases hp : printT 3 false v ⟨#[]⟩ = s
      · have HP := Lib.hid hp
        clear hp
        have m1 : True := trivial
        go_wp2_with (first
          | (have z := m1; clear z m1; go_at_call 52; refine (refInt_any _ _).mono ?_; rintro r w1 ⟨rfl, x1⟩; have Y1 : Ext (w.alloc (.cells #[.int .u8 0, .bool false, .int .i64 0, .string ⟨#[]⟩] 24)) w1 := E0.trans x1; have be : Bk w1 (w.heap.size + 1) 24 #[.int .u8 0, .bool false, .int .i64 0, .string ⟨#[]⟩] := bd.ext x1; have s1 := Y1.size; have bef0 : w1.frozen? ⟨w.heap.size + 1, 0, none⟩ = false := be.free 0; have bef1 : w1.frozen? ⟨w.heap.size + 1, 1, none⟩ = false := be.free 1; have bef2 : w1.frozen? ⟨w.heap.size + 1, 2, none⟩ = false := be.free 2; have bef3 : w1.frozen? ⟨w.heap.size + 1, 3, none⟩ = false := be.free 3; have be0 : w1.cell? ⟨w.heap.size + 1, 0, none⟩ = some (.int .u8 (0)) := be.cell 0; have be1 : w1.cell? ⟨w.heap.size + 1, 1, none⟩ = some (.bool (false)) := be.cell 1; have be2 : w1.cell? ⟨w.heap.size + 1, 2, none⟩ = some (.int .i64 (0)) := be.cell 2; have be3 : w1.cell? ⟨w.heap.size + 1, 3, none⟩ = some (.string (⟨#[]⟩)) := be.cell 3; have be4 := be.set4 (.int .u8 (3)) (.bool false) (.int .i64 v) (.string ⟨#[]⟩); have bed0 := be4.1; have bed1 := be4.2.1; have bed2 := be4.2.2.1; have bed3 := be4.2.2.2; have Y1s := Lib.hid (Y1.set4 (g := w.heap.size + 1) (by simp) (.int .u8 (3)) (.bool false) (.int .i64 v) (.string ⟨#[]⟩)); clear be4; have m2 : True := trivial)
          | (go_at_call 38; refine (rcheckK _ HC2 (by decide)).mono ?_; rintro r w3 ⟨rfl, x3⟩; have Y3 : Ext (w.alloc (.cells #[.int .u8 0, .bool false, .int .i64 0, .string ⟨#[]⟩] 24)) w3 := Y1s.out.trans x3; have bi : Bk w3 (w.heap.size + 1) 24 #[.int .u8 3, .bool false, .int .i64 v, .string ⟨#[]⟩] := ((((be.set 0 _).set 1 _).set 2 _).set 3 _).ext x3; have bi0 : w3.cell? ⟨w.heap.size + 1, 0, none⟩ = some (.int .u8 (3)) := bi.cell 0; have bi1 : w3.cell? ⟨w.heap.size + 1, 1, none⟩ = some (.bool (false)) := bi.cell 1; have bi2 : w3.cell? ⟨w.heap.size + 1, 2, none⟩ = some (.int .i64 (v)) := bi.cell 2; have bi3 : w3.cell? ⟨w.heap.size + 1, 3, none⟩ = some (.string (⟨#[]⟩)) := bi.cell 3)
          | (go_at_call 41; refine (rprintK _ HP (by decide) HN.out).mono ?_; rintro r w4 ⟨rfl, x4⟩; have Y4 : Ext (w.alloc (.cells #[.int .u8 0, .bool false, .int .i64 0, .string ⟨#[]⟩] 24)) w4 := Y3.trans x4; have bj : Bk w4 (w.heap.size + 1) 24 #[.int .u8 3, .bool false, .int .i64 v, .string ⟨#[]⟩] := bi.ext x4; have bh : Bk w4 w.heap.size 24 #[.int .u8 0, .bool false, .int .i64 0, .string ⟨#[]⟩] := (Bk.new w _ _).ext Y4; have bj0 : w4.cell? ⟨w.heap.size + 1, 0, none⟩ = some (.int .u8 (3)) := bj.cell 0; have bj1 : w4.cell? ⟨w.heap.size + 1, 1, none⟩ = some (.bool (false)) := bj.cell 1; have bj2 : w4.cell? ⟨w.heap.size + 1, 2, none⟩ = some (.int .i64 (v)) := bj.cell 2; have bj3 : w4.cell? ⟨w.heap.size + 1, 3, none⟩ = some (.string (⟨#[]⟩)) := bj.cell 3; have bhf0 : w4.frozen? ⟨w.heap.size, 0, none⟩ = false := bh.free 0; have bhf1 : w4.frozen? ⟨w.heap.size, 1, none⟩ = false := bh.free 1; have bhf2 : w4.frozen? ⟨w.heap.size, 2, none⟩ = false := bh.free 2; have bhf3 : w4.frozen? ⟨w.heap.size, 3, none⟩ = false := bh.free 3; have bh0 : w4.cell? ⟨w.heap.size, 0, none⟩ = some (.int .u8 (0)) := bh.cell 0; have bh1 : w4.cell? ⟨w.heap.size, 1, none⟩ = some (.bool (false)) := bh.cell 1; have bh2 : w4.cell? ⟨w.heap.size, 2, none⟩ = some (.int .i64 (0)) := bh.cell 2; have bh3 : w4.cell? ⟨w.heap.size, 3, none⟩ = some (.string (⟨#[]⟩)) := bh.cell 3))
        have q := bh.set4 (.int .u8 (3)) (.bool (false)) (.int .i64 (v)) (.string (⟨#[]⟩)); refine bodyPost_ret (v := .tuple #[.agg #[.int .u8 (3), .bool (false), .int .i64 (v), .string (⟨#[]⟩)], .int .i64 (0)]) (by simp [results, Tryd.results50, go_sem, q.1, q.2.1, q.2.2.1, q.2.2.2]) rfl ⟨⟨3, false, v, ⟨#[]⟩⟩, 0, parse_on ⟨HC2.out, HN.out⟩ HP.out, rfl, Ext.set4 (((Ext.refl w).alloc _).trans Y4) (by first | omega | simp) _ _ _ _⟩
      · obtain ⟨p, hpp⟩ : ∃ p, printT 3 false v ⟨#[]⟩ = p := ⟨_, rfl⟩
        have HNo : Hid (¬ (Ok ⟨3, false, v, ⟨#[]⟩⟩ ∧ printT 3 false v ⟨#[]⟩ = s)) := Lib.hid fun h => hp h.2
        rw [hpp] at hp
        have HP := Lib.hid hpp
        have hpl : ¬ p.toList = s.toList := fun h => hp (data_inj (by rw [Lib.toList_data, Lib.toList_data] at h; exact h))
        have zp : (!(p.toList == s.toList)) = true := by simpa using hpl
        have zq : (p.toList == s.toList) = false := by simpa using hpl
        clear hpp
        have m1 : True := trivial
        go_wp2_with (first
          | (have z := m1; clear z m1; go_at_call 52; refine (refInt_any _ _).mono ?_; rintro r w1 ⟨rfl, x1⟩; have Y1 : Ext (w.alloc (.cells #[.int .u8 0, .bool false, .int .i64 0, .string ⟨#[]⟩] 24)) w1 := E0.trans x1; have be : Bk w1 (w.heap.size + 1) 24 #[.int .u8 0, .bool false, .int .i64 0, .string ⟨#[]⟩] := bd.ext x1; have s1 := Y1.size; have bef0 : w1.frozen? ⟨w.heap.size + 1, 0, none⟩ = false := be.free 0; have bef1 : w1.frozen? ⟨w.heap.size + 1, 1, none⟩ = false := be.free 1; have bef2 : w1.frozen? ⟨w.heap.size + 1, 2, none⟩ = false := be.free 2; have bef3 : w1.frozen? ⟨w.heap.size + 1, 3, none⟩ = false := be.free 3; have be0 : w1.cell? ⟨w.heap.size + 1, 0, none⟩ = some (.int .u8 (0)) := be.cell 0; have be1 : w1.cell? ⟨w.heap.size + 1, 1, none⟩ = some (.bool (false)) := be.cell 1; have be2 : w1.cell? ⟨w.heap.size + 1, 2, none⟩ = some (.int .i64 (0)) := be.cell 2; have be3 : w1.cell? ⟨w.heap.size + 1, 3, none⟩ = some (.string (⟨#[]⟩)) := be.cell 3; have be4 := be.set4 (.int .u8 (3)) (.bool false) (.int .i64 v) (.string ⟨#[]⟩); have bed0 := be4.1; have bed1 := be4.2.1; have bed2 := be4.2.2.1; have bed3 := be4.2.2.2; have Y1s := Lib.hid (Y1.set4 (g := w.heap.size + 1) (by simp) (.int .u8 (3)) (.bool false) (.int .i64 v) (.string ⟨#[]⟩)); clear be4; have m2 : True := trivial)
          | (go_at_call 38; refine (rcheckK _ HC2 (by decide)).mono ?_; rintro r w3 ⟨rfl, x3⟩; have Y3 : Ext (w.alloc (.cells #[.int .u8 0, .bool false, .int .i64 0, .string ⟨#[]⟩] 24)) w3 := Y1s.out.trans x3; have bi : Bk w3 (w.heap.size + 1) 24 #[.int .u8 3, .bool false, .int .i64 v, .string ⟨#[]⟩] := ((((be.set 0 _).set 1 _).set 2 _).set 3 _).ext x3; have bi0 : w3.cell? ⟨w.heap.size + 1, 0, none⟩ = some (.int .u8 (3)) := bi.cell 0; have bi1 : w3.cell? ⟨w.heap.size + 1, 1, none⟩ = some (.bool (false)) := bi.cell 1; have bi2 : w3.cell? ⟨w.heap.size + 1, 2, none⟩ = some (.int .i64 (v)) := bi.cell 2; have bi3 : w3.cell? ⟨w.heap.size + 1, 3, none⟩ = some (.string (⟨#[]⟩)) := bi.cell 3)
          | (go_at_call 41; refine (rprintK _ HP (by decide) HN.out).mono ?_; rintro r w4 ⟨rfl, x4⟩; have Y4 : Ext (w.alloc (.cells #[.int .u8 0, .bool false, .int .i64 0, .string ⟨#[]⟩] 24)) w4 := Y3.trans x4; have bj : Bk w4 (w.heap.size + 1) 24 #[.int .u8 3, .bool false, .int .i64 v, .string ⟨#[]⟩] := bi.ext x4; have bh : Bk w4 w.heap.size 24 #[.int .u8 0, .bool false, .int .i64 0, .string ⟨#[]⟩] := (Bk.new w _ _).ext Y4; have bj0 : w4.cell? ⟨w.heap.size + 1, 0, none⟩ = some (.int .u8 (3)) := bj.cell 0; have bj1 : w4.cell? ⟨w.heap.size + 1, 1, none⟩ = some (.bool (false)) := bj.cell 1; have bj2 : w4.cell? ⟨w.heap.size + 1, 2, none⟩ = some (.int .i64 (v)) := bj.cell 2; have bj3 : w4.cell? ⟨w.heap.size + 1, 3, none⟩ = some (.string (⟨#[]⟩)) := bj.cell 3; have bhf0 : w4.frozen? ⟨w.heap.size, 0, none⟩ = false := bh.free 0; have bhf1 : w4.frozen? ⟨w.heap.size, 1, none⟩ = false := bh.free 1; have bhf2 : w4.frozen? ⟨w.heap.size, 2, none⟩ = false := bh.free 2; have bhf3 : w4.frozen? ⟨w.heap.size, 3, none⟩ = false := bh.free 3; have bh0 : w4.cell? ⟨w.heap.size, 0, none⟩ = some (.int .u8 (0)) := bh.cell 0; have bh1 : w4.cell? ⟨w.heap.size, 1, none⟩ = some (.bool (false)) := bh.cell 1; have bh2 : w4.cell? ⟨w.heap.size, 2, none⟩ = some (.int .i64 (0)) := bh.cell 2; have bh3 : w4.cell? ⟨w.heap.size, 3, none⟩ = some (.string (⟨#[]⟩)) := bh.cell 3))
        have q := bh.set4 (.int .u8 (0)) (.bool (false)) (.int .i64 (0)) (.string (⟨#[]⟩)); refine bodyPost_ret (v := .tuple #[.agg #[.int .u8 (0), .bool (false), .int .i64 (0), .string (⟨#[]⟩)], .int .i64 (13)]) (by simp [results, Tryd.results50, go_sem, q.1, q.2.1, q.2.2.1, q.2.2.2]) rfl ⟨⟨0, false, 0, ⟨#[]⟩⟩, 13, parse_off HK.out HNo.out, rfl, Ext.set4 (((Ext.refl w).alloc _).trans Y4) (by first | omega | simp) _ _ _ _⟩
set_option maxRecDepth 100000 in
set_option maxHeartbeats 8000000 in
theorem rparse_num_c1 (s : ByteArray) (w : World) (h1 : (s.toList == [110, 117, 108, 108]) = false) (h2 : (s.toList == [116, 114, 117, 101]) = false) (h3 : (s.toList == [102, 97, 108, 115, 101]) = false) (hc : ∀ x : Dat, Ok x → printT x.k x.b x.n x.s = s → ∃ v, In64 v ∧ s.data.toList = Lib.itoa v ∧ x = ⟨3, false, v, ⟨#[]⟩⟩) (h4 : s.size < 2) (h0 : 0 < s.size) (h20 : s.size ≤ 20) (hsg : s[0].toNat = 45) : Calls Tryd.prog 50 #[.string s] w fun e w' => ∃ d x, ParseRel s d x ∧ RefOut w (d, x) e w' := by
  have HC := Lib.hid hc
  clear hc
  have z45 : ((s[0].toNat : Int) == 45) = true := by simp; omega
  go_enter Tryd.func50, Tryd.ntmps50
  go_upto_region 12 with fail
  have bd : Bk ((w.alloc (.cells #[.int .u8 0, .bool false, .int .i64 0, .string ⟨#[]⟩] 24)).alloc (.cells #[.int .u8 0, .bool false, .int .i64 0, .string ⟨#[]⟩] 24)) (w.heap.size + 1) 24 #[.int .u8 0, .bool false, .int .i64 0, .string ⟨#[]⟩] := Bk.at (by simp)
  have E0 : Ext (w.alloc (.cells #[.int .u8 0, .bool false, .int .i64 0, .string ⟨#[]⟩] 24)) ((w.alloc (.cells #[.int .u8 0, .bool false, .int .i64 0, .string ⟨#[]⟩] 24)).alloc (.cells #[.int .u8 0, .bool false, .int .i64 0, .string ⟨#[]⟩] 24)) := (Ext.refl _).alloc _
  obtain ⟨w0, hw0⟩ : ∃ x, x = ((w.alloc (.cells #[.int .u8 0, .bool false, .int .i64 0, .string ⟨#[]⟩] 24)).alloc (.cells #[.int .u8 0, .bool false, .int .i64 0, .string ⟨#[]⟩] 24)) := ⟨_, rfl⟩
  rw [← hw0] at bd E0 ⊢
  clear hw0
  have bz : Bk w0 w.heap.size 24 #[.int .u8 0, .bool false, .int .i64 0, .string ⟨#[]⟩] := (Bk.new w _ _).ext E0
  have E1 : Ext w w0 := ((Ext.refl w).alloc _).trans E0
  have s0 := E0.size
  have bzf0 : w0.frozen? ⟨w.heap.size, 0, none⟩ = false := bz.free 0; have bzf1 : w0.frozen? ⟨w.heap.size, 1, none⟩ = false := bz.free 1; have bzf2 : w0.frozen? ⟨w.heap.size, 2, none⟩ = false := bz.free 2; have bzf3 : w0.frozen? ⟨w.heap.size, 3, none⟩ = false := bz.free 3
  have bz0 : w0.cell? ⟨w.heap.size, 0, none⟩ = some (.int .u8 (0)) := bz.cell 0; have bz1 : w0.cell? ⟨w.heap.size, 1, none⟩ = some (.bool (false)) := bz.cell 1; have bz2 : w0.cell? ⟨w.heap.size, 2, none⟩ = some (.int .i64 (0)) := bz.cell 2; have bz3 : w0.cell? ⟨w.heap.size, 3, none⟩ = some (.string (⟨#[]⟩)) := bz.cell 3
  have bdf0 : w0.frozen? ⟨w.heap.size + 1, 0, none⟩ = false := bd.free 0; have bdf1 : w0.frozen? ⟨w.heap.size + 1, 1, none⟩ = false := bd.free 1; have bdf2 : w0.frozen? ⟨w.heap.size + 1, 2, none⟩ = false := bd.free 2; have bdf3 : w0.frozen? ⟨w.heap.size + 1, 3, none⟩ = false := bd.free 3
  have bd0 : w0.cell? ⟨w.heap.size + 1, 0, none⟩ = some (.int .u8 (0)) := bd.cell 0; have bd1 : w0.cell? ⟨w.heap.size + 1, 1, none⟩ = some (.bool (false)) := bd.cell 1; have bd2 : w0.cell? ⟨w.heap.size + 1, 2, none⟩ = some (.int .i64 (0)) := bd.cell 2; have bd3 : w0.cell? ⟨w.heap.size + 1, 3, none⟩ = some (.string (⟨#[]⟩)) := bd.cell 3
  go_wp2
  go_loop [7, 8] (fun u v => ∃ k m : Nat, k ≤ s.size ∧ m < 18446744073709551616 ∧ u = .int .u64 m ∧ v = .int .i64 k ∧ Hid (dig s 1 k = m)) (fun _ v => s.size - (intOf v).toNat)
  case atStart => exact ⟨0, 0, Nat.zero_le _, by decide, rfl, rfl, Lib.hid (dig_zero s 1)⟩
  case round =>
    obtain ⟨k, m, hk, hm, rfl, rfl, HM⟩ := hrel
    by_cases hlt : k < s.size
    · by_cases hk0 : k = 0
      · subst hk0
        have HM1 : Hid (m = 0) := Lib.hid (by rw [← HM.out]; exact dig_zero s 1)
        obtain rfl := HM1.out
        have HM2 : Hid (dig s 1 1 = 0) := Lib.hid (dig_one s)
        clear HM HM1
        go_wp2
        go_round
        case rel => exact ⟨1, 0, by omega, by decide, rfl, rfl, HM2⟩
        case measure => simp [intOf]; omega
      have zk : ((k : Int) == 0) = false := by simp; omega
      have hnk : ¬ (k = 0 ∧ s[k].toNat = 45) := fun q => hk0 q.1
      have hjk : 1 ≤ k := by omega
      exfalso; omega
    · obtain rfl : k = s.size := by omega
      obtain ⟨u, hu⟩ : ∃ u, IntKind.i64.wrap (m : Int) = u := ⟨_, rfl⟩
      obtain ⟨v, hv⟩ : ∃ v, IntKind.i64.wrap (-u) = v := ⟨_, rfl⟩
      have hn : In64 v := hv ▸ wrap_in64 _
      have hcand : Cand s ⟨3, false, v, ⟨#[]⟩⟩ := fun x hx hp => (by obtain ⟨y, q1, q2, e⟩ := HC.out x hx hp; rw [e, ← hv, ← hu, ← HM.out, dig_neg q1 q2 h0 hsg])
      have hck : checkT 3 false v ⟨#[]⟩ = 0 := by rw [checkT_on ⟨.inr (.inr (.inl rfl)), fun _ => rfl, fun h => absurd rfl h, fun _ => rfl⟩]; decide +kernel
      have HN := Lib.hid hn; have HK := Lib.hid hcand; have HC2 := Lib.hid hck
      clear hn hcand hck HM hk hlt
      by_cases hp : printT 3 false v ⟨#[]⟩ = s
      · have HP := Lib.hid hp
        clear hp
        have m1 : True := trivial
        go_wp2_with (first
          | (have z := m1; clear z m1; go_at_call 52; refine (refInt_any _ _).mono ?_; rintro r w1 ⟨rfl, x1⟩; have Y1 : Ext (w.alloc (.cells #[.int .u8 0, .bool false, .int .i64 0, .string ⟨#[]⟩] 24)) w1 := E0.trans x1; have be : Bk w1 (w.heap.size + 1) 24 #[.int .u8 0, .bool false, .int .i64 0, .string ⟨#[]⟩] := bd.ext x1; have s1 := Y1.size; have bef0 : w1.frozen? ⟨w.heap.size + 1, 0, none⟩ = false := be.free 0; have bef1 : w1.frozen? ⟨w.heap.size + 1, 1, none⟩ = false := be.free 1; have bef2 : w1.frozen? ⟨w.heap.size + 1, 2, none⟩ = false := be.free 2; have bef3 : w1.frozen? ⟨w.heap.size + 1, 3, none⟩ = false := be.free 3; have be0 : w1.cell? ⟨w.heap.size + 1, 0, none⟩ = some (.int .u8 (0)) := be.cell 0; have be1 : w1.cell? ⟨w.heap.size + 1, 1, none⟩ = some (.bool (false)) := be.cell 1; have be2 : w1.cell? ⟨w.heap.size + 1, 2, none⟩ = some (.int .i64 (0)) := be.cell 2; have be3 : w1.cell? ⟨w.heap.size + 1, 3, none⟩ = some (.string (⟨#[]⟩)) := be.cell 3; have be4 := be.set4 (.int .u8 (3)) (.bool false) (.int .i64 u) (.string ⟨#[]⟩); have bed0 := be4.1; have bed1 := be4.2.1; have bed2 := be4.2.2.1; have bed3 := be4.2.2.2; have Y1s := Lib.hid (Y1.set4 (g := w.heap.size + 1) (by simp) (.int .u8 (3)) (.bool false) (.int .i64 u) (.string ⟨#[]⟩)); clear be4; have m2 : True := trivial)
          | (have z := m2; clear z m2; go_at_call 52; refine (refInt_any _ _).mono ?_; rintro r w2 ⟨rfl, x2⟩; have Y2 : Ext (w.alloc (.cells #[.int .u8 0, .bool false, .int .i64 0, .string ⟨#[]⟩] 24)) w2 := Y1s.out.trans x2; have bg : Bk w2 (w.heap.size + 1) 24 #[.int .u8 3, .bool false, .int .i64 u, .string ⟨#[]⟩] := ((((be.set 0 _).set 1 _).set 2 _).set 3 _).ext x2; have s2 := Y2.size; have bgf0 : w2.frozen? ⟨w.heap.size + 1, 0, none⟩ = false := bg.free 0; have bgf1 : w2.frozen? ⟨w.heap.size + 1, 1, none⟩ = false := bg.free 1; have bgf2 : w2.frozen? ⟨w.heap.size + 1, 2, none⟩ = false := bg.free 2; have bgf3 : w2.frozen? ⟨w.heap.size + 1, 3, none⟩ = false := bg.free 3; have bg0 : w2.cell? ⟨w.heap.size + 1, 0, none⟩ = some (.int .u8 (3)) := bg.cell 0; have bg1 : w2.cell? ⟨w.heap.size + 1, 1, none⟩ = some (.bool (false)) := bg.cell 1; have bg2 : w2.cell? ⟨w.heap.size + 1, 2, none⟩ = some (.int .i64 (u)) := bg.cell 2; have bg3 : w2.cell? ⟨w.heap.size + 1, 3, none⟩ = some (.string (⟨#[]⟩)) := bg.cell 3; have bg4 := bg.set4 (.int .u8 (3)) (.bool false) (.int .i64 v) (.string ⟨#[]⟩); have bgd0 := bg4.1; have bgd1 := bg4.2.1; have bgd2 := bg4.2.2.1; have bgd3 := bg4.2.2.2; have Y2s := Lib.hid (Y2.set4 (g := w.heap.size + 1) (by simp) (.int .u8 (3)) (.bool false) (.int .i64 v) (.string ⟨#[]⟩)); clear bg4)
          | (go_at_call 38; refine (rcheckK _ HC2 (by decide)).mono ?_; rintro r w3 ⟨rfl, x3⟩; have Y3 : Ext (w.alloc (.cells #[.int .u8 0, .bool false, .int .i64 0, .string ⟨#[]⟩] 24)) w3 := Y2s.out.trans x3; have bi : Bk w3 (w.heap.size + 1) 24 #[.int .u8 3, .bool false, .int .i64 v, .string ⟨#[]⟩] := ((((bg.set 0 _).set 1 _).set 2 _).set 3 _).ext x3; have bi0 : w3.cell? ⟨w.heap.size + 1, 0, none⟩ = some (.int .u8 (3)) := bi.cell 0; have bi1 : w3.cell? ⟨w.heap.size + 1, 1, none⟩ = some (.bool (false)) := bi.cell 1; have bi2 : w3.cell? ⟨w.heap.size + 1, 2, none⟩ = some (.int .i64 (v)) := bi.cell 2; have bi3 : w3.cell? ⟨w.heap.size + 1, 3, none⟩ = some (.string (⟨#[]⟩)) := bi.cell 3)
          | (go_at_call 41; refine (rprintK _ HP (by decide) HN.out).mono ?_; rintro r w4 ⟨rfl, x4⟩; have Y4 : Ext (w.alloc (.cells #[.int .u8 0, .bool false, .int .i64 0, .string ⟨#[]⟩] 24)) w4 := Y3.trans x4; have bj : Bk w4 (w.heap.size + 1) 24 #[.int .u8 3, .bool false, .int .i64 v, .string ⟨#[]⟩] := bi.ext x4; have bh : Bk w4 w.heap.size 24 #[.int .u8 0, .bool false, .int .i64 0, .string ⟨#[]⟩] := (Bk.new w _ _).ext Y4; have bj0 : w4.cell? ⟨w.heap.size + 1, 0, none⟩ = some (.int .u8 (3)) := bj.cell 0; have bj1 : w4.cell? ⟨w.heap.size + 1, 1, none⟩ = some (.bool (false)) := bj.cell 1; have bj2 : w4.cell? ⟨w.heap.size + 1, 2, none⟩ = some (.int .i64 (v)) := bj.cell 2; have bj3 : w4.cell? ⟨w.heap.size + 1, 3, none⟩ = some (.string (⟨#[]⟩)) := bj.cell 3; have bhf0 : w4.frozen? ⟨w.heap.size, 0, none⟩ = false := bh.free 0; have bhf1 : w4.frozen? ⟨w.heap.size, 1, none⟩ = false := bh.free 1; have bhf2 : w4.frozen? ⟨w.heap.size, 2, none⟩ = false := bh.free 2; have bhf3 : w4.frozen? ⟨w.heap.size, 3, none⟩ = false := bh.free 3; have bh0 : w4.cell? ⟨w.heap.size, 0, none⟩ = some (.int .u8 (0)) := bh.cell 0; have bh1 : w4.cell? ⟨w.heap.size, 1, none⟩ = some (.bool (false)) := bh.cell 1; have bh2 : w4.cell? ⟨w.heap.size, 2, none⟩ = some (.int .i64 (0)) := bh.cell 2; have bh3 : w4.cell? ⟨w.heap.size, 3, none⟩ = some (.string (⟨#[]⟩)) := bh.cell 3))
        have q := bh.set4 (.int .u8 (3)) (.bool (false)) (.int .i64 (v)) (.string (⟨#[]⟩)); refine bodyPost_ret (v := .tuple #[.agg #[.int .u8 (3), .bool (false), .int .i64 (v), .string (⟨#[]⟩)], .int .i64 (0)]) (by simp [results, Tryd.results50, go_sem, q.1, q.2.1, q.2.2.1, q.2.2.2]) rfl ⟨⟨3, false, v, ⟨#[]⟩⟩, 0, parse_on ⟨HC2.out, HN.out⟩ HP.out, rfl, Ext.set4 (((Ext.refl w).alloc _).trans Y4) (by first | omega | simp) _ _ _ _⟩
      · obtain ⟨p, hpp⟩ : ∃ p, printT 3 false v ⟨#[]⟩ = p := ⟨_, rfl⟩
        have HNo : Hid (¬ (Ok ⟨3, false, v, ⟨#[]⟩⟩ ∧ printT 3 false v ⟨#[]⟩ = s)) := Lib.hid fun h => hp h.2
        rw [hpp] at hp
        have HP := Lib.hid hpp
        have hpl : ¬ p.toList = s.toList := fun h => hp (data_inj (by rw [Lib.toList_data, Lib.toList_data] at h; exact h))
        have zp : (!(p.toList == s.toList)) = true := by simpa using hpl
        have zq : (p.toList == s.toList) = false := by simpa using hpl
        clear hpp
        have m1 : True := trivial
        go_wp2_with (first
          | (have z := m1; clear z m1; go_at_call 52; refine (refInt_any _ _).mono ?_; rintro r w1 ⟨rfl, x1⟩; have Y1 : Ext (w.alloc (.cells #[.int .u8 0, .bool false, .int .i64 0, .string ⟨#[]⟩] 24)) w1 := E0.trans x1; have be : Bk w1 (w.heap.size + 1) 24 #[.int .u8 0, .bool false, .int .i64 0, .string ⟨#[]⟩] := bd.ext x1; have s1 := Y1.size; have bef0 : w1.frozen? ⟨w.heap.size + 1, 0, none⟩ = false := be.free 0; have bef1 : w1.frozen? ⟨w.heap.size + 1, 1, none⟩ = false := be.free 1; have bef2 : w1.frozen? ⟨w.heap.size + 1, 2, none⟩ = false := be.free 2; have bef3 : w1.frozen? ⟨w.heap.size + 1, 3, none⟩ = false := be.free 3; have be0 : w1.cell? ⟨w.heap.size + 1, 0, none⟩ = some (.int .u8 (0)) := be.cell 0; have be1 : w1.cell? ⟨w.heap.size + 1, 1, none⟩ = some (.bool (false)) := be.cell 1; have be2 : w1.cell? ⟨w.heap.size + 1, 2, none⟩ = some (.int .i64 (0)) := be.cell 2; have be3 : w1.cell? ⟨w.heap.size + 1, 3, none⟩ = some (.string (⟨#[]⟩)) := be.cell 3; have be4 := be.set4 (.int .u8 (3)) (.bool false) (.int .i64 u) (.string ⟨#[]⟩); have bed0 := be4.1; have bed1 := be4.2.1; have bed2 := be4.2.2.1; have bed3 := be4.2.2.2; have Y1s := Lib.hid (Y1.set4 (g := w.heap.size + 1) (by simp) (.int .u8 (3)) (.bool false) (.int .i64 u) (.string ⟨#[]⟩)); clear be4; have m2 : True := trivial)
          | (have z := m2; clear z m2; go_at_call 52; refine (refInt_any _ _).mono ?_; rintro r w2 ⟨rfl, x2⟩; have Y2 : Ext (w.alloc (.cells #[.int .u8 0, .bool false, .int .i64 0, .string ⟨#[]⟩] 24)) w2 := Y1s.out.trans x2; have bg : Bk w2 (w.heap.size + 1) 24 #[.int .u8 3, .bool false, .int .i64 u, .string ⟨#[]⟩] := ((((be.set 0 _).set 1 _).set 2 _).set 3 _).ext x2; have s2 := Y2.size; have bgf0 : w2.frozen? ⟨w.heap.size + 1, 0, none⟩ = false := bg.free 0; have bgf1 : w2.frozen? ⟨w.heap.size + 1, 1, none⟩ = false := bg.free 1; have bgf2 : w2.frozen? ⟨w.heap.size + 1, 2, none⟩ = false := bg.free 2; have bgf3 : w2.frozen? ⟨w.heap.size + 1, 3, none⟩ = false := bg.free 3; have bg0 : w2.cell? ⟨w.heap.size + 1, 0, none⟩ = some (.int .u8 (3)) := bg.cell 0; have bg1 : w2.cell? ⟨w.heap.size + 1, 1, none⟩ = some (.bool (false)) := bg.cell 1; have bg2 : w2.cell? ⟨w.heap.size + 1, 2, none⟩ = some (.int .i64 (u)) := bg.cell 2; have bg3 : w2.cell? ⟨w.heap.size + 1, 3, none⟩ = some (.string (⟨#[]⟩)) := bg.cell 3; have bg4 := bg.set4 (.int .u8 (3)) (.bool false) (.int .i64 v) (.string ⟨#[]⟩); have bgd0 := bg4.1; have bgd1 := bg4.2.1; have bgd2 := bg4.2.2.1; have bgd3 := bg4.2.2.2; have Y2s := Lib.hid (Y2.set4 (g := w.heap.size + 1) (by simp) (.int .u8 (3)) (.bool false) (.int .i64 v) (.string ⟨#[]⟩)); clear bg4)
          | (go_at_call 38; refine (rcheckK _ HC2 (by decide)).mono ?_; rintro r w3 ⟨rfl, x3⟩; have Y3 : Ext (w.alloc (.cells #[.int .u8 0, .bool false, .int .i64 0, .string ⟨#[]⟩] 24)) w3 := Y2s.out.trans x3; have bi : Bk w3 (w.heap.size + 1) 24 #[.int .u8 3, .bool false, .int .i64 v, .string ⟨#[]⟩] := ((((bg.set 0 _).set 1 _).set 2 _).set 3 _).ext x3; have bi0 : w3.cell? ⟨w.heap.size + 1, 0, none⟩ = some (.int .u8 (3)) := bi.cell 0; have bi1 : w3.cell? ⟨w.heap.size + 1, 1, none⟩ = some (.bool (false)) := bi.cell 1; have bi2 : w3.cell? ⟨w.heap.size + 1, 2, none⟩ = some (.int .i64 (v)) := bi.cell 2; have bi3 : w3.cell? ⟨w.heap.size + 1, 3, none⟩ = some (.string (⟨#[]⟩)) := bi.cell 3)
          | (go_at_call 41; refine (rprintK _ HP (by decide) HN.out).mono ?_; rintro r w4 ⟨rfl, x4⟩; have Y4 : Ext (w.alloc (.cells #[.int .u8 0, .bool false, .int .i64 0, .string ⟨#[]⟩] 24)) w4 := Y3.trans x4; have bj : Bk w4 (w.heap.size + 1) 24 #[.int .u8 3, .bool false, .int .i64 v, .string ⟨#[]⟩] := bi.ext x4; have bh : Bk w4 w.heap.size 24 #[.int .u8 0, .bool false, .int .i64 0, .string ⟨#[]⟩] := (Bk.new w _ _).ext Y4; have bj0 : w4.cell? ⟨w.heap.size + 1, 0, none⟩ = some (.int .u8 (3)) := bj.cell 0; have bj1 : w4.cell? ⟨w.heap.size + 1, 1, none⟩ = some (.bool (false)) := bj.cell 1; have bj2 : w4.cell? ⟨w.heap.size + 1, 2, none⟩ = some (.int .i64 (v)) := bj.cell 2; have bj3 : w4.cell? ⟨w.heap.size + 1, 3, none⟩ = some (.string (⟨#[]⟩)) := bj.cell 3; have bhf0 : w4.frozen? ⟨w.heap.size, 0, none⟩ = false := bh.free 0; have bhf1 : w4.frozen? ⟨w.heap.size, 1, none⟩ = false := bh.free 1; have bhf2 : w4.frozen? ⟨w.heap.size, 2, none⟩ = false := bh.free 2; have bhf3 : w4.frozen? ⟨w.heap.size, 3, none⟩ = false := bh.free 3; have bh0 : w4.cell? ⟨w.heap.size, 0, none⟩ = some (.int .u8 (0)) := bh.cell 0; have bh1 : w4.cell? ⟨w.heap.size, 1, none⟩ = some (.bool (false)) := bh.cell 1; have bh2 : w4.cell? ⟨w.heap.size, 2, none⟩ = some (.int .i64 (0)) := bh.cell 2; have bh3 : w4.cell? ⟨w.heap.size, 3, none⟩ = some (.string (⟨#[]⟩)) := bh.cell 3))
        have q := bh.set4 (.int .u8 (0)) (.bool (false)) (.int .i64 (0)) (.string (⟨#[]⟩)); refine bodyPost_ret (v := .tuple #[.agg #[.int .u8 (0), .bool (false), .int .i64 (0), .string (⟨#[]⟩)], .int .i64 (13)]) (by simp [results, Tryd.results50, go_sem, q.1, q.2.1, q.2.2.1, q.2.2.2]) rfl ⟨⟨0, false, 0, ⟨#[]⟩⟩, 13, parse_off HK.out HNo.out, rfl, Ext.set4 (((Ext.refl w).alloc _).trans Y4) (by first | omega | simp) _ _ _ _⟩
set_option maxRecDepth 100000 in
set_option maxHeartbeats 8000000 in
theorem rparse_num_b0 (s : ByteArray) (w : World) (h1 : (s.toList == [110, 117, 108, 108]) = false) (h2 : (s.toList == [116, 114, 117, 101]) = false) (h3 : (s.toList == [102, 97, 108, 115, 101]) = false) (hc : ∀ x : Dat, Ok x → printT x.k x.b x.n x.s = s → ∃ v, In64 v ∧ s.data.toList = Lib.itoa v ∧ x = ⟨3, false, v, ⟨#[]⟩⟩) (h4 : 2 ≤ s.size) (h5 : s[0].toNat = 39) (h6 : ¬ s[s.size - 1].toNat = 39) (h0 : 0 < s.size) (h20 : s.size ≤ 20) (hsg : ¬ s[0].toNat = 45) : Calls Tryd.prog 50 #[.string s] w fun e w' => ∃ d x, ParseRel s d x ∧ RefOut w (d, x) e w' := by
  have HC := Lib.hid hc
  clear hc
  have z5 : ((s[0].toNat : Int) == 39) = true := by simp; omega
  have z6 : ((s[s.size - 1].toNat : Int) == 39) = false := by simp; omega
  have z45 : ((s[0].toNat : Int) == 45) = false := by simp; omega
  go_enter Tryd.func50, Tryd.ntmps50
  go_upto_region 12 with fail
  have bd : Bk ((w.alloc (.cells #[.int .u8 0, .bool false, .int .i64 0, .string ⟨#[]⟩] 24)).alloc (.cells #[.int .u8 0, .bool false, .int .i64 0, .string ⟨#[]⟩] 24)) (w.heap.size + 1) 24 #[.int .u8 0, .bool false, .int .i64 0, .string ⟨#[]⟩] := Bk.at (by simp)
  have E0 : Ext (w.alloc (.cells #[.int .u8 0, .bool false, .int .i64 0, .string ⟨#[]⟩] 24)) ((w.alloc (.cells #[.int .u8 0, .bool false, .int .i64 0, .string ⟨#[]⟩] 24)).alloc (.cells #[.int .u8 0, .bool false, .int .i64 0, .string ⟨#[]⟩] 24)) := (Ext.refl _).alloc _
  obtain ⟨w0, hw0⟩ : ∃ x, x = ((w.alloc (.cells #[.int .u8 0, .bool false, .int .i64 0, .string ⟨#[]⟩] 24)).alloc (.cells #[.int .u8 0, .bool false, .int .i64 0, .string ⟨#[]⟩] 24)) := ⟨_, rfl⟩
  rw [← hw0] at bd E0 ⊢
  clear hw0
  have bz : Bk w0 w.heap.size 24 #[.int .u8 0, .bool false, .int .i64 0, .string ⟨#[]⟩] := (Bk.new w _ _).ext E0
  have E1 : Ext w w0 := ((Ext.refl w).alloc _).trans E0
  have s0 := E0.size
  have bzf0 : w0.frozen? ⟨w.heap.size, 0, none⟩ = false := bz.free 0; have bzf1 : w0.frozen? ⟨w.heap.size, 1, none⟩ = false := bz.free 1; have bzf2 : w0.frozen? ⟨w.heap.size, 2, none⟩ = false := bz.free 2; have bzf3 : w0.frozen? ⟨w.heap.size, 3, none⟩ = false := bz.free 3
  have bz0 : w0.cell? ⟨w.heap.size, 0, none⟩ = some (.int .u8 (0)) := bz.cell 0; have bz1 : w0.cell? ⟨w.heap.size, 1, none⟩ = some (.bool (false)) := bz.cell 1; have bz2 : w0.cell? ⟨w.heap.size, 2, none⟩ = some (.int .i64 (0)) := bz.cell 2; have bz3 : w0.cell? ⟨w.heap.size, 3, none⟩ = some (.string (⟨#[]⟩)) := bz.cell 3
  have bdf0 : w0.frozen? ⟨w.heap.size + 1, 0, none⟩ = false := bd.free 0; have bdf1 : w0.frozen? ⟨w.heap.size + 1, 1, none⟩ = false := bd.free 1; have bdf2 : w0.frozen? ⟨w.heap.size + 1, 2, none⟩ = false := bd.free 2; have bdf3 : w0.frozen? ⟨w.heap.size + 1, 3, none⟩ = false := bd.free 3
  have bd0 : w0.cell? ⟨w.heap.size + 1, 0, none⟩ = some (.int .u8 (0)) := bd.cell 0; have bd1 : w0.cell? ⟨w.heap.size + 1, 1, none⟩ = some (.bool (false)) := bd.cell 1; have bd2 : w0.cell? ⟨w.heap.size + 1, 2, none⟩ = some (.int .i64 (0)) := bd.cell 2; have bd3 : w0.cell? ⟨w.heap.size + 1, 3, none⟩ = some (.string (⟨#[]⟩)) := bd.cell 3
  go_wp2
  have hN : Hid (NoCand s) := Lib.hid fun x hx hp => (by obtain ⟨v, _, q2, _⟩ := HC.out x hx hp; exact not_itoa h0 (fun q => hsg q.2) (by omega) v q2)
  go_loop [7, 8] (fun u v => u = .int .u64 0 ∧ v = .int .i64 0) (fun _ _ => 0)
  case atStart => exact ⟨rfl, rfl⟩
  case round =>
    obtain ⟨rfl, rfl⟩ := hrel
    have y1 : decide ((s[0].toNat : Int) < 48) = true := by simp; omega
    go_wp2
    have q := bz.set4 (.int .u8 (0)) (.bool (false)) (.int .i64 (0)) (.string (⟨#[]⟩)); refine bodyPost_ret (v := .tuple #[.agg #[.int .u8 (0), .bool (false), .int .i64 (0), .string (⟨#[]⟩)], .int .i64 (13)]) (by simp [results, Tryd.results50, go_sem, q.1, q.2.1, q.2.2.1, q.2.2.2]) rfl ⟨⟨0, false, 0, ⟨#[]⟩⟩, 13, .inr ⟨rfl, rfl, hN.out⟩, rfl, Ext.set4 E1 (by first | omega | simp) _ _ _ _⟩
end Go.Proofs.YtobgfegdfcpgfaaDoor
namespace Go.Proofs.YtobgfegdfcpgfaaDoor
open Go.RowKit

set_option maxRecDepth 100000 in
set_option maxHeartbeats 4000000 in
theorem rparse_text (s : ByteArray) (w : World) (hs : s.size ≤ 4000000) (h1 : (s.toList == [110, 117, 108, 108]) = false) (h2 : (s.toList == [116, 114, 117, 101]) = false) (h3 : (s.toList == [102, 97, 108, 115, 101]) = false) (h4 : 2 ≤ s.size) (h5 : s[0].toNat = 39) (h6 : s[s.size - 1].toNat = 39)
    (hc : ∀ (t : ByteArray) (ok : Bool), Unq (s.extract 1 (s.size - 1)) t ok → ∀ x : Dat, Ok x → printT x.k x.b x.n x.s = s → x = ⟨4, false, 0, t⟩ ∧ ok = true) :
    Calls Tryd.prog 50 #[.string s] w fun e w' => ∃ d x, ParseRel s d x ∧ RefOut w (d, x) e w' := by
  have z5 : ((s[0].toNat : Int) == 39) = true := by simp; omega
  have z6 : ((s[s.size - 1].toNat : Int) == 39) = true := by simp; omega
  have hz : (s.extract 1 (s.size - 1)).size ≤ s.size := by simp; omega
  have HZ := Lib.hid hz
  have HC := Lib.hid hc
  clear hc hz
  go_enter Tryd.func50, Tryd.ntmps50
  go_wp2_with fail
  refine (runq_any _ _ (by have := HZ.out; omega)).mono ?_
  rintro e w1 ⟨⟨t, ok, rfl, hu, ht⟩, x1⟩
  have HU := Lib.hid (HC.out t ok hu)
  have ht4 : t.size ≤ 4000000 := by have := HZ.out; omega
  have HT := Lib.hid ht4
  clear hu ht ht4
  have X1 : Ext (w.alloc (.cells #[.int .u8 0, .bool false, .int .i64 0, .string ⟨#[]⟩] 24)) w1 := ((Ext.refl _).alloc _).trans x1
  have bd : Bk w1 (w.heap.size + 1) 24 #[.int .u8 0, .bool false, .int .i64 0, .string ⟨#[]⟩] := (Bk.at (by simp)).ext x1
  have s1 := X1.size
  have bz : Bk w1 w.heap.size 24 #[.int .u8 0, .bool false, .int .i64 0, .string ⟨#[]⟩] := (Bk.new w _ _).ext X1
  cases ok
  · have hN : Hid (NoCand s) := Lib.hid fun x hx hp => (by cases (HU.out x hx hp).2)
    have bzf0 : w1.frozen? ⟨w.heap.size, 0, none⟩ = false := bz.free 0; have bzf1 : w1.frozen? ⟨w.heap.size, 1, none⟩ = false := bz.free 1; have bzf2 : w1.frozen? ⟨w.heap.size, 2, none⟩ = false := bz.free 2; have bzf3 : w1.frozen? ⟨w.heap.size, 3, none⟩ = false := bz.free 3
    have bz0 : w1.cell? ⟨w.heap.size, 0, none⟩ = some (.int .u8 (0)) := bz.cell 0; have bz1 : w1.cell? ⟨w.heap.size, 1, none⟩ = some (.bool (false)) := bz.cell 1; have bz2 : w1.cell? ⟨w.heap.size, 2, none⟩ = some (.int .i64 (0)) := bz.cell 2; have bz3 : w1.cell? ⟨w.heap.size, 3, none⟩ = some (.string (⟨#[]⟩)) := bz.cell 3
    have bd0 : w1.cell? ⟨w.heap.size + 1, 0, none⟩ = some (.int .u8 (0)) := bd.cell 0; have bd1 : w1.cell? ⟨w.heap.size + 1, 1, none⟩ = some (.bool (false)) := bd.cell 1; have bd2 : w1.cell? ⟨w.heap.size + 1, 2, none⟩ = some (.int .i64 (0)) := bd.cell 2; have bd3 : w1.cell? ⟨w.heap.size + 1, 3, none⟩ = some (.string (⟨#[]⟩)) := bd.cell 3
    go_wp2
    have q := bz.set4 (.int .u8 (0)) (.bool (false)) (.int .i64 (0)) (.string (⟨#[]⟩)); refine bodyPost_ret (v := .tuple #[.agg #[.int .u8 (0), .bool (false), .int .i64 (0), .string (⟨#[]⟩)], .int .i64 (13)]) (by simp [results, Tryd.results50, go_sem, q.1, q.2.1, q.2.2.1, q.2.2.2]) rfl ⟨⟨0, false, 0, ⟨#[]⟩⟩, 13, .inr ⟨rfl, rfl, hN.out⟩, rfl, Ext.set4 (((Ext.refl w).alloc _).trans X1) (by first | omega | simp) _ _ _ _⟩
  · have HK : Hid (Cand s ⟨4, false, 0, t⟩) := Lib.hid fun x hx hp => (HU.out x hx hp).1
    have hn : In64 0 := by decide
    have HN := Lib.hid hn
    clear hn
    by_cases hk : checkT 4 false 0 t = 0
    · have HC2 := Lib.hid hk
      clear hk
      by_cases hp : printT 4 false 0 t = s
      · have HP := Lib.hid hp
        clear hp
        go_wp2_with (first
        | (go_at_call 53; refine (refText_any _ _).mono ?_; rintro r w2 ⟨rfl, x2⟩; have Y1 : Ext (w.alloc (.cells #[.int .u8 0, .bool false, .int .i64 0, .string ⟨#[]⟩] 24)) w2 := X1.trans x2; have be : Bk w2 (w.heap.size + 1) 24 #[.int .u8 0, .bool false, .int .i64 0, .string ⟨#[]⟩] := bd.ext x2; have s2 := Y1.size; have bef0 : w2.frozen? ⟨w.heap.size + 1, 0, none⟩ = false := be.free 0; have bef1 : w2.frozen? ⟨w.heap.size + 1, 1, none⟩ = false := be.free 1; have bef2 : w2.frozen? ⟨w.heap.size + 1, 2, none⟩ = false := be.free 2; have bef3 : w2.frozen? ⟨w.heap.size + 1, 3, none⟩ = false := be.free 3; have be0 : w2.cell? ⟨w.heap.size + 1, 0, none⟩ = some (.int .u8 (0)) := be.cell 0; have be1 : w2.cell? ⟨w.heap.size + 1, 1, none⟩ = some (.bool (false)) := be.cell 1; have be2 : w2.cell? ⟨w.heap.size + 1, 2, none⟩ = some (.int .i64 (0)) := be.cell 2; have be3 : w2.cell? ⟨w.heap.size + 1, 3, none⟩ = some (.string (⟨#[]⟩)) := be.cell 3; have be4 := be.set4 (.int .u8 (4)) (.bool false) (.int .i64 0) (.string t); have d0 := be4.1; have d1 := be4.2.1; have d2 := be4.2.2.1; have d3 := be4.2.2.2; have X1s := Lib.hid (Y1.set4 (g := w.heap.size + 1) (by simp) (.int .u8 (4)) (.bool false) (.int .i64 0) (.string t)); clear be4)
        | (go_at_call 38; refine (rcheckK _ HC2 HT.out).mono ?_; rintro r w3 ⟨rfl, x3⟩; have X2 : Ext (w.alloc (.cells #[.int .u8 0, .bool false, .int .i64 0, .string ⟨#[]⟩] 24)) w3 := X1s.out.trans x3; have bf : Bk w3 (w.heap.size + 1) 24 #[.int .u8 4, .bool false, .int .i64 0, .string t] := ((((be.set 0 _).set 1 _).set 2 _).set 3 _).ext x3; have bf0 : w3.cell? ⟨w.heap.size + 1, 0, none⟩ = some (.int .u8 (4)) := bf.cell 0; have bf1 : w3.cell? ⟨w.heap.size + 1, 1, none⟩ = some (.bool (false)) := bf.cell 1; have bf2 : w3.cell? ⟨w.heap.size + 1, 2, none⟩ = some (.int .i64 (0)) := bf.cell 2; have bf3 : w3.cell? ⟨w.heap.size + 1, 3, none⟩ = some (.string (t)) := bf.cell 3)
        | (go_at_call 41; refine (rprintK _ HP HT.out HN.out).mono ?_; rintro r w4 ⟨rfl, x4⟩; have X3 : Ext (w.alloc (.cells #[.int .u8 0, .bool false, .int .i64 0, .string ⟨#[]⟩] 24)) w4 := X2.trans x4; have bg : Bk w4 (w.heap.size + 1) 24 #[.int .u8 4, .bool false, .int .i64 0, .string t] := bf.ext x4; have bh : Bk w4 w.heap.size 24 #[.int .u8 0, .bool false, .int .i64 0, .string ⟨#[]⟩] := (Bk.new w _ _).ext X3; have bg0 : w4.cell? ⟨w.heap.size + 1, 0, none⟩ = some (.int .u8 (4)) := bg.cell 0; have bg1 : w4.cell? ⟨w.heap.size + 1, 1, none⟩ = some (.bool (false)) := bg.cell 1; have bg2 : w4.cell? ⟨w.heap.size + 1, 2, none⟩ = some (.int .i64 (0)) := bg.cell 2; have bg3 : w4.cell? ⟨w.heap.size + 1, 3, none⟩ = some (.string (t)) := bg.cell 3; have bhf0 : w4.frozen? ⟨w.heap.size, 0, none⟩ = false := bh.free 0; have bhf1 : w4.frozen? ⟨w.heap.size, 1, none⟩ = false := bh.free 1; have bhf2 : w4.frozen? ⟨w.heap.size, 2, none⟩ = false := bh.free 2; have bhf3 : w4.frozen? ⟨w.heap.size, 3, none⟩ = false := bh.free 3; have bh0 : w4.cell? ⟨w.heap.size, 0, none⟩ = some (.int .u8 (0)) := bh.cell 0; have bh1 : w4.cell? ⟨w.heap.size, 1, none⟩ = some (.bool (false)) := bh.cell 1; have bh2 : w4.cell? ⟨w.heap.size, 2, none⟩ = some (.int .i64 (0)) := bh.cell 2; have bh3 : w4.cell? ⟨w.heap.size, 3, none⟩ = some (.string (⟨#[]⟩)) := bh.cell 3))
        have q := bh.set4 (.int .u8 (4)) (.bool (false)) (.int .i64 (0)) (.string (t)); refine bodyPost_ret (v := .tuple #[.agg #[.int .u8 (4), .bool (false), .int .i64 (0), .string (t)], .int .i64 (0)]) (by simp [results, Tryd.results50, go_sem, q.1, q.2.1, q.2.2.1, q.2.2.2]) rfl ⟨⟨4, false, 0, t⟩, 0, parse_on ⟨HC2.out, HN.out⟩ HP.out, rfl, Ext.set4 (((Ext.refl w).alloc _).trans X3) (by first | omega | simp) _ _ _ _⟩
      · obtain ⟨p, hpp⟩ : ∃ p, printT 4 false 0 t = p := ⟨_, rfl⟩
        have HNo : Hid (¬ (Ok ⟨4, false, 0, t⟩ ∧ printT 4 false 0 t = s)) := Lib.hid fun h => hp h.2
        rw [hpp] at hp
        have HP := Lib.hid hpp
        have hpl : ¬ p.toList = s.toList := fun h => hp (data_inj (by rw [Lib.toList_data, Lib.toList_data] at h; exact h))
        have zp : (!(p.toList == s.toList)) = true := by simpa using hpl
        have zq : (p.toList == s.toList) = false := by simpa using hpl
        clear hpp
        go_wp2_with (first
        | (go_at_call 53; refine (refText_any _ _).mono ?_; rintro r w2 ⟨rfl, x2⟩; have Y1 : Ext (w.alloc (.cells #[.int .u8 0, .bool false, .int .i64 0, .string ⟨#[]⟩] 24)) w2 := X1.trans x2; have be : Bk w2 (w.heap.size + 1) 24 #[.int .u8 0, .bool false, .int .i64 0, .string ⟨#[]⟩] := bd.ext x2; have s2 := Y1.size; have bef0 : w2.frozen? ⟨w.heap.size + 1, 0, none⟩ = false := be.free 0; have bef1 : w2.frozen? ⟨w.heap.size + 1, 1, none⟩ = false := be.free 1; have bef2 : w2.frozen? ⟨w.heap.size + 1, 2, none⟩ = false := be.free 2; have bef3 : w2.frozen? ⟨w.heap.size + 1, 3, none⟩ = false := be.free 3; have be0 : w2.cell? ⟨w.heap.size + 1, 0, none⟩ = some (.int .u8 (0)) := be.cell 0; have be1 : w2.cell? ⟨w.heap.size + 1, 1, none⟩ = some (.bool (false)) := be.cell 1; have be2 : w2.cell? ⟨w.heap.size + 1, 2, none⟩ = some (.int .i64 (0)) := be.cell 2; have be3 : w2.cell? ⟨w.heap.size + 1, 3, none⟩ = some (.string (⟨#[]⟩)) := be.cell 3; have be4 := be.set4 (.int .u8 (4)) (.bool false) (.int .i64 0) (.string t); have d0 := be4.1; have d1 := be4.2.1; have d2 := be4.2.2.1; have d3 := be4.2.2.2; have X1s := Lib.hid (Y1.set4 (g := w.heap.size + 1) (by simp) (.int .u8 (4)) (.bool false) (.int .i64 0) (.string t)); clear be4)
        | (go_at_call 38; refine (rcheckK _ HC2 HT.out).mono ?_; rintro r w3 ⟨rfl, x3⟩; have X2 : Ext (w.alloc (.cells #[.int .u8 0, .bool false, .int .i64 0, .string ⟨#[]⟩] 24)) w3 := X1s.out.trans x3; have bf : Bk w3 (w.heap.size + 1) 24 #[.int .u8 4, .bool false, .int .i64 0, .string t] := ((((be.set 0 _).set 1 _).set 2 _).set 3 _).ext x3; have bf0 : w3.cell? ⟨w.heap.size + 1, 0, none⟩ = some (.int .u8 (4)) := bf.cell 0; have bf1 : w3.cell? ⟨w.heap.size + 1, 1, none⟩ = some (.bool (false)) := bf.cell 1; have bf2 : w3.cell? ⟨w.heap.size + 1, 2, none⟩ = some (.int .i64 (0)) := bf.cell 2; have bf3 : w3.cell? ⟨w.heap.size + 1, 3, none⟩ = some (.string (t)) := bf.cell 3)
        | (go_at_call 41; refine (rprintK _ HP HT.out HN.out).mono ?_; rintro r w4 ⟨rfl, x4⟩; have X3 : Ext (w.alloc (.cells #[.int .u8 0, .bool false, .int .i64 0, .string ⟨#[]⟩] 24)) w4 := X2.trans x4; have bg : Bk w4 (w.heap.size + 1) 24 #[.int .u8 4, .bool false, .int .i64 0, .string t] := bf.ext x4; have bh : Bk w4 w.heap.size 24 #[.int .u8 0, .bool false, .int .i64 0, .string ⟨#[]⟩] := (Bk.new w _ _).ext X3; have bg0 : w4.cell? ⟨w.heap.size + 1, 0, none⟩ = some (.int .u8 (4)) := bg.cell 0; have bg1 : w4.cell? ⟨w.heap.size + 1, 1, none⟩ = some (.bool (false)) := bg.cell 1; have bg2 : w4.cell? ⟨w.heap.size + 1, 2, none⟩ = some (.int .i64 (0)) := bg.cell 2; have bg3 : w4.cell? ⟨w.heap.size + 1, 3, none⟩ = some (.string (t)) := bg.cell 3; have bhf0 : w4.frozen? ⟨w.heap.size, 0, none⟩ = false := bh.free 0; have bhf1 : w4.frozen? ⟨w.heap.size, 1, none⟩ = false := bh.free 1; have bhf2 : w4.frozen? ⟨w.heap.size, 2, none⟩ = false := bh.free 2; have bhf3 : w4.frozen? ⟨w.heap.size, 3, none⟩ = false := bh.free 3; have bh0 : w4.cell? ⟨w.heap.size, 0, none⟩ = some (.int .u8 (0)) := bh.cell 0; have bh1 : w4.cell? ⟨w.heap.size, 1, none⟩ = some (.bool (false)) := bh.cell 1; have bh2 : w4.cell? ⟨w.heap.size, 2, none⟩ = some (.int .i64 (0)) := bh.cell 2; have bh3 : w4.cell? ⟨w.heap.size, 3, none⟩ = some (.string (⟨#[]⟩)) := bh.cell 3))
        have q := bh.set4 (.int .u8 (0)) (.bool (false)) (.int .i64 (0)) (.string (⟨#[]⟩)); refine bodyPost_ret (v := .tuple #[.agg #[.int .u8 (0), .bool (false), .int .i64 (0), .string (⟨#[]⟩)], .int .i64 (13)]) (by simp [results, Tryd.results50, go_sem, q.1, q.2.1, q.2.2.1, q.2.2.2]) rfl ⟨⟨0, false, 0, ⟨#[]⟩⟩, 13, parse_off HK.out HNo.out, rfl, Ext.set4 (((Ext.refl w).alloc _).trans X3) (by first | omega | simp) _ _ _ _⟩
    · obtain ⟨c, hcc⟩ : ∃ c, checkT 4 false 0 t = c := ⟨_, rfl⟩
      have HNo : Hid (¬ (Ok ⟨4, false, 0, t⟩ ∧ printT 4 false 0 t = s)) := Lib.hid fun h => hk h.1.1
      rw [hcc] at hk
      have HC2 := Lib.hid hcc
      have zc : (c != 0) = true := by simpa using hk
      have zd : (c == 0) = false := by simpa using hk
      clear hcc
      go_wp2_with (first
        | (go_at_call 53; refine (refText_any _ _).mono ?_; rintro r w2 ⟨rfl, x2⟩; have Y1 : Ext (w.alloc (.cells #[.int .u8 0, .bool false, .int .i64 0, .string ⟨#[]⟩] 24)) w2 := X1.trans x2; have be : Bk w2 (w.heap.size + 1) 24 #[.int .u8 0, .bool false, .int .i64 0, .string ⟨#[]⟩] := bd.ext x2; have s2 := Y1.size; have bef0 : w2.frozen? ⟨w.heap.size + 1, 0, none⟩ = false := be.free 0; have bef1 : w2.frozen? ⟨w.heap.size + 1, 1, none⟩ = false := be.free 1; have bef2 : w2.frozen? ⟨w.heap.size + 1, 2, none⟩ = false := be.free 2; have bef3 : w2.frozen? ⟨w.heap.size + 1, 3, none⟩ = false := be.free 3; have be0 : w2.cell? ⟨w.heap.size + 1, 0, none⟩ = some (.int .u8 (0)) := be.cell 0; have be1 : w2.cell? ⟨w.heap.size + 1, 1, none⟩ = some (.bool (false)) := be.cell 1; have be2 : w2.cell? ⟨w.heap.size + 1, 2, none⟩ = some (.int .i64 (0)) := be.cell 2; have be3 : w2.cell? ⟨w.heap.size + 1, 3, none⟩ = some (.string (⟨#[]⟩)) := be.cell 3; have be4 := be.set4 (.int .u8 (4)) (.bool false) (.int .i64 0) (.string t); have d0 := be4.1; have d1 := be4.2.1; have d2 := be4.2.2.1; have d3 := be4.2.2.2; have X1s := Lib.hid (Y1.set4 (g := w.heap.size + 1) (by simp) (.int .u8 (4)) (.bool false) (.int .i64 0) (.string t)); clear be4)
        | (go_at_call 38; refine (rcheckK _ HC2 HT.out).mono ?_; rintro r w3 ⟨rfl, x3⟩; have X2 : Ext (w.alloc (.cells #[.int .u8 0, .bool false, .int .i64 0, .string ⟨#[]⟩] 24)) w3 := X1s.out.trans x3; have bf : Bk w3 (w.heap.size + 1) 24 #[.int .u8 4, .bool false, .int .i64 0, .string t] := ((((be.set 0 _).set 1 _).set 2 _).set 3 _).ext x3; have bf0 : w3.cell? ⟨w.heap.size + 1, 0, none⟩ = some (.int .u8 (4)) := bf.cell 0; have bf1 : w3.cell? ⟨w.heap.size + 1, 1, none⟩ = some (.bool (false)) := bf.cell 1; have bf2 : w3.cell? ⟨w.heap.size + 1, 2, none⟩ = some (.int .i64 (0)) := bf.cell 2; have bf3 : w3.cell? ⟨w.heap.size + 1, 3, none⟩ = some (.string (t)) := bf.cell 3; have bh : Bk w3 w.heap.size 24 #[.int .u8 0, .bool false, .int .i64 0, .string ⟨#[]⟩] := (Bk.new w _ _).ext X2; have bhf0 : w3.frozen? ⟨w.heap.size, 0, none⟩ = false := bh.free 0; have bhf1 : w3.frozen? ⟨w.heap.size, 1, none⟩ = false := bh.free 1; have bhf2 : w3.frozen? ⟨w.heap.size, 2, none⟩ = false := bh.free 2; have bhf3 : w3.frozen? ⟨w.heap.size, 3, none⟩ = false := bh.free 3; have bh0 : w3.cell? ⟨w.heap.size, 0, none⟩ = some (.int .u8 (0)) := bh.cell 0; have bh1 : w3.cell? ⟨w.heap.size, 1, none⟩ = some (.bool (false)) := bh.cell 1; have bh2 : w3.cell? ⟨w.heap.size, 2, none⟩ = some (.int .i64 (0)) := bh.cell 2; have bh3 : w3.cell? ⟨w.heap.size, 3, none⟩ = some (.string (⟨#[]⟩)) := bh.cell 3))
      have q := bh.set4 (.int .u8 (0)) (.bool (false)) (.int .i64 (0)) (.string (⟨#[]⟩)); refine bodyPost_ret (v := .tuple #[.agg #[.int .u8 (0), .bool (false), .int .i64 (0), .string (⟨#[]⟩)], .int .i64 (13)]) (by simp [results, Tryd.results50, go_sem, q.1, q.2.1, q.2.2.1, q.2.2.2]) rfl ⟨⟨0, false, 0, ⟨#[]⟩⟩, 13, parse_off HK.out HNo.out, rfl, Ext.set4 (((Ext.refl w).alloc _).trans X2) (by first | omega | simp) _ _ _ _⟩
end Go.Proofs.YtobgfegdfcpgfaaDoor
namespace Go.Proofs.YtobgfegdfcpgfaaDoor
open Go.RowKit

theorem rparse_any (s : ByteArray) (w : World) (hs : s.size ≤ 4000000) :
    Calls Tryd.prog 50 #[.string s] w fun e w' => ∃ d x, ParseRel s d x ∧ RefOut w (d, x) e w' := by
  by_cases wnull : s = ⟨#[110, 117, 108, 108]⟩
  · subst wnull
    exact (rparse_null w).mono fun _ _ h => ⟨_, _, parse_on ⟨by decide +kernel, by decide⟩ (by decide +kernel), h⟩
  by_cases wtrue : s = ⟨#[116, 114, 117, 101]⟩
  · subst wtrue
    exact (rparse_true w).mono fun _ _ h => ⟨_, _, parse_on ⟨by decide +kernel, by decide⟩ (by decide +kernel), h⟩
  by_cases wfalse : s = ⟨#[102, 97, 108, 115, 101]⟩
  · subst wfalse
    exact (rparse_false w).mono fun _ _ h => ⟨_, _, parse_on ⟨by decide +kernel, by decide⟩ (by decide +kernel), h⟩
  have h1 := word_no (l := [110, 117, 108, 108]) wnull
  have h2 := word_no (l := [116, 114, 117, 101]) wtrue
  have h3 := word_no (l := [102, 97, 108, 115, 101]) wfalse
  have n1 : ¬ s.data.toList = [110, 117, 108, 108] := fun e => wnull (data_inj e)
  have n2 : ¬ s.data.toList = Lib.formatBool true := fun e => wtrue (data_inj e)
  have n3 : ¬ s.data.toList = Lib.formatBool false := fun e => wfalse (data_inj e)
  have pos : ∀ m, s.data.toList = 39 :: (m ++ [39]) → 0 < s.size := fun m e => by
    have q : s.data.toList.length = s.size := by simp
    rw [e] at q
    simp at q
    omega
  by_cases h4 : 2 ≤ s.size
  · by_cases h5 : s[0].toNat = 39
    · by_cases h6 : s[s.size - 1].toNat = 39
      · exact rparse_text s w hs h1 h2 h3 h4 h5 h6 (fun t ok hu => cand_text (quote_of h4 h5 h6) hu)
      · have hc := cand_itoa n1 n2 n3 (fun m e => h6 (quote_last (pos m e) e).2.2)
        by_cases hz : s.size = 0 ∨ 20 < s.size
        · exact rparse_none_b s w hs h1 h2 h3 hc h4 h5 h6 (by omega)
        · exact rparse_num_b0 s w h1 h2 h3 hc h4 h5 h6 (by omega) (by omega) (by omega)
    · have hc := cand_itoa n1 n2 n3 (fun m e => h5 (quote_last (pos m e) e).2.1)
      by_cases hz : s.size = 0 ∨ 20 < s.size
      · exact rparse_none_a s w hs h1 h2 h3 hc h4 h5 (by omega)
      · by_cases hsg : s[0].toNat = 45
        · exact rparse_num_a1 s w h1 h2 h3 hc h4 h5 (by omega) (by omega) hsg
        · exact rparse_num_a0 s w h1 h2 h3 hc h4 h5 (by omega) (by omega) hsg
  · have hc := cand_itoa n1 n2 n3 (fun m e => h4 (quote_last (pos m e) e).1)
    by_cases hz : s.size = 0 ∨ 20 < s.size
    · exact rparse_none_c s w hs h1 h2 h3 hc (by omega) (by omega)
    · have h0 : 0 < s.size := by omega
      by_cases hsg : s[0].toNat = 45
      · exact rparse_num_c1 s w h1 h2 h3 hc (by omega) h0 (by omega) hsg
      · exact rparse_num_c0 s w h1 h2 h3 hc (by omega) h0 (by omega) hsg
end Go.Proofs.YtobgfegdfcpgfaaDoor
namespace Go.Proofs.YtobgfegdfcpgfaaDoor
open Go.RowKit Go.ChangeShapes Go.WideShapes Go.ChangeAt

theorem star_err : "*" ++ "errors.errorString" = "*errors.errorString" := by decide
theorem row_err (u : TypeId) (h : Tryd.prog.typeName? 3 u = some "*errors.errorString") : u = 142 :=
  typeName_ptr_named (nm := "errors.errorString") (by rw [star_err]; kernel_rfl) (by kernel_rfl) (by decide) u (by rw [star_err]; exact h)
theorem cells_err : Tryd.prog.cellsOf 144 = 1 := by kernel_rfl
theorem cells_str : Tryd.prog.cellsOf 9 = 1 := by kernel_rfl
theorem good3_of {W : World} {a b c d e : String × DataW Unit} (h : laidMet Tryd.prog [a, b, c, d, ("strconv.ErrRange", Rows.laid_strconv_ErrRange), ("strconv.ErrSyntax", Rows.laid_strconv_ErrSyntax), e] W) (G : Good2 W) : Good3 W := by
  have hr := h.tail.tail.tail.tail
  have hs := hr.tail
  have gr : Tryd.prog.globalNamed "strconv.ErrRange" = some 4 := by kernel_rfl
  have gs : Tryd.prog.globalNamed "strconv.ErrSyntax" = some 3 := by kernel_rfl
  obtain ⟨a1, _, v1, _⟩ := laid_sentinel hr gr (by kernel_rfl) Tryd.underlying79 row_err Tryd.underlying142 Tryd.underlying144 rfl rfl Tryd.underlying9 cells_err cells_str
  obtain ⟨a2, _, v2, _⟩ := laid_sentinel hs gs (by kernel_rfl) Tryd.underlying79 row_err Tryd.underlying142 Tryd.underlying144 rfl rfl Tryd.underlying9 cells_err cells_str
  exact ⟨G, ⟨_, _, by simpa using World.var?_cell gs v2 0⟩, ⟨_, _, by simpa using World.var?_cell gr v1 0⟩⟩
end Go.Proofs.YtobgfegdfcpgfaaDoor
