/- strconv.FormatUint at base 16 of the control bytes. Conditions: the library's tables stand. -/
import Derived.Test.YtobgfegdfcpgfaaDoorGood2
import Derived.Laws.BytesString
import Derived.Laws.Cells
namespace Go.Proofs.YtobgfegdfcpgfaaDoor
open Go.RowKit

theorem push_all : ∀ (ns : List Int) (r : ByteArray), ns.foldl (fun r n => r.push (UInt8.ofNat n.toNat)) r = ⟨(r.data.toList ++ ns.map fun n => UInt8.ofNat n.toNat).toArray⟩
  | [], r => by simp
  | n :: ns, r => by
    rw [List.foldl_cons, push_all ns]
    simp
/-- '[]byte' made a string, out of the block just made -/
theorem conv_fresh (w : World) (t : TypeId) (cs : Array Value) (off n cap : Nat) (ns : List Int) (h : (cs.toList.drop off).take n = ns.map (Value.int .u8)) (hn : ns.length = n) :
    Sem.run Tryd.prog (convert 89 9 (.slice (some ⟨w.heap.size, off, none⟩) n cap)) (w.alloc (.cells cs t)) = .ok (.string ⟨(ns.map fun n => UInt8.ofNat n.toNat).toArray⟩) (w.alloc (.cells cs t)) := by
  rw [run_convert_bytes_string _ _ _ _ _ _ _ under_bytes Tryd.underlying5 under_string]
  have hb : Bk (w.alloc (.cells cs t)) w.heap.size t cs := Bk.new w t cs
  have hl : (ns.map (Value.int .u8)).length = n := by simpa using hn
  have hr := run_loadCells_list (P := Tryd.prog) (w := w.alloc (.cells cs t)) ⟨w.heap.size, off, none⟩ (ns.map (Value.int .u8)) (fun j v hj => by
    rw [show (⟨w.heap.size, off, none⟩ : Addr).add j = ⟨w.heap.size, off + j, none⟩ by unfold Addr.add; split <;> simp_all, hb.cell, ← Array.getElem?_toList]
    rw [← h, List.getElem?_take] at hj
    split at hj
    · rw [List.getElem?_drop] at hj; exact hj
    · cases hj)
  rw [hl] at hr
  rw [run_bytesToString _ _ _ _ ns hr, push_all]
  rfl

set_option maxRecDepth 100000 in
set_option maxHeartbeats 1000000 in
theorem bits_0 (w : World) (G : Good2 w) : Calls Tryd.prog 111 #[.slice none 0 0, .int .u64 0, .int .i64 16, .bool false, .bool false] w fun e w' => e = .returned (.tuple #[.slice none 0 0, .string ⟨#[48]⟩]) ∧ Ext w w' := by
  go_enter Tryd.func111, Tryd.ntmps111
  go_wp2_with (first
    | (go_at_call 126; refine (pow2_16 _).mono ?_; rintro e w1 ⟨rfl, rfl⟩)
    | (go_at_call 127; refine (tz_16 _ (by exact G.ext ((Ext.refl _).alloc _))).mono ?_; rintro e w1 ⟨rfl, rfl⟩))
  go_rounds 1
  rw [conv_fresh _ _ _ 64 1 1 [48] (by kernel_rfl) rfl]
  simp only [Result.andThen]
  rw [Oper.upon_value]
  go_wp2
  go_ret2
  exact ⟨rfl, (Ext.refl w).alloc _⟩
set_option maxRecDepth 100000 in
set_option maxHeartbeats 1000000 in
theorem bits_1 (w : World) (G : Good2 w) : Calls Tryd.prog 111 #[.slice none 0 0, .int .u64 1, .int .i64 16, .bool false, .bool false] w fun e w' => e = .returned (.tuple #[.slice none 0 0, .string ⟨#[49]⟩]) ∧ Ext w w' := by
  go_enter Tryd.func111, Tryd.ntmps111
  go_wp2_with (first
    | (go_at_call 126; refine (pow2_16 _).mono ?_; rintro e w1 ⟨rfl, rfl⟩)
    | (go_at_call 127; refine (tz_16 _ (by exact G.ext ((Ext.refl _).alloc _))).mono ?_; rintro e w1 ⟨rfl, rfl⟩))
  go_rounds 1
  rw [conv_fresh _ _ _ 64 1 1 [49] (by kernel_rfl) rfl]
  simp only [Result.andThen]
  rw [Oper.upon_value]
  go_wp2
  go_ret2
  exact ⟨rfl, (Ext.refl w).alloc _⟩
set_option maxRecDepth 100000 in
set_option maxHeartbeats 1000000 in
theorem bits_2 (w : World) (G : Good2 w) : Calls Tryd.prog 111 #[.slice none 0 0, .int .u64 2, .int .i64 16, .bool false, .bool false] w fun e w' => e = .returned (.tuple #[.slice none 0 0, .string ⟨#[50]⟩]) ∧ Ext w w' := by
  go_enter Tryd.func111, Tryd.ntmps111
  go_wp2_with (first
    | (go_at_call 126; refine (pow2_16 _).mono ?_; rintro e w1 ⟨rfl, rfl⟩)
    | (go_at_call 127; refine (tz_16 _ (by exact G.ext ((Ext.refl _).alloc _))).mono ?_; rintro e w1 ⟨rfl, rfl⟩))
  go_rounds 1
  rw [conv_fresh _ _ _ 64 1 1 [50] (by kernel_rfl) rfl]
  simp only [Result.andThen]
  rw [Oper.upon_value]
  go_wp2
  go_ret2
  exact ⟨rfl, (Ext.refl w).alloc _⟩
set_option maxRecDepth 100000 in
set_option maxHeartbeats 1000000 in
theorem bits_3 (w : World) (G : Good2 w) : Calls Tryd.prog 111 #[.slice none 0 0, .int .u64 3, .int .i64 16, .bool false, .bool false] w fun e w' => e = .returned (.tuple #[.slice none 0 0, .string ⟨#[51]⟩]) ∧ Ext w w' := by
  go_enter Tryd.func111, Tryd.ntmps111
  go_wp2_with (first
    | (go_at_call 126; refine (pow2_16 _).mono ?_; rintro e w1 ⟨rfl, rfl⟩)
    | (go_at_call 127; refine (tz_16 _ (by exact G.ext ((Ext.refl _).alloc _))).mono ?_; rintro e w1 ⟨rfl, rfl⟩))
  go_rounds 1
  rw [conv_fresh _ _ _ 64 1 1 [51] (by kernel_rfl) rfl]
  simp only [Result.andThen]
  rw [Oper.upon_value]
  go_wp2
  go_ret2
  exact ⟨rfl, (Ext.refl w).alloc _⟩
set_option maxRecDepth 100000 in
set_option maxHeartbeats 1000000 in
theorem bits_4 (w : World) (G : Good2 w) : Calls Tryd.prog 111 #[.slice none 0 0, .int .u64 4, .int .i64 16, .bool false, .bool false] w fun e w' => e = .returned (.tuple #[.slice none 0 0, .string ⟨#[52]⟩]) ∧ Ext w w' := by
  go_enter Tryd.func111, Tryd.ntmps111
  go_wp2_with (first
    | (go_at_call 126; refine (pow2_16 _).mono ?_; rintro e w1 ⟨rfl, rfl⟩)
    | (go_at_call 127; refine (tz_16 _ (by exact G.ext ((Ext.refl _).alloc _))).mono ?_; rintro e w1 ⟨rfl, rfl⟩))
  go_rounds 1
  rw [conv_fresh _ _ _ 64 1 1 [52] (by kernel_rfl) rfl]
  simp only [Result.andThen]
  rw [Oper.upon_value]
  go_wp2
  go_ret2
  exact ⟨rfl, (Ext.refl w).alloc _⟩
set_option maxRecDepth 100000 in
set_option maxHeartbeats 1000000 in
theorem bits_5 (w : World) (G : Good2 w) : Calls Tryd.prog 111 #[.slice none 0 0, .int .u64 5, .int .i64 16, .bool false, .bool false] w fun e w' => e = .returned (.tuple #[.slice none 0 0, .string ⟨#[53]⟩]) ∧ Ext w w' := by
  go_enter Tryd.func111, Tryd.ntmps111
  go_wp2_with (first
    | (go_at_call 126; refine (pow2_16 _).mono ?_; rintro e w1 ⟨rfl, rfl⟩)
    | (go_at_call 127; refine (tz_16 _ (by exact G.ext ((Ext.refl _).alloc _))).mono ?_; rintro e w1 ⟨rfl, rfl⟩))
  go_rounds 1
  rw [conv_fresh _ _ _ 64 1 1 [53] (by kernel_rfl) rfl]
  simp only [Result.andThen]
  rw [Oper.upon_value]
  go_wp2
  go_ret2
  exact ⟨rfl, (Ext.refl w).alloc _⟩
set_option maxRecDepth 100000 in
set_option maxHeartbeats 1000000 in
theorem bits_6 (w : World) (G : Good2 w) : Calls Tryd.prog 111 #[.slice none 0 0, .int .u64 6, .int .i64 16, .bool false, .bool false] w fun e w' => e = .returned (.tuple #[.slice none 0 0, .string ⟨#[54]⟩]) ∧ Ext w w' := by
  go_enter Tryd.func111, Tryd.ntmps111
  go_wp2_with (first
    | (go_at_call 126; refine (pow2_16 _).mono ?_; rintro e w1 ⟨rfl, rfl⟩)
    | (go_at_call 127; refine (tz_16 _ (by exact G.ext ((Ext.refl _).alloc _))).mono ?_; rintro e w1 ⟨rfl, rfl⟩))
  go_rounds 1
  rw [conv_fresh _ _ _ 64 1 1 [54] (by kernel_rfl) rfl]
  simp only [Result.andThen]
  rw [Oper.upon_value]
  go_wp2
  go_ret2
  exact ⟨rfl, (Ext.refl w).alloc _⟩
set_option maxRecDepth 100000 in
set_option maxHeartbeats 1000000 in
theorem bits_7 (w : World) (G : Good2 w) : Calls Tryd.prog 111 #[.slice none 0 0, .int .u64 7, .int .i64 16, .bool false, .bool false] w fun e w' => e = .returned (.tuple #[.slice none 0 0, .string ⟨#[55]⟩]) ∧ Ext w w' := by
  go_enter Tryd.func111, Tryd.ntmps111
  go_wp2_with (first
    | (go_at_call 126; refine (pow2_16 _).mono ?_; rintro e w1 ⟨rfl, rfl⟩)
    | (go_at_call 127; refine (tz_16 _ (by exact G.ext ((Ext.refl _).alloc _))).mono ?_; rintro e w1 ⟨rfl, rfl⟩))
  go_rounds 1
  rw [conv_fresh _ _ _ 64 1 1 [55] (by kernel_rfl) rfl]
  simp only [Result.andThen]
  rw [Oper.upon_value]
  go_wp2
  go_ret2
  exact ⟨rfl, (Ext.refl w).alloc _⟩
set_option maxRecDepth 100000 in
set_option maxHeartbeats 1000000 in
theorem bits_8 (w : World) (G : Good2 w) : Calls Tryd.prog 111 #[.slice none 0 0, .int .u64 8, .int .i64 16, .bool false, .bool false] w fun e w' => e = .returned (.tuple #[.slice none 0 0, .string ⟨#[56]⟩]) ∧ Ext w w' := by
  go_enter Tryd.func111, Tryd.ntmps111
  go_wp2_with (first
    | (go_at_call 126; refine (pow2_16 _).mono ?_; rintro e w1 ⟨rfl, rfl⟩)
    | (go_at_call 127; refine (tz_16 _ (by exact G.ext ((Ext.refl _).alloc _))).mono ?_; rintro e w1 ⟨rfl, rfl⟩))
  go_rounds 1
  rw [conv_fresh _ _ _ 64 1 1 [56] (by kernel_rfl) rfl]
  simp only [Result.andThen]
  rw [Oper.upon_value]
  go_wp2
  go_ret2
  exact ⟨rfl, (Ext.refl w).alloc _⟩
set_option maxRecDepth 100000 in
set_option maxHeartbeats 1000000 in
theorem bits_9 (w : World) (G : Good2 w) : Calls Tryd.prog 111 #[.slice none 0 0, .int .u64 9, .int .i64 16, .bool false, .bool false] w fun e w' => e = .returned (.tuple #[.slice none 0 0, .string ⟨#[57]⟩]) ∧ Ext w w' := by
  go_enter Tryd.func111, Tryd.ntmps111
  go_wp2_with (first
    | (go_at_call 126; refine (pow2_16 _).mono ?_; rintro e w1 ⟨rfl, rfl⟩)
    | (go_at_call 127; refine (tz_16 _ (by exact G.ext ((Ext.refl _).alloc _))).mono ?_; rintro e w1 ⟨rfl, rfl⟩))
  go_rounds 1
  rw [conv_fresh _ _ _ 64 1 1 [57] (by kernel_rfl) rfl]
  simp only [Result.andThen]
  rw [Oper.upon_value]
  go_wp2
  go_ret2
  exact ⟨rfl, (Ext.refl w).alloc _⟩
set_option maxRecDepth 100000 in
set_option maxHeartbeats 1000000 in
theorem bits_10 (w : World) (G : Good2 w) : Calls Tryd.prog 111 #[.slice none 0 0, .int .u64 10, .int .i64 16, .bool false, .bool false] w fun e w' => e = .returned (.tuple #[.slice none 0 0, .string ⟨#[97]⟩]) ∧ Ext w w' := by
  go_enter Tryd.func111, Tryd.ntmps111
  go_wp2_with (first
    | (go_at_call 126; refine (pow2_16 _).mono ?_; rintro e w1 ⟨rfl, rfl⟩)
    | (go_at_call 127; refine (tz_16 _ (by exact G.ext ((Ext.refl _).alloc _))).mono ?_; rintro e w1 ⟨rfl, rfl⟩))
  go_rounds 1
  rw [conv_fresh _ _ _ 64 1 1 [97] (by kernel_rfl) rfl]
  simp only [Result.andThen]
  rw [Oper.upon_value]
  go_wp2
  go_ret2
  exact ⟨rfl, (Ext.refl w).alloc _⟩
set_option maxRecDepth 100000 in
set_option maxHeartbeats 1000000 in
theorem bits_11 (w : World) (G : Good2 w) : Calls Tryd.prog 111 #[.slice none 0 0, .int .u64 11, .int .i64 16, .bool false, .bool false] w fun e w' => e = .returned (.tuple #[.slice none 0 0, .string ⟨#[98]⟩]) ∧ Ext w w' := by
  go_enter Tryd.func111, Tryd.ntmps111
  go_wp2_with (first
    | (go_at_call 126; refine (pow2_16 _).mono ?_; rintro e w1 ⟨rfl, rfl⟩)
    | (go_at_call 127; refine (tz_16 _ (by exact G.ext ((Ext.refl _).alloc _))).mono ?_; rintro e w1 ⟨rfl, rfl⟩))
  go_rounds 1
  rw [conv_fresh _ _ _ 64 1 1 [98] (by kernel_rfl) rfl]
  simp only [Result.andThen]
  rw [Oper.upon_value]
  go_wp2
  go_ret2
  exact ⟨rfl, (Ext.refl w).alloc _⟩
set_option maxRecDepth 100000 in
set_option maxHeartbeats 1000000 in
theorem bits_12 (w : World) (G : Good2 w) : Calls Tryd.prog 111 #[.slice none 0 0, .int .u64 12, .int .i64 16, .bool false, .bool false] w fun e w' => e = .returned (.tuple #[.slice none 0 0, .string ⟨#[99]⟩]) ∧ Ext w w' := by
  go_enter Tryd.func111, Tryd.ntmps111
  go_wp2_with (first
    | (go_at_call 126; refine (pow2_16 _).mono ?_; rintro e w1 ⟨rfl, rfl⟩)
    | (go_at_call 127; refine (tz_16 _ (by exact G.ext ((Ext.refl _).alloc _))).mono ?_; rintro e w1 ⟨rfl, rfl⟩))
  go_rounds 1
  rw [conv_fresh _ _ _ 64 1 1 [99] (by kernel_rfl) rfl]
  simp only [Result.andThen]
  rw [Oper.upon_value]
  go_wp2
  go_ret2
  exact ⟨rfl, (Ext.refl w).alloc _⟩
set_option maxRecDepth 100000 in
set_option maxHeartbeats 1000000 in
theorem bits_13 (w : World) (G : Good2 w) : Calls Tryd.prog 111 #[.slice none 0 0, .int .u64 13, .int .i64 16, .bool false, .bool false] w fun e w' => e = .returned (.tuple #[.slice none 0 0, .string ⟨#[100]⟩]) ∧ Ext w w' := by
  go_enter Tryd.func111, Tryd.ntmps111
  go_wp2_with (first
    | (go_at_call 126; refine (pow2_16 _).mono ?_; rintro e w1 ⟨rfl, rfl⟩)
    | (go_at_call 127; refine (tz_16 _ (by exact G.ext ((Ext.refl _).alloc _))).mono ?_; rintro e w1 ⟨rfl, rfl⟩))
  go_rounds 1
  rw [conv_fresh _ _ _ 64 1 1 [100] (by kernel_rfl) rfl]
  simp only [Result.andThen]
  rw [Oper.upon_value]
  go_wp2
  go_ret2
  exact ⟨rfl, (Ext.refl w).alloc _⟩
set_option maxRecDepth 100000 in
set_option maxHeartbeats 1000000 in
theorem bits_14 (w : World) (G : Good2 w) : Calls Tryd.prog 111 #[.slice none 0 0, .int .u64 14, .int .i64 16, .bool false, .bool false] w fun e w' => e = .returned (.tuple #[.slice none 0 0, .string ⟨#[101]⟩]) ∧ Ext w w' := by
  go_enter Tryd.func111, Tryd.ntmps111
  go_wp2_with (first
    | (go_at_call 126; refine (pow2_16 _).mono ?_; rintro e w1 ⟨rfl, rfl⟩)
    | (go_at_call 127; refine (tz_16 _ (by exact G.ext ((Ext.refl _).alloc _))).mono ?_; rintro e w1 ⟨rfl, rfl⟩))
  go_rounds 1
  rw [conv_fresh _ _ _ 64 1 1 [101] (by kernel_rfl) rfl]
  simp only [Result.andThen]
  rw [Oper.upon_value]
  go_wp2
  go_ret2
  exact ⟨rfl, (Ext.refl w).alloc _⟩
set_option maxRecDepth 100000 in
set_option maxHeartbeats 1000000 in
theorem bits_15 (w : World) (G : Good2 w) : Calls Tryd.prog 111 #[.slice none 0 0, .int .u64 15, .int .i64 16, .bool false, .bool false] w fun e w' => e = .returned (.tuple #[.slice none 0 0, .string ⟨#[102]⟩]) ∧ Ext w w' := by
  go_enter Tryd.func111, Tryd.ntmps111
  go_wp2_with (first
    | (go_at_call 126; refine (pow2_16 _).mono ?_; rintro e w1 ⟨rfl, rfl⟩)
    | (go_at_call 127; refine (tz_16 _ (by exact G.ext ((Ext.refl _).alloc _))).mono ?_; rintro e w1 ⟨rfl, rfl⟩))
  go_rounds 1
  rw [conv_fresh _ _ _ 64 1 1 [102] (by kernel_rfl) rfl]
  simp only [Result.andThen]
  rw [Oper.upon_value]
  go_wp2
  go_ret2
  exact ⟨rfl, (Ext.refl w).alloc _⟩
set_option maxRecDepth 100000 in
set_option maxHeartbeats 1000000 in
theorem bits_16 (w : World) (G : Good2 w) : Calls Tryd.prog 111 #[.slice none 0 0, .int .u64 16, .int .i64 16, .bool false, .bool false] w fun e w' => e = .returned (.tuple #[.slice none 0 0, .string ⟨#[49, 48]⟩]) ∧ Ext w w' := by
  go_enter Tryd.func111, Tryd.ntmps111
  go_wp2_with (first
    | (go_at_call 126; refine (pow2_16 _).mono ?_; rintro e w1 ⟨rfl, rfl⟩)
    | (go_at_call 127; refine (tz_16 _ (by exact G.ext ((Ext.refl _).alloc _))).mono ?_; rintro e w1 ⟨rfl, rfl⟩))
  go_rounds 2
  rw [conv_fresh _ _ _ 63 2 2 [49, 48] (by kernel_rfl) rfl]
  simp only [Result.andThen]
  rw [Oper.upon_value]
  go_wp2
  go_ret2
  exact ⟨rfl, (Ext.refl w).alloc _⟩
set_option maxRecDepth 100000 in
set_option maxHeartbeats 1000000 in
theorem bits_17 (w : World) (G : Good2 w) : Calls Tryd.prog 111 #[.slice none 0 0, .int .u64 17, .int .i64 16, .bool false, .bool false] w fun e w' => e = .returned (.tuple #[.slice none 0 0, .string ⟨#[49, 49]⟩]) ∧ Ext w w' := by
  go_enter Tryd.func111, Tryd.ntmps111
  go_wp2_with (first
    | (go_at_call 126; refine (pow2_16 _).mono ?_; rintro e w1 ⟨rfl, rfl⟩)
    | (go_at_call 127; refine (tz_16 _ (by exact G.ext ((Ext.refl _).alloc _))).mono ?_; rintro e w1 ⟨rfl, rfl⟩))
  go_rounds 2
  rw [conv_fresh _ _ _ 63 2 2 [49, 49] (by kernel_rfl) rfl]
  simp only [Result.andThen]
  rw [Oper.upon_value]
  go_wp2
  go_ret2
  exact ⟨rfl, (Ext.refl w).alloc _⟩
set_option maxRecDepth 100000 in
set_option maxHeartbeats 1000000 in
theorem bits_18 (w : World) (G : Good2 w) : Calls Tryd.prog 111 #[.slice none 0 0, .int .u64 18, .int .i64 16, .bool false, .bool false] w fun e w' => e = .returned (.tuple #[.slice none 0 0, .string ⟨#[49, 50]⟩]) ∧ Ext w w' := by
  go_enter Tryd.func111, Tryd.ntmps111
  go_wp2_with (first
    | (go_at_call 126; refine (pow2_16 _).mono ?_; rintro e w1 ⟨rfl, rfl⟩)
    | (go_at_call 127; refine (tz_16 _ (by exact G.ext ((Ext.refl _).alloc _))).mono ?_; rintro e w1 ⟨rfl, rfl⟩))
  go_rounds 2
  rw [conv_fresh _ _ _ 63 2 2 [49, 50] (by kernel_rfl) rfl]
  simp only [Result.andThen]
  rw [Oper.upon_value]
  go_wp2
  go_ret2
  exact ⟨rfl, (Ext.refl w).alloc _⟩
set_option maxRecDepth 100000 in
set_option maxHeartbeats 1000000 in
theorem bits_19 (w : World) (G : Good2 w) : Calls Tryd.prog 111 #[.slice none 0 0, .int .u64 19, .int .i64 16, .bool false, .bool false] w fun e w' => e = .returned (.tuple #[.slice none 0 0, .string ⟨#[49, 51]⟩]) ∧ Ext w w' := by
  go_enter Tryd.func111, Tryd.ntmps111
  go_wp2_with (first
    | (go_at_call 126; refine (pow2_16 _).mono ?_; rintro e w1 ⟨rfl, rfl⟩)
    | (go_at_call 127; refine (tz_16 _ (by exact G.ext ((Ext.refl _).alloc _))).mono ?_; rintro e w1 ⟨rfl, rfl⟩))
  go_rounds 2
  rw [conv_fresh _ _ _ 63 2 2 [49, 51] (by kernel_rfl) rfl]
  simp only [Result.andThen]
  rw [Oper.upon_value]
  go_wp2
  go_ret2
  exact ⟨rfl, (Ext.refl w).alloc _⟩
set_option maxRecDepth 100000 in
set_option maxHeartbeats 1000000 in
theorem bits_20 (w : World) (G : Good2 w) : Calls Tryd.prog 111 #[.slice none 0 0, .int .u64 20, .int .i64 16, .bool false, .bool false] w fun e w' => e = .returned (.tuple #[.slice none 0 0, .string ⟨#[49, 52]⟩]) ∧ Ext w w' := by
  go_enter Tryd.func111, Tryd.ntmps111
  go_wp2_with (first
    | (go_at_call 126; refine (pow2_16 _).mono ?_; rintro e w1 ⟨rfl, rfl⟩)
    | (go_at_call 127; refine (tz_16 _ (by exact G.ext ((Ext.refl _).alloc _))).mono ?_; rintro e w1 ⟨rfl, rfl⟩))
  go_rounds 2
  rw [conv_fresh _ _ _ 63 2 2 [49, 52] (by kernel_rfl) rfl]
  simp only [Result.andThen]
  rw [Oper.upon_value]
  go_wp2
  go_ret2
  exact ⟨rfl, (Ext.refl w).alloc _⟩
set_option maxRecDepth 100000 in
set_option maxHeartbeats 1000000 in
theorem bits_21 (w : World) (G : Good2 w) : Calls Tryd.prog 111 #[.slice none 0 0, .int .u64 21, .int .i64 16, .bool false, .bool false] w fun e w' => e = .returned (.tuple #[.slice none 0 0, .string ⟨#[49, 53]⟩]) ∧ Ext w w' := by
  go_enter Tryd.func111, Tryd.ntmps111
  go_wp2_with (first
    | (go_at_call 126; refine (pow2_16 _).mono ?_; rintro e w1 ⟨rfl, rfl⟩)
    | (go_at_call 127; refine (tz_16 _ (by exact G.ext ((Ext.refl _).alloc _))).mono ?_; rintro e w1 ⟨rfl, rfl⟩))
  go_rounds 2
  rw [conv_fresh _ _ _ 63 2 2 [49, 53] (by kernel_rfl) rfl]
  simp only [Result.andThen]
  rw [Oper.upon_value]
  go_wp2
  go_ret2
  exact ⟨rfl, (Ext.refl w).alloc _⟩
set_option maxRecDepth 100000 in
set_option maxHeartbeats 1000000 in
theorem bits_22 (w : World) (G : Good2 w) : Calls Tryd.prog 111 #[.slice none 0 0, .int .u64 22, .int .i64 16, .bool false, .bool false] w fun e w' => e = .returned (.tuple #[.slice none 0 0, .string ⟨#[49, 54]⟩]) ∧ Ext w w' := by
  go_enter Tryd.func111, Tryd.ntmps111
  go_wp2_with (first
    | (go_at_call 126; refine (pow2_16 _).mono ?_; rintro e w1 ⟨rfl, rfl⟩)
    | (go_at_call 127; refine (tz_16 _ (by exact G.ext ((Ext.refl _).alloc _))).mono ?_; rintro e w1 ⟨rfl, rfl⟩))
  go_rounds 2
  rw [conv_fresh _ _ _ 63 2 2 [49, 54] (by kernel_rfl) rfl]
  simp only [Result.andThen]
  rw [Oper.upon_value]
  go_wp2
  go_ret2
  exact ⟨rfl, (Ext.refl w).alloc _⟩
set_option maxRecDepth 100000 in
set_option maxHeartbeats 1000000 in
theorem bits_23 (w : World) (G : Good2 w) : Calls Tryd.prog 111 #[.slice none 0 0, .int .u64 23, .int .i64 16, .bool false, .bool false] w fun e w' => e = .returned (.tuple #[.slice none 0 0, .string ⟨#[49, 55]⟩]) ∧ Ext w w' := by
  go_enter Tryd.func111, Tryd.ntmps111
  go_wp2_with (first
    | (go_at_call 126; refine (pow2_16 _).mono ?_; rintro e w1 ⟨rfl, rfl⟩)
    | (go_at_call 127; refine (tz_16 _ (by exact G.ext ((Ext.refl _).alloc _))).mono ?_; rintro e w1 ⟨rfl, rfl⟩))
  go_rounds 2
  rw [conv_fresh _ _ _ 63 2 2 [49, 55] (by kernel_rfl) rfl]
  simp only [Result.andThen]
  rw [Oper.upon_value]
  go_wp2
  go_ret2
  exact ⟨rfl, (Ext.refl w).alloc _⟩
set_option maxRecDepth 100000 in
set_option maxHeartbeats 1000000 in
theorem bits_24 (w : World) (G : Good2 w) : Calls Tryd.prog 111 #[.slice none 0 0, .int .u64 24, .int .i64 16, .bool false, .bool false] w fun e w' => e = .returned (.tuple #[.slice none 0 0, .string ⟨#[49, 56]⟩]) ∧ Ext w w' := by
  go_enter Tryd.func111, Tryd.ntmps111
  go_wp2_with (first
    | (go_at_call 126; refine (pow2_16 _).mono ?_; rintro e w1 ⟨rfl, rfl⟩)
    | (go_at_call 127; refine (tz_16 _ (by exact G.ext ((Ext.refl _).alloc _))).mono ?_; rintro e w1 ⟨rfl, rfl⟩))
  go_rounds 2
  rw [conv_fresh _ _ _ 63 2 2 [49, 56] (by kernel_rfl) rfl]
  simp only [Result.andThen]
  rw [Oper.upon_value]
  go_wp2
  go_ret2
  exact ⟨rfl, (Ext.refl w).alloc _⟩
set_option maxRecDepth 100000 in
set_option maxHeartbeats 1000000 in
theorem bits_25 (w : World) (G : Good2 w) : Calls Tryd.prog 111 #[.slice none 0 0, .int .u64 25, .int .i64 16, .bool false, .bool false] w fun e w' => e = .returned (.tuple #[.slice none 0 0, .string ⟨#[49, 57]⟩]) ∧ Ext w w' := by
  go_enter Tryd.func111, Tryd.ntmps111
  go_wp2_with (first
    | (go_at_call 126; refine (pow2_16 _).mono ?_; rintro e w1 ⟨rfl, rfl⟩)
    | (go_at_call 127; refine (tz_16 _ (by exact G.ext ((Ext.refl _).alloc _))).mono ?_; rintro e w1 ⟨rfl, rfl⟩))
  go_rounds 2
  rw [conv_fresh _ _ _ 63 2 2 [49, 57] (by kernel_rfl) rfl]
  simp only [Result.andThen]
  rw [Oper.upon_value]
  go_wp2
  go_ret2
  exact ⟨rfl, (Ext.refl w).alloc _⟩
set_option maxRecDepth 100000 in
set_option maxHeartbeats 1000000 in
theorem bits_26 (w : World) (G : Good2 w) : Calls Tryd.prog 111 #[.slice none 0 0, .int .u64 26, .int .i64 16, .bool false, .bool false] w fun e w' => e = .returned (.tuple #[.slice none 0 0, .string ⟨#[49, 97]⟩]) ∧ Ext w w' := by
  go_enter Tryd.func111, Tryd.ntmps111
  go_wp2_with (first
    | (go_at_call 126; refine (pow2_16 _).mono ?_; rintro e w1 ⟨rfl, rfl⟩)
    | (go_at_call 127; refine (tz_16 _ (by exact G.ext ((Ext.refl _).alloc _))).mono ?_; rintro e w1 ⟨rfl, rfl⟩))
  go_rounds 2
  rw [conv_fresh _ _ _ 63 2 2 [49, 97] (by kernel_rfl) rfl]
  simp only [Result.andThen]
  rw [Oper.upon_value]
  go_wp2
  go_ret2
  exact ⟨rfl, (Ext.refl w).alloc _⟩
set_option maxRecDepth 100000 in
set_option maxHeartbeats 1000000 in
theorem bits_27 (w : World) (G : Good2 w) : Calls Tryd.prog 111 #[.slice none 0 0, .int .u64 27, .int .i64 16, .bool false, .bool false] w fun e w' => e = .returned (.tuple #[.slice none 0 0, .string ⟨#[49, 98]⟩]) ∧ Ext w w' := by
  go_enter Tryd.func111, Tryd.ntmps111
  go_wp2_with (first
    | (go_at_call 126; refine (pow2_16 _).mono ?_; rintro e w1 ⟨rfl, rfl⟩)
    | (go_at_call 127; refine (tz_16 _ (by exact G.ext ((Ext.refl _).alloc _))).mono ?_; rintro e w1 ⟨rfl, rfl⟩))
  go_rounds 2
  rw [conv_fresh _ _ _ 63 2 2 [49, 98] (by kernel_rfl) rfl]
  simp only [Result.andThen]
  rw [Oper.upon_value]
  go_wp2
  go_ret2
  exact ⟨rfl, (Ext.refl w).alloc _⟩
set_option maxRecDepth 100000 in
set_option maxHeartbeats 1000000 in
theorem bits_28 (w : World) (G : Good2 w) : Calls Tryd.prog 111 #[.slice none 0 0, .int .u64 28, .int .i64 16, .bool false, .bool false] w fun e w' => e = .returned (.tuple #[.slice none 0 0, .string ⟨#[49, 99]⟩]) ∧ Ext w w' := by
  go_enter Tryd.func111, Tryd.ntmps111
  go_wp2_with (first
    | (go_at_call 126; refine (pow2_16 _).mono ?_; rintro e w1 ⟨rfl, rfl⟩)
    | (go_at_call 127; refine (tz_16 _ (by exact G.ext ((Ext.refl _).alloc _))).mono ?_; rintro e w1 ⟨rfl, rfl⟩))
  go_rounds 2
  rw [conv_fresh _ _ _ 63 2 2 [49, 99] (by kernel_rfl) rfl]
  simp only [Result.andThen]
  rw [Oper.upon_value]
  go_wp2
  go_ret2
  exact ⟨rfl, (Ext.refl w).alloc _⟩
set_option maxRecDepth 100000 in
set_option maxHeartbeats 1000000 in
theorem bits_29 (w : World) (G : Good2 w) : Calls Tryd.prog 111 #[.slice none 0 0, .int .u64 29, .int .i64 16, .bool false, .bool false] w fun e w' => e = .returned (.tuple #[.slice none 0 0, .string ⟨#[49, 100]⟩]) ∧ Ext w w' := by
  go_enter Tryd.func111, Tryd.ntmps111
  go_wp2_with (first
    | (go_at_call 126; refine (pow2_16 _).mono ?_; rintro e w1 ⟨rfl, rfl⟩)
    | (go_at_call 127; refine (tz_16 _ (by exact G.ext ((Ext.refl _).alloc _))).mono ?_; rintro e w1 ⟨rfl, rfl⟩))
  go_rounds 2
  rw [conv_fresh _ _ _ 63 2 2 [49, 100] (by kernel_rfl) rfl]
  simp only [Result.andThen]
  rw [Oper.upon_value]
  go_wp2
  go_ret2
  exact ⟨rfl, (Ext.refl w).alloc _⟩
set_option maxRecDepth 100000 in
set_option maxHeartbeats 1000000 in
theorem bits_30 (w : World) (G : Good2 w) : Calls Tryd.prog 111 #[.slice none 0 0, .int .u64 30, .int .i64 16, .bool false, .bool false] w fun e w' => e = .returned (.tuple #[.slice none 0 0, .string ⟨#[49, 101]⟩]) ∧ Ext w w' := by
  go_enter Tryd.func111, Tryd.ntmps111
  go_wp2_with (first
    | (go_at_call 126; refine (pow2_16 _).mono ?_; rintro e w1 ⟨rfl, rfl⟩)
    | (go_at_call 127; refine (tz_16 _ (by exact G.ext ((Ext.refl _).alloc _))).mono ?_; rintro e w1 ⟨rfl, rfl⟩))
  go_rounds 2
  rw [conv_fresh _ _ _ 63 2 2 [49, 101] (by kernel_rfl) rfl]
  simp only [Result.andThen]
  rw [Oper.upon_value]
  go_wp2
  go_ret2
  exact ⟨rfl, (Ext.refl w).alloc _⟩
set_option maxRecDepth 100000 in
set_option maxHeartbeats 1000000 in
theorem bits_31 (w : World) (G : Good2 w) : Calls Tryd.prog 111 #[.slice none 0 0, .int .u64 31, .int .i64 16, .bool false, .bool false] w fun e w' => e = .returned (.tuple #[.slice none 0 0, .string ⟨#[49, 102]⟩]) ∧ Ext w w' := by
  go_enter Tryd.func111, Tryd.ntmps111
  go_wp2_with (first
    | (go_at_call 126; refine (pow2_16 _).mono ?_; rintro e w1 ⟨rfl, rfl⟩)
    | (go_at_call 127; refine (tz_16 _ (by exact G.ext ((Ext.refl _).alloc _))).mono ?_; rintro e w1 ⟨rfl, rfl⟩))
  go_rounds 2
  rw [conv_fresh _ _ _ 63 2 2 [49, 102] (by kernel_rfl) rfl]
  simp only [Result.andThen]
  rw [Oper.upon_value]
  go_wp2
  go_ret2
  exact ⟨rfl, (Ext.refl w).alloc _⟩
set_option maxRecDepth 100000 in
set_option maxHeartbeats 1000000 in
theorem bits_127 (w : World) (G : Good2 w) : Calls Tryd.prog 111 #[.slice none 0 0, .int .u64 127, .int .i64 16, .bool false, .bool false] w fun e w' => e = .returned (.tuple #[.slice none 0 0, .string ⟨#[55, 102]⟩]) ∧ Ext w w' := by
  go_enter Tryd.func111, Tryd.ntmps111
  go_wp2_with (first
    | (go_at_call 126; refine (pow2_16 _).mono ?_; rintro e w1 ⟨rfl, rfl⟩)
    | (go_at_call 127; refine (tz_16 _ (by exact G.ext ((Ext.refl _).alloc _))).mono ?_; rintro e w1 ⟨rfl, rfl⟩))
  go_rounds 2
  rw [conv_fresh _ _ _ 63 2 2 [55, 102] (by kernel_rfl) rfl]
  simp only [Result.andThen]
  rw [Oper.upon_value]
  go_wp2
  go_ret2
  exact ⟨rfl, (Ext.refl w).alloc _⟩
def hexS (c : Nat) : ByteArray := if c < 16 then ⟨#[hexD c]⟩ else ⟨#[hexD (c / 16), hexD (c % 16)]⟩
theorem bits_ctrl (c : Nat) (w : World) (h : c < 32 ∨ c = 127) (G : Good2 w) : Calls Tryd.prog 111 #[.slice none 0 0, .int .u64 c, .int .i64 16, .bool false, .bool false] w fun e w' => e = .returned (.tuple #[.slice none 0 0, .string (hexS c)]) ∧ Ext w w' := by
  have hc : c = 0 ∨ c = 1 ∨ c = 2 ∨ c = 3 ∨ c = 4 ∨ c = 5 ∨ c = 6 ∨ c = 7 ∨ c = 8 ∨ c = 9 ∨ c = 10 ∨ c = 11 ∨ c = 12 ∨ c = 13 ∨ c = 14 ∨ c = 15 ∨ c = 16 ∨ c = 17 ∨ c = 18 ∨ c = 19 ∨ c = 20 ∨ c = 21 ∨ c = 22 ∨ c = 23 ∨ c = 24 ∨ c = 25 ∨ c = 26 ∨ c = 27 ∨ c = 28 ∨ c = 29 ∨ c = 30 ∨ c = 31 ∨ c = 127 := by omega
  rcases hc with rfl | rfl | rfl | rfl | rfl | rfl | rfl | rfl | rfl | rfl | rfl | rfl | rfl | rfl | rfl | rfl | rfl | rfl | rfl | rfl | rfl | rfl | rfl | rfl | rfl | rfl | rfl | rfl | rfl | rfl | rfl | rfl | rfl
  · exact bits_0 w G
  · exact bits_1 w G
  · exact bits_2 w G
  · exact bits_3 w G
  · exact bits_4 w G
  · exact bits_5 w G
  · exact bits_6 w G
  · exact bits_7 w G
  · exact bits_8 w G
  · exact bits_9 w G
  · exact bits_10 w G
  · exact bits_11 w G
  · exact bits_12 w G
  · exact bits_13 w G
  · exact bits_14 w G
  · exact bits_15 w G
  · exact bits_16 w G
  · exact bits_17 w G
  · exact bits_18 w G
  · exact bits_19 w G
  · exact bits_20 w G
  · exact bits_21 w G
  · exact bits_22 w G
  · exact bits_23 w G
  · exact bits_24 w G
  · exact bits_25 w G
  · exact bits_26 w G
  · exact bits_27 w G
  · exact bits_28 w G
  · exact bits_29 w G
  · exact bits_30 w G
  · exact bits_31 w G
  · exact bits_127 w G
set_option maxRecDepth 100000 in
set_option maxHeartbeats 400000 in
theorem inner_hex (c : Nat) (w : World) (h : c < 32 ∨ c = 127) (G : Good2 w) : Calls Tryd.prog 113 #[.int .u64 c, .int .i64 16] w fun e w' => e = .returned (.string (hexS c)) ∧ Ext w w' := by
  have H := Lib.hid h
  clear h
  go_enter Tryd.func113, Tryd.ntmps113
  go_wp2_with (go_at_call 111; refine (bits_ctrl c _ H.out G).mono ?_; rintro e w1 ⟨rfl, x1⟩)
  go_ret
  exact ⟨rfl, x1⟩
set_option maxRecDepth 100000 in
set_option maxHeartbeats 400000 in
theorem hex_any (c : Nat) (w : World) (h : c < 32 ∨ c = 127) (G : Good2 w) : Calls Tryd.prog 94 #[.int .u64 c, .int .i64 16] w fun e w' => e = .returned (.string (hexS c)) ∧ Ext w w' := by
  have H := Lib.hid h
  clear h
  go_enter Tryd.func94, Tryd.ntmps94
  go_wp2_with (go_at_call 113; refine (inner_hex c _ H.out G).mono ?_; rintro e w1 ⟨rfl, x1⟩)
  go_ret
  exact ⟨rfl, x1⟩
end Go.Proofs.YtobgfegdfcpgfaaDoor
