/- datum.Concat, Length: what they answer. Conditions: the library's tables stand. -/
import Derived.Test.YtobgfegdfcpgfaaDoorDOps
import Derived.Test.YtobgfegdfcpgfaaDoorLongLaw
import Derived.Test.YtobgfegdfcpgfaaDoorDOrdLaw
import Derived.Lib.OthersKept
import Derived.Laws.Concat
namespace Go.Proofs.YtobgfegdfcpgfaaDoor
open Go.RowKit

theorem of_yes {k : Int} {l : List Dat} (h : ofT k l = (false, 0)) : ∀ d ∈ l, d.check = 0 ∧ d.k = k := by
  intro d hd
  unfold ofT at h
  split at h
  case isFalse => simp at h
  case isTrue ha =>
    have h1 := of_decide_eq_true (List.all_eq_true.1 ha d hd)
    simp at h
    exact ⟨h1.1, h1.2.resolve_right (h d hd)⟩
theorem size_of_check {k n : Int} {b : Bool} {s : ByteArray} (h : checkT k b n s = 0) : s.size ≤ 1000 := by
  rw [checkT_on (form_of h)] at h
  split at h
  · split at h
    · cases h
    · omega
  · cases h
theorem valid_of_check {k n : Int} {b : Bool} {s : ByteArray} (h : checkT k b n s = 0) : validB s = true := by
  rw [checkT_on (form_of h)] at h
  split at h
  · assumption
  · cases h
theorem runes_some {s : ByteArray} (h : validB s = true) : ∃ n, runesO s.data.toList = some n := by
  unfold validB at h
  rw [← runes_valid] at h
  exact Option.isSome_iff_exists.1 h
theorem apply_if (k : Int) (F : FuncId) (caps : Array Value) (g c n : Nat) (l : List Dat) (w : World) (r : Dat × Int) (hent : ∀ args w, Sem.run Tryd.prog (callFunc F args) w = .ok (.enter F args) w) (HF : Hid (ofT k l = (false, 0) → ∀ W, Ext w W → Calls Tryd.prog F caps W (Out W r))) (hn : l.length = n) (hl : n ≤ 1000) (hd : Dats w g l) (hs : ∀ d ∈ l, d.s.size ≤ 9223372036854775807) (G : Good w) :
    Calls Tryd.prog 57 #[.int .u8 k, .func (.func F) #[] caps, .slice (some ⟨g, 0, none⟩) n c] w (Out w (applyR k l r)) := by
  unfold applyR
  rcases ofT_two k l with h | h | h
  · obtain ⟨e, he, h2⟩ := id h
    rw [if_neg (by rw [h2]; exact he)]
    exact apply_off k F caps g c n l w h hn hl hd hs G
  · rw [if_pos (by rw [h]), if_pos (by rw [h])]
    exact apply_null k F caps g c n l w h hn hl hd hs G
  · rw [if_pos (by rw [h]), if_neg (by rw [h]; simp)]
    exact apply_do k F caps g c n l w r hent (Lib.hid (HF.out h)) h hn hl hd hs G

/-! ### Concat -/
def conT (s t : ByteArray) : Dat × Int := if 1000 < s.size + t.size then (Dat.zero, 12) else (Dat.text (s ++ t), 0)
def conR (a b : Dat) : Dat × Int := applyR 4 [a, b] (conT a.s b.s)
set_option maxRecDepth 100000 in
set_option maxHeartbeats 800000 in
theorem con1_any (ga gb : Nat) (s t : ByteArray) (w : World) (hs : s.size ≤ 1000) (ht : t.size ≤ 1000) (ha : w.cell? ⟨ga, 3, none⟩ = some (.string s)) (hb : w.cell? ⟨gb, 3, none⟩ = some (.string t)) (hga : ga < w.heap.size) (hgb : gb < w.heap.size) :
    Calls Tryd.prog 82 #[.pointer (some ⟨ga, 0, none⟩), .pointer (some ⟨gb, 0, none⟩)] w (Out w (conT s t)) := by
  have hn1 : ¬ ga = w.heap.size := by omega
  have hn2 : ¬ gb = w.heap.size := by omega
  unfold conT
  by_cases h : 1000 < s.size + t.size
  · rw [if_pos h]
    go_enter Tryd.func82, Tryd.ntmps82
    go_wp2
    go_returns
    exact ⟨rfl, (Ext.refl w).alloc _⟩
  · rw [if_neg h]
    go_enter Tryd.func82, Tryd.ntmps82
    go_wp2_with (go_at_call 83; refine (text_any _ _).mono ?_; rintro r w1 ⟨rfl, x1⟩; have bz := (Bk.new w 24 #[.int .u8 0, .bool false, .int .i64 0, .string ⟨#[]⟩]).ext x1; have bzf0 : w1.frozen? ⟨w.heap.size, 0, none⟩ = false := bz.free 0; have bzf1 : w1.frozen? ⟨w.heap.size, 1, none⟩ = false := bz.free 1; have bzf2 : w1.frozen? ⟨w.heap.size, 2, none⟩ = false := bz.free 2; have bzf3 : w1.frozen? ⟨w.heap.size, 3, none⟩ = false := bz.free 3; have bz0 : w1.cell? ⟨w.heap.size, 0, none⟩ = some (.int .u8 (0)) := bz.cell 0; have bz1 : w1.cell? ⟨w.heap.size, 1, none⟩ = some (.bool (false)) := bz.cell 1; have bz2 : w1.cell? ⟨w.heap.size, 2, none⟩ = some (.int .i64 (0)) := bz.cell 2; have bz3 : w1.cell? ⟨w.heap.size, 3, none⟩ = some (.string (⟨#[]⟩)) := bz.cell 3)
    have q := bz.set4 (.int .u8 (4)) (.bool (false)) (.int .i64 (0)) (.string (s ++ t)); refine bodyPost_ret (v := .tuple #[.agg #[.int .u8 (4), .bool (false), .int .i64 (0), .string (s ++ t)], .int .u16 (0)]) (by simp [results, Tryd.results82, go_sem, q.1, q.2.1, q.2.2.1, q.2.2.2]) rfl ⟨rfl, Ext.set4 (((Ext.refl w).alloc _).trans x1) (by first | omega | simp) _ _ _ _⟩
set_option maxRecDepth 100000 in
set_option maxHeartbeats 800000 in
theorem con_any (a b : Dat) (w : World) (hs : a.s.size ≤ 9223372036854775807) (hs2 : b.s.size ≤ 9223372036854775807) (G : Good w) : Calls Tryd.prog 43 #[.agg #[.int .u8 a.k, .bool a.b, .int .i64 a.n, .string a.s], .agg #[.int .u8 b.k, .bool b.b, .int .i64 b.n, .string b.s]] w (Out w (conR a b)) := by
  obtain ⟨ka, ba, na, sa⟩ := a
  obtain ⟨kb, bb, nb, sb⟩ := b
  obtain ⟨q, hq⟩ : ∃ q, conT sa sb = q := ⟨_, rfl⟩
  obtain ⟨⟨⟨rk, rb, rn, rs⟩, re⟩, hr⟩ : ∃ r, applyR 4 [⟨ka, ba, na, sa⟩, ⟨kb, bb, nb, sb⟩] q = r := ⟨_, rfl⟩
  have hR : conR ⟨ka, ba, na, sa⟩ ⟨kb, bb, nb, sb⟩ = (⟨rk, rb, rn, rs⟩, re) := by unfold conR; rw [← hr, ← hq]
  rw [hR]
  have HR := Lib.hid hr
  have HQ := Lib.hid hq
  clear hr hR hq
  have hall : ∀ d ∈ ([⟨ka, ba, na, sa⟩, ⟨kb, bb, nb, sb⟩] : List Dat), d.s.size ≤ 9223372036854775807 := by
    intro d hd
    simp at hd
    rcases hd with rfl | rfl
    · exact hs
    · exact hs2
  have HALL := Lib.hid hall
  have hsz : ofT 4 [⟨ka, ba, na, sa⟩, ⟨kb, bb, nb, sb⟩] = (false, 0) → sa.size ≤ 1000 ∧ sb.size ≤ 1000 := fun h => ⟨size_of_check (of_yes h ⟨ka, ba, na, sa⟩ (by simp)).1, size_of_check (of_yes h ⟨kb, bb, nb, sb⟩ (by simp)).1⟩
  have HSZ := Lib.hid hsz
  clear hall hsz
  go_enter Tryd.func43, Tryd.ntmps43
  go_wp2_with (go_at_call 57; refine Calls.mono (HR.out ▸ apply_if 4 82 _ _ 2 2 [⟨ka, ba, na, sa⟩, ⟨kb, bb, nb, sb⟩] _ q (fun _ _ => by kernel_rfl) (Lib.hid fun ho W x => HQ.out ▸ con1_any _ _ sa sb W (HSZ.out ho).1 (HSZ.out ho).2 ((((((Bk.new w 24 #[.int .u8 ka, .bool ba, .int .i64 na, .string sa]).alloc _).alloc _).alloc _).ext x).cell 3) (((((Bk.at (g := w.heap.size + 1) (t := 24) (cs := #[.int .u8 kb, .bool bb, .int .i64 nb, .string sb]) (by simp)).alloc _).alloc _).ext x).cell 3) (by have := x.size; simp at this; omega) (by have := x.size; simp at this; omega)) rfl (by omega) (Dats.two (Bk.at (by simp))) HALL.out (G.ext (((((Ext.refl w).alloc _).alloc _).alloc _).alloc _))) ?_; rintro r w1 ⟨rfl, x1⟩; have bz : Bk w1 (w.heap.size + 1 + 1) 24 #[.int .u8 0, .bool false, .int .i64 0, .string ⟨#[]⟩] := ((Bk.at (by simp)).alloc _).ext x1; have bzf0 : w1.frozen? ⟨w.heap.size + 1 + 1, 0, none⟩ = false := bz.free 0; have bzf1 : w1.frozen? ⟨w.heap.size + 1 + 1, 1, none⟩ = false := bz.free 1; have bzf2 : w1.frozen? ⟨w.heap.size + 1 + 1, 2, none⟩ = false := bz.free 2; have bzf3 : w1.frozen? ⟨w.heap.size + 1 + 1, 3, none⟩ = false := bz.free 3; have bz0 : w1.cell? ⟨w.heap.size + 1 + 1, 0, none⟩ = some (.int .u8 (0)) := bz.cell 0; have bz1 : w1.cell? ⟨w.heap.size + 1 + 1, 1, none⟩ = some (.bool (false)) := bz.cell 1; have bz2 : w1.cell? ⟨w.heap.size + 1 + 1, 2, none⟩ = some (.int .i64 (0)) := bz.cell 2; have bz3 : w1.cell? ⟨w.heap.size + 1 + 1, 3, none⟩ = some (.string (⟨#[]⟩)) := bz.cell 3)
  have q := bz.set4 (.int .u8 (rk)) (.bool (rb)) (.int .i64 (rn)) (.string (rs)); refine bodyPost_ret (v := .tuple #[.agg #[.int .u8 (rk), .bool (rb), .int .i64 (rn), .string (rs)], .int .u16 (re)]) (by simp [results, Tryd.results43, go_sem, q.1, q.2.1, q.2.2.1, q.2.2.2]) rfl ⟨rfl, Ext.set4 ((((((Ext.refl w).alloc _).alloc _).alloc _).alloc _).trans x1) (by first | omega | simp) _ _ _ _⟩

/-! ### Length -/
def lenR (a : Dat) : Dat × Int := applyR 4 [a] (Dat.int (runesT a.s), 0)
theorem runes_le {s : ByteArray} {n : Nat} (h : runesO s.data.toList = some n) : n ≤ s.size := by
  have := runesG_le _ _ _ h
  simpa using this
theorem map_add_some {o : Option Nat} {n k : Nat} (h : some n = o.map (· + k)) : ∃ m, o = some m ∧ n = m + k := by
  cases o with
  | none => cases h
  | some m => exact ⟨m, rfl, by simpa using h⟩
set_option maxRecDepth 100000 in
set_option maxHeartbeats 1000000 in
theorem len1_any (g n : Nat) (s : ByteArray) (w : World) (hs : s.size ≤ 1000) (hn : runesO s.data.toList = some n) (ha : w.cell? ⟨g, 3, none⟩ = some (.string s)) (hg : g < w.heap.size) :
    Calls Tryd.prog 84 #[.pointer (some ⟨g, 0, none⟩)] w (Out w (Dat.int n, 0)) := by
  have hn1 : ¬ g = w.heap.size := by omega
  have HN := Lib.hid hn
  clear hn
  go_enter Tryd.func84, Tryd.ntmps84
  go_wp2
  go_loopw [3] (fun u wr => ∃ pos k : Nat, pos ≤ s.size ∧ k ≤ pos ∧ u = .int .i64 k ∧ wr.heap[w.heap.size + 1]? = some (.stringIter s pos) ∧ Bk wr w.heap.size 24 #[.int .u8 0, .bool false, .int .i64 0, .string ⟨#[]⟩] ∧ Ext w wr ∧ Hid (some n = (runesO (s.data.toList.drop pos)).map (· + k))) (fun _ wr => s.size - wr.iterPos (w.heap.size + 1))
  case atStart =>
    refine ⟨0, 0, Nat.zero_le _, Nat.le_refl _, rfl, ?_, ?_, ?_, Lib.hid (by rw [List.drop_zero, HN.out]; rfl)⟩
    · have := World.iter_heap (w.alloc (.cells #[.int .u8 0, .bool false, .int .i64 0, .string ⟨#[]⟩] 24)) s 0
      simpa using this
    · exact (Bk.new w _ _).alloc _
    · exact ((Ext.refl w).alloc _).alloc _
  case round =>
    obtain ⟨pos, k, hp, hk, rfl, hit, bz, er, hr⟩ := hrel
    have hsz : w.heap.size + 1 < wr.heap.size := (Array.getElem?_eq_some_iff.1 hit).1
    by_cases hlt : pos < s.size
    · have hnx : ∀ ty, (Instr.next (.pointer (some ⟨w.heap.size + 1, 0, none⟩)) true ty).run Tryd.prog wr = _ := fun ty => Lib.run_next_any_at wr (w.heap.size + 1) s pos ty hit hlt
      have hne : s.data.toList.drop pos ≠ [] := by
        intro e
        have := congrArg List.length e
        simp at this
        omega
      have hL : longL (s.data.toList.drop pos) ≠ 0 := by
        intro h0
        have h1 := hr.out
        rw [runesO_bad hne h0] at h1
        cases h1
      have hle := longL_le _ hne
      have hst := runesO_step hne hL
      have hag := agree_list (s.data.toList.drop pos)
      rw [Lib.decodeL_drop] at hag
      obtain ⟨q, hq⟩ : ∃ q, longL (s.data.toList.drop pos) = q := ⟨_, rfl⟩
      rw [hq] at hL hle hst hag
      obtain ⟨d1, d2⟩ : (Utf8.decode s pos).2 = q ∧ True := ⟨by rcases hag with ⟨h0, _⟩ | ⟨_, h1, _⟩ <;> omega, trivial⟩
      have hr2 : some n = (runesO (s.data.toList.drop (pos + q))).map (· + (k + 1)) := by
        rw [hr.out, hst, List.drop_drop]
        cases runesO (s.data.toList.drop (pos + q)) with
        | none => rfl
        | some m => simp; omega
      have hit2 := Lib.iterAt_heap wr (w.heap.size + 1) s pos (pos + (Utf8.decode s pos).2) hit
      have bz2 : Bk (wr.iterAt (w.heap.size + 1) s (pos + (Utf8.decode s pos).2)) w.heap.size 24 #[.int .u8 0, .bool false, .int .i64 0, .string ⟨#[]⟩] := (Lib.iterAt_other wr (w.heap.size + 1) w.heap.size s _ (by omega)).trans bz
      have er2 : Ext w (wr.iterAt (w.heap.size + 1) s (pos + (Utf8.decode s pos).2)) := Lib.below_iterAt er (k := w.heap.size + 1) (by omega) s _
      have hq2 : pos + q ≤ s.size := by rw [List.length_drop] at hle; simp at hle; omega
      have HR2 := Lib.hid hr2
      have HD := Lib.hid d1
      have hq0 : 0 < q := by omega
      clear hr2 hr hst hag hq hL hle hne d1 d2 bz er
      go_wp2
      go_roundw
      case rel =>
        have hdd := HD.out
        rw [hdd] at hit2 bz2 er2 ⊢
        exact ⟨pos + q, k + 1, hq2, by omega, by go_num, hit2, bz2, er2, HR2⟩
      case measure =>
        have hdd := HD.out
        simp only [World.iterPos, hit2, hit]
        omega
    · have hnx : ∀ ty, (Instr.next (.pointer (some ⟨w.heap.size + 1, 0, none⟩)) true ty).run Tryd.prog wr = _ := fun ty => Lib.run_next_end_at wr (w.heap.size + 1) s pos ty hit hlt
      have e1 : n = k := by
        have h1 := hr.out
        rw [List.drop_of_length_le (by simp; omega), runesO_nil] at h1
        simpa using h1
      subst e1
      clear hr
      go_wp2_with (go_at_call 67; refine (number_any _ _).mono ?_; rintro r w1 ⟨rfl, x1⟩; have cz := bz.ext x1; have czf0 : w1.frozen? ⟨w.heap.size, 0, none⟩ = false := cz.free 0; have czf1 : w1.frozen? ⟨w.heap.size, 1, none⟩ = false := cz.free 1; have czf2 : w1.frozen? ⟨w.heap.size, 2, none⟩ = false := cz.free 2; have czf3 : w1.frozen? ⟨w.heap.size, 3, none⟩ = false := cz.free 3; have cz0 : w1.cell? ⟨w.heap.size, 0, none⟩ = some (.int .u8 (0)) := cz.cell 0; have cz1 : w1.cell? ⟨w.heap.size, 1, none⟩ = some (.bool (false)) := cz.cell 1; have cz2 : w1.cell? ⟨w.heap.size, 2, none⟩ = some (.int .i64 (0)) := cz.cell 2; have cz3 : w1.cell? ⟨w.heap.size, 3, none⟩ = some (.string (⟨#[]⟩)) := cz.cell 3)
      have q := cz.set4 (.int .u8 (3)) (.bool (false)) (.int .i64 ((n : Int))) (.string (⟨#[]⟩)); refine bodyPost_ret (v := .tuple #[.agg #[.int .u8 (3), .bool (false), .int .i64 ((n : Int)), .string (⟨#[]⟩)], .int .u16 (0)]) (by simp [results, Tryd.results84, go_sem, q.1, q.2.1, q.2.2.1, q.2.2.2]) rfl ⟨rfl, Ext.set4 (er.trans x1) (by first | omega | simp) _ _ _ _⟩
set_option maxRecDepth 100000 in
set_option maxHeartbeats 800000 in
theorem len_any (a : Dat) (w : World) (hs : a.s.size ≤ 9223372036854775807) (G : Good w) : Calls Tryd.prog 44 #[.agg #[.int .u8 a.k, .bool a.b, .int .i64 a.n, .string a.s]] w (Out w (lenR a)) := by
  obtain ⟨k, b, n, s⟩ := a
  obtain ⟨⟨⟨rk, rb, rn, rs⟩, re⟩, hr⟩ : ∃ r, applyR 4 [⟨k, b, n, s⟩] (Dat.int (runesT s), 0) = r := ⟨_, rfl⟩
  have hR : lenR ⟨k, b, n, s⟩ = (⟨rk, rb, rn, rs⟩, re) := hr
  rw [hR]
  have HR := Lib.hid hr
  clear hr hR
  have key : ofT 4 [⟨k, b, n, s⟩] = (false, 0) → ∀ (g : Nat) (W : World), W.cell? ⟨g, 3, none⟩ = some (.string s) → g < W.heap.size → Calls Tryd.prog 84 #[.pointer (some ⟨g, 0, none⟩)] W (Out W (Dat.int (runesT s), 0)) := fun ho g W hc hg => by
    have hck := (of_yes ho ⟨k, b, n, s⟩ (by simp)).1
    obtain ⟨m, hm⟩ := runes_some (valid_of_check hck)
    have e : runesT s = (m : Int) := by unfold runesT; rw [hm]
    rw [e]
    exact len1_any g m s W (size_of_check hck) hm hc hg
  have KEY := Lib.hid key
  clear key
  go_enter Tryd.func44, Tryd.ntmps44
  go_wp2_with (go_at_call 57; refine Calls.mono (HR.out ▸ apply_if 4 84 _ _ 1 1 [⟨k, b, n, s⟩] _ (Dat.int (runesT s), 0) (fun _ _ => by kernel_rfl) (Lib.hid fun ho W x => KEY.out ho _ W (((((Bk.new w _ _).alloc _).alloc _).ext x).cell 3) (by have := x.size; simp at this; omega)) rfl (by omega) (Dats.one (Bk.at (by simp))) (by simpa using hs) (G.ext ((((Ext.refl w).alloc _).alloc _).alloc _))) ?_; rintro r w1 ⟨rfl, x1⟩; have bz : Bk w1 (w.heap.size + 1) 24 #[.int .u8 0, .bool false, .int .i64 0, .string ⟨#[]⟩] := ((Bk.at (by simp)).alloc _).ext x1; have bzf0 : w1.frozen? ⟨w.heap.size + 1, 0, none⟩ = false := bz.free 0; have bzf1 : w1.frozen? ⟨w.heap.size + 1, 1, none⟩ = false := bz.free 1; have bzf2 : w1.frozen? ⟨w.heap.size + 1, 2, none⟩ = false := bz.free 2; have bzf3 : w1.frozen? ⟨w.heap.size + 1, 3, none⟩ = false := bz.free 3; have bz0 : w1.cell? ⟨w.heap.size + 1, 0, none⟩ = some (.int .u8 (0)) := bz.cell 0; have bz1 : w1.cell? ⟨w.heap.size + 1, 1, none⟩ = some (.bool (false)) := bz.cell 1; have bz2 : w1.cell? ⟨w.heap.size + 1, 2, none⟩ = some (.int .i64 (0)) := bz.cell 2; have bz3 : w1.cell? ⟨w.heap.size + 1, 3, none⟩ = some (.string (⟨#[]⟩)) := bz.cell 3)
  have q := bz.set4 (.int .u8 (rk)) (.bool (rb)) (.int .i64 (rn)) (.string (rs)); refine bodyPost_ret (v := .tuple #[.agg #[.int .u8 (rk), .bool (rb), .int .i64 (rn), .string (rs)], .int .u16 (re)]) (by simp [results, Tryd.results44, go_sem, q.1, q.2.1, q.2.2.1, q.2.2.2]) rfl ⟨rfl, Ext.set4 (((((Ext.refl w).alloc _).alloc _).alloc _).trans x1) (by first | omega | simp) _ _ _ _⟩
end Go.Proofs.YtobgfegdfcpgfaaDoor
