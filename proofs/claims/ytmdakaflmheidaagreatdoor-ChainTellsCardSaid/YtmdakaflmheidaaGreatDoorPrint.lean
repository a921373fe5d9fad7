/- stamp.Print: how a time is written. Conditions: the counters' digits are as a contract says; not too many counters. -/
import Derived.Test.YtmdakaflmheidaaGreatDoorSmallA
import Derived.Test.YtmdakaflmheidaaGreatDoorShelf
namespace Go.Proofs.YtmdakaflmheidaaGreatDoor
open Go.RowKit

set_option maxRecDepth 100000 in
set_option maxHeartbeats 400000 in
theorem format_small (i : Nat) (hi : i < 100) (w : World) :
    Calls Tryz.prog 73 #[.int .u64 i, .int .i64 10] w fun e w' => e = .returned (.string ⟨(Lib.decDigits i).toArray⟩) ∧ Ext w w' := by
  have i0 : IntKind.i64.wrap (i : Int) = i := IntWalk.i64_in _ (by omega)
  have i1 : (i : Int) < 100 := by omega
  go_enter Tryz.func73, Tryz.ntmps73
  go_wp2_with (first | (go_at_call 116; refine (Tryz.internal_strconv_small i hi _).mono ?_; rintro r w1 ⟨rfl, rfl⟩) | go_in)
  refine bodyPost_ret (v := .string ⟨(Lib.decDigits i).toArray⟩) (by simp only [results, Tryz.results73]; go_simp) rfl ?_
  exact ⟨rfl, Ext.refl _⟩

theorem elemStrings : Elem Tryz.prog 106 9 1 16 (.string ⟨#[]⟩) := ⟨by kernel_rfl, by kernel_rfl, by rfl, by omega⟩

/-- the pieces as cells -/
def strs (l : List ByteArray) : List Value := l.map Value.string

theorem join_le (digs : Int → ByteArray) (hsz : ∀ x, (digs x).size ≤ 20) (l : List Int) : (Lib.join ((l.map digs).map (·.data.toList)) [44]).length ≤ 21 * l.length := by
  induction l with
  | nil => simp [Lib.join]
  | cons x r ih =>
    have hx : (digs x).data.toList.length ≤ 20 := by have := hsz x; simpa using this
    cases r with
    | nil => simp only [List.map_cons, List.map_nil, Lib.join_one, List.length_cons, List.length_nil]; omega
    | cons y r =>
      rw [List.map_cons, List.map_cons, Lib.join_length]
      rw [List.map_cons, List.map_cons, Lib.join_length] at ih
      simp only [List.map_cons, List.length_cons, List.length_nil, Lib.lens, List.length_map, List.sum_cons] at ih ⊢
      omega
def printT (digs : Int → ByteArray) (e : Int) (l : List Int) : ByteArray :=
  digs e ++ ⟨#[40]⟩ ++ ⟨(Lib.join ((l.map digs).map (·.data.toList)) [44]).toArray⟩ ++ ⟨#[41]⟩

set_option maxRecDepth 100000 in
set_option maxHeartbeats 1000000 in
theorem print_some (e : Int) (A : Option Addr) (n c : Nat) (l : List Int) (digs : Int → ByteArray) (w : World) (h : Sl w 1 A n c (wds l)) (u : U32 l) (hn : n ≤ 1000) (h0 : 0 < n) (hsz : ∀ x, (digs x).size ≤ 20)
    (HF : Hid (∀ (x : Int) (W : World), Ext w W → x = e ∨ x ∈ l → Calls Tryz.prog 73 #[.int .u64 x, .int .i64 10] W fun r w' => r = .returned (.string (digs x)) ∧ Ext W w')) :
    Calls Tryz.prog 35 #[.agg #[.int .u64 e, .slice A n c]] w fun r w' => r = .returned (.string (printT digs e l)) ∧ Ext w w' := by
  obtain ⟨ad, rfl, _, _⟩ := h.word h0
  have hl := h.wlen
  go_enter Tryz.func35, Tryz.ntmps35
  have q0 : ((n : Int) == 0) = false := by simp; omega
  go_wp2_with (go_at_call 73; refine (HF.out e _ ((Ext.refl w).alloc _) (Or.inl rfl)).mono ?_; rintro r w1 ⟨rfl, x1⟩; have y0 := (Bk.new w 26 #[.int .u64 e, .slice (some ad) n c]).ext x1; have y1 : w1.cell? ⟨w.heap.size, 1, none⟩ = some (.slice (some ad) n c) := y0.cell 1)
  have X1 : Ext w w1 := ((Ext.refl w).alloc _).trans x1
  clear y0 y1 x1
  go_loopw [4, 18] (fun t v wr => ∃ (k : Nat) (A : Option Addr) (c : Nat), k ≤ n ∧ v = .int .i64 k ∧ t = .slice A k c ∧ Ext w1 wr ∧ Own wr w1.heap.size 9 1 A k c (strs ((l.take k).map digs)))
    (fun _ v _ => n - (intOf v).toNat)
  case atStart => exact ⟨0, none, 0, Nat.zero_le _, rfl, rfl, Ext.refl _, by simpa [strs] using Own.nil _ _ _ _⟩
  case round =>
    obtain ⟨k, A, c', hk, rfl, rfl, er, hown⟩ := hrel
    by_cases hlt : k < n
    · obtain ⟨_, he, hc1, _⟩ := (h.ext (X1.trans er)).word hlt
      cases he
      obtain ⟨x, hx⟩ : ∃ x, x = l.getD k 0 := ⟨_, rfl⟩
      have hm : x ∈ l := by rw [hx, List.getD_eq_getElem?_getD, List.getElem?_eq_getElem (show k < l.length by omega)]; exact List.getElem_mem _
      have r1 : 0 ≤ x ∧ x ≤ 4294967295 := u x hm
      rw [← hx] at hc1
      have HX := Lib.hid hx
      clear hx
      have E1 : IntKind.u64.wrap x = x := IntWalk.u64_in _ (by omega)
      have i1 : (k : Int) < (n : Int) := by omega
      go_wp2_with (first | (go_at_call 73; refine (HF.out x _ (X1.trans er) (Or.inr hm)).mono ?_; rintro r w2 ⟨rfl, x2⟩) | (at_builtin; refine wpList_append_gen _ elemStrings w1.heap.size _ _ (by rfl) (by rfl) A k c' _ (by rfl) ((hown.ext x2).alloc _) (some ⟨w2.heap.size, 0, none⟩) 1 1 _ (by rfl) (Sl.one w2 _ _ 1 rfl) (by simp [Value.oneCell']) (by omega) (by omega) (by have := er.size; have := x2.size; simp; omega) ?_; intro A' c2 w3 ho1 hg1 hk1))
      refine ⟨⟨k + 1, A', c2, by omega, by go_num, rfl, ?_, ?_⟩, by simp [intOf]; omega⟩
      · exact ((er.trans x2).alloc _).grown hg1 (fun g hg => hown.lt g hg |>.1)
      · have e1 : strs ((l.take (k + 1)).map digs) = strs ((l.take k).map digs) ++ [.string (digs x)] := by
          rw [take_succ_getD _ _ (by omega), ← HX.out, List.map_append]
          exact List.map_append
        rw [e1]
        exact ho1
    · obtain rfl : k = n := by omega
      obtain ⟨g, rfl, _, hg1, hg2, hcg, _⟩ := hown.form h0
      have hle := hown.le
      have htk : l.take k = l := by rw [← hl]; exact List.take_length
      rw [htk] at hcg
      obtain ⟨J, hJ⟩ : ∃ J, J = Lib.join ((l.map digs).map (·.data.toList)) [44] := ⟨_, rfl⟩
      have hjl : J.length ≤ 21 * l.length := hJ ▸ join_le digs hsz l
      have hsz0 := hsz e
      have CJ : ∀ _ : True, Calls Tryz.prog 74 #[.slice (some ⟨g, 0, none⟩) k c', .string ⟨#[44]⟩] wr fun r w' => r = .returned (.string ⟨J.toArray⟩) ∧ Below wr.heap.size wr w' := by
        intro _
        have := Tryz.strings_Join g 0 c' (l.map digs) ⟨#[44]⟩ wr (fun j x hx => by rw [Nat.zero_add]; exact hcg j _ (by simpa [strs] using hx)) hg2 (by simp; omega) (by simp; omega) (by rw [← show J = _ from hJ]; omega)
        rw [List.length_map, hl] at this
        rw [hJ]
        exact this
      have hPT : printT digs e l = digs e ++ ⟨#[40]⟩ ++ ⟨J.toArray⟩ ++ ⟨#[41]⟩ := by rw [hJ]; rfl
      have HPT := Lib.hid hPT
      clear hJ hPT
      have k1 : ¬ 9223372036854775807 < (digs e).size + 1 := by omega
      have k2 : ¬ 9223372036854775807 < (digs e).size + 1 + J.length := by omega
      have k3 : ¬ 9223372036854775807 < (digs e).size + 1 + J.length + 1 := by omega
      go_wp2_with (go_at_call 74; refine (CJ trivial).mono ?_; rintro r w2 ⟨rfl, x2⟩)
      refine bodyPost_ret (v := .string (digs e ++ ⟨#[40]⟩ ++ ⟨J.toArray⟩ ++ ⟨#[41]⟩)) (by simp only [results, Tryz.results35]; go_simp) rfl ?_
      rw [HPT.out]
      exact ⟨rfl, (X1.trans er).trans x2⟩

set_option maxRecDepth 100000 in
set_option maxHeartbeats 400000 in
theorem print_none (e : Int) (A : Option Addr) (c : Nat) (digs : Int → ByteArray) (w : World)
    (HF : Hid (∀ (x : Int) (W : World), Ext w W → x = e → Calls Tryz.prog 73 #[.int .u64 x, .int .i64 10] W fun r w' => r = .returned (.string (digs x)) ∧ Ext W w')) :
    Calls Tryz.prog 35 #[.agg #[.int .u64 e, .slice A 0 c]] w fun r w' => r = .returned (.string (digs e)) ∧ Ext w w' := by
  go_enter Tryz.func35, Tryz.ntmps35
  go_wp2_with (go_at_call 73; refine (HF.out e _ ((Ext.refl w).alloc _) rfl).mono ?_; rintro r w1 ⟨rfl, x1⟩; have y0 := (Bk.new w 26 #[.int .u64 e, .slice A 0 c]).ext x1; have y1 : w1.cell? ⟨w.heap.size, 1, none⟩ = some (.slice A 0 c) := y0.cell 1)
  refine bodyPost_ret (v := .string (digs e)) (by simp only [results, Tryz.results35]; go_simp) rfl ?_
  exact ⟨rfl, ((Ext.refl w).alloc _).trans x1⟩
end Go.Proofs.YtmdakaflmheidaaGreatDoor
