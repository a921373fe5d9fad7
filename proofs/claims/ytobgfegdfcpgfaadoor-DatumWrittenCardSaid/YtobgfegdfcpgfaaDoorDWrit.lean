/- DatumWritten: the walk. Conditions: the library's tables stand. -/
import Derived.Test.YtobgfegdfcpgfaaDoorWritLaw
namespace Go.Proofs.YtobgfegdfcpgfaaDoor
open Go.RowKit

theorem take_count {s : ByteArray} {k : Nat} (h : k < s.size) : (s.data.toList.take (k + 1)).count 39 = (s.data.toList.take k).count 39 + if s[k].toNat = 39 then 1 else 0 := by
  have h' : k < s.data.toList.length := by simpa using h
  have e : s.data.toList.take (k + 1) = s.data.toList.take k ++ [s[k]] := by rw [List.take_succ_eq_append_getElem h']; rfl
  rw [e, List.count_append, List.count_singleton]
  by_cases hc : s[k].toNat = 39
  · rw [if_pos hc, if_pos (by rw [beq_iff_eq]; exact UInt8.toNat_inj.1 hc)]
  · rw [if_neg hc, if_neg (by rw [beq_iff_eq]; intro q; exact hc (by rw [q]; rfl))]
set_option maxRecDepth 100000 in
set_option maxHeartbeats 1000000 in
theorem writ_a (ka na kb nb c : Int) (ba bb : Bool) (sa sb : ByteArray) (w : World) (ga : sa.size ≤ 9223372036854775807) (G : Good2 w) (hca : checkT ka ba na sa = c) (la : (c != 0) = true) : Calls Tryd.prog 3 #[.agg #[.int .u8 (ka), .bool (ba), .int .i64 (na), .string (sa)], .agg #[.int .u8 (kb), .bool (bb), .int .i64 (nb), .string (sb)]] w fun e w' => e = .returned (.bool true) ∧ Ext w w' := by
  have HCA := Lib.hid hca
  clear hca
  have a_0 : Bk ((w.alloc (.cells #[.int .u8 (ka), .bool (ba), .int .i64 (na), .string (sa)] 24)).alloc (.cells #[.int .u8 (kb), .bool (bb), .int .i64 (nb), .string (sb)] 24)) w.heap.size 24 #[.int .u8 (ka), .bool (ba), .int .i64 (na), .string (sa)] := (Bk.new _ _ _).alloc _
  have b_0 : Bk ((w.alloc (.cells #[.int .u8 (ka), .bool (ba), .int .i64 (na), .string (sa)] 24)).alloc (.cells #[.int .u8 (kb), .bool (bb), .int .i64 (nb), .string (sb)] 24)) (w.heap.size + 1) 24 #[.int .u8 (kb), .bool (bb), .int .i64 (nb), .string (sb)] := Bk.at (by simp)
  have F0 : Ext w ((w.alloc (.cells #[.int .u8 (ka), .bool (ba), .int .i64 (na), .string (sa)] 24)).alloc (.cells #[.int .u8 (kb), .bool (bb), .int .i64 (nb), .string (sb)] 24)) := ((Ext.refl w).alloc _).alloc _
  have m1 : True := trivial
  go_enter Tryd.func3, Tryd.ntmps3
  go_wp2_with (first
    | (have z := m1; clear z m1; go_at_call 15; refine (check_at _ _ _ _ _ HCA ga (G.ext F0).good).mono ?_; rintro e w1 ⟨rfl, x1⟩; have a_1 := a_0.ext x1; have b_1 := b_0.ext x1; have F1 : Ext w w1 := (F0.trans x1); clear x1; have a_10 : w1.cell? ⟨w.heap.size, 0, none⟩ = some (.int .u8 (ka)) := a_1.cell 0; have a_11 : w1.cell? ⟨w.heap.size, 1, none⟩ = some (.bool (ba)) := a_1.cell 1; have a_12 : w1.cell? ⟨w.heap.size, 2, none⟩ = some (.int .i64 (na)) := a_1.cell 2; have a_13 : w1.cell? ⟨w.heap.size, 3, none⟩ = some (.string (sa)) := a_1.cell 3; have b_10 : w1.cell? ⟨w.heap.size + 1, 0, none⟩ = some (.int .u8 (kb)) := b_1.cell 0; have b_11 : w1.cell? ⟨w.heap.size + 1, 1, none⟩ = some (.bool (bb)) := b_1.cell 1; have b_12 : w1.cell? ⟨w.heap.size + 1, 2, none⟩ = some (.int .i64 (nb)) := b_1.cell 2; have b_13 : w1.cell? ⟨w.heap.size + 1, 3, none⟩ = some (.string (sb)) := b_1.cell 3; have m2 : True := trivial)
    | (have z := m2; clear z m2; go_at_call 16; refine (known_true _ (G.ext F1).good).mono ?_; rintro e w2 ⟨rfl, x2⟩; have a_2 := a_1.ext x2; have b_2 := b_1.ext x2; have F2 : Ext w w2 := (F1.trans x2); clear x2; have m3 : True := trivial)
    | fail)
  go_ret
  exact ⟨rfl, F2⟩
set_option maxRecDepth 100000 in
set_option maxHeartbeats 1000000 in
theorem writ_b (ka na kb nb c : Int) (ba bb : Bool) (sa sb : ByteArray) (w : World) (ga : sa.size ≤ 9223372036854775807) (gb : sb.size ≤ 9223372036854775807) (G : Good2 w) (hca : checkT ka ba na sa = 0) (hcb : checkT kb bb nb sb = c) (la : (c != 0) = true) : Calls Tryd.prog 3 #[.agg #[.int .u8 (ka), .bool (ba), .int .i64 (na), .string (sa)], .agg #[.int .u8 (kb), .bool (bb), .int .i64 (nb), .string (sb)]] w fun e w' => e = .returned (.bool true) ∧ Ext w w' := by
  have HCA := Lib.hid hca
  clear hca
  have HCB := Lib.hid hcb
  clear hcb
  have a_0 : Bk ((w.alloc (.cells #[.int .u8 (ka), .bool (ba), .int .i64 (na), .string (sa)] 24)).alloc (.cells #[.int .u8 (kb), .bool (bb), .int .i64 (nb), .string (sb)] 24)) w.heap.size 24 #[.int .u8 (ka), .bool (ba), .int .i64 (na), .string (sa)] := (Bk.new _ _ _).alloc _
  have b_0 : Bk ((w.alloc (.cells #[.int .u8 (ka), .bool (ba), .int .i64 (na), .string (sa)] 24)).alloc (.cells #[.int .u8 (kb), .bool (bb), .int .i64 (nb), .string (sb)] 24)) (w.heap.size + 1) 24 #[.int .u8 (kb), .bool (bb), .int .i64 (nb), .string (sb)] := Bk.at (by simp)
  have F0 : Ext w ((w.alloc (.cells #[.int .u8 (ka), .bool (ba), .int .i64 (na), .string (sa)] 24)).alloc (.cells #[.int .u8 (kb), .bool (bb), .int .i64 (nb), .string (sb)] 24)) := ((Ext.refl w).alloc _).alloc _
  have m1 : True := trivial
  go_enter Tryd.func3, Tryd.ntmps3
  go_wp2_with (first
    | (have z := m1; clear z m1; go_at_call 15; refine (check_at _ _ _ _ _ HCA ga (G.ext F0).good).mono ?_; rintro e w1 ⟨rfl, x1⟩; have a_1 := a_0.ext x1; have b_1 := b_0.ext x1; have F1 : Ext w w1 := (F0.trans x1); clear x1; have a_10 : w1.cell? ⟨w.heap.size, 0, none⟩ = some (.int .u8 (ka)) := a_1.cell 0; have a_11 : w1.cell? ⟨w.heap.size, 1, none⟩ = some (.bool (ba)) := a_1.cell 1; have a_12 : w1.cell? ⟨w.heap.size, 2, none⟩ = some (.int .i64 (na)) := a_1.cell 2; have a_13 : w1.cell? ⟨w.heap.size, 3, none⟩ = some (.string (sa)) := a_1.cell 3; have b_10 : w1.cell? ⟨w.heap.size + 1, 0, none⟩ = some (.int .u8 (kb)) := b_1.cell 0; have b_11 : w1.cell? ⟨w.heap.size + 1, 1, none⟩ = some (.bool (bb)) := b_1.cell 1; have b_12 : w1.cell? ⟨w.heap.size + 1, 2, none⟩ = some (.int .i64 (nb)) := b_1.cell 2; have b_13 : w1.cell? ⟨w.heap.size + 1, 3, none⟩ = some (.string (sb)) := b_1.cell 3; have m2 : True := trivial)
    | (have z := m2; clear z m2; go_at_call 15; refine (check_at _ _ _ _ _ HCB gb (G.ext F1).good).mono ?_; rintro e w2 ⟨rfl, x2⟩; have a_2 := a_1.ext x2; have b_2 := b_1.ext x2; have F2 : Ext w w2 := (F1.trans x2); clear x2; have a_20 : w2.cell? ⟨w.heap.size, 0, none⟩ = some (.int .u8 (ka)) := a_2.cell 0; have a_21 : w2.cell? ⟨w.heap.size, 1, none⟩ = some (.bool (ba)) := a_2.cell 1; have a_22 : w2.cell? ⟨w.heap.size, 2, none⟩ = some (.int .i64 (na)) := a_2.cell 2; have a_23 : w2.cell? ⟨w.heap.size, 3, none⟩ = some (.string (sa)) := a_2.cell 3; have b_20 : w2.cell? ⟨w.heap.size + 1, 0, none⟩ = some (.int .u8 (kb)) := b_2.cell 0; have b_21 : w2.cell? ⟨w.heap.size + 1, 1, none⟩ = some (.bool (bb)) := b_2.cell 1; have b_22 : w2.cell? ⟨w.heap.size + 1, 2, none⟩ = some (.int .i64 (nb)) := b_2.cell 2; have b_23 : w2.cell? ⟨w.heap.size + 1, 3, none⟩ = some (.string (sb)) := b_2.cell 3; have m3 : True := trivial)
    | (have z := m3; clear z m3; go_at_call 16; refine (known_true _ (G.ext F2).good).mono ?_; rintro e w3 ⟨rfl, x3⟩; have a_3 := a_2.ext x3; have b_3 := b_2.ext x3; have F3 : Ext w w3 := (F2.trans x3); clear x3; have m4 : True := trivial)
    | fail)
  go_ret
  exact ⟨rfl, F3⟩
set_option maxRecDepth 100000 in
set_option maxHeartbeats 4000000 in
theorem writ_ok0 (ka na kb nb : Int) (ba bb : Bool) (sa sb : ByteArray) (p q : ByteArray) (Q : Nat) (w : World) (ga : sa.size ≤ 9223372036854775807) (gb : sb.size ≤ 9223372036854775807) (G : Good2 w)
    (hn : -9223372036854775808 ≤ na ∧ na ≤ 9223372036854775807) (hm : -9223372036854775808 ≤ nb ∧ nb ≤ 9223372036854775807) (hca : checkT ka ba na sa = 0) (hcb : checkT kb bb nb sb = 0) (hp : printT ka ba na sa = p) (hq : printT kb bb nb sb = q) (hz : (ka == kb) = false)
    (hpq : ¬ p.toList = q.toList)
    (hf : ∀ k (h : k < p.size), 32 ≤ p[k].toNat ∧ ¬ p[k].toNat = 127) (hQ : p.data.toList.count 39 = Q) (h2 : Q % 2 = 0) (hk : (0 < Q ∧ (ka == 4) = true) ∨ (Q = 0 ∧ (ka == 4) = false)) (hpe : ¬ p.toList = []) (hl : p.size ≤ 100000) :
    Calls Tryd.prog 3 #[.agg #[.int .u8 (ka), .bool (ba), .int .i64 (na), .string (sa)], .agg #[.int .u8 (kb), .bool (bb), .int .i64 (nb), .string (sb)]] w fun e w' => e = .returned (.bool true) ∧ Ext w w' := by
  have hpq2 : (p.toList == q.toList) = false := by simpa using hpq
  have hpq3 : (!(p.toList == q.toList)) = true := by simpa using hpq
  have t2 : (Q : Int) % 2 = 0 := by omega
  have t3 : (Q : Int).tmod 2 = 0 := by rw [Int.tmod_eq_emod_of_nonneg (by omega)]; omega
  have hpe2 : p.toList.isEmpty = false := by simpa using hpe
  clear h2
  have HCA := Lib.hid hca
  clear hca
  have HCB := Lib.hid hcb
  clear hcb
  have HP := Lib.hid hp
  clear hp
  have HPQ := Lib.hid hq
  clear hq
  have HF := Lib.hid hf
  clear hf
  have HCT := Lib.hid hQ
  clear hQ
  have HN := Lib.hid hn
  clear hn
  have HM := Lib.hid hm
  clear hm
  have HK := Lib.hid hk
  clear hk
  have a_0 : Bk ((w.alloc (.cells #[.int .u8 (ka), .bool (ba), .int .i64 (na), .string (sa)] 24)).alloc (.cells #[.int .u8 (kb), .bool (bb), .int .i64 (nb), .string (sb)] 24)) w.heap.size 24 #[.int .u8 (ka), .bool (ba), .int .i64 (na), .string (sa)] := (Bk.new _ _ _).alloc _
  have b_0 : Bk ((w.alloc (.cells #[.int .u8 (ka), .bool (ba), .int .i64 (na), .string (sa)] 24)).alloc (.cells #[.int .u8 (kb), .bool (bb), .int .i64 (nb), .string (sb)] 24)) (w.heap.size + 1) 24 #[.int .u8 (kb), .bool (bb), .int .i64 (nb), .string (sb)] := Bk.at (by simp)
  have F0 : Ext w ((w.alloc (.cells #[.int .u8 (ka), .bool (ba), .int .i64 (na), .string (sa)] 24)).alloc (.cells #[.int .u8 (kb), .bool (bb), .int .i64 (nb), .string (sb)] 24)) := ((Ext.refl w).alloc _).alloc _
  have m1 : True := trivial
  go_enter Tryd.func3, Tryd.ntmps3
  go_wp2_with (first
    | (have z := m1; clear z m1; go_at_call 15; refine (check_at _ _ _ _ _ HCA ga (G.ext F0).good).mono ?_; rintro e w1 ⟨rfl, x1⟩; have a_1 := a_0.ext x1; have b_1 := b_0.ext x1; have F1 : Ext w w1 := (F0.trans x1); clear x1; have a_10 : w1.cell? ⟨w.heap.size, 0, none⟩ = some (.int .u8 (ka)) := a_1.cell 0; have a_11 : w1.cell? ⟨w.heap.size, 1, none⟩ = some (.bool (ba)) := a_1.cell 1; have a_12 : w1.cell? ⟨w.heap.size, 2, none⟩ = some (.int .i64 (na)) := a_1.cell 2; have a_13 : w1.cell? ⟨w.heap.size, 3, none⟩ = some (.string (sa)) := a_1.cell 3; have b_10 : w1.cell? ⟨w.heap.size + 1, 0, none⟩ = some (.int .u8 (kb)) := b_1.cell 0; have b_11 : w1.cell? ⟨w.heap.size + 1, 1, none⟩ = some (.bool (bb)) := b_1.cell 1; have b_12 : w1.cell? ⟨w.heap.size + 1, 2, none⟩ = some (.int .i64 (nb)) := b_1.cell 2; have b_13 : w1.cell? ⟨w.heap.size + 1, 3, none⟩ = some (.string (sb)) := b_1.cell 3; have m2 : True := trivial)
    | (have z := m2; clear z m2; go_at_call 15; refine (check_at _ _ _ _ _ HCB gb (G.ext F1).good).mono ?_; rintro e w2 ⟨rfl, x2⟩; have a_2 := a_1.ext x2; have b_2 := b_1.ext x2; have F2 : Ext w w2 := (F1.trans x2); clear x2; have a_20 : w2.cell? ⟨w.heap.size, 0, none⟩ = some (.int .u8 (ka)) := a_2.cell 0; have a_21 : w2.cell? ⟨w.heap.size, 1, none⟩ = some (.bool (ba)) := a_2.cell 1; have a_22 : w2.cell? ⟨w.heap.size, 2, none⟩ = some (.int .i64 (na)) := a_2.cell 2; have a_23 : w2.cell? ⟨w.heap.size, 3, none⟩ = some (.string (sa)) := a_2.cell 3; have b_20 : w2.cell? ⟨w.heap.size + 1, 0, none⟩ = some (.int .u8 (kb)) := b_2.cell 0; have b_21 : w2.cell? ⟨w.heap.size + 1, 1, none⟩ = some (.bool (bb)) := b_2.cell 1; have b_22 : w2.cell? ⟨w.heap.size + 1, 2, none⟩ = some (.int .i64 (nb)) := b_2.cell 2; have b_23 : w2.cell? ⟨w.heap.size + 1, 3, none⟩ = some (.string (sb)) := b_2.cell 3; have m3 : True := trivial)
    | (have z := m3; clear z m3; go_at_call 17; refine (print_lit _ _ _ _ _ HP ga HN.out (G.ext F2)).mono ?_; rintro e w3 ⟨rfl, x3⟩; have a_3 := a_2.ext x3; have b_3 := b_2.ext x3; have F3 : Ext w w3 := (F2.trans x3); clear x3; have a_30 : w3.cell? ⟨w.heap.size, 0, none⟩ = some (.int .u8 (ka)) := a_3.cell 0; have a_31 : w3.cell? ⟨w.heap.size, 1, none⟩ = some (.bool (ba)) := a_3.cell 1; have a_32 : w3.cell? ⟨w.heap.size, 2, none⟩ = some (.int .i64 (na)) := a_3.cell 2; have a_33 : w3.cell? ⟨w.heap.size, 3, none⟩ = some (.string (sa)) := a_3.cell 3; have b_30 : w3.cell? ⟨w.heap.size + 1, 0, none⟩ = some (.int .u8 (kb)) := b_3.cell 0; have b_31 : w3.cell? ⟨w.heap.size + 1, 1, none⟩ = some (.bool (bb)) := b_3.cell 1; have b_32 : w3.cell? ⟨w.heap.size + 1, 2, none⟩ = some (.int .i64 (nb)) := b_3.cell 2; have b_33 : w3.cell? ⟨w.heap.size + 1, 3, none⟩ = some (.string (sb)) := b_3.cell 3; have m4 : True := trivial)
    | (have z := m4; clear z m4; go_at_call 17; refine (print_lit _ _ _ _ _ HPQ gb HM.out (G.ext F3)).mono ?_; rintro e w4 ⟨rfl, x4⟩; have a_4 := a_3.ext x4; have b_4 := b_3.ext x4; have F4 : Ext w w4 := (F3.trans x4); clear x4; have a_40 : w4.cell? ⟨w.heap.size, 0, none⟩ = some (.int .u8 (ka)) := a_4.cell 0; have a_41 : w4.cell? ⟨w.heap.size, 1, none⟩ = some (.bool (ba)) := a_4.cell 1; have a_42 : w4.cell? ⟨w.heap.size, 2, none⟩ = some (.int .i64 (na)) := a_4.cell 2; have a_43 : w4.cell? ⟨w.heap.size, 3, none⟩ = some (.string (sa)) := a_4.cell 3; have b_40 : w4.cell? ⟨w.heap.size + 1, 0, none⟩ = some (.int .u8 (kb)) := b_4.cell 0; have b_41 : w4.cell? ⟨w.heap.size + 1, 1, none⟩ = some (.bool (bb)) := b_4.cell 1; have b_42 : w4.cell? ⟨w.heap.size + 1, 2, none⟩ = some (.int .i64 (nb)) := b_4.cell 2; have b_43 : w4.cell? ⟨w.heap.size + 1, 3, none⟩ = some (.string (sb)) := b_4.cell 3; have m5 : True := trivial)
    | fail)
  go_loop [7, 8] (fun u v => ∃ k c : Nat, k ≤ p.size ∧ c ≤ k ∧ u = .int .i64 c ∧ v = .int .i64 k ∧ Hid ((p.data.toList.take k).count 39 = c)) (fun _ v => p.size - (intOf v).toNat)
  case atStart => exact ⟨0, 0, Nat.zero_le _, Nat.le_refl _, rfl, rfl, Lib.hid rfl⟩
  case round =>
    obtain ⟨k, c, hk, hc, rfl, rfl, hcnt⟩ := hrel
    by_cases hlt : k < p.size
    · have hpl := HF.out k hlt
      have HT := Lib.hid (take_count hlt)
      have h32 : (32 : Int) ≤ (p[k].toNat : Int) := by omega
      have z32 : decide ((p[k].toNat : Int) < 32) = false := by simp; omega
      have z127 : ((p[k].toNat : Int) == 127) = false := by simp; omega
      by_cases h39 : p[k].toNat = 39
      · have z39 : ((p[k].toNat : Int) == 39) = true := by simp; omega
        have HCN : Hid ((p.data.toList.take (k + 1)).count 39 = c + 1) := Lib.hid (by rw [HT.out, hcnt.out, if_pos h39])
        clear h39 hpl hcnt
        go_wp2
        go_round
        case rel => exact ⟨k + 1, c + 1, by omega, by omega, by go_num, by go_num, HCN⟩
        case measure => simp [intOf]; omega
      · have z39 : ((p[k].toNat : Int) == 39) = false := by simp; omega
        have HCN : Hid ((p.data.toList.take (k + 1)).count 39 = c) := Lib.hid (by rw [HT.out, hcnt.out, if_neg h39]; rfl)
        clear h39 hpl hcnt
        go_wp2
        go_round
        case rel => exact ⟨k + 1, c, by omega, by omega, by go_num, by go_num, HCN⟩
        case measure => simp [intOf]; omega
    · have e1 : k = p.size := by omega
      have e2 : c = Q := by
        have h := hcnt.out
        rw [e1, List.take_of_length_le (by simp), HCT.out] at h
        exact h.symm
      subst e2
      clear hcnt e1
      rcases HK.out with ⟨h3, h4⟩ | ⟨rfl, h4⟩
      · have h5 : ¬ c = 0 := by omega
        go_wp2_with (first
          | (have z := m5; clear z m5; go_at_call 16; refine (known_true _ (G.ext F4).good).mono ?_; rintro e w5 ⟨rfl, x5⟩; have a_5 := a_4.ext x5; have b_5 := b_4.ext x5; have F5 : Ext w w5 := (F4.trans x5); clear x5; have a_50 : w5.cell? ⟨w.heap.size, 0, none⟩ = some (.int .u8 (ka)) := a_5.cell 0; have a_51 : w5.cell? ⟨w.heap.size, 1, none⟩ = some (.bool (ba)) := a_5.cell 1; have a_52 : w5.cell? ⟨w.heap.size, 2, none⟩ = some (.int .i64 (na)) := a_5.cell 2; have a_53 : w5.cell? ⟨w.heap.size, 3, none⟩ = some (.string (sa)) := a_5.cell 3; have b_50 : w5.cell? ⟨w.heap.size + 1, 0, none⟩ = some (.int .u8 (kb)) := b_5.cell 0; have b_51 : w5.cell? ⟨w.heap.size + 1, 1, none⟩ = some (.bool (bb)) := b_5.cell 1; have b_52 : w5.cell? ⟨w.heap.size + 1, 2, none⟩ = some (.int .i64 (nb)) := b_5.cell 2; have b_53 : w5.cell? ⟨w.heap.size + 1, 3, none⟩ = some (.string (sb)) := b_5.cell 3; have m6 : True := trivial)
          | fail)
        go_ret
        exact ⟨rfl, F5⟩
      · go_wp2_with (first
          | (have z := m5; clear z m5; go_at_call 16; refine (known_true _ (G.ext F4).good).mono ?_; rintro e w5 ⟨rfl, x5⟩; have a_5 := a_4.ext x5; have b_5 := b_4.ext x5; have F5 : Ext w w5 := (F4.trans x5); clear x5; have a_50 : w5.cell? ⟨w.heap.size, 0, none⟩ = some (.int .u8 (ka)) := a_5.cell 0; have a_51 : w5.cell? ⟨w.heap.size, 1, none⟩ = some (.bool (ba)) := a_5.cell 1; have a_52 : w5.cell? ⟨w.heap.size, 2, none⟩ = some (.int .i64 (na)) := a_5.cell 2; have a_53 : w5.cell? ⟨w.heap.size, 3, none⟩ = some (.string (sa)) := a_5.cell 3; have b_50 : w5.cell? ⟨w.heap.size + 1, 0, none⟩ = some (.int .u8 (kb)) := b_5.cell 0; have b_51 : w5.cell? ⟨w.heap.size + 1, 1, none⟩ = some (.bool (bb)) := b_5.cell 1; have b_52 : w5.cell? ⟨w.heap.size + 1, 2, none⟩ = some (.int .i64 (nb)) := b_5.cell 2; have b_53 : w5.cell? ⟨w.heap.size + 1, 3, none⟩ = some (.string (sb)) := b_5.cell 3; have m6 : True := trivial)
          | fail)
        go_ret
        exact ⟨rfl, F5⟩
set_option maxRecDepth 100000 in
set_option maxHeartbeats 4000000 in
theorem writ_ok1 (ka na nb : Int) (ba bb : Bool) (sa sb : ByteArray) (p q : ByteArray) (Q : Nat) (w : World) (ga : sa.size ≤ 9223372036854775807) (gb : sb.size ≤ 9223372036854775807) (G : Good2 w)
    (hn : -9223372036854775808 ≤ na ∧ na ≤ 9223372036854775807) (hm : -9223372036854775808 ≤ nb ∧ nb ≤ 9223372036854775807) (hca : checkT ka ba na sa = 0) (hcb : checkT ka bb nb sb = 0) (hp : printT ka ba na sa = p) (hq : printT ka bb nb sb = q) (hz : (ba == bb) = false)
    (hpq : ¬ p.toList = q.toList)
    (hf : ∀ k (h : k < p.size), 32 ≤ p[k].toNat ∧ ¬ p[k].toNat = 127) (hQ : p.data.toList.count 39 = Q) (h2 : Q % 2 = 0) (hk : (0 < Q ∧ (ka == 4) = true) ∨ (Q = 0 ∧ (ka == 4) = false)) (hpe : ¬ p.toList = []) (hl : p.size ≤ 100000) :
    Calls Tryd.prog 3 #[.agg #[.int .u8 (ka), .bool (ba), .int .i64 (na), .string (sa)], .agg #[.int .u8 (ka), .bool (bb), .int .i64 (nb), .string (sb)]] w fun e w' => e = .returned (.bool true) ∧ Ext w w' := by
  have hpq2 : (p.toList == q.toList) = false := by simpa using hpq
  have hpq3 : (!(p.toList == q.toList)) = true := by simpa using hpq
  have t2 : (Q : Int) % 2 = 0 := by omega
  have t3 : (Q : Int).tmod 2 = 0 := by rw [Int.tmod_eq_emod_of_nonneg (by omega)]; omega
  have hpe2 : p.toList.isEmpty = false := by simpa using hpe
  clear h2
  have HCA := Lib.hid hca
  clear hca
  have HCB := Lib.hid hcb
  clear hcb
  have HP := Lib.hid hp
  clear hp
  have HPQ := Lib.hid hq
  clear hq
  have HF := Lib.hid hf
  clear hf
  have HCT := Lib.hid hQ
  clear hQ
  have HN := Lib.hid hn
  clear hn
  have HM := Lib.hid hm
  clear hm
  have HK := Lib.hid hk
  clear hk
  have a_0 : Bk ((w.alloc (.cells #[.int .u8 (ka), .bool (ba), .int .i64 (na), .string (sa)] 24)).alloc (.cells #[.int .u8 (ka), .bool (bb), .int .i64 (nb), .string (sb)] 24)) w.heap.size 24 #[.int .u8 (ka), .bool (ba), .int .i64 (na), .string (sa)] := (Bk.new _ _ _).alloc _
  have b_0 : Bk ((w.alloc (.cells #[.int .u8 (ka), .bool (ba), .int .i64 (na), .string (sa)] 24)).alloc (.cells #[.int .u8 (ka), .bool (bb), .int .i64 (nb), .string (sb)] 24)) (w.heap.size + 1) 24 #[.int .u8 (ka), .bool (bb), .int .i64 (nb), .string (sb)] := Bk.at (by simp)
  have F0 : Ext w ((w.alloc (.cells #[.int .u8 (ka), .bool (ba), .int .i64 (na), .string (sa)] 24)).alloc (.cells #[.int .u8 (ka), .bool (bb), .int .i64 (nb), .string (sb)] 24)) := ((Ext.refl w).alloc _).alloc _
  have m1 : True := trivial
  go_enter Tryd.func3, Tryd.ntmps3
  go_wp2_with (first
    | (have z := m1; clear z m1; go_at_call 15; refine (check_at _ _ _ _ _ HCA ga (G.ext F0).good).mono ?_; rintro e w1 ⟨rfl, x1⟩; have a_1 := a_0.ext x1; have b_1 := b_0.ext x1; have F1 : Ext w w1 := (F0.trans x1); clear x1; have a_10 : w1.cell? ⟨w.heap.size, 0, none⟩ = some (.int .u8 (ka)) := a_1.cell 0; have a_11 : w1.cell? ⟨w.heap.size, 1, none⟩ = some (.bool (ba)) := a_1.cell 1; have a_12 : w1.cell? ⟨w.heap.size, 2, none⟩ = some (.int .i64 (na)) := a_1.cell 2; have a_13 : w1.cell? ⟨w.heap.size, 3, none⟩ = some (.string (sa)) := a_1.cell 3; have b_10 : w1.cell? ⟨w.heap.size + 1, 0, none⟩ = some (.int .u8 (ka)) := b_1.cell 0; have b_11 : w1.cell? ⟨w.heap.size + 1, 1, none⟩ = some (.bool (bb)) := b_1.cell 1; have b_12 : w1.cell? ⟨w.heap.size + 1, 2, none⟩ = some (.int .i64 (nb)) := b_1.cell 2; have b_13 : w1.cell? ⟨w.heap.size + 1, 3, none⟩ = some (.string (sb)) := b_1.cell 3; have m2 : True := trivial)
    | (have z := m2; clear z m2; go_at_call 15; refine (check_at _ _ _ _ _ HCB gb (G.ext F1).good).mono ?_; rintro e w2 ⟨rfl, x2⟩; have a_2 := a_1.ext x2; have b_2 := b_1.ext x2; have F2 : Ext w w2 := (F1.trans x2); clear x2; have a_20 : w2.cell? ⟨w.heap.size, 0, none⟩ = some (.int .u8 (ka)) := a_2.cell 0; have a_21 : w2.cell? ⟨w.heap.size, 1, none⟩ = some (.bool (ba)) := a_2.cell 1; have a_22 : w2.cell? ⟨w.heap.size, 2, none⟩ = some (.int .i64 (na)) := a_2.cell 2; have a_23 : w2.cell? ⟨w.heap.size, 3, none⟩ = some (.string (sa)) := a_2.cell 3; have b_20 : w2.cell? ⟨w.heap.size + 1, 0, none⟩ = some (.int .u8 (ka)) := b_2.cell 0; have b_21 : w2.cell? ⟨w.heap.size + 1, 1, none⟩ = some (.bool (bb)) := b_2.cell 1; have b_22 : w2.cell? ⟨w.heap.size + 1, 2, none⟩ = some (.int .i64 (nb)) := b_2.cell 2; have b_23 : w2.cell? ⟨w.heap.size + 1, 3, none⟩ = some (.string (sb)) := b_2.cell 3; have m3 : True := trivial)
    | (have z := m3; clear z m3; go_at_call 17; refine (print_lit _ _ _ _ _ HP ga HN.out (G.ext F2)).mono ?_; rintro e w3 ⟨rfl, x3⟩; have a_3 := a_2.ext x3; have b_3 := b_2.ext x3; have F3 : Ext w w3 := (F2.trans x3); clear x3; have a_30 : w3.cell? ⟨w.heap.size, 0, none⟩ = some (.int .u8 (ka)) := a_3.cell 0; have a_31 : w3.cell? ⟨w.heap.size, 1, none⟩ = some (.bool (ba)) := a_3.cell 1; have a_32 : w3.cell? ⟨w.heap.size, 2, none⟩ = some (.int .i64 (na)) := a_3.cell 2; have a_33 : w3.cell? ⟨w.heap.size, 3, none⟩ = some (.string (sa)) := a_3.cell 3; have b_30 : w3.cell? ⟨w.heap.size + 1, 0, none⟩ = some (.int .u8 (ka)) := b_3.cell 0; have b_31 : w3.cell? ⟨w.heap.size + 1, 1, none⟩ = some (.bool (bb)) := b_3.cell 1; have b_32 : w3.cell? ⟨w.heap.size + 1, 2, none⟩ = some (.int .i64 (nb)) := b_3.cell 2; have b_33 : w3.cell? ⟨w.heap.size + 1, 3, none⟩ = some (.string (sb)) := b_3.cell 3; have m4 : True := trivial)
    | (have z := m4; clear z m4; go_at_call 17; refine (print_lit _ _ _ _ _ HPQ gb HM.out (G.ext F3)).mono ?_; rintro e w4 ⟨rfl, x4⟩; have a_4 := a_3.ext x4; have b_4 := b_3.ext x4; have F4 : Ext w w4 := (F3.trans x4); clear x4; have a_40 : w4.cell? ⟨w.heap.size, 0, none⟩ = some (.int .u8 (ka)) := a_4.cell 0; have a_41 : w4.cell? ⟨w.heap.size, 1, none⟩ = some (.bool (ba)) := a_4.cell 1; have a_42 : w4.cell? ⟨w.heap.size, 2, none⟩ = some (.int .i64 (na)) := a_4.cell 2; have a_43 : w4.cell? ⟨w.heap.size, 3, none⟩ = some (.string (sa)) := a_4.cell 3; have b_40 : w4.cell? ⟨w.heap.size + 1, 0, none⟩ = some (.int .u8 (ka)) := b_4.cell 0; have b_41 : w4.cell? ⟨w.heap.size + 1, 1, none⟩ = some (.bool (bb)) := b_4.cell 1; have b_42 : w4.cell? ⟨w.heap.size + 1, 2, none⟩ = some (.int .i64 (nb)) := b_4.cell 2; have b_43 : w4.cell? ⟨w.heap.size + 1, 3, none⟩ = some (.string (sb)) := b_4.cell 3; have m5 : True := trivial)
    | fail)
  go_loop [7, 8] (fun u v => ∃ k c : Nat, k ≤ p.size ∧ c ≤ k ∧ u = .int .i64 c ∧ v = .int .i64 k ∧ Hid ((p.data.toList.take k).count 39 = c)) (fun _ v => p.size - (intOf v).toNat)
  case atStart => exact ⟨0, 0, Nat.zero_le _, Nat.le_refl _, rfl, rfl, Lib.hid rfl⟩
  case round =>
    obtain ⟨k, c, hk, hc, rfl, rfl, hcnt⟩ := hrel
    by_cases hlt : k < p.size
    · have hpl := HF.out k hlt
      have HT := Lib.hid (take_count hlt)
      have h32 : (32 : Int) ≤ (p[k].toNat : Int) := by omega
      have z32 : decide ((p[k].toNat : Int) < 32) = false := by simp; omega
      have z127 : ((p[k].toNat : Int) == 127) = false := by simp; omega
      by_cases h39 : p[k].toNat = 39
      · have z39 : ((p[k].toNat : Int) == 39) = true := by simp; omega
        have HCN : Hid ((p.data.toList.take (k + 1)).count 39 = c + 1) := Lib.hid (by rw [HT.out, hcnt.out, if_pos h39])
        clear h39 hpl hcnt
        go_wp2
        go_round
        case rel => exact ⟨k + 1, c + 1, by omega, by omega, by go_num, by go_num, HCN⟩
        case measure => simp [intOf]; omega
      · have z39 : ((p[k].toNat : Int) == 39) = false := by simp; omega
        have HCN : Hid ((p.data.toList.take (k + 1)).count 39 = c) := Lib.hid (by rw [HT.out, hcnt.out, if_neg h39]; rfl)
        clear h39 hpl hcnt
        go_wp2
        go_round
        case rel => exact ⟨k + 1, c, by omega, by omega, by go_num, by go_num, HCN⟩
        case measure => simp [intOf]; omega
    · have e1 : k = p.size := by omega
      have e2 : c = Q := by
        have h := hcnt.out
        rw [e1, List.take_of_length_le (by simp), HCT.out] at h
        exact h.symm
      subst e2
      clear hcnt e1
      rcases HK.out with ⟨h3, h4⟩ | ⟨rfl, h4⟩
      · have h5 : ¬ c = 0 := by omega
        go_wp2_with (first
          | (have z := m5; clear z m5; go_at_call 16; refine (known_true _ (G.ext F4).good).mono ?_; rintro e w5 ⟨rfl, x5⟩; have a_5 := a_4.ext x5; have b_5 := b_4.ext x5; have F5 : Ext w w5 := (F4.trans x5); clear x5; have a_50 : w5.cell? ⟨w.heap.size, 0, none⟩ = some (.int .u8 (ka)) := a_5.cell 0; have a_51 : w5.cell? ⟨w.heap.size, 1, none⟩ = some (.bool (ba)) := a_5.cell 1; have a_52 : w5.cell? ⟨w.heap.size, 2, none⟩ = some (.int .i64 (na)) := a_5.cell 2; have a_53 : w5.cell? ⟨w.heap.size, 3, none⟩ = some (.string (sa)) := a_5.cell 3; have b_50 : w5.cell? ⟨w.heap.size + 1, 0, none⟩ = some (.int .u8 (ka)) := b_5.cell 0; have b_51 : w5.cell? ⟨w.heap.size + 1, 1, none⟩ = some (.bool (bb)) := b_5.cell 1; have b_52 : w5.cell? ⟨w.heap.size + 1, 2, none⟩ = some (.int .i64 (nb)) := b_5.cell 2; have b_53 : w5.cell? ⟨w.heap.size + 1, 3, none⟩ = some (.string (sb)) := b_5.cell 3; have m6 : True := trivial)
          | fail)
        go_ret
        exact ⟨rfl, F5⟩
      · go_wp2_with (first
          | (have z := m5; clear z m5; go_at_call 16; refine (known_true _ (G.ext F4).good).mono ?_; rintro e w5 ⟨rfl, x5⟩; have a_5 := a_4.ext x5; have b_5 := b_4.ext x5; have F5 : Ext w w5 := (F4.trans x5); clear x5; have a_50 : w5.cell? ⟨w.heap.size, 0, none⟩ = some (.int .u8 (ka)) := a_5.cell 0; have a_51 : w5.cell? ⟨w.heap.size, 1, none⟩ = some (.bool (ba)) := a_5.cell 1; have a_52 : w5.cell? ⟨w.heap.size, 2, none⟩ = some (.int .i64 (na)) := a_5.cell 2; have a_53 : w5.cell? ⟨w.heap.size, 3, none⟩ = some (.string (sa)) := a_5.cell 3; have b_50 : w5.cell? ⟨w.heap.size + 1, 0, none⟩ = some (.int .u8 (ka)) := b_5.cell 0; have b_51 : w5.cell? ⟨w.heap.size + 1, 1, none⟩ = some (.bool (bb)) := b_5.cell 1; have b_52 : w5.cell? ⟨w.heap.size + 1, 2, none⟩ = some (.int .i64 (nb)) := b_5.cell 2; have b_53 : w5.cell? ⟨w.heap.size + 1, 3, none⟩ = some (.string (sb)) := b_5.cell 3; have m6 : True := trivial)
          | fail)
        go_ret
        exact ⟨rfl, F5⟩
set_option maxRecDepth 100000 in
set_option maxHeartbeats 4000000 in
theorem writ_ok2 (ka na nb : Int) (ba : Bool) (sa sb : ByteArray) (p q : ByteArray) (Q : Nat) (w : World) (ga : sa.size ≤ 9223372036854775807) (gb : sb.size ≤ 9223372036854775807) (G : Good2 w)
    (hn : -9223372036854775808 ≤ na ∧ na ≤ 9223372036854775807) (hm : -9223372036854775808 ≤ nb ∧ nb ≤ 9223372036854775807) (hca : checkT ka ba na sa = 0) (hcb : checkT ka ba nb sb = 0) (hp : printT ka ba na sa = p) (hq : printT ka ba nb sb = q) (hz : (na == nb) = false)
    (hpq : ¬ p.toList = q.toList)
    (hf : ∀ k (h : k < p.size), 32 ≤ p[k].toNat ∧ ¬ p[k].toNat = 127) (hQ : p.data.toList.count 39 = Q) (h2 : Q % 2 = 0) (hk : (0 < Q ∧ (ka == 4) = true) ∨ (Q = 0 ∧ (ka == 4) = false)) (hpe : ¬ p.toList = []) (hl : p.size ≤ 100000) :
    Calls Tryd.prog 3 #[.agg #[.int .u8 (ka), .bool (ba), .int .i64 (na), .string (sa)], .agg #[.int .u8 (ka), .bool (ba), .int .i64 (nb), .string (sb)]] w fun e w' => e = .returned (.bool true) ∧ Ext w w' := by
  have hpq2 : (p.toList == q.toList) = false := by simpa using hpq
  have hpq3 : (!(p.toList == q.toList)) = true := by simpa using hpq
  have t2 : (Q : Int) % 2 = 0 := by omega
  have t3 : (Q : Int).tmod 2 = 0 := by rw [Int.tmod_eq_emod_of_nonneg (by omega)]; omega
  have hpe2 : p.toList.isEmpty = false := by simpa using hpe
  clear h2
  have HCA := Lib.hid hca
  clear hca
  have HCB := Lib.hid hcb
  clear hcb
  have HP := Lib.hid hp
  clear hp
  have HPQ := Lib.hid hq
  clear hq
  have HF := Lib.hid hf
  clear hf
  have HCT := Lib.hid hQ
  clear hQ
  have HN := Lib.hid hn
  clear hn
  have HM := Lib.hid hm
  clear hm
  have HK := Lib.hid hk
  clear hk
  have a_0 : Bk ((w.alloc (.cells #[.int .u8 (ka), .bool (ba), .int .i64 (na), .string (sa)] 24)).alloc (.cells #[.int .u8 (ka), .bool (ba), .int .i64 (nb), .string (sb)] 24)) w.heap.size 24 #[.int .u8 (ka), .bool (ba), .int .i64 (na), .string (sa)] := (Bk.new _ _ _).alloc _
  have b_0 : Bk ((w.alloc (.cells #[.int .u8 (ka), .bool (ba), .int .i64 (na), .string (sa)] 24)).alloc (.cells #[.int .u8 (ka), .bool (ba), .int .i64 (nb), .string (sb)] 24)) (w.heap.size + 1) 24 #[.int .u8 (ka), .bool (ba), .int .i64 (nb), .string (sb)] := Bk.at (by simp)
  have F0 : Ext w ((w.alloc (.cells #[.int .u8 (ka), .bool (ba), .int .i64 (na), .string (sa)] 24)).alloc (.cells #[.int .u8 (ka), .bool (ba), .int .i64 (nb), .string (sb)] 24)) := ((Ext.refl w).alloc _).alloc _
  have m1 : True := trivial
  go_enter Tryd.func3, Tryd.ntmps3
  go_wp2_with (first
    | (have z := m1; clear z m1; go_at_call 15; refine (check_at _ _ _ _ _ HCA ga (G.ext F0).good).mono ?_; rintro e w1 ⟨rfl, x1⟩; have a_1 := a_0.ext x1; have b_1 := b_0.ext x1; have F1 : Ext w w1 := (F0.trans x1); clear x1; have a_10 : w1.cell? ⟨w.heap.size, 0, none⟩ = some (.int .u8 (ka)) := a_1.cell 0; have a_11 : w1.cell? ⟨w.heap.size, 1, none⟩ = some (.bool (ba)) := a_1.cell 1; have a_12 : w1.cell? ⟨w.heap.size, 2, none⟩ = some (.int .i64 (na)) := a_1.cell 2; have a_13 : w1.cell? ⟨w.heap.size, 3, none⟩ = some (.string (sa)) := a_1.cell 3; have b_10 : w1.cell? ⟨w.heap.size + 1, 0, none⟩ = some (.int .u8 (ka)) := b_1.cell 0; have b_11 : w1.cell? ⟨w.heap.size + 1, 1, none⟩ = some (.bool (ba)) := b_1.cell 1; have b_12 : w1.cell? ⟨w.heap.size + 1, 2, none⟩ = some (.int .i64 (nb)) := b_1.cell 2; have b_13 : w1.cell? ⟨w.heap.size + 1, 3, none⟩ = some (.string (sb)) := b_1.cell 3; have m2 : True := trivial)
    | (have z := m2; clear z m2; go_at_call 15; refine (check_at _ _ _ _ _ HCB gb (G.ext F1).good).mono ?_; rintro e w2 ⟨rfl, x2⟩; have a_2 := a_1.ext x2; have b_2 := b_1.ext x2; have F2 : Ext w w2 := (F1.trans x2); clear x2; have a_20 : w2.cell? ⟨w.heap.size, 0, none⟩ = some (.int .u8 (ka)) := a_2.cell 0; have a_21 : w2.cell? ⟨w.heap.size, 1, none⟩ = some (.bool (ba)) := a_2.cell 1; have a_22 : w2.cell? ⟨w.heap.size, 2, none⟩ = some (.int .i64 (na)) := a_2.cell 2; have a_23 : w2.cell? ⟨w.heap.size, 3, none⟩ = some (.string (sa)) := a_2.cell 3; have b_20 : w2.cell? ⟨w.heap.size + 1, 0, none⟩ = some (.int .u8 (ka)) := b_2.cell 0; have b_21 : w2.cell? ⟨w.heap.size + 1, 1, none⟩ = some (.bool (ba)) := b_2.cell 1; have b_22 : w2.cell? ⟨w.heap.size + 1, 2, none⟩ = some (.int .i64 (nb)) := b_2.cell 2; have b_23 : w2.cell? ⟨w.heap.size + 1, 3, none⟩ = some (.string (sb)) := b_2.cell 3; have m3 : True := trivial)
    | (have z := m3; clear z m3; go_at_call 17; refine (print_lit _ _ _ _ _ HP ga HN.out (G.ext F2)).mono ?_; rintro e w3 ⟨rfl, x3⟩; have a_3 := a_2.ext x3; have b_3 := b_2.ext x3; have F3 : Ext w w3 := (F2.trans x3); clear x3; have a_30 : w3.cell? ⟨w.heap.size, 0, none⟩ = some (.int .u8 (ka)) := a_3.cell 0; have a_31 : w3.cell? ⟨w.heap.size, 1, none⟩ = some (.bool (ba)) := a_3.cell 1; have a_32 : w3.cell? ⟨w.heap.size, 2, none⟩ = some (.int .i64 (na)) := a_3.cell 2; have a_33 : w3.cell? ⟨w.heap.size, 3, none⟩ = some (.string (sa)) := a_3.cell 3; have b_30 : w3.cell? ⟨w.heap.size + 1, 0, none⟩ = some (.int .u8 (ka)) := b_3.cell 0; have b_31 : w3.cell? ⟨w.heap.size + 1, 1, none⟩ = some (.bool (ba)) := b_3.cell 1; have b_32 : w3.cell? ⟨w.heap.size + 1, 2, none⟩ = some (.int .i64 (nb)) := b_3.cell 2; have b_33 : w3.cell? ⟨w.heap.size + 1, 3, none⟩ = some (.string (sb)) := b_3.cell 3; have m4 : True := trivial)
    | (have z := m4; clear z m4; go_at_call 17; refine (print_lit _ _ _ _ _ HPQ gb HM.out (G.ext F3)).mono ?_; rintro e w4 ⟨rfl, x4⟩; have a_4 := a_3.ext x4; have b_4 := b_3.ext x4; have F4 : Ext w w4 := (F3.trans x4); clear x4; have a_40 : w4.cell? ⟨w.heap.size, 0, none⟩ = some (.int .u8 (ka)) := a_4.cell 0; have a_41 : w4.cell? ⟨w.heap.size, 1, none⟩ = some (.bool (ba)) := a_4.cell 1; have a_42 : w4.cell? ⟨w.heap.size, 2, none⟩ = some (.int .i64 (na)) := a_4.cell 2; have a_43 : w4.cell? ⟨w.heap.size, 3, none⟩ = some (.string (sa)) := a_4.cell 3; have b_40 : w4.cell? ⟨w.heap.size + 1, 0, none⟩ = some (.int .u8 (ka)) := b_4.cell 0; have b_41 : w4.cell? ⟨w.heap.size + 1, 1, none⟩ = some (.bool (ba)) := b_4.cell 1; have b_42 : w4.cell? ⟨w.heap.size + 1, 2, none⟩ = some (.int .i64 (nb)) := b_4.cell 2; have b_43 : w4.cell? ⟨w.heap.size + 1, 3, none⟩ = some (.string (sb)) := b_4.cell 3; have m5 : True := trivial)
    | fail)
  go_loop [7, 8] (fun u v => ∃ k c : Nat, k ≤ p.size ∧ c ≤ k ∧ u = .int .i64 c ∧ v = .int .i64 k ∧ Hid ((p.data.toList.take k).count 39 = c)) (fun _ v => p.size - (intOf v).toNat)
  case atStart => exact ⟨0, 0, Nat.zero_le _, Nat.le_refl _, rfl, rfl, Lib.hid rfl⟩
  case round =>
    obtain ⟨k, c, hk, hc, rfl, rfl, hcnt⟩ := hrel
    by_cases hlt : k < p.size
    · have hpl := HF.out k hlt
      have HT := Lib.hid (take_count hlt)
      have h32 : (32 : Int) ≤ (p[k].toNat : Int) := by omega
      have z32 : decide ((p[k].toNat : Int) < 32) = false := by simp; omega
      have z127 : ((p[k].toNat : Int) == 127) = false := by simp; omega
      by_cases h39 : p[k].toNat = 39
      · have z39 : ((p[k].toNat : Int) == 39) = true := by simp; omega
        have HCN : Hid ((p.data.toList.take (k + 1)).count 39 = c + 1) := Lib.hid (by rw [HT.out, hcnt.out, if_pos h39])
        clear h39 hpl hcnt
        go_wp2
        go_round
        case rel => exact ⟨k + 1, c + 1, by omega, by omega, by go_num, by go_num, HCN⟩
        case measure => simp [intOf]; omega
      · have z39 : ((p[k].toNat : Int) == 39) = false := by simp; omega
        have HCN : Hid ((p.data.toList.take (k + 1)).count 39 = c) := Lib.hid (by rw [HT.out, hcnt.out, if_neg h39]; rfl)
        clear h39 hpl hcnt
        go_wp2
        go_round
        case rel => exact ⟨k + 1, c, by omega, by omega, by go_num, by go_num, HCN⟩
        case measure => simp [intOf]; omega
    · have e1 : k = p.size := by omega
      have e2 : c = Q := by
        have h := hcnt.out
        rw [e1, List.take_of_length_le (by simp), HCT.out] at h
        exact h.symm
      subst e2
      clear hcnt e1
      rcases HK.out with ⟨h3, h4⟩ | ⟨rfl, h4⟩
      · have h5 : ¬ c = 0 := by omega
        go_wp2_with (first
          | (have z := m5; clear z m5; go_at_call 16; refine (known_true _ (G.ext F4).good).mono ?_; rintro e w5 ⟨rfl, x5⟩; have a_5 := a_4.ext x5; have b_5 := b_4.ext x5; have F5 : Ext w w5 := (F4.trans x5); clear x5; have a_50 : w5.cell? ⟨w.heap.size, 0, none⟩ = some (.int .u8 (ka)) := a_5.cell 0; have a_51 : w5.cell? ⟨w.heap.size, 1, none⟩ = some (.bool (ba)) := a_5.cell 1; have a_52 : w5.cell? ⟨w.heap.size, 2, none⟩ = some (.int .i64 (na)) := a_5.cell 2; have a_53 : w5.cell? ⟨w.heap.size, 3, none⟩ = some (.string (sa)) := a_5.cell 3; have b_50 : w5.cell? ⟨w.heap.size + 1, 0, none⟩ = some (.int .u8 (ka)) := b_5.cell 0; have b_51 : w5.cell? ⟨w.heap.size + 1, 1, none⟩ = some (.bool (ba)) := b_5.cell 1; have b_52 : w5.cell? ⟨w.heap.size + 1, 2, none⟩ = some (.int .i64 (nb)) := b_5.cell 2; have b_53 : w5.cell? ⟨w.heap.size + 1, 3, none⟩ = some (.string (sb)) := b_5.cell 3; have m6 : True := trivial)
          | fail)
        go_ret
        exact ⟨rfl, F5⟩
      · go_wp2_with (first
          | (have z := m5; clear z m5; go_at_call 16; refine (known_true _ (G.ext F4).good).mono ?_; rintro e w5 ⟨rfl, x5⟩; have a_5 := a_4.ext x5; have b_5 := b_4.ext x5; have F5 : Ext w w5 := (F4.trans x5); clear x5; have a_50 : w5.cell? ⟨w.heap.size, 0, none⟩ = some (.int .u8 (ka)) := a_5.cell 0; have a_51 : w5.cell? ⟨w.heap.size, 1, none⟩ = some (.bool (ba)) := a_5.cell 1; have a_52 : w5.cell? ⟨w.heap.size, 2, none⟩ = some (.int .i64 (na)) := a_5.cell 2; have a_53 : w5.cell? ⟨w.heap.size, 3, none⟩ = some (.string (sa)) := a_5.cell 3; have b_50 : w5.cell? ⟨w.heap.size + 1, 0, none⟩ = some (.int .u8 (ka)) := b_5.cell 0; have b_51 : w5.cell? ⟨w.heap.size + 1, 1, none⟩ = some (.bool (ba)) := b_5.cell 1; have b_52 : w5.cell? ⟨w.heap.size + 1, 2, none⟩ = some (.int .i64 (nb)) := b_5.cell 2; have b_53 : w5.cell? ⟨w.heap.size + 1, 3, none⟩ = some (.string (sb)) := b_5.cell 3; have m6 : True := trivial)
          | fail)
        go_ret
        exact ⟨rfl, F5⟩
set_option maxRecDepth 100000 in
set_option maxHeartbeats 4000000 in
theorem writ_ok3 (ka na : Int) (ba : Bool) (sa sb : ByteArray) (p q : ByteArray) (Q : Nat) (w : World) (ga : sa.size ≤ 9223372036854775807) (gb : sb.size ≤ 9223372036854775807) (G : Good2 w)
    (hn : -9223372036854775808 ≤ na ∧ na ≤ 9223372036854775807) (hm : -9223372036854775808 ≤ na ∧ na ≤ 9223372036854775807) (hca : checkT ka ba na sa = 0) (hcb : checkT ka ba na sb = 0) (hp : printT ka ba na sa = p) (hq : printT ka ba na sb = q) (hz : ¬ sa.toList = sb.toList)
    (hpq : ¬ p.toList = q.toList)
    (hf : ∀ k (h : k < p.size), 32 ≤ p[k].toNat ∧ ¬ p[k].toNat = 127) (hQ : p.data.toList.count 39 = Q) (h2 : Q % 2 = 0) (hk : (0 < Q ∧ (ka == 4) = true) ∨ (Q = 0 ∧ (ka == 4) = false)) (hpe : ¬ p.toList = []) (hl : p.size ≤ 100000) :
    Calls Tryd.prog 3 #[.agg #[.int .u8 (ka), .bool (ba), .int .i64 (na), .string (sa)], .agg #[.int .u8 (ka), .bool (ba), .int .i64 (na), .string (sb)]] w fun e w' => e = .returned (.bool true) ∧ Ext w w' := by
  have hpq2 : (p.toList == q.toList) = false := by simpa using hpq
  have hpq3 : (!(p.toList == q.toList)) = true := by simpa using hpq
  have t2 : (Q : Int) % 2 = 0 := by omega
  have t3 : (Q : Int).tmod 2 = 0 := by rw [Int.tmod_eq_emod_of_nonneg (by omega)]; omega
  have hpe2 : p.toList.isEmpty = false := by simpa using hpe
  clear h2
  have HCA := Lib.hid hca
  clear hca
  have HCB := Lib.hid hcb
  clear hcb
  have HP := Lib.hid hp
  clear hp
  have HPQ := Lib.hid hq
  clear hq
  have HF := Lib.hid hf
  clear hf
  have HCT := Lib.hid hQ
  clear hQ
  have HN := Lib.hid hn
  clear hn
  have HM := Lib.hid hm
  clear hm
  have HK := Lib.hid hk
  clear hk
  have a_0 : Bk ((w.alloc (.cells #[.int .u8 (ka), .bool (ba), .int .i64 (na), .string (sa)] 24)).alloc (.cells #[.int .u8 (ka), .bool (ba), .int .i64 (na), .string (sb)] 24)) w.heap.size 24 #[.int .u8 (ka), .bool (ba), .int .i64 (na), .string (sa)] := (Bk.new _ _ _).alloc _
  have b_0 : Bk ((w.alloc (.cells #[.int .u8 (ka), .bool (ba), .int .i64 (na), .string (sa)] 24)).alloc (.cells #[.int .u8 (ka), .bool (ba), .int .i64 (na), .string (sb)] 24)) (w.heap.size + 1) 24 #[.int .u8 (ka), .bool (ba), .int .i64 (na), .string (sb)] := Bk.at (by simp)
  have F0 : Ext w ((w.alloc (.cells #[.int .u8 (ka), .bool (ba), .int .i64 (na), .string (sa)] 24)).alloc (.cells #[.int .u8 (ka), .bool (ba), .int .i64 (na), .string (sb)] 24)) := ((Ext.refl w).alloc _).alloc _
  have m1 : True := trivial
  go_enter Tryd.func3, Tryd.ntmps3
  go_wp2_with (first
    | (have z := m1; clear z m1; go_at_call 15; refine (check_at _ _ _ _ _ HCA ga (G.ext F0).good).mono ?_; rintro e w1 ⟨rfl, x1⟩; have a_1 := a_0.ext x1; have b_1 := b_0.ext x1; have F1 : Ext w w1 := (F0.trans x1); clear x1; have a_10 : w1.cell? ⟨w.heap.size, 0, none⟩ = some (.int .u8 (ka)) := a_1.cell 0; have a_11 : w1.cell? ⟨w.heap.size, 1, none⟩ = some (.bool (ba)) := a_1.cell 1; have a_12 : w1.cell? ⟨w.heap.size, 2, none⟩ = some (.int .i64 (na)) := a_1.cell 2; have a_13 : w1.cell? ⟨w.heap.size, 3, none⟩ = some (.string (sa)) := a_1.cell 3; have b_10 : w1.cell? ⟨w.heap.size + 1, 0, none⟩ = some (.int .u8 (ka)) := b_1.cell 0; have b_11 : w1.cell? ⟨w.heap.size + 1, 1, none⟩ = some (.bool (ba)) := b_1.cell 1; have b_12 : w1.cell? ⟨w.heap.size + 1, 2, none⟩ = some (.int .i64 (na)) := b_1.cell 2; have b_13 : w1.cell? ⟨w.heap.size + 1, 3, none⟩ = some (.string (sb)) := b_1.cell 3; have m2 : True := trivial)
    | (have z := m2; clear z m2; go_at_call 15; refine (check_at _ _ _ _ _ HCB gb (G.ext F1).good).mono ?_; rintro e w2 ⟨rfl, x2⟩; have a_2 := a_1.ext x2; have b_2 := b_1.ext x2; have F2 : Ext w w2 := (F1.trans x2); clear x2; have a_20 : w2.cell? ⟨w.heap.size, 0, none⟩ = some (.int .u8 (ka)) := a_2.cell 0; have a_21 : w2.cell? ⟨w.heap.size, 1, none⟩ = some (.bool (ba)) := a_2.cell 1; have a_22 : w2.cell? ⟨w.heap.size, 2, none⟩ = some (.int .i64 (na)) := a_2.cell 2; have a_23 : w2.cell? ⟨w.heap.size, 3, none⟩ = some (.string (sa)) := a_2.cell 3; have b_20 : w2.cell? ⟨w.heap.size + 1, 0, none⟩ = some (.int .u8 (ka)) := b_2.cell 0; have b_21 : w2.cell? ⟨w.heap.size + 1, 1, none⟩ = some (.bool (ba)) := b_2.cell 1; have b_22 : w2.cell? ⟨w.heap.size + 1, 2, none⟩ = some (.int .i64 (na)) := b_2.cell 2; have b_23 : w2.cell? ⟨w.heap.size + 1, 3, none⟩ = some (.string (sb)) := b_2.cell 3; have m3 : True := trivial)
    | (have z := m3; clear z m3; go_at_call 17; refine (print_lit _ _ _ _ _ HP ga HN.out (G.ext F2)).mono ?_; rintro e w3 ⟨rfl, x3⟩; have a_3 := a_2.ext x3; have b_3 := b_2.ext x3; have F3 : Ext w w3 := (F2.trans x3); clear x3; have a_30 : w3.cell? ⟨w.heap.size, 0, none⟩ = some (.int .u8 (ka)) := a_3.cell 0; have a_31 : w3.cell? ⟨w.heap.size, 1, none⟩ = some (.bool (ba)) := a_3.cell 1; have a_32 : w3.cell? ⟨w.heap.size, 2, none⟩ = some (.int .i64 (na)) := a_3.cell 2; have a_33 : w3.cell? ⟨w.heap.size, 3, none⟩ = some (.string (sa)) := a_3.cell 3; have b_30 : w3.cell? ⟨w.heap.size + 1, 0, none⟩ = some (.int .u8 (ka)) := b_3.cell 0; have b_31 : w3.cell? ⟨w.heap.size + 1, 1, none⟩ = some (.bool (ba)) := b_3.cell 1; have b_32 : w3.cell? ⟨w.heap.size + 1, 2, none⟩ = some (.int .i64 (na)) := b_3.cell 2; have b_33 : w3.cell? ⟨w.heap.size + 1, 3, none⟩ = some (.string (sb)) := b_3.cell 3; have m4 : True := trivial)
    | (have z := m4; clear z m4; go_at_call 17; refine (print_lit _ _ _ _ _ HPQ gb HM.out (G.ext F3)).mono ?_; rintro e w4 ⟨rfl, x4⟩; have a_4 := a_3.ext x4; have b_4 := b_3.ext x4; have F4 : Ext w w4 := (F3.trans x4); clear x4; have a_40 : w4.cell? ⟨w.heap.size, 0, none⟩ = some (.int .u8 (ka)) := a_4.cell 0; have a_41 : w4.cell? ⟨w.heap.size, 1, none⟩ = some (.bool (ba)) := a_4.cell 1; have a_42 : w4.cell? ⟨w.heap.size, 2, none⟩ = some (.int .i64 (na)) := a_4.cell 2; have a_43 : w4.cell? ⟨w.heap.size, 3, none⟩ = some (.string (sa)) := a_4.cell 3; have b_40 : w4.cell? ⟨w.heap.size + 1, 0, none⟩ = some (.int .u8 (ka)) := b_4.cell 0; have b_41 : w4.cell? ⟨w.heap.size + 1, 1, none⟩ = some (.bool (ba)) := b_4.cell 1; have b_42 : w4.cell? ⟨w.heap.size + 1, 2, none⟩ = some (.int .i64 (na)) := b_4.cell 2; have b_43 : w4.cell? ⟨w.heap.size + 1, 3, none⟩ = some (.string (sb)) := b_4.cell 3; have m5 : True := trivial)
    | fail)
  go_loop [7, 8] (fun u v => ∃ k c : Nat, k ≤ p.size ∧ c ≤ k ∧ u = .int .i64 c ∧ v = .int .i64 k ∧ Hid ((p.data.toList.take k).count 39 = c)) (fun _ v => p.size - (intOf v).toNat)
  case atStart => exact ⟨0, 0, Nat.zero_le _, Nat.le_refl _, rfl, rfl, Lib.hid rfl⟩
  case round =>
    obtain ⟨k, c, hk, hc, rfl, rfl, hcnt⟩ := hrel
    by_cases hlt : k < p.size
    · have hpl := HF.out k hlt
      have HT := Lib.hid (take_count hlt)
      have h32 : (32 : Int) ≤ (p[k].toNat : Int) := by omega
      have z32 : decide ((p[k].toNat : Int) < 32) = false := by simp; omega
      have z127 : ((p[k].toNat : Int) == 127) = false := by simp; omega
      by_cases h39 : p[k].toNat = 39
      · have z39 : ((p[k].toNat : Int) == 39) = true := by simp; omega
        have HCN : Hid ((p.data.toList.take (k + 1)).count 39 = c + 1) := Lib.hid (by rw [HT.out, hcnt.out, if_pos h39])
        clear h39 hpl hcnt
        go_wp2
        go_round
        case rel => exact ⟨k + 1, c + 1, by omega, by omega, by go_num, by go_num, HCN⟩
        case measure => simp [intOf]; omega
      · have z39 : ((p[k].toNat : Int) == 39) = false := by simp; omega
        have HCN : Hid ((p.data.toList.take (k + 1)).count 39 = c) := Lib.hid (by rw [HT.out, hcnt.out, if_neg h39]; rfl)
        clear h39 hpl hcnt
        go_wp2
        go_round
        case rel => exact ⟨k + 1, c, by omega, by omega, by go_num, by go_num, HCN⟩
        case measure => simp [intOf]; omega
    · have e1 : k = p.size := by omega
      have e2 : c = Q := by
        have h := hcnt.out
        rw [e1, List.take_of_length_le (by simp), HCT.out] at h
        exact h.symm
      subst e2
      clear hcnt e1
      rcases HK.out with ⟨h3, h4⟩ | ⟨rfl, h4⟩
      · have h5 : ¬ c = 0 := by omega
        go_wp2_with (first
          | (have z := m5; clear z m5; go_at_call 16; refine (known_true _ (G.ext F4).good).mono ?_; rintro e w5 ⟨rfl, x5⟩; have a_5 := a_4.ext x5; have b_5 := b_4.ext x5; have F5 : Ext w w5 := (F4.trans x5); clear x5; have a_50 : w5.cell? ⟨w.heap.size, 0, none⟩ = some (.int .u8 (ka)) := a_5.cell 0; have a_51 : w5.cell? ⟨w.heap.size, 1, none⟩ = some (.bool (ba)) := a_5.cell 1; have a_52 : w5.cell? ⟨w.heap.size, 2, none⟩ = some (.int .i64 (na)) := a_5.cell 2; have a_53 : w5.cell? ⟨w.heap.size, 3, none⟩ = some (.string (sa)) := a_5.cell 3; have b_50 : w5.cell? ⟨w.heap.size + 1, 0, none⟩ = some (.int .u8 (ka)) := b_5.cell 0; have b_51 : w5.cell? ⟨w.heap.size + 1, 1, none⟩ = some (.bool (ba)) := b_5.cell 1; have b_52 : w5.cell? ⟨w.heap.size + 1, 2, none⟩ = some (.int .i64 (na)) := b_5.cell 2; have b_53 : w5.cell? ⟨w.heap.size + 1, 3, none⟩ = some (.string (sb)) := b_5.cell 3; have m6 : True := trivial)
          | fail)
        go_ret
        exact ⟨rfl, F5⟩
      · go_wp2_with (first
          | (have z := m5; clear z m5; go_at_call 16; refine (known_true _ (G.ext F4).good).mono ?_; rintro e w5 ⟨rfl, x5⟩; have a_5 := a_4.ext x5; have b_5 := b_4.ext x5; have F5 : Ext w w5 := (F4.trans x5); clear x5; have a_50 : w5.cell? ⟨w.heap.size, 0, none⟩ = some (.int .u8 (ka)) := a_5.cell 0; have a_51 : w5.cell? ⟨w.heap.size, 1, none⟩ = some (.bool (ba)) := a_5.cell 1; have a_52 : w5.cell? ⟨w.heap.size, 2, none⟩ = some (.int .i64 (na)) := a_5.cell 2; have a_53 : w5.cell? ⟨w.heap.size, 3, none⟩ = some (.string (sa)) := a_5.cell 3; have b_50 : w5.cell? ⟨w.heap.size + 1, 0, none⟩ = some (.int .u8 (ka)) := b_5.cell 0; have b_51 : w5.cell? ⟨w.heap.size + 1, 1, none⟩ = some (.bool (ba)) := b_5.cell 1; have b_52 : w5.cell? ⟨w.heap.size + 1, 2, none⟩ = some (.int .i64 (na)) := b_5.cell 2; have b_53 : w5.cell? ⟨w.heap.size + 1, 3, none⟩ = some (.string (sb)) := b_5.cell 3; have m6 : True := trivial)
          | fail)
        go_ret
        exact ⟨rfl, F5⟩
set_option maxRecDepth 100000 in
set_option maxHeartbeats 4000000 in
theorem writ_ok4 (ka na : Int) (ba : Bool) (sa : ByteArray) (p : ByteArray) (Q : Nat) (w : World) (ga : sa.size ≤ 9223372036854775807) (gb : sa.size ≤ 9223372036854775807) (G : Good2 w)
    (hn : -9223372036854775808 ≤ na ∧ na ≤ 9223372036854775807) (hm : -9223372036854775808 ≤ na ∧ na ≤ 9223372036854775807) (hca : checkT ka ba na sa = 0) (hcb : checkT ka ba na sa = 0) (hp : printT ka ba na sa = p) (hq : printT ka ba na sa = p) 
    (hf : ∀ k (h : k < p.size), 32 ≤ p[k].toNat ∧ ¬ p[k].toNat = 127) (hQ : p.data.toList.count 39 = Q) (h2 : Q % 2 = 0) (hk : (0 < Q ∧ (ka == 4) = true) ∨ (Q = 0 ∧ (ka == 4) = false)) (hpe : ¬ p.toList = []) (hl : p.size ≤ 100000) :
    Calls Tryd.prog 3 #[.agg #[.int .u8 (ka), .bool (ba), .int .i64 (na), .string (sa)], .agg #[.int .u8 (ka), .bool (ba), .int .i64 (na), .string (sa)]] w fun e w' => e = .returned (.bool true) ∧ Ext w w' := by
  have t2 : (Q : Int) % 2 = 0 := by omega
  have t3 : (Q : Int).tmod 2 = 0 := by rw [Int.tmod_eq_emod_of_nonneg (by omega)]; omega
  have hpe2 : p.toList.isEmpty = false := by simpa using hpe
  clear h2
  have HCA := Lib.hid hca
  clear hca
  have HCB := Lib.hid hcb
  clear hcb
  have HP := Lib.hid hp
  clear hp
  have HPQ := Lib.hid hq
  clear hq
  have HF := Lib.hid hf
  clear hf
  have HCT := Lib.hid hQ
  clear hQ
  have HN := Lib.hid hn
  clear hn
  have HM := Lib.hid hm
  clear hm
  have HK := Lib.hid hk
  clear hk
  have a_0 : Bk ((w.alloc (.cells #[.int .u8 (ka), .bool (ba), .int .i64 (na), .string (sa)] 24)).alloc (.cells #[.int .u8 (ka), .bool (ba), .int .i64 (na), .string (sa)] 24)) w.heap.size 24 #[.int .u8 (ka), .bool (ba), .int .i64 (na), .string (sa)] := (Bk.new _ _ _).alloc _
  have b_0 : Bk ((w.alloc (.cells #[.int .u8 (ka), .bool (ba), .int .i64 (na), .string (sa)] 24)).alloc (.cells #[.int .u8 (ka), .bool (ba), .int .i64 (na), .string (sa)] 24)) (w.heap.size + 1) 24 #[.int .u8 (ka), .bool (ba), .int .i64 (na), .string (sa)] := Bk.at (by simp)
  have F0 : Ext w ((w.alloc (.cells #[.int .u8 (ka), .bool (ba), .int .i64 (na), .string (sa)] 24)).alloc (.cells #[.int .u8 (ka), .bool (ba), .int .i64 (na), .string (sa)] 24)) := ((Ext.refl w).alloc _).alloc _
  have m1 : True := trivial
  go_enter Tryd.func3, Tryd.ntmps3
  go_wp2_with (first
    | (have z := m1; clear z m1; go_at_call 15; refine (check_at _ _ _ _ _ HCA ga (G.ext F0).good).mono ?_; rintro e w1 ⟨rfl, x1⟩; have a_1 := a_0.ext x1; have b_1 := b_0.ext x1; have F1 : Ext w w1 := (F0.trans x1); clear x1; have a_10 : w1.cell? ⟨w.heap.size, 0, none⟩ = some (.int .u8 (ka)) := a_1.cell 0; have a_11 : w1.cell? ⟨w.heap.size, 1, none⟩ = some (.bool (ba)) := a_1.cell 1; have a_12 : w1.cell? ⟨w.heap.size, 2, none⟩ = some (.int .i64 (na)) := a_1.cell 2; have a_13 : w1.cell? ⟨w.heap.size, 3, none⟩ = some (.string (sa)) := a_1.cell 3; have b_10 : w1.cell? ⟨w.heap.size + 1, 0, none⟩ = some (.int .u8 (ka)) := b_1.cell 0; have b_11 : w1.cell? ⟨w.heap.size + 1, 1, none⟩ = some (.bool (ba)) := b_1.cell 1; have b_12 : w1.cell? ⟨w.heap.size + 1, 2, none⟩ = some (.int .i64 (na)) := b_1.cell 2; have b_13 : w1.cell? ⟨w.heap.size + 1, 3, none⟩ = some (.string (sa)) := b_1.cell 3; have m2 : True := trivial)
    | (have z := m2; clear z m2; go_at_call 15; refine (check_at _ _ _ _ _ HCB gb (G.ext F1).good).mono ?_; rintro e w2 ⟨rfl, x2⟩; have a_2 := a_1.ext x2; have b_2 := b_1.ext x2; have F2 : Ext w w2 := (F1.trans x2); clear x2; have a_20 : w2.cell? ⟨w.heap.size, 0, none⟩ = some (.int .u8 (ka)) := a_2.cell 0; have a_21 : w2.cell? ⟨w.heap.size, 1, none⟩ = some (.bool (ba)) := a_2.cell 1; have a_22 : w2.cell? ⟨w.heap.size, 2, none⟩ = some (.int .i64 (na)) := a_2.cell 2; have a_23 : w2.cell? ⟨w.heap.size, 3, none⟩ = some (.string (sa)) := a_2.cell 3; have b_20 : w2.cell? ⟨w.heap.size + 1, 0, none⟩ = some (.int .u8 (ka)) := b_2.cell 0; have b_21 : w2.cell? ⟨w.heap.size + 1, 1, none⟩ = some (.bool (ba)) := b_2.cell 1; have b_22 : w2.cell? ⟨w.heap.size + 1, 2, none⟩ = some (.int .i64 (na)) := b_2.cell 2; have b_23 : w2.cell? ⟨w.heap.size + 1, 3, none⟩ = some (.string (sa)) := b_2.cell 3; have m3 : True := trivial)
    | (have z := m3; clear z m3; go_at_call 17; refine (print_lit _ _ _ _ _ HP ga HN.out (G.ext F2)).mono ?_; rintro e w3 ⟨rfl, x3⟩; have a_3 := a_2.ext x3; have b_3 := b_2.ext x3; have F3 : Ext w w3 := (F2.trans x3); clear x3; have a_30 : w3.cell? ⟨w.heap.size, 0, none⟩ = some (.int .u8 (ka)) := a_3.cell 0; have a_31 : w3.cell? ⟨w.heap.size, 1, none⟩ = some (.bool (ba)) := a_3.cell 1; have a_32 : w3.cell? ⟨w.heap.size, 2, none⟩ = some (.int .i64 (na)) := a_3.cell 2; have a_33 : w3.cell? ⟨w.heap.size, 3, none⟩ = some (.string (sa)) := a_3.cell 3; have b_30 : w3.cell? ⟨w.heap.size + 1, 0, none⟩ = some (.int .u8 (ka)) := b_3.cell 0; have b_31 : w3.cell? ⟨w.heap.size + 1, 1, none⟩ = some (.bool (ba)) := b_3.cell 1; have b_32 : w3.cell? ⟨w.heap.size + 1, 2, none⟩ = some (.int .i64 (na)) := b_3.cell 2; have b_33 : w3.cell? ⟨w.heap.size + 1, 3, none⟩ = some (.string (sa)) := b_3.cell 3; have m4 : True := trivial)
    | (have z := m4; clear z m4; go_at_call 17; refine (print_lit _ _ _ _ _ HPQ gb HM.out (G.ext F3)).mono ?_; rintro e w4 ⟨rfl, x4⟩; have a_4 := a_3.ext x4; have b_4 := b_3.ext x4; have F4 : Ext w w4 := (F3.trans x4); clear x4; have a_40 : w4.cell? ⟨w.heap.size, 0, none⟩ = some (.int .u8 (ka)) := a_4.cell 0; have a_41 : w4.cell? ⟨w.heap.size, 1, none⟩ = some (.bool (ba)) := a_4.cell 1; have a_42 : w4.cell? ⟨w.heap.size, 2, none⟩ = some (.int .i64 (na)) := a_4.cell 2; have a_43 : w4.cell? ⟨w.heap.size, 3, none⟩ = some (.string (sa)) := a_4.cell 3; have b_40 : w4.cell? ⟨w.heap.size + 1, 0, none⟩ = some (.int .u8 (ka)) := b_4.cell 0; have b_41 : w4.cell? ⟨w.heap.size + 1, 1, none⟩ = some (.bool (ba)) := b_4.cell 1; have b_42 : w4.cell? ⟨w.heap.size + 1, 2, none⟩ = some (.int .i64 (na)) := b_4.cell 2; have b_43 : w4.cell? ⟨w.heap.size + 1, 3, none⟩ = some (.string (sa)) := b_4.cell 3; have m5 : True := trivial)
    | fail)
  go_loop [7, 8] (fun u v => ∃ k c : Nat, k ≤ p.size ∧ c ≤ k ∧ u = .int .i64 c ∧ v = .int .i64 k ∧ Hid ((p.data.toList.take k).count 39 = c)) (fun _ v => p.size - (intOf v).toNat)
  case atStart => exact ⟨0, 0, Nat.zero_le _, Nat.le_refl _, rfl, rfl, Lib.hid rfl⟩
  case round =>
    obtain ⟨k, c, hk, hc, rfl, rfl, hcnt⟩ := hrel
    by_cases hlt : k < p.size
    · have hpl := HF.out k hlt
      have HT := Lib.hid (take_count hlt)
      have h32 : (32 : Int) ≤ (p[k].toNat : Int) := by omega
      have z32 : decide ((p[k].toNat : Int) < 32) = false := by simp; omega
      have z127 : ((p[k].toNat : Int) == 127) = false := by simp; omega
      by_cases h39 : p[k].toNat = 39
      · have z39 : ((p[k].toNat : Int) == 39) = true := by simp; omega
        have HCN : Hid ((p.data.toList.take (k + 1)).count 39 = c + 1) := Lib.hid (by rw [HT.out, hcnt.out, if_pos h39])
        clear h39 hpl hcnt
        go_wp2
        go_round
        case rel => exact ⟨k + 1, c + 1, by omega, by omega, by go_num, by go_num, HCN⟩
        case measure => simp [intOf]; omega
      · have z39 : ((p[k].toNat : Int) == 39) = false := by simp; omega
        have HCN : Hid ((p.data.toList.take (k + 1)).count 39 = c) := Lib.hid (by rw [HT.out, hcnt.out, if_neg h39]; rfl)
        clear h39 hpl hcnt
        go_wp2
        go_round
        case rel => exact ⟨k + 1, c, by omega, by omega, by go_num, by go_num, HCN⟩
        case measure => simp [intOf]; omega
    · have e1 : k = p.size := by omega
      have e2 : c = Q := by
        have h := hcnt.out
        rw [e1, List.take_of_length_le (by simp), HCT.out] at h
        exact h.symm
      subst e2
      clear hcnt e1
      rcases HK.out with ⟨h3, h4⟩ | ⟨rfl, h4⟩
      · have h5 : ¬ c = 0 := by omega
        go_wp2_with (first
          | (have z := m5; clear z m5; go_at_call 16; refine (known_true _ (G.ext F4).good).mono ?_; rintro e w5 ⟨rfl, x5⟩; have a_5 := a_4.ext x5; have b_5 := b_4.ext x5; have F5 : Ext w w5 := (F4.trans x5); clear x5; have a_50 : w5.cell? ⟨w.heap.size, 0, none⟩ = some (.int .u8 (ka)) := a_5.cell 0; have a_51 : w5.cell? ⟨w.heap.size, 1, none⟩ = some (.bool (ba)) := a_5.cell 1; have a_52 : w5.cell? ⟨w.heap.size, 2, none⟩ = some (.int .i64 (na)) := a_5.cell 2; have a_53 : w5.cell? ⟨w.heap.size, 3, none⟩ = some (.string (sa)) := a_5.cell 3; have b_50 : w5.cell? ⟨w.heap.size + 1, 0, none⟩ = some (.int .u8 (ka)) := b_5.cell 0; have b_51 : w5.cell? ⟨w.heap.size + 1, 1, none⟩ = some (.bool (ba)) := b_5.cell 1; have b_52 : w5.cell? ⟨w.heap.size + 1, 2, none⟩ = some (.int .i64 (na)) := b_5.cell 2; have b_53 : w5.cell? ⟨w.heap.size + 1, 3, none⟩ = some (.string (sa)) := b_5.cell 3; have m6 : True := trivial)
          | fail)
        go_ret
        exact ⟨rfl, F5⟩
      · go_wp2_with (first
          | (have z := m5; clear z m5; go_at_call 16; refine (known_true _ (G.ext F4).good).mono ?_; rintro e w5 ⟨rfl, x5⟩; have a_5 := a_4.ext x5; have b_5 := b_4.ext x5; have F5 : Ext w w5 := (F4.trans x5); clear x5; have a_50 : w5.cell? ⟨w.heap.size, 0, none⟩ = some (.int .u8 (ka)) := a_5.cell 0; have a_51 : w5.cell? ⟨w.heap.size, 1, none⟩ = some (.bool (ba)) := a_5.cell 1; have a_52 : w5.cell? ⟨w.heap.size, 2, none⟩ = some (.int .i64 (na)) := a_5.cell 2; have a_53 : w5.cell? ⟨w.heap.size, 3, none⟩ = some (.string (sa)) := a_5.cell 3; have b_50 : w5.cell? ⟨w.heap.size + 1, 0, none⟩ = some (.int .u8 (ka)) := b_5.cell 0; have b_51 : w5.cell? ⟨w.heap.size + 1, 1, none⟩ = some (.bool (ba)) := b_5.cell 1; have b_52 : w5.cell? ⟨w.heap.size + 1, 2, none⟩ = some (.int .i64 (na)) := b_5.cell 2; have b_53 : w5.cell? ⟨w.heap.size + 1, 3, none⟩ = some (.string (sa)) := b_5.cell 3; have m6 : True := trivial)
          | fail)
        go_ret
        exact ⟨rfl, F5⟩
theorem writ_any (ka na kb nb : Int) (ba bb : Bool) (sa sb : ByteArray) (w : World) (ga : sa.size ≤ 9223372036854775807) (gb : sb.size ≤ 9223372036854775807) (G : Good2 w) (hn : -9223372036854775808 ≤ na ∧ na ≤ 9223372036854775807) (hm : -9223372036854775808 ≤ nb ∧ nb ≤ 9223372036854775807) :
    Calls Tryd.prog 3 #[.agg #[.int .u8 (ka), .bool (ba), .int .i64 (na), .string (sa)], .agg #[.int .u8 (kb), .bool (bb), .int .i64 (nb), .string (sb)]] w fun e w' => e = .returned (.bool true) ∧ Ext w w' := by
  by_cases hca : checkT ka ba na sa = 0
  · by_cases hcb : checkT kb bb nb sb = 0
    · have hp := printT_on hca
      have hq := printT_on hcb
      have hfine := printL_fine ka na ba sa
      obtain ⟨h2, h3⟩ := printL_count ka na ba sa
      have hne := printL_ne ka na ba sa
      have hlen := printL_len hca hn
      have hinj := @printL_inj ka na kb nb ba bb sa sb hca hcb
      generalize printL ka ba na sa = L at *
      generalize printL kb bb nb sb = M at *
      have hf : ∀ k (h : k < (⟨L.toArray⟩ : ByteArray).size), 32 ≤ (⟨L.toArray⟩ : ByteArray)[k].toNat ∧ ¬ (⟨L.toArray⟩ : ByteArray)[k].toNat = 127 := by
        intro k h
        have h' : k < L.length := by simpa [ByteArray.size] using h
        have := List.all_eq_true.1 hfine L[k] (List.getElem_mem h')
        exact of_decide_eq_true this
      have tl : ∀ X : List UInt8, (⟨X.toArray⟩ : ByteArray).toList = X := fun X => by rw [Lib.toList_data]
      have hk : (0 < L.count 39 ∧ (ka == 4) = true) ∨ (L.count 39 = 0 ∧ (ka == 4) = false) := by
        by_cases h4 : ka = 4
        · exact .inl ⟨h3.2 h4, by simpa using h4⟩
        · have : ¬ 0 < L.count 39 := fun q => h4 (h3.1 q)
          exact .inr ⟨by omega, by simpa using h4⟩
      have hpe : ¬ (⟨L.toArray⟩ : ByteArray).toList = [] := by rw [tl]; exact hne
      have hl : (⟨L.toArray⟩ : ByteArray).size ≤ 100000 := by simpa [ByteArray.size] using hlen
      by_cases he : (⟨ka, ba, na, sa⟩ : Dat) = ⟨kb, bb, nb, sb⟩
      · obtain ⟨rfl, rfl, rfl, rfl⟩ : ka = kb ∧ ba = bb ∧ na = nb ∧ sa = sb := by injection he; exact ⟨‹_›, ‹_›, ‹_›, ‹_›⟩
        exact writ_ok4 ka na ba sa _ _ w ga gb G hn hm hca hcb hp hp hf rfl h2 hk hpe hl
      · have hpq : ¬ (⟨L.toArray⟩ : ByteArray).toList = (⟨M.toArray⟩ : ByteArray).toList := by rw [tl, tl]; exact fun q => he (hinj q)
        rcases datum_parts he with hz | ⟨rfl, hz⟩ | ⟨rfl, rfl, hz⟩ | ⟨rfl, rfl, rfl, hz⟩
        · exact writ_ok0 ka na kb nb ba bb sa sb _ _ _ w ga gb G hn hm hca hcb hp hq hz hpq hf rfl h2 hk hpe hl
        · exact writ_ok1 ka na nb ba bb sa sb _ _ _ w ga gb G hn hm hca hcb hp hq hz hpq hf rfl h2 hk hpe hl
        · exact writ_ok2 ka na nb ba sa sb _ _ _ w ga gb G hn hm hca hcb hp hq hz hpq hf rfl h2 hk hpe hl
        · exact writ_ok3 ka na ba sa sb _ _ _ w ga gb G hn hm hca hcb hp hq hz hpq hf rfl h2 hk hpe hl
    · exact writ_b ka na kb nb _ ba bb sa sb w ga gb G hca rfl (by simpa using hcb)
  · exact writ_a ka na kb nb _ ba bb sa sb w ga G rfl (by simpa using hca)
end Go.Proofs.YtobgfegdfcpgfaaDoor
