/- penstockref01.quoted: what it answers. Conditions: the text is not too long. -/
import Derived.Test.YtobgfegdfcpgfaaDoorRefDig
namespace Go.Proofs.YtobgfegdfcpgfaaDoor
open Go.RowKit

theorem row_build (w : World) (c : Int) : (w.alloc (.cells #[.int .u8 c] 5)).ownsRow w.heap.size 5 1 (.slice (some ⟨w.heap.size, 0, none⟩) 1 1) 1 [.int .u8 c] :=
  ⟨rfl, .inr ⟨w.heap.size, 1, _, rfl, Nat.le_refl _, heap_alloc_new w _, Nat.le_refl _, by unfold maxLen; omega, rfl, rfl⟩⟩
theorem row_ext {w w' : World} {B : Nat} {e : TypeId} {v : Value} {n : Nat} {xs : List Value} (h : w.ownsRow B e 1 v n xs) (x : Ext w w') : w'.ownsRow B e 1 v n xs := by
  refine ⟨h.1, ?_⟩
  rcases h.2 with hn | ⟨g, cap, cur, hv, hbg, hg, rest⟩
  · exact .inl hn
  · exact .inr ⟨g, cap, cur, hv, hbg, x.heap hg, rest⟩
theorem cells_at (w : World) (t : TypeId) (cs : Array Value) (j : Nat) (u : Value) (h : cs.toList[j]? = some u) : (w.alloc (.cells cs t)).cell? ((⟨w.heap.size, 0, none⟩ : Addr).add j) = some u := by
  rw [show (⟨w.heap.size, 0, none⟩ : Addr).add j = ⟨w.heap.size, j, none⟩ by unfold Addr.add; split <;> simp_all, (Bk.new w t cs).cell, ← Array.getElem?_toList]
  exact h
def hexLit : ByteArray := ⟨#[48, 49, 50, 51, 52, 53, 54, 55, 56, 57, 97, 98, 99, 100, 101, 102]⟩
theorem hex_at (i : Nat) (h : i < 16) (p : i < hexLit.size) : hexLit[i]'p = hexD i := by
  have key : ∀ j : Fin 16, hexLit[j.val]'(by have := j.isLt; simp [hexLit, ByteArray.size]) = hexD j.val := by decide +kernel
  exact key ⟨i, h⟩
theorem and15 (c : Nat) (h : c < 256) : bits BinOp.and IntKind.u8 (c : Int) 15 = ((c % 16 : Nat) : Int) := by
  have key : ∀ j : Fin 256, bits BinOp.and IntKind.u8 ((j.val : Nat) : Int) 15 = ((j.val % 16 : Nat) : Int) := by decide +kernel
  exact key ⟨c, h⟩
theorem back_bytes : ∀ l : List UInt8, l.map ((fun n : Int => UInt8.ofNat n.toNat) ∘ fun b : UInt8 => (b.toNat : Int)) = l
  | [] => rfl
  | b :: l => by rw [List.map_cons, back_bytes l]; simp
/-- a row of bytes made a string -/
theorem conv_row {w : World} {B n c : Nat} {A : Option Addr} (l : List UInt8) (h : w.ownsRow B 5 1 (.slice A n c) n (Lib.byteCells l)) :
    Sem.run Tryd.prog (convert 89 9 (.slice A n c)) w = .ok (.string ⟨l.toArray⟩) w := by
  rw [run_convert_bytes_string _ _ _ _ _ _ _ under_bytes Tryd.underlying5 under_string]
  have hl : l.length = n := by have := h.1; simpa [Lib.byteCells] using this
  rcases h.2 with ⟨hv, h0⟩ | ⟨g, cap, cur, hv, hbg, hg, hnc, hcm, hcs, htake⟩
  · obtain rfl : A = none := by injection hv
    have : l = [] := List.eq_nil_of_length_eq_zero (by omega)
    subst this
    subst h0
    rfl
  · obtain ⟨rfl, rfl⟩ : A = some ⟨g, 0, none⟩ ∧ c = cap := by injection hv; exact ⟨‹_›, ‹_›⟩
    have hb : Bk w g 5 cur := hg
    have e : Lib.byteCells l = (l.map fun b => (b.toNat : Int)).map (Value.int .u8) := by simp [Lib.byteCells]
    have := conv_bk hb 0 n c (l.map fun b => (b.toNat : Int)) (by rw [List.drop_zero, ← e]; simpa using htake) (by simpa using hl)
    rw [← run_convert_bytes_string _ _ _ _ _ _ _ under_bytes Tryd.underlying5 under_string, this, List.map_map, back_bytes]
set_option maxRecDepth 100000 in
set_option maxHeartbeats 4000000 in
theorem rquoted_any (s : ByteArray) (w : World) (hs : s.size ≤ 1000000) :
    Calls Tryd.prog 80 #[.string s] w fun e w' => e = .returned (.string ⟨(quotedT s.data.toList).toArray⟩) ∧ Ext w w' := by
  obtain ⟨i0, hi, hz0, hz1, hz2⟩ := info_parts info_byte
  have HI := Lib.hid hi
  clear hi
  go_enter Tryd.func80, Tryd.ntmps80
  go_wp2
  go_loopw [3, 4] (fun u v wr => ∃ (k n c : Nat) (A : Option Addr), k ≤ s.size ∧ v = .int .i64 k ∧ u = .slice A n c ∧ wr.ownsRow w.heap.size 5 1 (.slice A n c) n (Lib.byteCells (39 :: (s.data.toList.take k).flatMap esc)) ∧ Ext w wr) (fun _ v _ => s.size - (intOf v).toNat)
  case atStart => exact ⟨0, 1, 1, _, Nat.zero_le _, rfl, rfl, row_build w 39, (Ext.refl w).alloc _⟩
  case round =>
    obtain ⟨k, n, c, A, hk, rfl, rfl, ho, er⟩ := hrel
    have hlen : n ≤ 4000001 := by
      have h1 := ho.1
      rw [Lib.byteCells_length, List.length_cons] at h1
      have := flat_len (s.data.toList.take k)
      have h2 : (s.data.toList.take k).length ≤ k := List.length_take_le _ _
      omega
    have hv : ∀ g, (Value.slice A n c).ownBlock = some g → w.heap.size ≤ g := fun g hg => (ho.lt g hg).1
    have HV := Lib.hid hv
    have HO := Lib.hid ho
    have hsz := er.size
    clear ho hv
    by_cases hlt : k < s.size
    · have HT := Lib.hid (take_flat hlt)
      by_cases h39 : s[k].toNat = 39
      · have hc : s[k].toNat = (39 : UInt8).toNat := h39
        have z39 : ((s[k].toNat : Int) == 39) = true := by simp; omega
        have HE : Hid (esc s[k] = [39, 39]) := Lib.hid (by rw [show s[k] = 39 from UInt8.toNat_inj.1 hc]; rfl)
        go_wp2_with (at_builtin; refine Lib.wpList_append_own_string _ rfl _ _ 89 9 rfl w.heap.size 5 i0 under_bytes under_string HI.out hz0 hz1 hz2 (.slice A n c) n _ rfl HO.out ⟨#[39, 39]⟩ rfl ?c3 ?c4 ?c5 ?_)
        case c3 => unfold maxLen; simp [ByteArray.size]; omega
        case c4 => simp [ByteArray.size]; omega
        case c5 => omega
        intro v' w2 hown2 hg2 hnil
        clear hnil
        obtain ⟨nA, nc, rfl⟩ := owns_form hown2
        have X2 : Ext w w2 := Below.grown er hg2 hsz HV.out
        have e1 : Lib.byteCells (39 :: (s.data.toList.take k).flatMap esc) ++ Lib.strCells ⟨#[39, 39]⟩ = Lib.byteCells (39 :: (s.data.toList.take (k + 1)).flatMap esc) := by
          rw [HT.out, HE.out, ← List.cons_append, cells_append]
          rfl
        rw [e1] at hown2
        have HO2 := Lib.hid hown2
        clear hown2 e1 hg2
        go_wp2
        go_roundw
        case rel => exact ⟨k + 1, _, nc, nA, by omega, by go_num, rfl, HO2.out, X2⟩
        case measure => simp [intOf]; omega
      by_cases h92 : s[k].toNat = 92
      · have hc : s[k].toNat = (92 : UInt8).toNat := h92
        have z39 : ((s[k].toNat : Int) == 39) = false := by simp; omega
        have z92 : ((s[k].toNat : Int) == 92) = true := by simp; omega
        have HE : Hid (esc s[k] = [92, 92]) := Lib.hid (by rw [show s[k] = 92 from UInt8.toNat_inj.1 hc]; rfl)
        go_wp2_with (at_builtin; refine Lib.wpList_append_own_string _ rfl _ _ 89 9 rfl w.heap.size 5 i0 under_bytes under_string HI.out hz0 hz1 hz2 (.slice A n c) n _ rfl HO.out ⟨#[92, 92]⟩ rfl ?c3 ?c4 ?c5 ?_)
        case c3 => unfold maxLen; simp [ByteArray.size]; omega
        case c4 => simp [ByteArray.size]; omega
        case c5 => omega
        intro v' w2 hown2 hg2 hnil
        clear hnil
        obtain ⟨nA, nc, rfl⟩ := owns_form hown2
        have X2 : Ext w w2 := Below.grown er hg2 hsz HV.out
        have e1 : Lib.byteCells (39 :: (s.data.toList.take k).flatMap esc) ++ Lib.strCells ⟨#[92, 92]⟩ = Lib.byteCells (39 :: (s.data.toList.take (k + 1)).flatMap esc) := by
          rw [HT.out, HE.out, ← List.cons_append, cells_append]
          rfl
        rw [e1] at hown2
        have HO2 := Lib.hid hown2
        clear hown2 e1 hg2
        go_wp2
        go_roundw
        case rel => exact ⟨k + 1, _, nc, nA, by omega, by go_num, rfl, HO2.out, X2⟩
        case measure => simp [intOf]; omega
      by_cases h10 : s[k].toNat = 10
      · have hc : s[k].toNat = (10 : UInt8).toNat := h10
        have z39 : ((s[k].toNat : Int) == 39) = false := by simp; omega
        have z92 : ((s[k].toNat : Int) == 92) = false := by simp; omega
        have z10 : ((s[k].toNat : Int) == 10) = true := by simp; omega
        have HE : Hid (esc s[k] = [92, 110]) := Lib.hid (by rw [show s[k] = 10 from UInt8.toNat_inj.1 hc]; rfl)
        go_wp2_with (at_builtin; refine Lib.wpList_append_own_string _ rfl _ _ 89 9 rfl w.heap.size 5 i0 under_bytes under_string HI.out hz0 hz1 hz2 (.slice A n c) n _ rfl HO.out ⟨#[92, 110]⟩ rfl ?c3 ?c4 ?c5 ?_)
        case c3 => unfold maxLen; simp [ByteArray.size]; omega
        case c4 => simp [ByteArray.size]; omega
        case c5 => omega
        intro v' w2 hown2 hg2 hnil
        clear hnil
        obtain ⟨nA, nc, rfl⟩ := owns_form hown2
        have X2 : Ext w w2 := Below.grown er hg2 hsz HV.out
        have e1 : Lib.byteCells (39 :: (s.data.toList.take k).flatMap esc) ++ Lib.strCells ⟨#[92, 110]⟩ = Lib.byteCells (39 :: (s.data.toList.take (k + 1)).flatMap esc) := by
          rw [HT.out, HE.out, ← List.cons_append, cells_append]
          rfl
        rw [e1] at hown2
        have HO2 := Lib.hid hown2
        clear hown2 e1 hg2
        go_wp2
        go_roundw
        case rel => exact ⟨k + 1, _, nc, nA, by omega, by go_num, rfl, HO2.out, X2⟩
        case measure => simp [intOf]; omega
      by_cases h13 : s[k].toNat = 13
      · have hc : s[k].toNat = (13 : UInt8).toNat := h13
        have z39 : ((s[k].toNat : Int) == 39) = false := by simp; omega
        have z92 : ((s[k].toNat : Int) == 92) = false := by simp; omega
        have z10 : ((s[k].toNat : Int) == 10) = false := by simp; omega
        have z13 : ((s[k].toNat : Int) == 13) = true := by simp; omega
        have HE : Hid (esc s[k] = [92, 114]) := Lib.hid (by rw [show s[k] = 13 from UInt8.toNat_inj.1 hc]; rfl)
        go_wp2_with (at_builtin; refine Lib.wpList_append_own_string _ rfl _ _ 89 9 rfl w.heap.size 5 i0 under_bytes under_string HI.out hz0 hz1 hz2 (.slice A n c) n _ rfl HO.out ⟨#[92, 114]⟩ rfl ?c3 ?c4 ?c5 ?_)
        case c3 => unfold maxLen; simp [ByteArray.size]; omega
        case c4 => simp [ByteArray.size]; omega
        case c5 => omega
        intro v' w2 hown2 hg2 hnil
        clear hnil
        obtain ⟨nA, nc, rfl⟩ := owns_form hown2
        have X2 : Ext w w2 := Below.grown er hg2 hsz HV.out
        have e1 : Lib.byteCells (39 :: (s.data.toList.take k).flatMap esc) ++ Lib.strCells ⟨#[92, 114]⟩ = Lib.byteCells (39 :: (s.data.toList.take (k + 1)).flatMap esc) := by
          rw [HT.out, HE.out, ← List.cons_append, cells_append]
          rfl
        rw [e1] at hown2
        have HO2 := Lib.hid hown2
        clear hown2 e1 hg2
        go_wp2
        go_roundw
        case rel => exact ⟨k + 1, _, nc, nA, by omega, by go_num, rfl, HO2.out, X2⟩
        case measure => simp [intOf]; omega
      by_cases h9 : s[k].toNat = 9
      · have hc : s[k].toNat = (9 : UInt8).toNat := h9
        have z39 : ((s[k].toNat : Int) == 39) = false := by simp; omega
        have z92 : ((s[k].toNat : Int) == 92) = false := by simp; omega
        have z10 : ((s[k].toNat : Int) == 10) = false := by simp; omega
        have z13 : ((s[k].toNat : Int) == 13) = false := by simp; omega
        have z9 : ((s[k].toNat : Int) == 9) = true := by simp; omega
        have HE : Hid (esc s[k] = [92, 116]) := Lib.hid (by rw [show s[k] = 9 from UInt8.toNat_inj.1 hc]; rfl)
        go_wp2_with (at_builtin; refine Lib.wpList_append_own_string _ rfl _ _ 89 9 rfl w.heap.size 5 i0 under_bytes under_string HI.out hz0 hz1 hz2 (.slice A n c) n _ rfl HO.out ⟨#[92, 116]⟩ rfl ?c3 ?c4 ?c5 ?_)
        case c3 => unfold maxLen; simp [ByteArray.size]; omega
        case c4 => simp [ByteArray.size]; omega
        case c5 => omega
        intro v' w2 hown2 hg2 hnil
        clear hnil
        obtain ⟨nA, nc, rfl⟩ := owns_form hown2
        have X2 : Ext w w2 := Below.grown er hg2 hsz HV.out
        have e1 : Lib.byteCells (39 :: (s.data.toList.take k).flatMap esc) ++ Lib.strCells ⟨#[92, 116]⟩ = Lib.byteCells (39 :: (s.data.toList.take (k + 1)).flatMap esc) := by
          rw [HT.out, HE.out, ← List.cons_append, cells_append]
          rfl
        rw [e1] at hown2
        have HO2 := Lib.hid hown2
        clear hown2 e1 hg2
        go_wp2
        go_roundw
        case rel => exact ⟨k + 1, _, nc, nA, by omega, by go_num, rfl, HO2.out, X2⟩
        case measure => simp [intOf]; omega
      by_cases hctl : s[k].toNat < 32 ∨ s[k].toNat = 127
      · have HC := Lib.hid hctl
        have z39 : ((s[k].toNat : Int) == 39) = false := by simp; omega
        have z92 : ((s[k].toNat : Int) == 92) = false := by simp; omega
        have z10 : ((s[k].toNat : Int) == 10) = false := by simp; omega
        have z13 : ((s[k].toNat : Int) == 13) = false := by simp; omega
        have z9 : ((s[k].toNat : Int) == 9) = false := by simp; omega
        have hlt8 : s[k].toNat < 256 := s[k].toNat_lt
        have HE : Hid (esc s[k] = [92, 120, hexD (s[k].toNat / 16), hexD (s[k].toNat % 16)]) := Lib.hid (by
          have ne : ∀ c : UInt8, ¬ s[k].toNat = c.toNat → ¬ s[k] = c := fun c h e => h (by rw [e])
          unfold esc
          rw [if_neg (ne 39 h39), if_neg (ne 92 h92), if_neg (ne 10 h10), if_neg (ne 13 h13), if_neg (ne 9 h9), if_pos ?_]
          rcases HC.out with h | h
          · exact .inl (UInt8.lt_iff_toNat_lt.2 h)
          · exact .inr (UInt8.toNat_inj.1 h))
        have hcase : (decide ((s[k].toNat : Int) < 32) = true) ∨ (decide ((s[k].toNat : Int) < 32) = false ∧ ((s[k].toNat : Int) == 127) = true) := by
          rcases HC.out with h | h
          · exact .inl (by simp; omega)
          · exact .inr ⟨by simp; omega, by simp; omega⟩
        clear hctl
        obtain ⟨hi4, hhi⟩ : ∃ h, s[k].toNat / 16 = h := ⟨_, rfl⟩
        obtain ⟨lo4, hlo⟩ : ∃ h, s[k].toNat % 16 = h := ⟨_, rfl⟩
        have b1 : hi4 < 16 := by omega
        have b2 : lo4 < 16 := by omega
        rw [hhi, hlo] at HE
        obtain ⟨d1, hd1⟩ : ∃ d, hexD hi4 = d := ⟨_, rfl⟩
        obtain ⟨d2, hd2⟩ : ∃ d, hexD lo4 = d := ⟨_, rfl⟩
        rw [hd1, hd2] at HE
        have q1 : (s[k].toNat : Int) / 16 = (hi4 : Int) := by omega
        have q2 : bits BinOp.and IntKind.u8 (s[k].toNat : Int) 15 = (lo4 : Int) := by rw [and15 _ hlt8]; omega
        have q3 : IntKind.u8.wrap (hi4 : Int) = (hi4 : Int) := IntWalk.u8_in _ (by omega)
        have q4 : IntKind.u8.wrap (lo4 : Int) = (lo4 : Int) := IntWalk.u8_in _ (by omega)
        have q5 : ∀ p : hi4 < hexLit.size, hexLit[hi4]'p = d1 := fun p => (hex_at hi4 b1 p).trans hd1
        have q6 : ∀ p : lo4 < hexLit.size, hexLit[lo4]'p = d2 := fun p => (hex_at lo4 b2 p).trans hd2
        unfold hexLit at q5 q6
        clear hd1 hd2 hhi hlo hlt8
        rcases hcase with z32 | ⟨z32, z127⟩
        all_goals
          go_upto_region 18 with fail
          refine wp_region_ord [0,0,2,6,0,16,48,126,255,511] (.pur [0] (.flo [1,2,3,4,5,6] (.one 7 (.one 8 (.flo [9] (.fin)))))) (by kernel_rfl) (by kernel_rfl) (by intro _ _ d _ _ h; cases d <;> exact h) ?_
          (refine ord_pur (pick_cons rfl pick_nil) ?_; (repeat (go_big_quiet_step (fail))); refine wpQuiet_nil ?_; show ordWalk _ _ _ _ _ _ _)
          (refine ord_flo (pick_cons rfl (pick_cons rfl (pick_cons rfl (pick_cons rfl (pick_cons rfl (pick_cons rfl pick_nil)))))) ?_; (repeat (go_big_quiet_step (fail))); refine wpQuiet_nil ?_; show ordWalk _ _ _ _ _ _ _)
          refine ord_one (pick_cons rfl pick_nil) ?_; intro K_ hK_
          go_wp2
          refine ord_one (pick_cons rfl pick_nil) ?_; intro K_ hK_
          go_wp2_with (at_builtin; refine wpList_append_own _ rfl _ _ 89 rfl w.heap.size 5 i0 (.int .u8 0) 1 1 under_bytes HI.out hz0 hz1 hz2 rfl (by decide) (.slice A n c) n _ rfl (by first | exact row_ext HO.out ((Ext.refl _).drew.alloc _) | exact row_ext HO.out ((Ext.refl _).alloc _).drew) ⟨wr.heap.size, 0, none⟩ 4 4 [.int .u8 92, .int .u8 120, .int .u8 (d1.toNat : Int), .int .u8 (d2.toNat : Int)] rfl rfl ?c1 ?c2 ?c3 ?c4 ?c5 ?_)
          case c1 => exact fun j u hu => cells_at wr _ _ j u hu
          case c2 => intro u hu; simp at hu; rcases hu with rfl | rfl | rfl | rfl <;> rfl
          case c3 => unfold maxLen; omega
          case c4 => omega
          case c5 => simp; omega
          intro v' w2 hown2 hg2 hnil
          clear hnil
          obtain ⟨nA, nc, rfl⟩ := owns_form hown2
          have X2 : Ext w w2 := Below.grown (er.alloc _).drew hg2 (by simp; omega) HV.out
          have e1 : Lib.byteCells (39 :: (s.data.toList.take k).flatMap esc) ++ [.int .u8 92, .int .u8 120, .int .u8 (d1.toNat : Int), .int .u8 (d2.toNat : Int)] = Lib.byteCells (39 :: (s.data.toList.take (k + 1)).flatMap esc) := by
            rw [HT.out, HE.out, ← List.cons_append, cells_append]
            rfl
          rw [e1] at hown2
          have HO2 := Lib.hid hown2
          clear hown2 e1 hg2
          go_wp2
          (refine ord_flo (pick_cons rfl pick_nil) ?_; (repeat (go_big_quiet_step (fail))); refine wpQuiet_nil ?_; show ordWalk _ _ _ _ _ _ _)
          refine ord_fin ?_
          go_wp2
          go_roundw
          case rel => exact ⟨k + 1, _, nc, nA, by omega, by go_num, rfl, HO2.out, X2⟩
          case measure => simp [intOf]; omega
      have hpl : 32 ≤ s[k].toNat ∧ ¬ s[k].toNat = 127 := ⟨by omega, by omega⟩
      have z39 : ((s[k].toNat : Int) == 39) = false := by simp; omega
      have z92 : ((s[k].toNat : Int) == 92) = false := by simp; omega
      have z10 : ((s[k].toNat : Int) == 10) = false := by simp; omega
      have z13 : ((s[k].toNat : Int) == 13) = false := by simp; omega
      have z9 : ((s[k].toNat : Int) == 9) = false := by simp; omega
      have z127 : ((s[k].toNat : Int) == 127) = false := by simp; omega
      have h32 : (32 : Int) ≤ (s[k].toNat : Int) := by omega
      have HE : Hid (esc s[k] = [s[k]]) := Lib.hid (by
        have ne : ∀ c : UInt8, ¬ s[k].toNat = c.toNat → ¬ s[k] = c := fun c h e => h (by rw [e])
        unfold esc
        rw [if_neg (ne 39 h39), if_neg (ne 92 h92), if_neg (ne 10 h10), if_neg (ne 13 h13), if_neg (ne 9 h9), if_neg ?_]
        rintro (h | h)
        · have := UInt8.lt_iff_toNat_lt.1 h
          have e32 : (32 : UInt8).toNat = 32 := rfl
          omega
        · exact hpl.2 (by rw [h]; rfl))
      go_wp2_with (at_builtin; refine wpList_append_own _ rfl _ _ 89 rfl w.heap.size 5 i0 (.int .u8 0) 1 1 under_bytes HI.out hz0 hz1 hz2 rfl (by decide) (.slice A n c) n _ rfl (row_ext HO.out ((Ext.refl _).alloc _)) ⟨wr.heap.size, 0, none⟩ 1 1 [.int .u8 (s[k].toNat : Int)] rfl rfl ?c1 ?c2 ?c3 ?c4 ?c5 ?_)
      case c1 => exact fun j u hu => cells_at wr _ _ j u hu
      case c2 => intro u hu; simp at hu; subst hu; rfl
      case c3 => unfold maxLen; omega
      case c4 => omega
      case c5 => simp; omega
      intro v' w2 hown2 hg2 hnil
      clear hnil
      obtain ⟨nA, nc, rfl⟩ := owns_form hown2
      have X2 : Ext w w2 := Below.grown (er.alloc _) hg2 (by simp; omega) HV.out
      have e1 : Lib.byteCells (39 :: (s.data.toList.take k).flatMap esc) ++ [Value.int .u8 (s[k].toNat : Int)] = Lib.byteCells (39 :: (s.data.toList.take (k + 1)).flatMap esc) := by
        rw [HT.out, HE.out, ← List.cons_append, cells_append]
        rfl
      rw [e1] at hown2
      have HO2 := Lib.hid hown2
      clear hown2 e1 hg2
      go_wp2
      go_roundw
      case rel => exact ⟨k + 1, _, nc, nA, by omega, by go_num, rfl, HO2.out, X2⟩
      case measure => simp [intOf]; omega
    · have e1 : k = s.size := by omega
      have htk : s.data.toList.take k = s.data.toList := List.take_of_length_le (by simp; omega)
      rw [htk] at HO
      have HK := Lib.hid e1
      clear e1 htk
      go_wp2_with (at_builtin; refine wpList_append_own _ rfl _ _ 89 rfl w.heap.size 5 i0 (.int .u8 0) 1 1 under_bytes HI.out hz0 hz1 hz2 rfl (by decide) (.slice A n c) n _ rfl (row_ext HO.out ((Ext.refl _).alloc _)) ⟨wr.heap.size, 0, none⟩ 1 1 [.int .u8 39] rfl rfl ?c1 ?c2 ?c3 ?c4 ?c5 ?_)
      case c1 => exact fun j u hu => cells_at wr _ _ j u hu
      case c2 => intro u hu; simp at hu; subst hu; rfl
      case c3 => unfold maxLen; omega
      case c4 => omega
      case c5 => simp; omega
      intro v' w2 hown2 hg2 hnil
      clear hnil
      obtain ⟨nA, nc, rfl⟩ := owns_form hown2
      have X2 : Ext w w2 := Below.grown (er.alloc _) hg2 (by simp; omega) HV.out
      have e2 : Lib.byteCells (39 :: s.data.toList.flatMap esc) ++ [Value.int .u8 39] = Lib.byteCells (quotedT s.data.toList) := by
        unfold quotedT
        rw [← List.cons_append, cells_append]
        rfl
      rw [e2] at hown2
      have HO2 := Lib.hid hown2
      clear hown2 e2 hg2
      go_wp2
      rw [conv_row _ HO2.out]
      simp only [Result.andThen]
      rw [Oper.upon_value]
      go_simp
      go_wp2
      go_ret
      exact ⟨rfl, X2⟩
end Go.Proofs.YtobgfegdfcpgfaaDoor
