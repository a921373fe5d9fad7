/- penstockref01.digits: what it answers. penstockref01.quoted: what it answers. Conditions: each theorem states its own. -/
import Derived.Test.YtngeioghihbkeaaGreatDoorQuoteAll
import Derived.Test.YtngeioghihbkeaaGreatDoorOrd
import Derived.Laws.BytesString
import Derived.Laws.Cells
import Derived.Laws.Concat
namespace Go.Proofs.YtngeioghihbkeaaGreatDoor
open Go.RowKit

theorem digits_len : ∀ (f u : Nat), u < 10 ^ (f + 1) → (Lib.decDigits u).length ≤ f + 1
  | 0, u, h => by
    unfold Lib.decDigits
    rw [dif_pos (by omega)]
    simp
  | f + 1, u, h => by
    unfold Lib.decDigits
    split
    · simp
    · have := digits_len f (u / 10) (by rw [Nat.pow_succ] at h; omega)
      simp
      omega
set_option maxRecDepth 100000 in
set_option maxHeartbeats 1000000 in
theorem rdig_small (u : Nat) (w : World) (h : u < 10) : Calls Tryz.prog 67 #[.int .u64 u] w fun e w' => e = .returned (.string ⟨(Lib.decDigits u).toArray⟩) ∧ Ext w w' := by
  have hd : Lib.decDigits u = [UInt8.ofNat (48 + u)] := by unfold Lib.decDigits; rw [dif_pos h]
  have HD := Lib.hid hd
  clear hd
  go_enter Tryz.func67, Tryz.ntmps67
  go_wp2
  rw [conv_bk (Bk.new _ _ _) 0 1 1 [48 + (u : Int)] rfl rfl]
  simp only [Result.andThen]
  rw [Oper.upon_value]
  go_wp2
  go_ret
  refine ⟨?_, (Ext.refl w).alloc _⟩
  rw [HD.out]
  simp
set_option maxRecDepth 100000 in
set_option maxHeartbeats 2000000 in
theorem rdig_great (u q r : Nat) (w : World) (h : 10 ≤ u) (hu : u < 18446744073709551616) (hq : u / 10 = q) (hr : u % 10 = r) (hl : (Lib.decDigits q).length ≤ 20)
    (ih : ∀ w, Calls Tryz.prog 67 #[.int .u64 q] w fun e w' => e = .returned (.string ⟨(Lib.decDigits q).toArray⟩) ∧ Ext w w') : Calls Tryz.prog 67 #[.int .u64 u] w fun e w' => e = .returned (.string ⟨(Lib.decDigits u).toArray⟩) ∧ Ext w w' := by
  have hd : Lib.decDigits u = Lib.decDigits q ++ [UInt8.ofNat (48 + r)] := by
    conv => lhs; unfold Lib.decDigits
    rw [dif_neg (by omega), hq, hr]
  obtain ⟨D, hD⟩ : ∃ D, Lib.decDigits q = D := ⟨_, rfl⟩
  rw [hD] at hd ih hl
  have hsz : (⟨D.toArray⟩ : ByteArray).size ≤ 20 := by simpa [ByteArray.size] using hl
  have HD := Lib.hid hd
  have IH := Lib.hid ih
  have hnn : ¬ 9223372036854775807 < D.length + 1 := by omega
  have hu2 : (u : Int) ≤ 18446744073709551615 := by omega
  have h1 : (u : Int).tdiv 10 = (q : Int) := by rw [Int.tdiv_eq_ediv_of_nonneg (by omega)]; omega
  have h2 : (u : Int).tmod 10 = (r : Int) := by rw [Int.tmod_eq_emod_of_nonneg (by omega)]; omega
  have h3 : (u : Int) / 10 = (q : Int) := by omega
  have h4 : (u : Int) % 10 = (r : Int) := by omega
  have hr10 : r < 10 := by omega
  have hq20 : q < 1844674407370955162 := by omega
  have h5 : IntKind.u64.wrap (q : Int) = (q : Int) := IntWalk.u64_in _ (by omega)
  have h6 : IntKind.u8.wrap (r : Int) = (r : Int) := IntWalk.u8_in _ (by omega)
  have h7 : IntKind.u8.wrap (48 + (r : Int)) = 48 + (r : Int) := IntWalk.u8_in _ (by omega)
  have h8 : decide ((u : Int) < 10) = false := by simp; omega
  clear hd ih hD hl hq hr hu h hu2
  go_enter Tryz.func67, Tryz.ntmps67
  go_upto_region 3 with fail
  have X : Ext w w.drew := (Ext.refl w).drew
  refine wp_region_ord [0,1,3,0,8,24,56,120,248,511,1023] (.flo [0,1,3,4,5,6] (.both 2 7 (.ext 7 (.ext 8 (.flo [9,10] (.fin)))) (.both 2 8 (.ext 8 (.flo [9,10] (.fin))) (.ext 2 (.flo [9,10] (.fin)))))) (by kernel_rfl) (by kernel_rfl) (by intro _ _ d _ _ h; cases d <;> exact h) ?_
  (refine ord_flo (pick_cons rfl (pick_cons rfl (pick_cons rfl (pick_cons rfl (pick_cons rfl (pick_cons rfl pick_nil)))))) ?_; (repeat (go_big_quiet_step (fail))); refine wpQuiet_nil ?_; show ordWalk _ _ _ _ _ _ _)
  refine ord_both (pick_cons rfl pick_nil) (pick_cons rfl pick_nil) ?_ ?_ <;> intro K_ hK_
  · go_wp2_with (go_at_call 67; refine (IH.out _).mono ?_; rintro e w1 ⟨rfl, x1⟩)
    refine ordNext.mk x1 ?_
    refine ord_ext (pick_cons rfl pick_nil) ?_; intro K_ hK_
    go_wp2
    refine ordNext.mk ((Ext.refl _).alloc _) ?_
    refine ord_ext (pick_cons rfl pick_nil) ?_; intro K_ hK_
    go_wp2
    rw [conv_bk (t := 5) (cs := #[.int .u8 (48 + (r : Int))]) ?hb 0 1 1 [48 + (r : Int)] rfl rfl]
    case hb => first | exact Bk.at (by simp) | exact (Bk.at (by simp)).drew
    simp only [Result.andThen]
    rw [Oper.upon_value]
    go_simp
    go_wp2
    refine ordNext.mk (Ext.refl _) ?_
    (refine ord_flo (pick_cons rfl (pick_cons rfl pick_nil)) ?_; (repeat (go_big_quiet_step (fail))); refine wpQuiet_nil ?_; show ordWalk _ _ _ _ _ _ _)
    refine ord_fin ?_
    go_wp2
    go_ret
    refine ⟨?_, (X.trans x1).alloc _⟩
    rw [HD.out]
    simp
    exact app_one _ _
  · go_wp2
    refine ordNext.mk ((Ext.refl _).alloc _) ?_
    refine ord_both (pick_cons rfl pick_nil) (pick_cons rfl pick_nil) ?_ ?_ <;> intro K_ hK_
    · go_wp2_with (go_at_call 67; refine (IH.out _).mono ?_; rintro e w1 ⟨rfl, x1⟩)
      refine ordNext.mk x1 ?_
      refine ord_ext (pick_cons rfl pick_nil) ?_; intro K_ hK_
      go_wp2
      rw [conv_bk (t := 5) (cs := #[.int .u8 (48 + (r : Int))]) ?hb 0 1 1 [48 + (r : Int)] rfl rfl]
      case hb => first | exact Bk.ext (Bk.at (by simp)) x1 | exact Bk.ext ((Bk.at (w := w) (by simp)).drew) x1
      simp only [Result.andThen]
      rw [Oper.upon_value]
      go_simp
      go_wp2
      refine ordNext.mk (Ext.refl _) ?_
      (refine ord_flo (pick_cons rfl (pick_cons rfl pick_nil)) ?_; (repeat (go_big_quiet_step (fail))); refine wpQuiet_nil ?_; show ordWalk _ _ _ _ _ _ _)
      refine ord_fin ?_
      go_wp2
      go_ret
      refine ⟨?_, (X.alloc _).trans (by exact x1)⟩
      rw [HD.out]
      simp
      exact app_one _ _
    · go_wp2
      rw [conv_bk (t := 5) (cs := #[.int .u8 (48 + (r : Int))]) ?hb 0 1 1 [48 + (r : Int)] rfl rfl]
      case hb => first | exact Bk.at (by simp) | exact (Bk.at (by simp)).drew
      simp only [Result.andThen]
      rw [Oper.upon_value]
      go_simp
      go_wp2
      refine ordNext.mk (Ext.refl _) ?_
      refine ord_ext (pick_cons rfl pick_nil) ?_; intro K_ hK_
      go_wp2_with (go_at_call 67; refine (IH.out _).mono ?_; rintro e w1 ⟨rfl, x1⟩)
      refine ordNext.mk x1 ?_
      (refine ord_flo (pick_cons rfl (pick_cons rfl pick_nil)) ?_; (repeat (go_big_quiet_step (fail))); refine wpQuiet_nil ?_; show ordWalk _ _ _ _ _ _ _)
      refine ord_fin ?_
      go_wp2
      go_ret
      refine ⟨?_, (X.alloc _).trans (by exact x1)⟩
      rw [HD.out]
      simp
      exact app_one _ _
theorem rdig_aux : ∀ (f u : Nat) (w : World), u ≤ f → u < 18446744073709551616 → Calls Tryz.prog 67 #[.int .u64 u] w fun e w' => e = .returned (.string ⟨(Lib.decDigits u).toArray⟩) ∧ Ext w w'
  | 0, u, w, h, hu => rdig_small u w (by omega)
  | f + 1, u, w, h, hu => by
    by_cases h10 : u < 10
    · exact rdig_small u w h10
    · exact rdig_great u _ _ w (by omega) hu rfl rfl (digits_len 19 _ (by have : (10 : Nat) ^ 20 = 100000000000000000000 := by decide
                                                                          omega)) (fun w => rdig_aux f (u / 10) w (by omega) (by omega))
theorem rdig_any (u : Nat) (w : World) (hu : u < 18446744073709551616) : Calls Tryz.prog 67 #[.int .u64 u] w fun e w' => e = .returned (.string ⟨(Lib.decDigits u).toArray⟩) ∧ Ext w w' := rdig_aux u u w (Nat.le_refl _) hu
end Go.Proofs.YtngeioghihbkeaaGreatDoor
namespace Go.Proofs.YtngeioghihbkeaaGreatDoor
open Go.RowKit

def hexLit : ByteArray := ⟨#[48, 49, 50, 51, 52, 53, 54, 55, 56, 57, 97, 98, 99, 100, 101, 102]⟩
theorem hex_at (i : Nat) (h : i < 16) (p : i < hexLit.size) : hexLit[i]'p = hexD i := by
  have key : ∀ j : Fin 16, hexLit[j.val]'(by have := j.isLt; simp [hexLit, ByteArray.size]) = hexD j.val := by decide +kernel
  exact key ⟨i, h⟩
theorem and15 (c : Nat) (h : c < 256) : bits BinOp.and IntKind.u8 (c : Int) 15 = ((c % 16 : Nat) : Int) := by
  have key : ∀ j : Fin 256, bits BinOp.and IntKind.u8 ((j.val : Nat) : Int) 15 = ((j.val % 16 : Nat) : Int) := by decide +kernel
  exact key ⟨c, h⟩
set_option maxRecDepth 100000 in
set_option maxHeartbeats 4000000 in
theorem rquoted_any (s : ByteArray) (w : World) (hs : s.size ≤ 1000000) :
    Calls Tryz.prog 66 #[.string s] w fun e w' => e = .returned (.string ⟨(quotedT s.data.toList).toArray⟩) ∧ Ext w w' := by
  obtain ⟨i0, hi, hz0, hz1, hz2⟩ := info_parts info_byte
  have HI := Lib.hid hi
  clear hi
  go_enter Tryz.func66, Tryz.ntmps66
  go_wp2
  go_loopw [3, 4] (fun u v wr => ∃ (k n c : Nat) (A : Option Addr), k ≤ s.size ∧ v = .int .i64 k ∧ u = .slice A n c ∧ wr.ownsRow w.heap.size 5 1 (.slice A n c) n (Lib.byteCells (39 :: (s.data.toList.take k).flatMap esc)) ∧ Ext w wr) (fun _ v _ => s.size - (intOf v).toNat)
  case atStart => exact ⟨0, 1, 1, _, Nat.zero_le _, rfl, rfl, row_build w 39, (Ext.refl w).alloc _⟩
  case round =>
    obtain ⟨k, n, c, A, hk, rfl, rfl, ho, er⟩ := hrel
    have hlen : n ≤ 4000001 := by
      have h1 := ho.1
      rw [Lib.byteCells_length, List.length_cons] at h1
      have := flat_len (s.data.toList.take k)
      have h2 : (s.data.toList.take k).length ≤ k := List.length_take_le _ _
      omega
    have hv : ∀ g, (Value.slice A n c).ownBlock = some g → w.heap.size ≤ g := fun g hg => (ho.lt g hg).1
    have HV := Lib.hid hv
    have HO := Lib.hid ho
    have hsz := er.size
    clear ho hv
    by_cases hlt : k < s.size
    · have HT := Lib.hid (take_flat hlt)
      by_cases h39 : s[k].toNat = 39
      · have hc : s[k].toNat = (39 : UInt8).toNat := h39
        have z39 : ((s[k].toNat : Int) == 39) = true := by simp; omega
        have HE : Hid (esc s[k] = [39, 39]) := Lib.hid (by rw [show s[k] = 39 from UInt8.toNat_inj.1 hc]; rfl)
        go_wp2_with (at_builtin; refine Lib.wpList_append_own_string _ rfl _ _ 33 9 rfl w.heap.size 5 i0 under_bytes under_string HI.out hz0 hz1 hz2 (.slice A n c) n _ rfl HO.out ⟨#[39, 39]⟩ rfl ?c3 ?c4 ?c5 ?_)
        case c3 => unfold maxLen; simp [ByteArray.size]; omega
        case c4 => simp [ByteArray.size]; omega
        case c5 => omega
        intro v' w2 hown2 hg2 hnil
        clear hnil
        obtain ⟨nA, nc, rfl⟩ := owns_form hown2
        have X2 : Ext w w2 := Below.grown er hg2 hsz HV.out
        have e1 : Lib.byteCells (39 :: (s.data.toList.take k).flatMap esc) ++ Lib.strCells ⟨#[39, 39]⟩ = Lib.byteCells (39 :: (s.data.toList.take (k + 1)).flatMap esc) := by
          rw [HT.out, HE.out, ← List.cons_append, cells_append]
          rfl
        rw [e1] at hown2
        have HO2 := Lib.hid hown2
        clear hown2 e1 hg2
        go_wp2
        go_roundw
        case rel => exact ⟨k + 1, _, nc, nA, by omega, by go_num, rfl, HO2.out, X2⟩
        case measure => simp [intOf]; omega
      by_cases h92 : s[k].toNat = 92
      · have hc : s[k].toNat = (92 : UInt8).toNat := h92
        have z39 : ((s[k].toNat : Int) == 39) = false := by simp; omega
        have z92 : ((s[k].toNat : Int) == 92) = true := by simp; omega
        have HE : Hid (esc s[k] = [92, 92]) := Lib.hid (by rw [show s[k] = 92 from UInt8.toNat_inj.1 hc]; rfl)
        go_wp2_with (at_builtin; refine Lib.wpList_append_own_string _ rfl _ _ 33 9 rfl w.heap.size 5 i0 under_bytes under_string HI.out hz0 hz1 hz2 (.slice A n c) n _ rfl HO.out ⟨#[92, 92]⟩ rfl ?c3 ?c4 ?c5 ?_)
        case c3 => unfold maxLen; simp [ByteArray.size]; omega
        case c4 => simp [ByteArray.size]; omega
        case c5 => omega
        intro v' w2 hown2 hg2 hnil
        clear hnil
        obtain ⟨nA, nc, rfl⟩ := owns_form hown2
        have X2 : Ext w w2 := Below.grown er hg2 hsz HV.out
        have e1 : Lib.byteCells (39 :: (s.data.toList.take k).flatMap esc) ++ Lib.strCells ⟨#[92, 92]⟩ = Lib.byteCells (39 :: (s.data.toList.take (k + 1)).flatMap esc) := by
          rw [HT.out, HE.out, ← List.cons_append, cells_append]
          rfl
        rw [e1] at hown2
        have HO2 := Lib.hid hown2
        clear hown2 e1 hg2
        go_wp2
        go_roundw
        case rel => exact ⟨k + 1, _, nc, nA, by omega, by go_num, rfl, HO2.out, X2⟩
        case measure => simp [intOf]; omega
      by_cases h10 : s[k].toNat = 10
      · have hc : s[k].toNat = (10 : UInt8).toNat := h10
        have z39 : ((s[k].toNat : Int) == 39) = false := by simp; omega
        have z92 : ((s[k].toNat : Int) == 92) = false := by simp; omega
        have z10 : ((s[k].toNat : Int) == 10) = true := by simp; omega
        have HE : Hid (esc s[k] = [92, 110]) := Lib.hid (by rw [show s[k] = 10 from UInt8.toNat_inj.1 hc]; rfl)
        go_wp2_with (at_builtin; refine Lib.wpList_append_own_string _ rfl _ _ 33 9 rfl w.heap.size 5 i0 under_bytes under_string HI.out hz0 hz1 hz2 (.slice A n c) n _ rfl HO.out ⟨#[92, 110]⟩ rfl ?c3 ?c4 ?c5 ?_)
        case c3 => unfold maxLen; simp [ByteArray.size]; omega
        case c4 => simp [ByteArray.size]; omega
        case c5 => omega
        intro v' w2 hown2 hg2 hnil
        clear hnil
        obtain ⟨nA, nc, rfl⟩ := owns_form hown2
        have X2 : Ext w w2 := Below.grown er hg2 hsz HV.out
        have e1 : Lib.byteCells (39 :: (s.data.toList.take k).flatMap esc) ++ Lib.strCells ⟨#[92, 110]⟩ = Lib.byteCells (39 :: (s.data.toList.take (k + 1)).flatMap esc) := by
          rw [HT.out, HE.out, ← List.cons_append, cells_append]
          rfl
        rw [e1] at hown2
        have HO2 := Lib.hid hown2
        clear hown2 e1 hg2
        go_wp2
        go_roundw
        case rel => exact ⟨k + 1, _, nc, nA, by omega, by go_num, rfl, HO2.out, X2⟩
        case measure => simp [intOf]; omega
      by_cases h13 : s[k].toNat = 13
      · have hc : s[k].toNat = (13 : UInt8).toNat := h13
        have z39 : ((s[k].toNat : Int) == 39) = false := by simp; omega
        have z92 : ((s[k].toNat : Int) == 92) = false := by simp; omega
        have z10 : ((s[k].toNat : Int) == 10) = false := by simp; omega
        have z13 : ((s[k].toNat : Int) == 13) = true := by simp; omega
        have HE : Hid (esc s[k] = [92, 114]) := Lib.hid (by rw [show s[k] = 13 from UInt8.toNat_inj.1 hc]; rfl)
        go_wp2_with (at_builtin; refine Lib.wpList_append_own_string _ rfl _ _ 33 9 rfl w.heap.size 5 i0 under_bytes under_string HI.out hz0 hz1 hz2 (.slice A n c) n _ rfl HO.out ⟨#[92, 114]⟩ rfl ?c3 ?c4 ?c5 ?_)
        case c3 => unfold maxLen; simp [ByteArray.size]; omega
        case c4 => simp [ByteArray.size]; omega
        case c5 => omega
        intro v' w2 hown2 hg2 hnil
        clear hnil
        obtain ⟨nA, nc, rfl⟩ := owns_form hown2
        have X2 : Ext w w2 := Below.grown er hg2 hsz HV.out
        have e1 : Lib.byteCells (39 :: (s.data.toList.take k).flatMap esc) ++ Lib.strCells ⟨#[92, 114]⟩ = Lib.byteCells (39 :: (s.data.toList.take (k + 1)).flatMap esc) := by
          rw [HT.out, HE.out, ← List.cons_append, cells_append]
          rfl
        rw [e1] at hown2
        have HO2 := Lib.hid hown2
        clear hown2 e1 hg2
        go_wp2
        go_roundw
        case rel => exact ⟨k + 1, _, nc, nA, by omega, by go_num, rfl, HO2.out, X2⟩
        case measure => simp [intOf]; omega
      by_cases h9 : s[k].toNat = 9
      · have hc : s[k].toNat = (9 : UInt8).toNat := h9
        have z39 : ((s[k].toNat : Int) == 39) = false := by simp; omega
        have z92 : ((s[k].toNat : Int) == 92) = false := by simp; omega
        have z10 : ((s[k].toNat : Int) == 10) = false := by simp; omega
        have z13 : ((s[k].toNat : Int) == 13) = false := by simp; omega
        have z9 : ((s[k].toNat : Int) == 9) = true := by simp; omega
        have HE : Hid (esc s[k] = [92, 116]) := Lib.hid (by rw [show s[k] = 9 from UInt8.toNat_inj.1 hc]; rfl)
        go_wp2_with (at_builtin; refine Lib.wpList_append_own_string _ rfl _ _ 33 9 rfl w.heap.size 5 i0 under_bytes under_string HI.out hz0 hz1 hz2 (.slice A n c) n _ rfl HO.out ⟨#[92, 116]⟩ rfl ?c3 ?c4 ?c5 ?_)
        case c3 => unfold maxLen; simp [ByteArray.size]; omega
        case c4 => simp [ByteArray.size]; omega
        case c5 => omega
        intro v' w2 hown2 hg2 hnil
        clear hnil
        obtain ⟨nA, nc, rfl⟩ := owns_form hown2
        have X2 : Ext w w2 := Below.grown er hg2 hsz HV.out
        have e1 : Lib.byteCells (39 :: (s.data.toList.take k).flatMap esc) ++ Lib.strCells ⟨#[92, 116]⟩ = Lib.byteCells (39 :: (s.data.toList.take (k + 1)).flatMap esc) := by
          rw [HT.out, HE.out, ← List.cons_append, cells_append]
          rfl
        rw [e1] at hown2
        have HO2 := Lib.hid hown2
        clear hown2 e1 hg2
        go_wp2
        go_roundw
        case rel => exact ⟨k + 1, _, nc, nA, by omega, by go_num, rfl, HO2.out, X2⟩
        case measure => simp [intOf]; omega
      by_cases hctl : s[k].toNat < 32 ∨ s[k].toNat = 127
      · have HC := Lib.hid hctl
        have z39 : ((s[k].toNat : Int) == 39) = false := by simp; omega
        have z92 : ((s[k].toNat : Int) == 92) = false := by simp; omega
        have z10 : ((s[k].toNat : Int) == 10) = false := by simp; omega
        have z13 : ((s[k].toNat : Int) == 13) = false := by simp; omega
        have z9 : ((s[k].toNat : Int) == 9) = false := by simp; omega
        have hlt8 : s[k].toNat < 256 := s[k].toNat_lt
        have HE : Hid (esc s[k] = [92, 120, hexD (s[k].toNat / 16), hexD (s[k].toNat % 16)]) := Lib.hid (by
          have ne : ∀ c : UInt8, ¬ s[k].toNat = c.toNat → ¬ s[k] = c := fun c h e => h (by rw [e])
          unfold esc
          rw [if_neg (ne 39 h39), if_neg (ne 92 h92), if_neg (ne 10 h10), if_neg (ne 13 h13), if_neg (ne 9 h9), if_pos ?_]
          rcases HC.out with h | h
          · exact .inl (UInt8.lt_iff_toNat_lt.2 h)
          · exact .inr (UInt8.toNat_inj.1 h))
        have hcase : (decide ((s[k].toNat : Int) < 32) = true) ∨ (decide ((s[k].toNat : Int) < 32) = false ∧ ((s[k].toNat : Int) == 127) = true) := by
          rcases HC.out with h | h
          · exact .inl (by simp; omega)
          · exact .inr ⟨by simp; omega, by simp; omega⟩
        clear hctl
        obtain ⟨hi4, hhi⟩ : ∃ h, s[k].toNat / 16 = h := ⟨_, rfl⟩
        obtain ⟨lo4, hlo⟩ : ∃ h, s[k].toNat % 16 = h := ⟨_, rfl⟩
        have b1 : hi4 < 16 := by omega
        have b2 : lo4 < 16 := by omega
        rw [hhi, hlo] at HE
        obtain ⟨d1, hd1⟩ : ∃ d, hexD hi4 = d := ⟨_, rfl⟩
        obtain ⟨d2, hd2⟩ : ∃ d, hexD lo4 = d := ⟨_, rfl⟩
        rw [hd1, hd2] at HE
        have q1 : (s[k].toNat : Int) / 16 = (hi4 : Int) := by omega
        have q2 : bits BinOp.and IntKind.u8 (s[k].toNat : Int) 15 = (lo4 : Int) := by rw [and15 _ hlt8]; omega
        have q3 : IntKind.u8.wrap (hi4 : Int) = (hi4 : Int) := IntWalk.u8_in _ (by omega)
        have q4 : IntKind.u8.wrap (lo4 : Int) = (lo4 : Int) := IntWalk.u8_in _ (by omega)
        have q5 : ∀ p : hi4 < hexLit.size, hexLit[hi4]'p = d1 := fun p => (hex_at hi4 b1 p).trans hd1
        have q6 : ∀ p : lo4 < hexLit.size, hexLit[lo4]'p = d2 := fun p => (hex_at lo4 b2 p).trans hd2
        unfold hexLit at q5 q6
        clear hd1 hd2 hhi hlo hlt8
        rcases hcase with z32 | ⟨z32, z127⟩
        all_goals
          go_upto_region 18 with fail
          refine wp_region_ord [0,0,2,6,0,16,48,126,255,511] (.pur [0] (.flo [1,2,3,4,5,6] (.one 7 (.one 8 (.flo [9] (.fin)))))) (by kernel_rfl) (by kernel_rfl) (by intro _ _ d _ _ h; cases d <;> exact h) ?_
          (refine ord_pur (pick_cons rfl pick_nil) ?_; (repeat (go_big_quiet_step (fail))); refine wpQuiet_nil ?_; show ordWalk _ _ _ _ _ _ _)
          (refine ord_flo (pick_cons rfl (pick_cons rfl (pick_cons rfl (pick_cons rfl (pick_cons rfl (pick_cons rfl pick_nil)))))) ?_; (repeat (go_big_quiet_step (fail))); refine wpQuiet_nil ?_; show ordWalk _ _ _ _ _ _ _)
          refine ord_one (pick_cons rfl pick_nil) ?_; intro K_ hK_
          go_wp2
          refine ord_one (pick_cons rfl pick_nil) ?_; intro K_ hK_
          go_wp2_with (at_builtin; refine wpList_append_own _ rfl _ _ 33 rfl w.heap.size 5 i0 (.int .u8 0) 1 1 under_bytes HI.out hz0 hz1 hz2 rfl (by decide) (.slice A n c) n _ rfl (by first | exact row_ext HO.out ((Ext.refl _).drew.alloc _) | exact row_ext HO.out ((Ext.refl _).alloc _).drew) ⟨wr.heap.size, 0, none⟩ 4 4 [.int .u8 92, .int .u8 120, .int .u8 (d1.toNat : Int), .int .u8 (d2.toNat : Int)] rfl rfl ?c1 ?c2 ?c3 ?c4 ?c5 ?_)
          case c1 => exact fun j u hu => cells_at wr _ _ j u hu
          case c2 => intro u hu; simp at hu; rcases hu with rfl | rfl | rfl | rfl <;> rfl
          case c3 => unfold maxLen; omega
          case c4 => omega
          case c5 => simp; omega
          intro v' w2 hown2 hg2 hnil
          clear hnil
          obtain ⟨nA, nc, rfl⟩ := owns_form hown2
          have X2 : Ext w w2 := Below.grown (er.alloc _).drew hg2 (by simp; omega) HV.out
          have e1 : Lib.byteCells (39 :: (s.data.toList.take k).flatMap esc) ++ [.int .u8 92, .int .u8 120, .int .u8 (d1.toNat : Int), .int .u8 (d2.toNat : Int)] = Lib.byteCells (39 :: (s.data.toList.take (k + 1)).flatMap esc) := by
            rw [HT.out, HE.out, ← List.cons_append, cells_append]
            rfl
          rw [e1] at hown2
          have HO2 := Lib.hid hown2
          clear hown2 e1 hg2
          go_wp2
          (refine ord_flo (pick_cons rfl pick_nil) ?_; (repeat (go_big_quiet_step (fail))); refine wpQuiet_nil ?_; show ordWalk _ _ _ _ _ _ _)
          refine ord_fin ?_
          go_wp2
          go_roundw
          case rel => exact ⟨k + 1, _, nc, nA, by omega, by go_num, rfl, HO2.out, X2⟩
          case measure => simp [intOf]; omega
      have hpl : 32 ≤ s[k].toNat ∧ ¬ s[k].toNat = 127 := ⟨by omega, by omega⟩
      have z39 : ((s[k].toNat : Int) == 39) = false := by simp; omega
      have z92 : ((s[k].toNat : Int) == 92) = false := by simp; omega
      have z10 : ((s[k].toNat : Int) == 10) = false := by simp; omega
      have z13 : ((s[k].toNat : Int) == 13) = false := by simp; omega
      have z9 : ((s[k].toNat : Int) == 9) = false := by simp; omega
      have z127 : ((s[k].toNat : Int) == 127) = false := by simp; omega
      have h32 : (32 : Int) ≤ (s[k].toNat : Int) := by omega
      have HE : Hid (esc s[k] = [s[k]]) := Lib.hid (by
        have ne : ∀ c : UInt8, ¬ s[k].toNat = c.toNat → ¬ s[k] = c := fun c h e => h (by rw [e])
        unfold esc
        rw [if_neg (ne 39 h39), if_neg (ne 92 h92), if_neg (ne 10 h10), if_neg (ne 13 h13), if_neg (ne 9 h9), if_neg ?_]
        rintro (h | h)
        · have := UInt8.lt_iff_toNat_lt.1 h
          have e32 : (32 : UInt8).toNat = 32 := rfl
          omega
        · exact hpl.2 (by rw [h]; rfl))
      go_wp2_with (at_builtin; refine wpList_append_own _ rfl _ _ 33 rfl w.heap.size 5 i0 (.int .u8 0) 1 1 under_bytes HI.out hz0 hz1 hz2 rfl (by decide) (.slice A n c) n _ rfl (row_ext HO.out ((Ext.refl _).alloc _)) ⟨wr.heap.size, 0, none⟩ 1 1 [.int .u8 (s[k].toNat : Int)] rfl rfl ?c1 ?c2 ?c3 ?c4 ?c5 ?_)
      case c1 => exact fun j u hu => cells_at wr _ _ j u hu
      case c2 => intro u hu; simp at hu; subst hu; rfl
      case c3 => unfold maxLen; omega
      case c4 => omega
      case c5 => simp; omega
      intro v' w2 hown2 hg2 hnil
      clear hnil
      obtain ⟨nA, nc, rfl⟩ := owns_form hown2
      have X2 : Ext w w2 := Below.grown (er.alloc _) hg2 (by simp; omega) HV.out
      have e1 : Lib.byteCells (39 :: (s.data.toList.take k).flatMap esc) ++ [Value.int .u8 (s[k].toNat : Int)] = Lib.byteCells (39 :: (s.data.toList.take (k + 1)).flatMap esc) := by
        rw [HT.out, HE.out, ← List.cons_append, cells_append]
        rfl
      rw [e1] at hown2
      have HO2 := Lib.hid hown2
      clear hown2 e1 hg2
      go_wp2
      go_roundw
      case rel => exact ⟨k + 1, _, nc, nA, by omega, by go_num, rfl, HO2.out, X2⟩
      case measure => simp [intOf]; omega
    · have e1 : k = s.size := by omega
      have htk : s.data.toList.take k = s.data.toList := List.take_of_length_le (by simp; omega)
      rw [htk] at HO
      have HK := Lib.hid e1
      clear e1 htk
      go_wp2_with (at_builtin; refine wpList_append_own _ rfl _ _ 33 rfl w.heap.size 5 i0 (.int .u8 0) 1 1 under_bytes HI.out hz0 hz1 hz2 rfl (by decide) (.slice A n c) n _ rfl (row_ext HO.out ((Ext.refl _).alloc _)) ⟨wr.heap.size, 0, none⟩ 1 1 [.int .u8 39] rfl rfl ?c1 ?c2 ?c3 ?c4 ?c5 ?_)
      case c1 => exact fun j u hu => cells_at wr _ _ j u hu
      case c2 => intro u hu; simp at hu; subst hu; rfl
      case c3 => unfold maxLen; omega
      case c4 => omega
      case c5 => simp; omega
      intro v' w2 hown2 hg2 hnil
      clear hnil
      obtain ⟨nA, nc, rfl⟩ := owns_form hown2
      have X2 : Ext w w2 := Below.grown (er.alloc _) hg2 (by simp; omega) HV.out
      have e2 : Lib.byteCells (39 :: s.data.toList.flatMap esc) ++ [Value.int .u8 39] = Lib.byteCells (quotedT s.data.toList) := by
        unfold quotedT
        rw [← List.cons_append, cells_append]
        rfl
      rw [e2] at hown2
      have HO2 := Lib.hid hown2
      clear hown2 e2 hg2
      go_wp2
      rw [conv_row _ HO2.out]
      simp only [Result.andThen]
      rw [Oper.upon_value]
      go_simp
      go_wp2
      go_ret
      exact ⟨rfl, X2⟩
end Go.Proofs.YtngeioghihbkeaaGreatDoor
