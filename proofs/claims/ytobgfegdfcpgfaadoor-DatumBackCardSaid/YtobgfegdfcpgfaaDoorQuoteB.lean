/- datum.quoted of any text: what it answers. Conditions: the library's tables stand; the text is not too long. -/
import Derived.Test.YtobgfegdfcpgfaaDoorHex
namespace Go.Proofs.YtobgfegdfcpgfaaDoor
open Go.RowKit

theorem _root_.Go.Lib.BuilderAt.ext {T e : TypeId} {B b : Nat} {p : Value} {bs : List Value} {w w' : World} (h : Lib.BuilderAt T e B b p bs w) (x : Ext w w') : Lib.BuilderAt T e B b p bs w' := by
  obtain ⟨hB, v, hb, hown, hne⟩ := h
  refine ⟨hB, v, x.heap hb, ⟨hown.1, ?_⟩, hne⟩
  rcases hown.2 with hn | ⟨g, cap, cur, hv, hbg, hg, rest⟩
  · exact .inl hn
  · exact .inr ⟨g, cap, cur, hv, hbg, x.heap hg, rest⟩
set_option maxRecDepth 100000 in
set_option maxHeartbeats 2000000 in
theorem quoted_any (s : ByteArray) (w : World) (hs : s.size ≤ 1000000) (G : Good2 w) :
    Calls Tryd.prog 56 #[.string s] w fun e w' => e = .returned (.string ⟨(quotedT s.data.toList).toArray⟩) ∧ Ext w w' := by
  go_enter Tryd.func56, Tryd.ntmps56
  go_wp2_with (go_at_call 92; refine (writeByte_any w.heap.size w.heap.size (Lib.byteCells []) 39 _ (fresh_builder w) (by simp [Lib.byteCells]) (by simp)).mono ?_; rintro e w1 ⟨rfl, hw1⟩)
  obtain ⟨hat, x1⟩ := hw1
  go_loopw [4] (fun v wr => ∃ k : Nat, k ≤ s.size ∧ v = .int .i64 k ∧ Lib.BuilderAt 91 5 w.heap.size w.heap.size (.pointer (some ⟨w.heap.size, 0, none⟩)) (Lib.byteCells (39 :: (s.data.toList.take k).flatMap esc)) wr ∧ Ext w wr) (fun v _ => s.size - (intOf v).toNat)
  case atStart => exact ⟨0, Nat.zero_le _, rfl, by simpa [Lib.byteCells] using hat, Below.trans ((Ext.refl w).alloc _) x1⟩
  case round =>
    obtain ⟨k, hk, rfl, hb, er⟩ := hrel
    have hlen : (Lib.byteCells (39 :: (s.data.toList.take k).flatMap esc)).length ≤ 4000001 := by
      have := flat_len (s.data.toList.take k)
      have h2 : (s.data.toList.take k).length ≤ k := List.length_take_le _ _
      rw [Lib.byteCells_length, List.length_cons]
      omega
    have HLn := Lib.hid hlen
    have HB := Lib.hid hb
    have hsz := er.size
    clear hlen hb
    by_cases hlt : k < s.size
    · have HT := Lib.hid (take_flat hlt)
      by_cases h39 : s[k].toNat = 39
      · have hc : s[k].toNat = (39 : UInt8).toNat := h39
        have z39 : ((s[k].toNat : Int) == 39) = true := by simp; omega
        have HE : Hid (esc s[k] = [39, 39]) := Lib.hid (by rw [show s[k] = 39 from UInt8.toNat_inj.1 hc]; rfl)
        go_wp2_with (go_at_call 93; refine (writeString_any w.heap.size w.heap.size _ ⟨#[39, 39]⟩ _ (.inr HB.out) (by have := HLn.out; simp [ByteArray.size]; omega) (by omega)).mono ?_; rintro e w2 ⟨rfl, hw2⟩)
        go_roundw
        case rel =>
          refine ⟨k + 1, by omega, by go_num, ?_, Below.trans er hw2.2⟩
          have h2 := hw2.1
          have e1 : Lib.byteCells (39 :: (s.data.toList.take k).flatMap esc) ++ Lib.strCells ⟨#[39, 39]⟩ = Lib.byteCells (39 :: (s.data.toList.take (k + 1)).flatMap esc) := by
            rw [HT.out, HE.out, ← List.cons_append, cells_append]
            rfl
          rw [e1] at h2
          exact h2
        case measure => simp [intOf]; omega
      by_cases h92 : s[k].toNat = 92
      · have hc : s[k].toNat = (92 : UInt8).toNat := h92
        have z39 : ((s[k].toNat : Int) == 39) = false := by simp; omega
        have z92 : ((s[k].toNat : Int) == 92) = true := by simp; omega
        have HE : Hid (esc s[k] = [92, 92]) := Lib.hid (by rw [show s[k] = 92 from UInt8.toNat_inj.1 hc]; rfl)
        go_wp2_with (go_at_call 93; refine (writeString_any w.heap.size w.heap.size _ ⟨#[92, 92]⟩ _ (.inr HB.out) (by have := HLn.out; simp [ByteArray.size]; omega) (by omega)).mono ?_; rintro e w2 ⟨rfl, hw2⟩)
        go_roundw
        case rel =>
          refine ⟨k + 1, by omega, by go_num, ?_, Below.trans er hw2.2⟩
          have h2 := hw2.1
          have e1 : Lib.byteCells (39 :: (s.data.toList.take k).flatMap esc) ++ Lib.strCells ⟨#[92, 92]⟩ = Lib.byteCells (39 :: (s.data.toList.take (k + 1)).flatMap esc) := by
            rw [HT.out, HE.out, ← List.cons_append, cells_append]
            rfl
          rw [e1] at h2
          exact h2
        case measure => simp [intOf]; omega
      by_cases h10 : s[k].toNat = 10
      · have hc : s[k].toNat = (10 : UInt8).toNat := h10
        have z39 : ((s[k].toNat : Int) == 39) = false := by simp; omega
        have z92 : ((s[k].toNat : Int) == 92) = false := by simp; omega
        have z10 : ((s[k].toNat : Int) == 10) = true := by simp; omega
        have HE : Hid (esc s[k] = [92, 110]) := Lib.hid (by rw [show s[k] = 10 from UInt8.toNat_inj.1 hc]; rfl)
        go_wp2_with (go_at_call 93; refine (writeString_any w.heap.size w.heap.size _ ⟨#[92, 110]⟩ _ (.inr HB.out) (by have := HLn.out; simp [ByteArray.size]; omega) (by omega)).mono ?_; rintro e w2 ⟨rfl, hw2⟩)
        go_roundw
        case rel =>
          refine ⟨k + 1, by omega, by go_num, ?_, Below.trans er hw2.2⟩
          have h2 := hw2.1
          have e1 : Lib.byteCells (39 :: (s.data.toList.take k).flatMap esc) ++ Lib.strCells ⟨#[92, 110]⟩ = Lib.byteCells (39 :: (s.data.toList.take (k + 1)).flatMap esc) := by
            rw [HT.out, HE.out, ← List.cons_append, cells_append]
            rfl
          rw [e1] at h2
          exact h2
        case measure => simp [intOf]; omega
      by_cases h13 : s[k].toNat = 13
      · have hc : s[k].toNat = (13 : UInt8).toNat := h13
        have z39 : ((s[k].toNat : Int) == 39) = false := by simp; omega
        have z92 : ((s[k].toNat : Int) == 92) = false := by simp; omega
        have z10 : ((s[k].toNat : Int) == 10) = false := by simp; omega
        have z13 : ((s[k].toNat : Int) == 13) = true := by simp; omega
        have HE : Hid (esc s[k] = [92, 114]) := Lib.hid (by rw [show s[k] = 13 from UInt8.toNat_inj.1 hc]; rfl)
        go_wp2_with (go_at_call 93; refine (writeString_any w.heap.size w.heap.size _ ⟨#[92, 114]⟩ _ (.inr HB.out) (by have := HLn.out; simp [ByteArray.size]; omega) (by omega)).mono ?_; rintro e w2 ⟨rfl, hw2⟩)
        go_roundw
        case rel =>
          refine ⟨k + 1, by omega, by go_num, ?_, Below.trans er hw2.2⟩
          have h2 := hw2.1
          have e1 : Lib.byteCells (39 :: (s.data.toList.take k).flatMap esc) ++ Lib.strCells ⟨#[92, 114]⟩ = Lib.byteCells (39 :: (s.data.toList.take (k + 1)).flatMap esc) := by
            rw [HT.out, HE.out, ← List.cons_append, cells_append]
            rfl
          rw [e1] at h2
          exact h2
        case measure => simp [intOf]; omega
      by_cases h9 : s[k].toNat = 9
      · have hc : s[k].toNat = (9 : UInt8).toNat := h9
        have z39 : ((s[k].toNat : Int) == 39) = false := by simp; omega
        have z92 : ((s[k].toNat : Int) == 92) = false := by simp; omega
        have z10 : ((s[k].toNat : Int) == 10) = false := by simp; omega
        have z13 : ((s[k].toNat : Int) == 13) = false := by simp; omega
        have z9 : ((s[k].toNat : Int) == 9) = true := by simp; omega
        have HE : Hid (esc s[k] = [92, 116]) := Lib.hid (by rw [show s[k] = 9 from UInt8.toNat_inj.1 hc]; rfl)
        go_wp2_with (go_at_call 93; refine (writeString_any w.heap.size w.heap.size _ ⟨#[92, 116]⟩ _ (.inr HB.out) (by have := HLn.out; simp [ByteArray.size]; omega) (by omega)).mono ?_; rintro e w2 ⟨rfl, hw2⟩)
        go_roundw
        case rel =>
          refine ⟨k + 1, by omega, by go_num, ?_, Below.trans er hw2.2⟩
          have h2 := hw2.1
          have e1 : Lib.byteCells (39 :: (s.data.toList.take k).flatMap esc) ++ Lib.strCells ⟨#[92, 116]⟩ = Lib.byteCells (39 :: (s.data.toList.take (k + 1)).flatMap esc) := by
            rw [HT.out, HE.out, ← List.cons_append, cells_append]
            rfl
          rw [e1] at h2
          exact h2
        case measure => simp [intOf]; omega
      by_cases hctl : s[k].toNat < 32 ∨ s[k].toNat = 127
      · have HC := Lib.hid hctl
        have z39 : ((s[k].toNat : Int) == 39) = false := by simp; omega
        have z92 : ((s[k].toNat : Int) == 92) = false := by simp; omega
        have z10 : ((s[k].toNat : Int) == 10) = false := by simp; omega
        have z13 : ((s[k].toNat : Int) == 13) = false := by simp; omega
        have z9 : ((s[k].toNat : Int) == 9) = false := by simp; omega
        have hlt8 : s[k].toNat < 256 := s[k].toNat_lt
        have HE : Hid (esc s[k] = [92, 120, hexD (s[k].toNat / 16), hexD (s[k].toNat % 16)]) := Lib.hid (by
          have ne : ∀ c : UInt8, ¬ s[k].toNat = c.toNat → ¬ s[k] = c := fun c h e => h (by rw [e])
          unfold esc
          rw [if_neg (ne 39 h39), if_neg (ne 92 h92), if_neg (ne 10 h10), if_neg (ne 13 h13), if_neg (ne 9 h9), if_pos ?_]
          rcases HC.out with h | h
          · exact .inl (UInt8.lt_iff_toNat_lt.2 h)
          · exact .inr (UInt8.toNat_inj.1 h))
        have hgx : Good2 wr := G.ext er
        have e16 : ∀ x y : List UInt8, Lib.byteCells (39 :: x) ++ Lib.byteCells y = Lib.byteCells (39 :: (x ++ y)) := fun x y => by rw [← List.cons_append, cells_append]
        have E16 := Lib.hid e16
        clear e16
        have hcase : (s[k].toNat < 32 ∧ (decide ((s[k].toNat : Int) < 32) = true)) ∨ (decide ((s[k].toNat : Int) < 32) = false ∧ ((s[k].toNat : Int) == 127) = true) := by
          rcases HC.out with h | h
          · exact .inl ⟨h, by simp; omega⟩
          · exact .inr ⟨by simp; omega, by simp; omega⟩
        by_cases h16 : s[k].toNat < 16
        · have hx : hexS s[k].toNat = ⟨#[hexD s[k].toNat]⟩ := by unfold hexS; rw [if_pos h16]
          have hq := hex_any s[k].toNat wr HC.out hgx
          rw [hx] at hq
          have HQ := Lib.hid hq
          have hd : hexD (s[k].toNat / 16) = 48 ∧ hexD (s[k].toNat % 16) = hexD s[k].toNat := by
            rw [show s[k].toNat / 16 = 0 by omega, show s[k].toNat % 16 = s[k].toNat by omega]; exact ⟨rfl, rfl⟩
          have HD := Lib.hid hd
          clear hx hq hd hcase
          have z32 : decide ((s[k].toNat : Int) < 32) = true := by simp; omega
          obtain ⟨hb8, hhb⟩ : ∃ b, hexD s[k].toNat = b := ⟨_, rfl⟩
          rw [hhb] at HQ HD
          clear hhb
          go_wp2_with (first
            | (go_at_call 94; refine HQ.out.mono ?_; rintro e w1 ⟨rfl, x1⟩)
            | (go_at_call 95; refine (repeat1 _ _).mono ?_; rintro e w3 ⟨rfl, rfl⟩)
            | (go_at_call 93; refine (writeString_any w.heap.size w.heap.size _ ⟨#[92, 120, 48, hb8]⟩ _ (.inr (HB.out.ext x1)) (by have := HLn.out; simp [ByteArray.size]; omega) (by have := x1.size; omega)).mono ?_; rintro e w2 ⟨rfl, hw2⟩))
          go_roundw
          case rel =>
            refine ⟨k + 1, by omega, by go_num, ?_, Below.trans (er.trans x1) hw2.2⟩
            have h2 := hw2.1
            have e1 : Lib.byteCells (39 :: (s.data.toList.take k).flatMap esc) ++ Lib.strCells ⟨#[92, 120, 48, hb8]⟩ = Lib.byteCells (39 :: (s.data.toList.take (k + 1)).flatMap esc) := by
              rw [HT.out, HE.out, HD.out.1, HD.out.2]
              exact E16.out _ [92, 120, 48, hb8]
            rw [e1] at h2
            exact h2
          case measure => simp [intOf]; omega
        · have hx : hexS s[k].toNat = ⟨#[hexD (s[k].toNat / 16), hexD (s[k].toNat % 16)]⟩ := by unfold hexS; rw [if_neg h16]
          have hq := hex_any s[k].toNat wr HC.out hgx
          rw [hx] at hq
          have HQ := Lib.hid hq
          clear hx hq
          obtain ⟨hb8, hhb⟩ : ∃ b, hexD (s[k].toNat / 16) = b := ⟨_, rfl⟩
          obtain ⟨hc8, hhc⟩ : ∃ b, hexD (s[k].toNat % 16) = b := ⟨_, rfl⟩
          rw [hhb, hhc] at HQ HE
          clear hhb hhc
          rcases hcase with ⟨_, z32⟩ | ⟨z32, z127⟩
          all_goals
            go_wp2_with (first
              | (go_at_call 94; refine HQ.out.mono ?_; rintro e w1 ⟨rfl, x1⟩)
              | (go_at_call 95; refine (repeat0 _ _).mono ?_; rintro e w3 ⟨rfl, rfl⟩)
              | (go_at_call 93; refine (writeString_any w.heap.size w.heap.size _ ⟨#[92, 120, hb8, hc8]⟩ _ (.inr (HB.out.ext x1)) (by have := HLn.out; simp [ByteArray.size]; omega) (by have := x1.size; omega)).mono ?_; rintro e w2 ⟨rfl, hw2⟩))
            go_roundw
            case rel =>
              refine ⟨k + 1, by omega, by go_num, ?_, Below.trans (er.trans x1) hw2.2⟩
              have h2 := hw2.1
              have e1 : Lib.byteCells (39 :: (s.data.toList.take k).flatMap esc) ++ Lib.strCells ⟨#[92, 120, hb8, hc8]⟩ = Lib.byteCells (39 :: (s.data.toList.take (k + 1)).flatMap esc) := by
                rw [HT.out, HE.out]
                exact E16.out _ [92, 120, hb8, hc8]
              rw [e1] at h2
              exact h2
            case measure => simp [intOf]; omega
      have hpl : 32 ≤ s[k].toNat ∧ ¬ s[k].toNat = 127 := ⟨by omega, by omega⟩
      have z39 : ((s[k].toNat : Int) == 39) = false := by simp; omega
      have z92 : ((s[k].toNat : Int) == 92) = false := by simp; omega
      have z10 : ((s[k].toNat : Int) == 10) = false := by simp; omega
      have z13 : ((s[k].toNat : Int) == 13) = false := by simp; omega
      have z9 : ((s[k].toNat : Int) == 9) = false := by simp; omega
      have z127 : ((s[k].toNat : Int) == 127) = false := by simp; omega
      have h32 : (32 : Int) ≤ (s[k].toNat : Int) := by omega
      have HE : Hid (esc s[k] = [s[k]]) := Lib.hid (by
        have ne : ∀ c : UInt8, ¬ s[k].toNat = c.toNat → ¬ s[k] = c := fun c h e => h (by rw [e])
        unfold esc
        rw [if_neg (ne 39 h39), if_neg (ne 92 h92), if_neg (ne 10 (by show ¬ s[k].toNat = 10; omega)), if_neg (ne 13 (by show ¬ s[k].toNat = 13; omega)), if_neg (ne 9 (by show ¬ s[k].toNat = 9; omega)), if_neg ?_]
        rintro (h | h)
        · have := UInt8.lt_iff_toNat_lt.1 h
          have e32 : (32 : UInt8).toNat = 32 := rfl
          omega
        · exact hpl.2 (by rw [h]; rfl))
      go_wp2_with (go_at_call 92; refine (writeByte_any w.heap.size w.heap.size _ (s[k].toNat : Int) _ (.inr HB.out) (by have := HLn.out; omega) (by omega)).mono ?_; rintro e w2 ⟨rfl, hw2⟩)
      go_roundw
      case rel =>
        refine ⟨k + 1, by omega, by go_num, ?_, Below.trans er hw2.2⟩
        have h2 := hw2.1
        have e1 : Lib.byteCells (39 :: (s.data.toList.take k).flatMap esc) ++ [Value.int .u8 (s[k].toNat : Int)] = Lib.byteCells (39 :: (s.data.toList.take (k + 1)).flatMap esc) := by
          rw [HT.out, HE.out, ← List.cons_append, cells_append]
          rfl
        rw [e1] at h2
        exact h2
      case measure => simp [intOf]; omega
    · have e1 : k = s.size := by omega
      have htk : s.data.toList.take k = s.data.toList := List.take_of_length_le (by simp; omega)
      rw [htk] at HB HLn
      have HK := Lib.hid e1
      clear e1 htk
      have m1 : True := trivial
      go_wp2_with (first
        | (go_at_call 92; refine (writeByte_any w.heap.size w.heap.size _ 39 _ (.inr HB.out) (by have := HLn.out; omega) (by omega)).mono ?_; rintro e w2 ⟨rfl, hw2⟩; have hb2 : Lib.IsBuilder 91 5 w.heap.size w.heap.size (Lib.byteCells (quotedT s.data.toList)) w2 := (by have h2 := hw2.1; have e2 : Lib.byteCells (39 :: s.data.toList.flatMap esc) ++ [Value.int .u8 39] = Lib.byteCells (quotedT s.data.toList) := (by unfold quotedT; rw [← List.cons_append, cells_append]; rfl); rw [e2] at h2; exact .inr h2); have X2 : Ext w w2 := Below.trans er hw2.2; have HB2 := Lib.hid hb2; clear hb2 hw2)
        | (go_at_call 96; refine (string_any w.heap.size w.heap.size (quotedT s.data.toList) _ HB2.out X2.size).mono ?_; rintro e w3 ⟨rfl, x3⟩))
      go_ret
      exact ⟨rfl, Below.trans X2 x3⟩
end Go.Proofs.YtobgfegdfcpgfaaDoor
