/- internal/strconv.ParseUint at base 16, 8 bits, of two bytes. Conditions: each theorem states its own. -/
import Derived.Test.YtobgfegdfcpgfaaDoorPInt
namespace Go.Proofs.YtobgfegdfcpgfaaDoor
open Go.RowKit

/-! ### two hexadecimal digits -/
def lowI (c : UInt8) : Int := bits .or .u8 (c.toNat : Int) 32
theorem low_hex (c : UInt8) : (97 ≤ c.toNat ∧ c.toNat ≤ 102 → lowI c = c.toNat) ∧ 0 ≤ lowI c ∧ lowI c < 256 := by
  have key : ∀ j : Fin 256, (97 ≤ j.val ∧ j.val ≤ 102 → bits .or .u8 (j.val : Int) 32 = j.val) ∧ 0 ≤ bits .or .u8 (j.val : Int) 32 ∧ bits .or .u8 (j.val : Int) 32 < 256 := by decide +kernel
  exact key ⟨c.toNat, c.toNat_lt⟩
set_option maxRecDepth 100000 in
set_option maxHeartbeats 400000 in
theorem lower_any (c : UInt8) (w : World) : Calls Tryd.prog 133 #[.int .u8 c.toNat] w fun e w' => e = .returned (.int .u8 (lowI c)) ∧ w = w' := by
  go_enter Tryd.func133, Tryd.ntmps133
  go_wp2
  go_ret
  exact ⟨rfl, rfl⟩
set_option maxRecDepth 100000 in
set_option maxHeartbeats 400000 in
theorem lower95 (w : World) : Calls Tryd.prog 133 #[.int .u8 95] w fun e w' => e = .returned (.int .u8 127) ∧ w = w' := by
  have e1 : bits .or .u8 95 32 = 127 := by decide +kernel
  go_enter Tryd.func133, Tryd.ntmps133
  go_wp2
  go_ret
  exact ⟨rfl, rfl⟩
/-- how far the number has been read -/
def HexAt (h l : UInt8) (k acc : Nat) : Prop := (k = 0 ∧ acc = 0) ∨ (k = 1 ∧ acc < 16 ∧ (hexOk h = true → acc = hexV h)) ∨ (k = 2 ∧ acc < 256 ∧ (hexOk h = true → hexOk l = true → acc = 16 * hexV h + hexV l))
theorem hexAt_step {h l : UInt8} {k acc d : Nat} {c : UInt8} (hk : k < 2) (hc : c = [h, l].getD k 0) (H : HexAt h l k acc) (hd : d < 16) (hv : hexOk c = true → d = hexV c) : HexAt h l (k + 1) (acc * 16 + d) := by
  subst hc
  rcases H with ⟨rfl, rfl⟩ | ⟨rfl, h1, h2⟩ | ⟨rfl, _⟩
  · exact .inr (.inl ⟨rfl, by omega, fun q => by rw [hv q]; simp⟩)
  · exact .inr (.inr ⟨rfl, by omega, fun q r => by rw [h2 q, hv r]; simp; omega⟩)
  · omega
theorem hexAt_lt {h l : UInt8} {k acc : Nat} (hk : k < 2) (H : HexAt h l k acc) : acc < 16 := by
  rcases H with ⟨rfl, rfl⟩ | ⟨rfl, h1, h2⟩ | ⟨rfl, _⟩ <;> omega
theorem not_hex {h l : UInt8} {k : Nat} {c : UInt8} (hk : k < 2) (hc : c = [h, l].getD k 0) (hn : hexOk c = false) : (hexOk h && hexOk l) = false := by
  subst hc
  rcases (by omega : k = 0 ∨ k = 1) with rfl | rfl
  · rw [show hexOk h = false from hn]; rfl
  · rw [show hexOk l = false from hn, Bool.and_false]
def HexOut (h l : UInt8) (e : Ending) : Prop := (∃ u : Nat, e = .returned (.tuple #[.int .u64 u, .nilIface]) ∧ ((hexOk h && hexOk l) = true → u = 16 * hexV h + hexV l)) ∨ ((hexOk h && hexOk l) = false ∧ e = .returned (.tuple #[.int .u64 0, .iface 121 (.int .i64 2)]))
set_option maxRecDepth 100000 in
set_option maxHeartbeats 16000000 in
theorem puHex (t : ByteArray) (h l : UInt8) (ht : t.data.toList = [h, l]) (w : World) :
    Calls Tryd.prog 118 #[.string t, .int .i64 16, .int .i64 8] w fun e w' => HexOut h l e ∧ Ext w w' := by
  have hsz : t.size = 2 := by
    have : t.data.toList.length = t.size := by simp
    rw [← this, ht]; rfl
  have hemp : t.toList.isEmpty = false := by
    rw [← decide_eq_emptyBytes]
    exact decide_eq_false (fun h => by rw [h] at hsz; cases hsz)
  have hcv := Lib.run_convert_string_bytes (P := Tryd.prog) w 9 89 5 t (u := .string) Tryd.underlying9 Tryd.underlying89 Tryd.underlying5
  have hB : ∀ j, j < t.size → (Lib.bytesWorld w 5 t).cell? ⟨w.heap.size, j, none⟩ = some (.int .u8 (t.data.toList.getD j 0).toNat) := fun j hj => Lib.bytesWorld_cell w 5 t j hj
  have x1 := bytesExt w 5 t
  obtain ⟨W1, hW1⟩ : ∃ W1, W1 = Lib.bytesWorld w 5 t := ⟨_, rfl⟩
  rw [← hW1] at hcv hB x1
  clear hW1
  rw [ht] at hB
  have hmv : IntKind.u64.wrap (IntKind.u64.wrap 256 - 1) = 255 := by
    rw [IntKind.wrap_u64, IntKind.wrap_u64]
    decide
  clear ht
  go_enter Tryd.func118, Tryd.ntmps118
  go_wp2
  go_loop [12, 13, 101] (fun vu vn vi => ∃ (k acc : Nat) (a : Int), vu = .bool false ∧ vn = .int .u64 a ∧ vi = .int .i64 k ∧ k ≤ 2 ∧ Hid (a = (acc : Int) ∧ HexAt h l k acc))
    (fun _ _ vi => 2 - (intOf vi).toNat)
  case atStart => exact ⟨0, 0, 0, rfl, rfl, rfl, by omega, Lib.hid ⟨rfl, .inl ⟨rfl, rfl⟩⟩⟩
  case round =>
    obtain ⟨k, acc, a, rfl, rfl, rfl, hk, hh⟩ := hrel
    obtain ⟨ha, hacc⟩ := hh.out
    clear hh
    by_cases hkn : k < 2
    · have hc := hB k (by omega)
      have a1 := hexAt_lt hkn hacc
      have a0 : 0 ≤ a := by omega
      have a2 : a < 16 := by omega
      have HA := Lib.hid hacc
      obtain ⟨c, hgc⟩ : ∃ c, c = [h, l].getD k 0 := ⟨_, rfl⟩
      rw [← hgc] at hc
      have hc256 : c.toNat < 256 := c.toNat_lt
      have HG := Lib.hid hgc
      clear hB hacc hgc
      by_cases hdig : 48 ≤ c.toNat ∧ c.toNat ≤ 57
      · obtain ⟨hd0, hd1⟩ := hdig
        have HN : Hid (a * 16 + ((c.toNat : Int) - 48) = ((acc * 16 + (c.toNat - 48) : Nat) : Int) ∧ HexAt h l (k + 1) (acc * 16 + (c.toNat - 48))) := Lib.hid ⟨by omega, hexAt_step hkn HG.out HA.out (by omega) (fun _ => by unfold hexV; rw [if_pos (by omega)])⟩
        clear ha a1
        go_wp2
        refine ⟨⟨k + 1, acc * 16 + (c.toNat - 48), a * 16 + ((c.toNat : Int) - 48), rfl, (by first | rfl | (congr 1; omega)), (by first | rfl | (congr 1; omega)), by omega, HN⟩, by simp [intOf]; omega⟩
      by_cases h95 : c.toNat = 95
      · have HNo : Hid ((hexOk h && hexOk l) = false) := Lib.hid (not_hex hkn HG.out (by unfold hexOk; rw [decide_eq_false_iff_not]; omega))
        have hcn : (c.toNat : Int) = 95 := by omega
        clear ha a1 hdig
        go_wp2_with (go_at_call 133; refine (lower95 _).mono ?_; rintro e w' ⟨rfl, rfl⟩)
        go_ret2
        exact ⟨.inr ⟨HNo.out, rfl⟩, x1⟩
      · obtain ⟨l1, l2, l3⟩ := low_hex c
        have zu : ((c.toNat : Int) == 95) = false := by simp; omega
        by_cases hlow : 97 ≤ lowI c ∧ lowI c ≤ 102
        · obtain ⟨hl0, hl1⟩ := hlow
          have HN : Hid (a * 16 + (lowI c - 97 + 10) = ((acc * 16 + (lowI c - 87).toNat : Nat) : Int) ∧ HexAt h l (k + 1) (acc * 16 + (lowI c - 87).toNat)) := Lib.hid ⟨by omega, hexAt_step hkn HG.out HA.out (by omega) (fun q => by
            unfold hexOk at q
            rw [decide_eq_true_iff] at q
            have := l1 (by omega)
            unfold hexV; rw [if_neg (by omega)]; omega)⟩
          clear ha a1 l1
          go_wp2_with (go_at_call 133; refine (lower_any c _).mono ?_; rintro e w' ⟨rfl, rfl⟩)
          all_goals refine ⟨⟨k + 1, acc * 16 + (lowI c - 87).toNat, a * 16 + (lowI c - 97 + 10), rfl, (by first | rfl | (congr 1; omega)), (by first | rfl | (congr 1; omega)), by omega, HN⟩, by simp [intOf]; omega⟩
        · have hno : (hexOk h && hexOk l) = false := not_hex hkn HG.out (by
            unfold hexOk
            rw [decide_eq_false_iff_not]
            intro q
            have := l1
            omega)
          have HNo := Lib.hid hno
          clear hno ha a1 l1
          have hlow' : lowI c < 97 ∨ 102 < lowI c := by omega
          rcases hlow' with hlow' | hlow'
          · clear hlow
            go_wp2_with (go_at_call 133; refine (lower_any c _).mono ?_; rintro e w' ⟨rfl, rfl⟩)
            all_goals go_ret2
            all_goals exact ⟨.inr ⟨HNo.out, rfl⟩, x1⟩
          · clear hlow
            go_wp2_with (go_at_call 133; refine (lower_any c _).mono ?_; rintro e w' ⟨rfl, rfl⟩)
            all_goals go_ret2
            all_goals exact ⟨.inr ⟨HNo.out, rfl⟩, x1⟩
    · have hkk : k = 2 := by omega
      subst hkk
      subst ha
      have HA := Lib.hid hacc
      clear hacc
      go_wp2
      go_ret2
      refine ⟨.inl ⟨acc, rfl, fun q => ?_⟩, x1⟩
      rw [Bool.and_eq_true] at q
      rcases HA.out with ⟨h1, _⟩ | ⟨h1, _⟩ | ⟨_, _, h2⟩
      · omega
      · omega
      · exact h2 q.1 q.2
end Go.Proofs.YtobgfegdfcpgfaaDoor
