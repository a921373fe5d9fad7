/- penstockref01.hex, unquoted: what they answer, as far as it must be known. Conditions: the text is not too long. -/
import Derived.Test.YtobgfegdfcpgfaaDoorParseAll
namespace Go.Proofs.YtobgfegdfcpgfaaDoor
open Go.RowKit

def hexI (c : UInt8) : Int := if hexOk c then (hexV c : Int) else -1
set_option maxRecDepth 100000 in
set_option maxHeartbeats 1000000 in
theorem rhex_any (c : UInt8) (v : Int) (w : World) (h : Hid (hexI c = v)) : Calls Tryd.prog 107 #[.int .u8 c.toNat] w fun e w' => e = .returned (.int .i64 v) ∧ w = w' := by
  have hv := h.out
  clear h
  have h256 : c.toNat < 256 := c.toNat_lt
  unfold hexI hexOk hexV at hv
  obtain ⟨x, hx⟩ : ∃ x, c.toNat = x := ⟨_, rfl⟩
  rw [hx] at hv h256 ⊢
  clear hx
  by_cases a1 : 48 ≤ x
  · by_cases a2 : x ≤ 57
    · rw [if_pos (by simp; omega), if_pos (by omega)] at hv
      have z1 : IntKind.u8.wrap ((x : Int) - 48) = (x : Int) - 48 := IntWalk.u8_in _ (by omega)
      have z2 : IntKind.i64.wrap ((x : Int) - 48) = v := by rw [IntWalk.i64_in _ (by omega)]; omega
      have b1 : decide ((48 : Int) ≤ (x : Int)) = true := by simp; omega
      have b2 : decide ((x : Int) ≤ 57) = true := by simp; omega
      clear hv
      go_enter Tryd.func107, Tryd.ntmps107
      go_wp2
      go_ret
      exact ⟨rfl, rfl⟩
    · by_cases a3 : 97 ≤ x
      · by_cases a4 : x ≤ 102
        · rw [if_pos (by simp; omega), if_neg (by omega)] at hv
          have z1 : IntKind.u8.wrap ((x : Int) - 97) = (x : Int) - 97 := IntWalk.u8_in _ (by omega)
          have z2 : IntKind.i64.wrap ((x : Int) - 97) = (x : Int) - 97 := IntWalk.i64_in _ (by omega)
          have z3 : IntKind.i64.wrap ((x : Int) - 97 + 10) = v := by rw [IntWalk.i64_in _ (by omega)]; omega
          have b1 : decide ((48 : Int) ≤ (x : Int)) = true := by simp; omega
          have b2 : decide ((x : Int) ≤ 57) = false := by simp; omega
          have b3 : decide ((97 : Int) ≤ (x : Int)) = true := by simp; omega
          have b4 : decide ((x : Int) ≤ 102) = true := by simp; omega
          clear hv
          go_enter Tryd.func107, Tryd.ntmps107
          go_wp2
          go_ret
          exact ⟨rfl, rfl⟩
        · rw [if_neg (by simp; omega)] at hv
          subst hv
          have b1 : decide ((48 : Int) ≤ (x : Int)) = true := by simp; omega
          have b2 : decide ((x : Int) ≤ 57) = false := by simp; omega
          have b3 : decide ((97 : Int) ≤ (x : Int)) = true := by simp; omega
          have b4 : decide ((x : Int) ≤ 102) = false := by simp; omega
          go_enter Tryd.func107, Tryd.ntmps107
          go_wp2
          go_ret
          exact ⟨rfl, rfl⟩
      · rw [if_neg (by simp; omega)] at hv
        subst hv
        have b1 : decide ((48 : Int) ≤ (x : Int)) = true := by simp; omega
        have b2 : decide ((x : Int) ≤ 57) = false := by simp; omega
        have b3 : decide ((97 : Int) ≤ (x : Int)) = false := by simp; omega
        go_enter Tryd.func107, Tryd.ntmps107
        go_wp2
        go_ret
        exact ⟨rfl, rfl⟩
  · rw [if_neg (by simp; omega)] at hv
    subst hv
    have b1 : decide ((48 : Int) ≤ (x : Int)) = false := by simp; omega
    have b3 : decide ((97 : Int) ≤ (x : Int)) = false := by simp; omega
    go_enter Tryd.func107, Tryd.ntmps107
    go_wp2
    go_ret
    exact ⟨rfl, rfl⟩
theorem hexV_lt {c : UInt8} (h : hexOk c = true) : hexV c < 16 := by
  unfold hexOk at h
  unfold hexV
  have := of_decide_eq_true h
  split <;> omega
theorem drop_at {s : ByteArray} {k : Nat} (h : k < s.size) : s.data.toList.drop k = s[k] :: s.data.toList.drop (k + 1) := by
  have h' : k < s.data.toList.length := by simpa using h
  rw [List.drop_eq_getElem_cons h']
  rfl
theorem two_list {s : ByteArray} {k : Nat} (h0 : k < s.size) (h : k + 1 < s.size) : (s.extract k (k + 2)).toList = [s[k], s[k + 1]] := by
  rw [Lib.toList_data, ByteArray.data_extract, Array.toList_extract]
  unfold List.extract
  rw [drop_at h0, drop_at h, show k + 2 - k = 2 by omega]
  rfl
theorem two_yes {s : ByteArray} {k : Nat} (a b : UInt8) (h0 : k < s.size) (h : k + 1 < s.size) (hc : s[k].toNat = a.toNat) (hd : s[k + 1].toNat = b.toNat) : ((s.extract k (k + 2)).toList == [a, b]) = true := by
  rw [two_list h0 h, of_nat a hc, of_nat b hd]
  exact beq_self_eq_true _
theorem two_no {s : ByteArray} {k : Nat} (a b : UInt8) (h0 : k < s.size) (h : k + 1 < s.size) (hn : ¬ (s[k].toNat = a.toNat ∧ s[k + 1].toNat = b.toNat)) : ((s.extract k (k + 2)).toList == [a, b]) = false := by
  rw [two_list h0 h]
  refine beq_false_of_ne fun e => hn ?_
  injection e with e1 e
  injection e with e2 _
  rw [e1, e2]
  exact ⟨rfl, rfl⟩
theorem rq_ne {s : ByteArray} {k : Nat} (h : k < s.size) : s.data.toList.drop k ≠ [] := by rw [drop_at h]; exact List.cons_ne_nil _ _
def RUnqRel (s : ByteArray) (w : World) (u v : Value) (wr : World) : Prop := ∃ (k n c : Nat) (A : Option Addr) (acc : List UInt8), k ≤ s.size ∧ v = .int .i64 k ∧ u = .slice A n c ∧ wr.ownsRow w.heap.size 5 1 (.slice A n c) n (Lib.byteCells acc) ∧ acc.length ≤ k ∧ Ext w wr ∧ Rd s.data.toList acc (s.data.toList.drop k)
theorem runq_fail {s : ByteArray} {acc : List UInt8} {k : Nat} (HR : Rd s.data.toList acc (s.data.toList.drop k)) (h : k < s.size) (hd : decQ (s.data.toList.drop k) = none) : UnqOut s (.returned (.tuple #[.string ⟨#[]⟩, .bool false])) := unqFail HR (rq_ne h) hd
theorem runq_end {s : ByteArray} {acc : List UInt8} {k : Nat} (HR : Rd s.data.toList acc (s.data.toList.drop k)) (h : ¬ k < s.size) (hk : k ≤ s.size) (hl : acc.length ≤ k) : UnqOut s (.returned (.tuple #[.string ⟨acc.toArray⟩, .bool true])) := by
  have e : s.data.toList.drop k = [] := List.drop_eq_nil_of_le (by rw [size_data]; omega)
  rw [e] at HR
  refine ⟨_, _, rfl, fun x hx => ⟨rd_end HR x hx, rfl⟩, ?_⟩
  show acc.toArray.size ≤ _
  rw [List.size_toArray]
  omega
theorem runq_rel {s : ByteArray} {acc : List UInt8} {a : UInt8} {k j n c : Nat} {A : Option Addr} {w w2 : World} (HR : Rd s.data.toList acc (s.data.toList.drop k)) (h : k < s.size) (hl : acc.length ≤ k) (hj : k < j) (hj2 : j ≤ s.size)
    (hd : ∀ b u, decQ (s.data.toList.drop k) = some (b, u) → b = a ∧ u = s.data.toList.drop j) (ho : w2.ownsRow w.heap.size 5 1 (.slice A n c) n (Lib.byteCells acc ++ [.int .u8 (a.toNat : Int)])) (x : Ext w w2) : RUnqRel s w (.slice A n c) (.int .i64 j) w2 :=
  ⟨j, n, c, A, acc ++ [a], hj2, rfl, rfl, by rw [cells_append]; exact ho, by rw [List.length_append, List.length_singleton]; omega, x, rd_step HR (rq_ne h) hd⟩
set_option maxRecDepth 100000 in
set_option maxHeartbeats 8000000 in
theorem runq_any (s : ByteArray) (w : World) (hs : s.size ≤ 4000000) : Calls Tryd.prog 88 #[.string s] w fun e w' => UnqOut s e ∧ Ext w w' := by
  obtain ⟨i0, hi, hz0, hz1, hz2⟩ := info_parts info_byte
  have HI := Lib.hid hi
  clear hi
  go_enter Tryd.func88, Tryd.ntmps88
  go_wp2
  go_loopw [4, 5] (fun u v wr => RUnqRel s w u v wr) (fun _ v _ => s.size - (intOf v).toNat)
  case atStart => exact ⟨0, 0, 0, none, [], Nat.zero_le _, rfl, rfl, ⟨rfl, .inl ⟨rfl, rfl⟩⟩, Nat.le_refl _, Ext.refl w, rd_start _⟩
  case round =>
    obtain ⟨k, n, c, A, acc, hk, rfl, rfl, ho, hl, er, hR⟩ := hrel
    have hlen : n ≤ k := by
      have h1 := ho.1
      rw [Lib.byteCells_length] at h1
      omega
    have hv : ∀ g, (Value.slice A n c).ownBlock = some g → w.heap.size ≤ g := fun g hg => (ho.lt g hg).1
    have HR := Lib.hid hR
    have HV := Lib.hid hv
    have HO := Lib.hid ho
    have hsz := er.size
    clear ho hv hR
    by_cases hlt : k < s.size
    · have HEl := Lib.hid (drop_at hlt)
      by_cases h1 : k + 1 < s.size
      · by_cases hc : s[k].toNat = 39
        · have HEc := Lib.hid (of_nat 39 hc)
          by_cases hd : s[k + 1].toNat = 39
          · have HEd := Lib.hid (of_nat 39 hd)
            have t39_39 := two_yes 39 39 hlt h1 hc hd
            clear hd
            go_wp2_with (at_builtin; refine wpList_append_own _ rfl _ _ 89 rfl w.heap.size 5 i0 (.int .u8 0) 1 1 under_bytes HI.out hz0 hz1 hz2 rfl (by decide) (.slice A n c) n _ rfl (row_ext HO.out ((Ext.refl _).alloc _)) ⟨wr.heap.size, 0, none⟩ 1 1 [.int .u8 39] rfl rfl ?c1 ?c2 ?c3 ?c4 ?c5 ?_)
            case c1 => exact fun j u hu => cells_at wr _ _ j u hu
            case c2 => intro u hu; simp at hu; subst hu; rfl
            case c3 => unfold maxLen; omega
            case c4 => omega
            case c5 => simp; omega
            intro v' w2 hown2 hg2 hnil
            clear hnil
            obtain ⟨nA, nc, rfl⟩ := owns_form hown2
            have X2 : Ext w w2 := Below.grown (er.alloc _) hg2 (by simp; omega) HV.out
            have HO2 := Lib.hid hown2
            clear hown2 hg2
            go_wp2
            go_roundw
            case rel => exact (show ((k : Int) + 2) = ((k + 2 : Nat) : Int) by omega) ▸ runq_rel (a := (39 : UInt8)) (j := k + 2) HR.out hlt hl (by omega) (by omega) (fun b u h => some_pair (by rw [drop_at hlt, drop_at h1, HEc.out, HEd.out] at h; exact h)) HO2.out X2
            case measure => simp [intOf]; omega
          · have HNd := Lib.hid (no_nat 39 hd)
            have t39_39 := two_no 39 39 hlt h1 (by simp; omega)
            have t92_92 := two_no 92 92 hlt h1 (by simp; omega)
            have t92_110 := two_no 92 110 hlt h1 (by simp; omega)
            have t92_114 := two_no 92 114 hlt h1 (by simp; omega)
            have t92_116 := two_no 92 116 hlt h1 (by simp; omega)
            have t92_120 := two_no 92 120 hlt h1 (by simp; omega)
            have z39 : ((s[k].toNat : Int) == 39) = true := by simp; omega
            have z92 : ((s[k].toNat : Int) == 92) = false := by simp; omega
            clear hd
            go_wp2
            go_ret2
            exact ⟨runq_fail HR.out hlt (by rw [drop_at hlt, drop_at h1, HEc.out]; exact decQ_q HNd.out), er⟩
        have HN39 := Lib.hid (no_nat 39 hc)
        have hc39 := hc
        clear hc
        by_cases hc : s[k].toNat = 92
        · have HEc := Lib.hid (of_nat 92 hc)
          by_cases hd : s[k + 1].toNat = 92
          · have HEd := Lib.hid (of_nat 92 hd)
            have t39_39 := two_no 39 39 hlt h1 (by simp; omega)
            have t92_92 := two_yes 92 92 hlt h1 hc hd
            clear hd
            go_wp2_with (at_builtin; refine wpList_append_own _ rfl _ _ 89 rfl w.heap.size 5 i0 (.int .u8 0) 1 1 under_bytes HI.out hz0 hz1 hz2 rfl (by decide) (.slice A n c) n _ rfl (row_ext HO.out ((Ext.refl _).alloc _)) ⟨wr.heap.size, 0, none⟩ 1 1 [.int .u8 92] rfl rfl ?c1 ?c2 ?c3 ?c4 ?c5 ?_)
            case c1 => exact fun j u hu => cells_at wr _ _ j u hu
            case c2 => intro u hu; simp at hu; subst hu; rfl
            case c3 => unfold maxLen; omega
            case c4 => omega
            case c5 => simp; omega
            intro v' w2 hown2 hg2 hnil
            clear hnil
            obtain ⟨nA, nc, rfl⟩ := owns_form hown2
            have X2 : Ext w w2 := Below.grown (er.alloc _) hg2 (by simp; omega) HV.out
            have HO2 := Lib.hid hown2
            clear hown2 hg2
            go_wp2
            go_roundw
            case rel => exact (show ((k : Int) + 2) = ((k + 2 : Nat) : Int) by omega) ▸ runq_rel (a := (92 : UInt8)) (j := k + 2) HR.out hlt hl (by omega) (by omega) (fun b u h => some_pair (by rw [drop_at hlt, drop_at h1, HEc.out, HEd.out] at h; exact h)) HO2.out X2
            case measure => simp [intOf]; omega
          have HN92 := Lib.hid (no_nat 92 hd)
          have hd92 := hd
          clear hd
          by_cases hd : s[k + 1].toNat = 110
          · have HEd := Lib.hid (of_nat 110 hd)
            have t39_39 := two_no 39 39 hlt h1 (by simp; omega)
            have t92_92 := two_no 92 92 hlt h1 (by simp; omega)
            have t92_110 := two_yes 92 110 hlt h1 hc hd
            clear hd
            go_wp2_with (at_builtin; refine wpList_append_own _ rfl _ _ 89 rfl w.heap.size 5 i0 (.int .u8 0) 1 1 under_bytes HI.out hz0 hz1 hz2 rfl (by decide) (.slice A n c) n _ rfl (row_ext HO.out ((Ext.refl _).alloc _)) ⟨wr.heap.size, 0, none⟩ 1 1 [.int .u8 10] rfl rfl ?c1 ?c2 ?c3 ?c4 ?c5 ?_)
            case c1 => exact fun j u hu => cells_at wr _ _ j u hu
            case c2 => intro u hu; simp at hu; subst hu; rfl
            case c3 => unfold maxLen; omega
            case c4 => omega
            case c5 => simp; omega
            intro v' w2 hown2 hg2 hnil
            clear hnil
            obtain ⟨nA, nc, rfl⟩ := owns_form hown2
            have X2 : Ext w w2 := Below.grown (er.alloc _) hg2 (by simp; omega) HV.out
            have HO2 := Lib.hid hown2
            clear hown2 hg2
            go_wp2
            go_roundw
            case rel => exact (show ((k : Int) + 2) = ((k + 2 : Nat) : Int) by omega) ▸ runq_rel (a := (10 : UInt8)) (j := k + 2) HR.out hlt hl (by omega) (by omega) (fun b u h => some_pair (by rw [drop_at hlt, drop_at h1, HEc.out, HEd.out] at h; exact h)) HO2.out X2
            case measure => simp [intOf]; omega
          have HN110 := Lib.hid (no_nat 110 hd)
          have hd110 := hd
          clear hd
          by_cases hd : s[k + 1].toNat = 114
          · have HEd := Lib.hid (of_nat 114 hd)
            have t39_39 := two_no 39 39 hlt h1 (by simp; omega)
            have t92_92 := two_no 92 92 hlt h1 (by simp; omega)
            have t92_110 := two_no 92 110 hlt h1 (by simp; omega)
            have t92_114 := two_yes 92 114 hlt h1 hc hd
            clear hd
            go_wp2_with (at_builtin; refine wpList_append_own _ rfl _ _ 89 rfl w.heap.size 5 i0 (.int .u8 0) 1 1 under_bytes HI.out hz0 hz1 hz2 rfl (by decide) (.slice A n c) n _ rfl (row_ext HO.out ((Ext.refl _).alloc _)) ⟨wr.heap.size, 0, none⟩ 1 1 [.int .u8 13] rfl rfl ?c1 ?c2 ?c3 ?c4 ?c5 ?_)
            case c1 => exact fun j u hu => cells_at wr _ _ j u hu
            case c2 => intro u hu; simp at hu; subst hu; rfl
            case c3 => unfold maxLen; omega
            case c4 => omega
            case c5 => simp; omega
            intro v' w2 hown2 hg2 hnil
            clear hnil
            obtain ⟨nA, nc, rfl⟩ := owns_form hown2
            have X2 : Ext w w2 := Below.grown (er.alloc _) hg2 (by simp; omega) HV.out
            have HO2 := Lib.hid hown2
            clear hown2 hg2
            go_wp2
            go_roundw
            case rel => exact (show ((k : Int) + 2) = ((k + 2 : Nat) : Int) by omega) ▸ runq_rel (a := (13 : UInt8)) (j := k + 2) HR.out hlt hl (by omega) (by omega) (fun b u h => some_pair (by rw [drop_at hlt, drop_at h1, HEc.out, HEd.out] at h; exact h)) HO2.out X2
            case measure => simp [intOf]; omega
          have HN114 := Lib.hid (no_nat 114 hd)
          have hd114 := hd
          clear hd
          by_cases hd : s[k + 1].toNat = 116
          · have HEd := Lib.hid (of_nat 116 hd)
            have t39_39 := two_no 39 39 hlt h1 (by simp; omega)
            have t92_92 := two_no 92 92 hlt h1 (by simp; omega)
            have t92_110 := two_no 92 110 hlt h1 (by simp; omega)
            have t92_114 := two_no 92 114 hlt h1 (by simp; omega)
            have t92_116 := two_yes 92 116 hlt h1 hc hd
            clear hd
            go_wp2_with (at_builtin; refine wpList_append_own _ rfl _ _ 89 rfl w.heap.size 5 i0 (.int .u8 0) 1 1 under_bytes HI.out hz0 hz1 hz2 rfl (by decide) (.slice A n c) n _ rfl (row_ext HO.out ((Ext.refl _).alloc _)) ⟨wr.heap.size, 0, none⟩ 1 1 [.int .u8 9] rfl rfl ?c1 ?c2 ?c3 ?c4 ?c5 ?_)
            case c1 => exact fun j u hu => cells_at wr _ _ j u hu
            case c2 => intro u hu; simp at hu; subst hu; rfl
            case c3 => unfold maxLen; omega
            case c4 => omega
            case c5 => simp; omega
            intro v' w2 hown2 hg2 hnil
            clear hnil
            obtain ⟨nA, nc, rfl⟩ := owns_form hown2
            have X2 : Ext w w2 := Below.grown (er.alloc _) hg2 (by simp; omega) HV.out
            have HO2 := Lib.hid hown2
            clear hown2 hg2
            go_wp2
            go_roundw
            case rel => exact (show ((k : Int) + 2) = ((k + 2 : Nat) : Int) by omega) ▸ runq_rel (a := (9 : UInt8)) (j := k + 2) HR.out hlt hl (by omega) (by omega) (fun b u h => some_pair (by rw [drop_at hlt, drop_at h1, HEc.out, HEd.out] at h; exact h)) HO2.out X2
            case measure => simp [intOf]; omega
          have HN116 := Lib.hid (no_nat 116 hd)
          have hd116 := hd
          clear hd
          by_cases hd : s[k + 1].toNat = 120
          · have HEd := Lib.hid (of_nat 120 hd)
            have t39_39 := two_no 39 39 hlt h1 (by simp; omega)
            have t92_92 := two_no 92 92 hlt h1 (by simp; omega)
            have t92_110 := two_no 92 110 hlt h1 (by simp; omega)
            have t92_114 := two_no 92 114 hlt h1 (by simp; omega)
            have t92_116 := two_no 92 116 hlt h1 (by simp; omega)
            have t92_120 := two_yes 92 120 hlt h1 hc hd
            have z39 : ((s[k].toNat : Int) == 39) = false := by simp; omega
            have z92 : ((s[k].toNat : Int) == 92) = true := by simp; omega
            clear hd
            by_cases h3 : k + 3 < s.size
            · have h2 : k + 2 < s.size := by omega
              have HL3 : Hid (s.data.toList.drop k = 92 :: 120 :: s[k + 2] :: s[k + 3] :: s.data.toList.drop (k + 4)) := Lib.hid (by rw [drop_at hlt, drop_at h1, drop_at h2, drop_at h3, HEc.out, HEd.out])
              have m1 : True := trivial
              by_cases x1 : hexOk s[k + 2] = true
              · by_cases x2 : hexOk s[k + 3] = true
                · obtain ⟨m, hm⟩ : ∃ m, hexV s[k + 2] = m := ⟨_, rfl⟩
                  obtain ⟨p, hp⟩ : ∃ m, hexV s[k + 3] = m := ⟨_, rfl⟩
                  have l1 : m < 16 := hm ▸ hexV_lt x1
                  have l2 : p < 16 := hp ▸ hexV_lt x2
                  have H1 : Hid (hexI s[k + 2] = (m : Int)) := Lib.hid (by unfold hexI; rw [if_pos x1, hm])
                  have H2 : Hid (hexI s[k + 3] = (p : Int)) := Lib.hid (by unfold hexI; rw [if_pos x2, hp])
                  obtain ⟨x, hx⟩ : ∃ x, UInt8.ofNat (16 * m + p) = x := ⟨_, rfl⟩
                  have hxn : (x.toNat : Int) = 16 * (m : Int) + (p : Int) := by rw [← hx, UInt8.toNat_ofNat']; omega
                  have q1 : IntKind.i64.wrap (16 * (m : Int)) = 16 * (m : Int) := IntWalk.i64_in _ (by omega)
                  have q2 : IntKind.i64.wrap (16 * (m : Int) + (p : Int)) = 16 * (m : Int) + (p : Int) := IntWalk.i64_in _ (by omega)
                  have q3 : IntKind.u8.wrap (16 * (m : Int) + (p : Int)) = (x.toNat : Int) := by rw [hxn]; exact IntWalk.u8_in _ (by omega)
                  have HD : Hid (decQ (s.data.toList.drop k) = some (x, s.data.toList.drop (k + 4))) := Lib.hid (by
                    rw [HL3.out, ← hx, ← hm, ← hp]
                    show (if hexOk s[k + 2] && hexOk s[k + 3] then _ else none) = _
                    rw [if_pos (by rw [x1, x2]; rfl)])
                  clear hxn hx hm hp x1 x2
                  go_upto_region 23 with (first | (have z := m1; clear z m1; go_at_call 107; refine (rhex_any s[k + 2] _ _ H1).mono ?_; rintro e w3 ⟨rfl, rfl⟩; have m2 : True := trivial) | (have z := m2; clear z m2; go_at_call 107; refine (rhex_any s[k + 3] _ _ H2).mono ?_; rintro e w4 ⟨rfl, rfl⟩; have m3 : True := trivial))
                  refine wp_region_ord [0,0,0,4,14,30,62,0,0,256,896,1982,4094,8190,16382,32767,65535] (.pur [0,7,8,9,10] (.flo [1,2,3,4] (.one 5 (.pur [6] (.one 11 (.flo [12,13] (.one 14 (.one 15 (.flo [16] (.fin)))))))))) (by kernel_rfl) (by kernel_rfl) (by intro _ _ d _ _ h; cases d <;> exact h) ?_
                  (refine ord_pur (pick_cons rfl (pick_cons rfl (pick_cons rfl (pick_cons rfl (pick_cons rfl pick_nil))))) ?_; (repeat (go_big_quiet_step (fail))); refine wpQuiet_nil ?_; show ordWalk _ _ _ _ _ _ _)
                  (refine ord_flo (pick_cons rfl (pick_cons rfl (pick_cons rfl (pick_cons rfl pick_nil)))) ?_; (repeat (go_big_quiet_step (fail))); refine wpQuiet_nil ?_; show ordWalk _ _ _ _ _ _ _)
                  refine ord_one (pick_cons rfl pick_nil) ?_; intro K_ hK_
                  go_wp2_with (go_at_call 107; refine (rhex_any s[k + 2] _ _ H1).mono ?_; rintro e w5 ⟨rfl, rfl⟩)
                  (refine ord_pur (pick_cons rfl pick_nil) ?_; (repeat (go_big_quiet_step (fail))); refine wpQuiet_nil ?_; show ordWalk _ _ _ _ _ _ _)
                  refine ord_one (pick_cons rfl pick_nil) ?_; intro K_ hK_
                  go_wp2_with (go_at_call 107; refine (rhex_any s[k + 3] _ _ H2).mono ?_; rintro e w6 ⟨rfl, rfl⟩)
                  (refine ord_flo (pick_cons rfl (pick_cons rfl pick_nil)) ?_; (repeat (go_big_quiet_step (fail))); refine wpQuiet_nil ?_; show ordWalk _ _ _ _ _ _ _)
                  refine ord_one (pick_cons rfl pick_nil) ?_; intro K_ hK_
                  go_wp2
                  refine ord_one (pick_cons rfl pick_nil) ?_; intro K_ hK_
                  go_wp2_with (at_builtin; refine wpList_append_own _ rfl _ _ 89 rfl w.heap.size 5 i0 (.int .u8 0) 1 1 under_bytes HI.out hz0 hz1 hz2 rfl (by decide) (.slice A n c) n _ rfl (by first | exact row_ext HO.out ((Ext.refl _).drew.alloc _) | exact row_ext HO.out ((Ext.refl _).alloc _).drew) ⟨wr.heap.size, 0, none⟩ 1 1 [.int .u8 (x.toNat : Int)] rfl rfl ?c1 ?c2 ?c3 ?c4 ?c5 ?_)
                  case c1 => exact fun j u hu => cells_at wr _ _ j u hu
                  case c2 => intro u hu; simp at hu; subst hu; rfl
                  case c3 => unfold maxLen; omega
                  case c4 => omega
                  case c5 => simp; omega
                  intro v' w2 hown2 hg2 hnil
                  clear hnil
                  obtain ⟨nA, nc, rfl⟩ := owns_form hown2
                  have X2 : Ext w w2 := Below.grown ((er.alloc _).drew) hg2 (by simp; omega) HV.out
                  have HO2 := Lib.hid hown2
                  clear hown2 hg2
                  go_wp2
                  (refine ord_flo (pick_cons rfl pick_nil) ?_; (repeat (go_big_quiet_step (fail))); refine wpQuiet_nil ?_; show ordWalk _ _ _ _ _ _ _)
                  refine ord_fin ?_
                  go_wp2
                  go_roundw
                  case rel => exact (show ((k : Int) + 4) = ((k + 4 : Nat) : Int) by omega) ▸ runq_rel (a := x) (j := k + 4) HR.out hlt hl (by omega) (by omega) (fun b u h => some_pair (by rw [HD.out] at h; exact h)) HO2.out X2
                  case measure => simp [intOf]; omega
                · have x3 : hexOk s[k + 3] = false := by simpa using x2
                  obtain ⟨m, hm⟩ : ∃ m, hexV s[k + 2] = m := ⟨_, rfl⟩
                  have H1 : Hid (hexI s[k + 2] = (m : Int)) := Lib.hid (by unfold hexI; rw [if_pos x1, hm])
                  have H2 : Hid (hexI s[k + 3] = -1) := Lib.hid (by unfold hexI; rw [x3]; rfl)
                  have HD : Hid (decQ (s.data.toList.drop k) = none) := Lib.hid (by rw [HL3.out]; show (if hexOk s[k + 2] && hexOk s[k + 3] then _ else none) = _; rw [if_neg (by rw [x3]; simp)])
                  clear x1 x2 x3 hm
                  go_wp2_with (first | (have z := m1; clear z m1; go_at_call 107; refine (rhex_any s[k + 2] _ _ H1).mono ?_; rintro e w3 ⟨rfl, rfl⟩; have m2 : True := trivial) | (have z := m2; clear z m2; go_at_call 107; refine (rhex_any s[k + 3] _ _ H2).mono ?_; rintro e w4 ⟨rfl, rfl⟩; have m3 : True := trivial))
                  go_ret2
                  exact ⟨runq_fail HR.out hlt HD.out, er⟩
              · have x3 : hexOk s[k + 2] = false := by simpa using x1
                have H1 : Hid (hexI s[k + 2] = -1) := Lib.hid (by unfold hexI; rw [x3]; rfl)
                have HD : Hid (decQ (s.data.toList.drop k) = none) := Lib.hid (by rw [HL3.out]; show (if hexOk s[k + 2] && hexOk s[k + 3] then _ else none) = _; rw [if_neg (by rw [x3]; simp)])
                clear x1 x3
                go_wp2_with (first | (have z := m1; clear z m1; go_at_call 107; refine (rhex_any s[k + 2] _ _ H1).mono ?_; rintro e w3 ⟨rfl, rfl⟩; have m2 : True := trivial) | fail)
                go_ret2
                exact ⟨runq_fail HR.out hlt HD.out, er⟩
            · have HD : Hid (decQ (s.data.toList.drop k) = none) := Lib.hid (by
                rw [drop_at hlt, drop_at h1, HEc.out, HEd.out]
                by_cases h2 : k + 2 < s.size
                · rw [drop_at h2, List.drop_eq_nil_of_le (by rw [size_data]; omega)]; rfl
                · rw [List.drop_eq_nil_of_le (by rw [size_data]; omega)]; rfl)
              go_wp2
              go_ret2
              exact ⟨runq_fail HR.out hlt (HD.out), er⟩
          have HNx := Lib.hid (no_nat 120 hd)
          have t39_39 := two_no 39 39 hlt h1 (by simp; omega)
          have t92_92 := two_no 92 92 hlt h1 (by simp; omega)
          have t92_110 := two_no 92 110 hlt h1 (by simp; omega)
          have t92_114 := two_no 92 114 hlt h1 (by simp; omega)
          have t92_116 := two_no 92 116 hlt h1 (by simp; omega)
          have t92_120 := two_no 92 120 hlt h1 (by simp; omega)
          have z39 : ((s[k].toNat : Int) == 39) = false := by simp; omega
          have z92 : ((s[k].toNat : Int) == 92) = true := by simp; omega
          clear hd
          go_wp2
          go_ret2
          exact ⟨runq_fail HR.out hlt (by rw [drop_at hlt, drop_at h1, HEc.out]; exact decQ_no HN92.out HN110.out HN114.out HN116.out HNx.out), er⟩
        have HN92 := Lib.hid (no_nat 92 hc)
        have t39_39 := two_no 39 39 hlt h1 (by simp; omega)
        have t92_92 := two_no 92 92 hlt h1 (by simp; omega)
        have t92_110 := two_no 92 110 hlt h1 (by simp; omega)
        have t92_114 := two_no 92 114 hlt h1 (by simp; omega)
        have t92_116 := two_no 92 116 hlt h1 (by simp; omega)
        have t92_120 := two_no 92 120 hlt h1 (by simp; omega)
        have z39 : ((s[k].toNat : Int) == 39) = false := by simp; omega
        have z92 : ((s[k].toNat : Int) == 92) = false := by simp; omega
        go_wp2_with (at_builtin; refine wpList_append_own _ rfl _ _ 89 rfl w.heap.size 5 i0 (.int .u8 0) 1 1 under_bytes HI.out hz0 hz1 hz2 rfl (by decide) (.slice A n c) n _ rfl (row_ext HO.out ((Ext.refl _).alloc _)) ⟨wr.heap.size, 0, none⟩ 1 1 [.int .u8 (s[k].toNat : Int)] rfl rfl ?c1 ?c2 ?c3 ?c4 ?c5 ?_)
        case c1 => exact fun j u hu => cells_at wr _ _ j u hu
        case c2 => intro u hu; simp at hu; subst hu; rfl
        case c3 => unfold maxLen; omega
        case c4 => omega
        case c5 => simp; omega
        intro v' w2 hown2 hg2 hnil
        clear hnil
        obtain ⟨nA, nc, rfl⟩ := owns_form hown2
        have X2 : Ext w w2 := Below.grown (er.alloc _) hg2 (by simp; omega) HV.out
        have HO2 := Lib.hid hown2
        clear hown2 hg2
        go_wp2
        go_roundw
        case rel => exact (show ((k : Int) + 1) = ((k + 1 : Nat) : Int) by omega) ▸ runq_rel (a := s[k]) (j := k + 1) HR.out hlt hl (by omega) (by omega) (fun b u h => some_pair (by rw [drop_at hlt, decQ_plain HN39.out HN92.out] at h; exact h)) HO2.out X2
        case measure => simp [intOf]; omega
      · have HNil : Hid (s.data.toList.drop (k + 1) = []) := Lib.hid (List.drop_eq_nil_of_le (by rw [size_data]; omega))
        by_cases hc : s[k].toNat = 39
        · have HEc := Lib.hid (of_nat 39 hc)
          have z39 : ((s[k].toNat : Int) == 39) = true := by simp; omega
          have z92 : ((s[k].toNat : Int) == 92) = false := by simp; omega
          go_wp2
          go_ret2
          exact ⟨runq_fail HR.out hlt (by rw [drop_at hlt, HNil.out, HEc.out]; rfl), er⟩
        have HN39 := Lib.hid (no_nat 39 hc)
        by_cases hc2 : s[k].toNat = 92
        · have HEc := Lib.hid (of_nat 92 hc2)
          have z39 : ((s[k].toNat : Int) == 39) = false := by simp; omega
          have z92 : ((s[k].toNat : Int) == 92) = true := by simp; omega
          go_wp2
          go_ret2
          exact ⟨runq_fail HR.out hlt (by rw [drop_at hlt, HNil.out, HEc.out]; rfl), er⟩
        have HN92 := Lib.hid (no_nat 92 hc2)
        have z39 : ((s[k].toNat : Int) == 39) = false := by simp; omega
        have z92 : ((s[k].toNat : Int) == 92) = false := by simp; omega
        go_wp2_with (at_builtin; refine wpList_append_own _ rfl _ _ 89 rfl w.heap.size 5 i0 (.int .u8 0) 1 1 under_bytes HI.out hz0 hz1 hz2 rfl (by decide) (.slice A n c) n _ rfl (row_ext HO.out ((Ext.refl _).alloc _)) ⟨wr.heap.size, 0, none⟩ 1 1 [.int .u8 (s[k].toNat : Int)] rfl rfl ?c1 ?c2 ?c3 ?c4 ?c5 ?_)
        case c1 => exact fun j u hu => cells_at wr _ _ j u hu
        case c2 => intro u hu; simp at hu; subst hu; rfl
        case c3 => unfold maxLen; omega
        case c4 => omega
        case c5 => simp; omega
        intro v' w2 hown2 hg2 hnil
        clear hnil
        obtain ⟨nA, nc, rfl⟩ := owns_form hown2
        have X2 : Ext w w2 := Below.grown (er.alloc _) hg2 (by simp; omega) HV.out
        have HO2 := Lib.hid hown2
        clear hown2 hg2
        go_wp2
        go_roundw
        case rel => exact (show ((k : Int) + 1) = ((k + 1 : Nat) : Int) by omega) ▸ runq_rel (a := s[k]) (j := k + 1) HR.out hlt hl (by omega) (by omega) (fun b u h => some_pair (by rw [drop_at hlt, decQ_plain HN39.out HN92.out] at h; exact h)) HO2.out X2
        case measure => simp [intOf]; omega
    · go_wp2
      rw [conv_row _ HO.out]
      simp only [Result.andThen]
      rw [Oper.upon_value]
      go_simp
      go_wp2
      go_ret2
      exact ⟨runq_end HR.out hlt hk hl, er⟩
end Go.Proofs.YtobgfegdfcpgfaaDoor
