/- The plain law of reading a number digit by digit. penstockref01.hex, unquoted: what they answer, as far as it must be known. penstockref01.Parse of a word: what it answers. penstockref01.Parse of a text that is none of the words and not between quotes: what it answers. penstockref01.Parse of a text between quotes: what it answers. penstockref01.Parse of any text: what it answers. penstockref01.Parse once more: in the form that walks use. Conditions: each theorem states its own. -/
import Derived.Test.YtngeioghihbkeaaGreatDoorParsAll
import Derived.Test.YtngeioghihbkeaaGreatDoorRefMks
namespace Go.Proofs.YtngeioghihbkeaaGreatDoor
open Go.RowKit

/-- a text that is none of the words, and not between quotes, is a number's, or nothing's -/
theorem cand_itoa {s : ByteArray} (h1 : ¬ s.data.toList = [110, 117, 108, 108]) (h2 : ¬ s.data.toList = Lib.formatBool true) (h3 : ¬ s.data.toList = Lib.formatBool false) (h4 : ∀ m, ¬ s.data.toList = 39 :: (m ++ [39])) :
    ∀ x : Dat, Ok x → printT x.k x.b x.n x.s = s → ∃ v, In64 v ∧ s.data.toList = Lib.itoa v ∧ x = ⟨3, false, v, ⟨#[]⟩⟩ := by
  intro x hx hp
  have hl := list_of hx hp
  obtain ⟨hk, a1, a2, a3⟩ := form_of hx.1
  obtain ⟨hok, hn⟩ := hx
  obtain ⟨k, b, n, z⟩ := x
  simp only at hk a1 a2 a3 hl hn
  rcases hk with rfl | rfl | rfl | rfl
  · exact absurd hl h1
  · cases b
    · exact absurd hl h3
    · exact absurd hl h2
  · refine ⟨n, hn, hl, ?_⟩
    rw [a1 (by omega), a3 (by omega)]
  · exact absurd hl (h4 _)
theorem itoa_len {v : Int} (h : In64 v) : 0 < (Lib.itoa v).length ∧ (Lib.itoa v).length ≤ 20 := by
  obtain ⟨h1, h2⟩ := h
  have e : (10 : Nat) ^ 19 = 10000000000000000000 := by decide
  unfold Lib.itoa
  split
  · have q := digits_len 18 v.natAbs (by omega)
    rw [List.length_cons]
    omega
  · have q := digits_len 18 v.toNat (by omega)
    have p := List.length_pos_iff.2 (digits_ne v.toNat)
    omega
/-- what is behind the sign: j is 1 where there is one -/
def sgn (s : ByteArray) : Nat := if s.data.toList.head? = some 45 then 1 else 0
/-- what the first k bytes tell -/
def dig (s : ByteArray) (j k : Nat) : Nat := fold10 0 ((s.data.toList.take k).drop j) % 18446744073709551616
theorem fold_app (a : Nat) (l : List UInt8) (c : UInt8) : fold10 a (l ++ [c]) = 10 * fold10 a l + (c.toNat - 48) := by
  unfold fold10
  rw [List.foldl_append]
  rfl
theorem take_one {s : ByteArray} {k : Nat} (h : k < s.size) : s.data.toList.take (k + 1) = s.data.toList.take k ++ [s[k]] := by
  have h' : k < s.data.toList.length := by simpa using h
  rw [List.take_succ_eq_append_getElem h']
  rfl
theorem dig_step {s : ByteArray} {j k m : Nat} (hj : j ≤ k) (h : k < s.size) (hm : dig s j k = m) : dig s j (k + 1) = (10 * m % 18446744073709551616 + (s[k].toNat - 48)) % 18446744073709551616 := by
  have hl : (s.data.toList.take k).length = k := by
    have : k ≤ s.data.toList.length := by simp; omega
    rw [List.length_take]
    omega
  subst hm
  unfold dig
  rw [take_one h, List.drop_append_of_le_length (by omega), fold_app]
  omega
theorem dig_zero (s : ByteArray) (j : Nat) : dig s j 0 = 0 := by
  unfold dig
  rw [List.take_zero, List.drop_nil]
  rfl
theorem dig_one (s : ByteArray) : dig s 1 1 = 0 := by
  unfold dig
  rw [List.drop_eq_nil_of_le (List.length_take_le _ _)]
  rfl
/-- the bytes of a number: digits, but for the sign -/
theorem itoa_digit {v : Int} {k : Nat} {c : UInt8} (h : (Lib.itoa v)[k]? = some c) (hk : ¬ (k = 0 ∧ c.toNat = 45)) : 48 ≤ c.toNat ∧ c.toNat ≤ 57 := by
  unfold Lib.itoa at h
  split at h
  · cases k with
    | zero =>
      rw [List.getElem?_cons_zero] at h
      injection h with h
      exact absurd ⟨rfl, by rw [← h]; rfl⟩ hk
    | succ k =>
      rw [List.getElem?_cons_succ] at h
      exact digits_fine _ _ (Nat.le_refl _) c (List.mem_of_getElem? h)
  · exact digits_fine _ _ (Nat.le_refl _) c (List.mem_of_getElem? h)
theorem at_data {s : ByteArray} {k : Nat} (h : k < s.size) : s.data.toList[k]? = some s[k] := by
  rw [List.getElem?_eq_getElem (by rw [size_data]; exact h)]
  rfl
/-- a byte that is none of a number's -/
theorem not_itoa {s : ByteArray} {k : Nat} (h : k < s.size) (hk : ¬ (k = 0 ∧ s[k].toNat = 45)) (hd : ¬ (48 ≤ s[k].toNat ∧ s[k].toNat ≤ 57)) (v : Int) : ¬ s.data.toList = Lib.itoa v := fun e => hd (itoa_digit (v := v) (by rw [← e]; exact at_data h) hk)
/-- what is read at a number's end, without a sign -/
theorem dig_pos {s : ByteArray} {v : Int} (hv : In64 v) (e : s.data.toList = Lib.itoa v) (h0 : 0 < s.size) (h : ¬ s[0].toNat = 45) : IntKind.i64.wrap (dig s 0 s.size : Nat) = v := by
  obtain ⟨h1, h2⟩ := hv
  unfold Lib.itoa at e
  split at e
  · have := head_list h0
    rw [e] at this
    injection this with q _
    exact absurd (by rw [← q]; rfl) h
  · have q : dig s 0 s.size = v.toNat := by
      unfold dig
      rw [List.take_of_length_le (by rw [size_data]; exact Nat.le_refl _), List.drop_zero, e, show fold10 0 (Lib.decDigits v.toNat) = v.toNat from val_digits _ _ (Nat.le_refl _)]
      omega
    rw [q, IntWalk.i64_in _ (by omega)]
    omega
theorem dig_neg {s : ByteArray} {v : Int} (hv : In64 v) (e : s.data.toList = Lib.itoa v) (h0 : 0 < s.size) (h : s[0].toNat = 45) : IntKind.i64.wrap (-(IntKind.i64.wrap (dig s 1 s.size : Nat))) = v := by
  obtain ⟨h1, h2⟩ := hv
  unfold Lib.itoa at e
  split at e
  · have q : dig s 1 s.size = v.natAbs := by
      unfold dig
      rw [List.take_of_length_le (by rw [size_data]; exact Nat.le_refl _), e, List.drop_one, List.tail_cons, show fold10 0 (Lib.decDigits v.natAbs) = v.natAbs from val_digits _ _ (Nat.le_refl _)]
      omega
    rw [q]
    simp only [IntKind.wrap_i64]
    omega
  · have := head_list h0
    rw [e] at this
    have := digits_head this
    omega
end Go.Proofs.YtngeioghihbkeaaGreatDoor
namespace Go.Proofs.YtngeioghihbkeaaGreatDoor
open Go.RowKit

def hexI (c : UInt8) : Int := if hexOk c then (hexV c : Int) else -1
set_option maxRecDepth 100000 in
set_option maxHeartbeats 1000000 in
theorem rhex_any (c : UInt8) (v : Int) (w : World) (h : Hid (hexI c = v)) : Calls Tryz.prog 64 #[.int .u8 c.toNat] w fun e w' => e = .returned (.int .i64 v) ∧ w = w' := by
  have hv := h.out
  clear h
  have h256 : c.toNat < 256 := c.toNat_lt
  unfold hexI hexOk hexV at hv
  obtain ⟨x, hx⟩ : ∃ x, c.toNat = x := ⟨_, rfl⟩
  rw [hx] at hv h256 ⊢
  clear hx
  by_cases a1 : 48 ≤ x
  · by_cases a2 : x ≤ 57
    · rw [if_pos (by simp; omega), if_pos (by omega)] at hv
      have z1 : IntKind.u8.wrap ((x : Int) - 48) = (x : Int) - 48 := IntWalk.u8_in _ (by omega)
      have z2 : IntKind.i64.wrap ((x : Int) - 48) = v := by rw [IntWalk.i64_in _ (by omega)]; omega
      have b1 : decide ((48 : Int) ≤ (x : Int)) = true := by simp; omega
      have b2 : decide ((x : Int) ≤ 57) = true := by simp; omega
      clear hv
      go_enter Tryz.func64, Tryz.ntmps64
      go_wp2
      go_ret
      exact ⟨rfl, rfl⟩
    · by_cases a3 : 97 ≤ x
      · by_cases a4 : x ≤ 102
        · rw [if_pos (by simp; omega), if_neg (by omega)] at hv
          have z1 : IntKind.u8.wrap ((x : Int) - 97) = (x : Int) - 97 := IntWalk.u8_in _ (by omega)
          have z2 : IntKind.i64.wrap ((x : Int) - 97) = (x : Int) - 97 := IntWalk.i64_in _ (by omega)
          have z3 : IntKind.i64.wrap ((x : Int) - 97 + 10) = v := by rw [IntWalk.i64_in _ (by omega)]; omega
          have b1 : decide ((48 : Int) ≤ (x : Int)) = true := by simp; omega
          have b2 : decide ((x : Int) ≤ 57) = false := by simp; omega
          have b3 : decide ((97 : Int) ≤ (x : Int)) = true := by simp; omega
          have b4 : decide ((x : Int) ≤ 102) = true := by simp; omega
          clear hv
          go_enter Tryz.func64, Tryz.ntmps64
          go_wp2
          go_ret
          exact ⟨rfl, rfl⟩
        · rw [if_neg (by simp; omega)] at hv
          subst hv
          have b1 : decide ((48 : Int) ≤ (x : Int)) = true := by simp; omega
          have b2 : decide ((x : Int) ≤ 57) = false := by simp; omega
          have b3 : decide ((97 : Int) ≤ (x : Int)) = true := by simp; omega
          have b4 : decide ((x : Int) ≤ 102) = false := by simp; omega
          go_enter Tryz.func64, Tryz.ntmps64
          go_wp2
          go_ret
          exact ⟨rfl, rfl⟩
      · rw [if_neg (by simp; omega)] at hv
        subst hv
        have b1 : decide ((48 : Int) ≤ (x : Int)) = true := by simp; omega
        have b2 : decide ((x : Int) ≤ 57) = false := by simp; omega
        have b3 : decide ((97 : Int) ≤ (x : Int)) = false := by simp; omega
        go_enter Tryz.func64, Tryz.ntmps64
        go_wp2
        go_ret
        exact ⟨rfl, rfl⟩
  · rw [if_neg (by simp; omega)] at hv
    subst hv
    have b1 : decide ((48 : Int) ≤ (x : Int)) = false := by simp; omega
    have b3 : decide ((97 : Int) ≤ (x : Int)) = false := by simp; omega
    go_enter Tryz.func64, Tryz.ntmps64
    go_wp2
    go_ret
    exact ⟨rfl, rfl⟩
theorem hexV_lt {c : UInt8} (h : hexOk c = true) : hexV c < 16 := by
  unfold hexOk at h
  unfold hexV
  have := of_decide_eq_true h
  split <;> omega
theorem drop_at {s : ByteArray} {k : Nat} (h : k < s.size) : s.data.toList.drop k = s[k] :: s.data.toList.drop (k + 1) := by
  have h' : k < s.data.toList.length := by simpa using h
  rw [List.drop_eq_getElem_cons h']
  rfl
theorem two_list {s : ByteArray} {k : Nat} (h0 : k < s.size) (h : k + 1 < s.size) : (s.extract k (k + 2)).toList = [s[k], s[k + 1]] := by
  rw [Lib.toList_data, ByteArray.data_extract, Array.toList_extract]
  unfold List.extract
  rw [drop_at h0, drop_at h, show k + 2 - k = 2 by omega]
  rfl
theorem two_yes {s : ByteArray} {k : Nat} (a b : UInt8) (h0 : k < s.size) (h : k + 1 < s.size) (hc : s[k].toNat = a.toNat) (hd : s[k + 1].toNat = b.toNat) : ((s.extract k (k + 2)).toList == [a, b]) = true := by
  rw [two_list h0 h, of_nat a hc, of_nat b hd]
  exact beq_self_eq_true _
theorem two_no {s : ByteArray} {k : Nat} (a b : UInt8) (h0 : k < s.size) (h : k + 1 < s.size) (hn : ¬ (s[k].toNat = a.toNat ∧ s[k + 1].toNat = b.toNat)) : ((s.extract k (k + 2)).toList == [a, b]) = false := by
  rw [two_list h0 h]
  refine beq_false_of_ne fun e => hn ?_
  injection e with e1 e
  injection e with e2 _
  rw [e1, e2]
  exact ⟨rfl, rfl⟩
theorem rq_ne {s : ByteArray} {k : Nat} (h : k < s.size) : s.data.toList.drop k ≠ [] := by rw [drop_at h]; exact List.cons_ne_nil _ _
def RUnqRel (s : ByteArray) (w : World) (u v : Value) (wr : World) : Prop := ∃ (k n c : Nat) (A : Option Addr) (acc : List UInt8), k ≤ s.size ∧ v = .int .i64 k ∧ u = .slice A n c ∧ wr.ownsRow w.heap.size 5 1 (.slice A n c) n (Lib.byteCells acc) ∧ acc.length ≤ k ∧ Ext w wr ∧ Rd s.data.toList acc (s.data.toList.drop k)
theorem runq_fail {s : ByteArray} {acc : List UInt8} {k : Nat} (HR : Rd s.data.toList acc (s.data.toList.drop k)) (h : k < s.size) (hd : decQ (s.data.toList.drop k) = none) : UnqOut s (.returned (.tuple #[.string ⟨#[]⟩, .bool false])) := unqFail HR (rq_ne h) hd
theorem runq_end {s : ByteArray} {acc : List UInt8} {k : Nat} (HR : Rd s.data.toList acc (s.data.toList.drop k)) (h : ¬ k < s.size) (hk : k ≤ s.size) (hl : acc.length ≤ k) : UnqOut s (.returned (.tuple #[.string ⟨acc.toArray⟩, .bool true])) := by
  have e : s.data.toList.drop k = [] := List.drop_eq_nil_of_le (by rw [size_data]; omega)
  rw [e] at HR
  refine ⟨_, _, rfl, fun x hx => ⟨rd_end HR x hx, rfl⟩, ?_⟩
  show acc.toArray.size ≤ _
  rw [List.size_toArray]
  omega
theorem runq_rel {s : ByteArray} {acc : List UInt8} {a : UInt8} {k j n c : Nat} {A : Option Addr} {w w2 : World} (HR : Rd s.data.toList acc (s.data.toList.drop k)) (h : k < s.size) (hl : acc.length ≤ k) (hj : k < j) (hj2 : j ≤ s.size)
    (hd : ∀ b u, decQ (s.data.toList.drop k) = some (b, u) → b = a ∧ u = s.data.toList.drop j) (ho : w2.ownsRow w.heap.size 5 1 (.slice A n c) n (Lib.byteCells acc ++ [.int .u8 (a.toNat : Int)])) (x : Ext w w2) : RUnqRel s w (.slice A n c) (.int .i64 j) w2 :=
  ⟨j, n, c, A, acc ++ [a], hj2, rfl, rfl, by rw [cells_append]; exact ho, by rw [List.length_append, List.length_singleton]; omega, x, rd_step HR (rq_ne h) hd⟩
set_option maxRecDepth 100000 in
set_option maxHeartbeats 8000000 in
theorem runq_any (s : ByteArray) (w : World) (hs : s.size ≤ 4000000) : Calls Tryz.prog 38 #[.string s] w fun e w' => UnqOut s e ∧ Ext w w' := by
  obtain ⟨i0, hi, hz0, hz1, hz2⟩ := info_parts info_byte
  have HI := Lib.hid hi
  clear hi
  go_enter Tryz.func38, Tryz.ntmps38
  go_wp2
  go_loopw [4, 5] (fun u v wr => RUnqRel s w u v wr) (fun _ v _ => s.size - (intOf v).toNat)
  case atStart => exact ⟨0, 0, 0, none, [], Nat.zero_le _, rfl, rfl, ⟨rfl, .inl ⟨rfl, rfl⟩⟩, Nat.le_refl _, Ext.refl w, rd_start _⟩
  case round =>
    obtain ⟨k, n, c, A, acc, hk, rfl, rfl, ho, hl, er, hR⟩ := hrel
    have hlen : n ≤ k := by
      have h1 := ho.1
      rw [Lib.byteCells_length] at h1
      omega
    have hv : ∀ g, (Value.slice A n c).ownBlock = some g → w.heap.size ≤ g := fun g hg => (ho.lt g hg).1
    have HR := Lib.hid hR
    have HV := Lib.hid hv
    have HO := Lib.hid ho
    have hsz := er.size
    clear ho hv hR
    by_cases hlt : k < s.size
    · have HEl := Lib.hid (drop_at hlt)
      by_cases h1 : k + 1 < s.size
      · by_cases hc : s[k].toNat = 39
        · have HEc := Lib.hid (of_nat 39 hc)
          by_cases hd : s[k + 1].toNat = 39
          · have HEd := Lib.hid (of_nat 39 hd)
            have t39_39 := two_yes 39 39 hlt h1 hc hd
            clear hd
            go_wp2_with (at_builtin; refine wpList_append_own _ rfl _ _ 33 rfl w.heap.size 5 i0 (.int .u8 0) 1 1 under_bytes HI.out hz0 hz1 hz2 rfl (by decide) (.slice A n c) n _ rfl (row_ext HO.out ((Ext.refl _).alloc _)) ⟨wr.heap.size, 0, none⟩ 1 1 [.int .u8 39] rfl rfl ?c1 ?c2 ?c3 ?c4 ?c5 ?_)
            case c1 => exact fun j u hu => cells_at wr _ _ j u hu
            case c2 => intro u hu; simp at hu; subst hu; rfl
            case c3 => unfold maxLen; omega
            case c4 => omega
            case c5 => simp; omega
            intro v' w2 hown2 hg2 hnil
            clear hnil
            obtain ⟨nA, nc, rfl⟩ := owns_form hown2
            have X2 : Ext w w2 := Below.grown (er.alloc _) hg2 (by simp; omega) HV.out
            have HO2 := Lib.hid hown2
            clear hown2 hg2
            go_wp2
            go_roundw
            case rel => exact (show ((k : Int) + 2) = ((k + 2 : Nat) : Int) by omega) ▸ runq_rel (a := (39 : UInt8)) (j := k + 2) HR.out hlt hl (by omega) (by omega) (fun b u h => some_pair (by rw [drop_at hlt, drop_at h1, HEc.out, HEd.out] at h; exact h)) HO2.out X2
            case measure => simp [intOf]; omega
          · have HNd := Lib.hid (no_nat 39 hd)
            have t39_39 := two_no 39 39 hlt h1 (by simp; omega)
            have t92_92 := two_no 92 92 hlt h1 (by simp; omega)
            have t92_110 := two_no 92 110 hlt h1 (by simp; omega)
            have t92_114 := two_no 92 114 hlt h1 (by simp; omega)
            have t92_116 := two_no 92 116 hlt h1 (by simp; omega)
            have t92_120 := two_no 92 120 hlt h1 (by simp; omega)
            have z39 : ((s[k].toNat : Int) == 39) = true := by simp; omega
            have z92 : ((s[k].toNat : Int) == 92) = false := by simp; omega
            clear hd
            go_wp2
            go_ret2
            exact ⟨runq_fail HR.out hlt (by rw [drop_at hlt, drop_at h1, HEc.out]; exact decQ_q HNd.out), er⟩
        have HN39 := Lib.hid (no_nat 39 hc)
        have hc39 := hc
        clear hc
        by_cases hc : s[k].toNat = 92
        · have HEc := Lib.hid (of_nat 92 hc)
          by_cases hd : s[k + 1].toNat = 92
          · have HEd := Lib.hid (of_nat 92 hd)
            have t39_39 := two_no 39 39 hlt h1 (by simp; omega)
            have t92_92 := two_yes 92 92 hlt h1 hc hd
            clear hd
            go_wp2_with (at_builtin; refine wpList_append_own _ rfl _ _ 33 rfl w.heap.size 5 i0 (.int .u8 0) 1 1 under_bytes HI.out hz0 hz1 hz2 rfl (by decide) (.slice A n c) n _ rfl (row_ext HO.out ((Ext.refl _).alloc _)) ⟨wr.heap.size, 0, none⟩ 1 1 [.int .u8 92] rfl rfl ?c1 ?c2 ?c3 ?c4 ?c5 ?_)
            case c1 => exact fun j u hu => cells_at wr _ _ j u hu
            case c2 => intro u hu; simp at hu; subst hu; rfl
            case c3 => unfold maxLen; omega
            case c4 => omega
            case c5 => simp; omega
            intro v' w2 hown2 hg2 hnil
            clear hnil
            obtain ⟨nA, nc, rfl⟩ := owns_form hown2
            have X2 : Ext w w2 := Below.grown (er.alloc _) hg2 (by simp; omega) HV.out
            have HO2 := Lib.hid hown2
            clear hown2 hg2
            go_wp2
            go_roundw
            case rel => exact (show ((k : Int) + 2) = ((k + 2 : Nat) : Int) by omega) ▸ runq_rel (a := (92 : UInt8)) (j := k + 2) HR.out hlt hl (by omega) (by omega) (fun b u h => some_pair (by rw [drop_at hlt, drop_at h1, HEc.out, HEd.out] at h; exact h)) HO2.out X2
            case measure => simp [intOf]; omega
          have HN92 := Lib.hid (no_nat 92 hd)
          have hd92 := hd
          clear hd
          by_cases hd : s[k + 1].toNat = 110
          · have HEd := Lib.hid (of_nat 110 hd)
            have t39_39 := two_no 39 39 hlt h1 (by simp; omega)
            have t92_92 := two_no 92 92 hlt h1 (by simp; omega)
            have t92_110 := two_yes 92 110 hlt h1 hc hd
            clear hd
            go_wp2_with (at_builtin; refine wpList_append_own _ rfl _ _ 33 rfl w.heap.size 5 i0 (.int .u8 0) 1 1 under_bytes HI.out hz0 hz1 hz2 rfl (by decide) (.slice A n c) n _ rfl (row_ext HO.out ((Ext.refl _).alloc _)) ⟨wr.heap.size, 0, none⟩ 1 1 [.int .u8 10] rfl rfl ?c1 ?c2 ?c3 ?c4 ?c5 ?_)
            case c1 => exact fun j u hu => cells_at wr _ _ j u hu
            case c2 => intro u hu; simp at hu; subst hu; rfl
            case c3 => unfold maxLen; omega
            case c4 => omega
            case c5 => simp; omega
            intro v' w2 hown2 hg2 hnil
            clear hnil
            obtain ⟨nA, nc, rfl⟩ := owns_form hown2
            have X2 : Ext w w2 := Below.grown (er.alloc _) hg2 (by simp; omega) HV.out
            have HO2 := Lib.hid hown2
            clear hown2 hg2
            go_wp2
            go_roundw
            case rel => exact (show ((k : Int) + 2) = ((k + 2 : Nat) : Int) by omega) ▸ runq_rel (a := (10 : UInt8)) (j := k + 2) HR.out hlt hl (by omega) (by omega) (fun b u h => some_pair (by rw [drop_at hlt, drop_at h1, HEc.out, HEd.out] at h; exact h)) HO2.out X2
            case measure => simp [intOf]; omega
          have HN110 := Lib.hid (no_nat 110 hd)
          have hd110 := hd
          clear hd
          by_cases hd : s[k + 1].toNat = 114
          · have HEd := Lib.hid (of_nat 114 hd)
            have t39_39 := two_no 39 39 hlt h1 (by simp; omega)
            have t92_92 := two_no 92 92 hlt h1 (by simp; omega)
            have t92_110 := two_no 92 110 hlt h1 (by simp; omega)
            have t92_114 := two_yes 92 114 hlt h1 hc hd
            clear hd
            go_wp2_with (at_builtin; refine wpList_append_own _ rfl _ _ 33 rfl w.heap.size 5 i0 (.int .u8 0) 1 1 under_bytes HI.out hz0 hz1 hz2 rfl (by decide) (.slice A n c) n _ rfl (row_ext HO.out ((Ext.refl _).alloc _)) ⟨wr.heap.size, 0, none⟩ 1 1 [.int .u8 13] rfl rfl ?c1 ?c2 ?c3 ?c4 ?c5 ?_)
            case c1 => exact fun j u hu => cells_at wr _ _ j u hu
            case c2 => intro u hu; simp at hu; subst hu; rfl
            case c3 => unfold maxLen; omega
            case c4 => omega
            case c5 => simp; omega
            intro v' w2 hown2 hg2 hnil
            clear hnil
            obtain ⟨nA, nc, rfl⟩ := owns_form hown2
            have X2 : Ext w w2 := Below.grown (er.alloc _) hg2 (by simp; omega) HV.out
            have HO2 := Lib.hid hown2
            clear hown2 hg2
            go_wp2
            go_roundw
            case rel => exact (show ((k : Int) + 2) = ((k + 2 : Nat) : Int) by omega) ▸ runq_rel (a := (13 : UInt8)) (j := k + 2) HR.out hlt hl (by omega) (by omega) (fun b u h => some_pair (by rw [drop_at hlt, drop_at h1, HEc.out, HEd.out] at h; exact h)) HO2.out X2
            case measure => simp [intOf]; omega
          have HN114 := Lib.hid (no_nat 114 hd)
          have hd114 := hd
          clear hd
          by_cases hd : s[k + 1].toNat = 116
          · have HEd := Lib.hid (of_nat 116 hd)
            have t39_39 := two_no 39 39 hlt h1 (by simp; omega)
            have t92_92 := two_no 92 92 hlt h1 (by simp; omega)
            have t92_110 := two_no 92 110 hlt h1 (by simp; omega)
            have t92_114 := two_no 92 114 hlt h1 (by simp; omega)
            have t92_116 := two_yes 92 116 hlt h1 hc hd
            clear hd
            go_wp2_with (at_builtin; refine wpList_append_own _ rfl _ _ 33 rfl w.heap.size 5 i0 (.int .u8 0) 1 1 under_bytes HI.out hz0 hz1 hz2 rfl (by decide) (.slice A n c) n _ rfl (row_ext HO.out ((Ext.refl _).alloc _)) ⟨wr.heap.size, 0, none⟩ 1 1 [.int .u8 9] rfl rfl ?c1 ?c2 ?c3 ?c4 ?c5 ?_)
            case c1 => exact fun j u hu => cells_at wr _ _ j u hu
            case c2 => intro u hu; simp at hu; subst hu; rfl
            case c3 => unfold maxLen; omega
            case c4 => omega
            case c5 => simp; omega
            intro v' w2 hown2 hg2 hnil
            clear hnil
            obtain ⟨nA, nc, rfl⟩ := owns_form hown2
            have X2 : Ext w w2 := Below.grown (er.alloc _) hg2 (by simp; omega) HV.out
            have HO2 := Lib.hid hown2
            clear hown2 hg2
            go_wp2
            go_roundw
            case rel => exact (show ((k : Int) + 2) = ((k + 2 : Nat) : Int) by omega) ▸ runq_rel (a := (9 : UInt8)) (j := k + 2) HR.out hlt hl (by omega) (by omega) (fun b u h => some_pair (by rw [drop_at hlt, drop_at h1, HEc.out, HEd.out] at h; exact h)) HO2.out X2
            case measure => simp [intOf]; omega
          have HN116 := Lib.hid (no_nat 116 hd)
          have hd116 := hd
          clear hd
          by_cases hd : s[k + 1].toNat = 120
          · have HEd := Lib.hid (of_nat 120 hd)
            have t39_39 := two_no 39 39 hlt h1 (by simp; omega)
            have t92_92 := two_no 92 92 hlt h1 (by simp; omega)
            have t92_110 := two_no 92 110 hlt h1 (by simp; omega)
            have t92_114 := two_no 92 114 hlt h1 (by simp; omega)
            have t92_116 := two_no 92 116 hlt h1 (by simp; omega)
            have t92_120 := two_yes 92 120 hlt h1 hc hd
            have z39 : ((s[k].toNat : Int) == 39) = false := by simp; omega
            have z92 : ((s[k].toNat : Int) == 92) = true := by simp; omega
            clear hd
            by_cases h3 : k + 3 < s.size
            · have h2 : k + 2 < s.size := by omega
              have HL3 : Hid (s.data.toList.drop k = 92 :: 120 :: s[k + 2] :: s[k + 3] :: s.data.toList.drop (k + 4)) := Lib.hid (by rw [drop_at hlt, drop_at h1, drop_at h2, drop_at h3, HEc.out, HEd.out])
              have m1 : True := trivial
              by_cases x1 : hexOk s[k + 2] = true
              · by_cases x2 : hexOk s[k + 3] = true
                · obtain ⟨m, hm⟩ : ∃ m, hexV s[k + 2] = m := ⟨_, rfl⟩
                  obtain ⟨p, hp⟩ : ∃ m, hexV s[k + 3] = m := ⟨_, rfl⟩
                  have l1 : m < 16 := hm ▸ hexV_lt x1
                  have l2 : p < 16 := hp ▸ hexV_lt x2
                  have H1 : Hid (hexI s[k + 2] = (m : Int)) := Lib.hid (by unfold hexI; rw [if_pos x1, hm])
                  have H2 : Hid (hexI s[k + 3] = (p : Int)) := Lib.hid (by unfold hexI; rw [if_pos x2, hp])
                  obtain ⟨x, hx⟩ : ∃ x, UInt8.ofNat (16 * m + p) = x := ⟨_, rfl⟩
                  have hxn : (x.toNat : Int) = 16 * (m : Int) + (p : Int) := by rw [← hx, UInt8.toNat_ofNat']; omega
                  have q1 : IntKind.i64.wrap (16 * (m : Int)) = 16 * (m : Int) := IntWalk.i64_in _ (by omega)
                  have q2 : IntKind.i64.wrap (16 * (m : Int) + (p : Int)) = 16 * (m : Int) + (p : Int) := IntWalk.i64_in _ (by omega)
                  have q3 : IntKind.u8.wrap (16 * (m : Int) + (p : Int)) = (x.toNat : Int) := by rw [hxn]; exact IntWalk.u8_in _ (by omega)
                  have HD : Hid (decQ (s.data.toList.drop k) = some (x, s.data.toList.drop (k + 4))) := Lib.hid (by
                    rw [HL3.out, ← hx, ← hm, ← hp]
                    show (if hexOk s[k + 2] && hexOk s[k + 3] then _ else none) = _
                    rw [if_pos (by rw [x1, x2]; rfl)])
                  clear hxn hx hm hp x1 x2
                  go_upto_region 23 with (first | (have z := m1; clear z m1; go_at_call 64; refine (rhex_any s[k + 2] _ _ H1).mono ?_; rintro e w3 ⟨rfl, rfl⟩; have m2 : True := trivial) | (have z := m2; clear z m2; go_at_call 64; refine (rhex_any s[k + 3] _ _ H2).mono ?_; rintro e w4 ⟨rfl, rfl⟩; have m3 : True := trivial))
                  refine wp_region_ord [0,0,0,4,14,30,62,0,0,256,896,1982,4094,8190,16382,32767,65535] (.pur [0,7,8,9,10] (.flo [1,2,3,4] (.one 5 (.pur [6] (.one 11 (.flo [12,13] (.one 14 (.one 15 (.flo [16] (.fin)))))))))) (by kernel_rfl) (by kernel_rfl) (by intro _ _ d _ _ h; cases d <;> exact h) ?_
                  (refine ord_pur (pick_cons rfl (pick_cons rfl (pick_cons rfl (pick_cons rfl (pick_cons rfl pick_nil))))) ?_; (repeat (go_big_quiet_step (fail))); refine wpQuiet_nil ?_; show ordWalk _ _ _ _ _ _ _)
                  (refine ord_flo (pick_cons rfl (pick_cons rfl (pick_cons rfl (pick_cons rfl pick_nil)))) ?_; (repeat (go_big_quiet_step (fail))); refine wpQuiet_nil ?_; show ordWalk _ _ _ _ _ _ _)
                  refine ord_one (pick_cons rfl pick_nil) ?_; intro K_ hK_
                  go_wp2_with (go_at_call 64; refine (rhex_any s[k + 2] _ _ H1).mono ?_; rintro e w5 ⟨rfl, rfl⟩)
                  (refine ord_pur (pick_cons rfl pick_nil) ?_; (repeat (go_big_quiet_step (fail))); refine wpQuiet_nil ?_; show ordWalk _ _ _ _ _ _ _)
                  refine ord_one (pick_cons rfl pick_nil) ?_; intro K_ hK_
                  go_wp2_with (go_at_call 64; refine (rhex_any s[k + 3] _ _ H2).mono ?_; rintro e w6 ⟨rfl, rfl⟩)
                  (refine ord_flo (pick_cons rfl (pick_cons rfl pick_nil)) ?_; (repeat (go_big_quiet_step (fail))); refine wpQuiet_nil ?_; show ordWalk _ _ _ _ _ _ _)
                  refine ord_one (pick_cons rfl pick_nil) ?_; intro K_ hK_
                  go_wp2
                  refine ord_one (pick_cons rfl pick_nil) ?_; intro K_ hK_
                  go_wp2_with (at_builtin; refine wpList_append_own _ rfl _ _ 33 rfl w.heap.size 5 i0 (.int .u8 0) 1 1 under_bytes HI.out hz0 hz1 hz2 rfl (by decide) (.slice A n c) n _ rfl (by first | exact row_ext HO.out ((Ext.refl _).drew.alloc _) | exact row_ext HO.out ((Ext.refl _).alloc _).drew) ⟨wr.heap.size, 0, none⟩ 1 1 [.int .u8 (x.toNat : Int)] rfl rfl ?c1 ?c2 ?c3 ?c4 ?c5 ?_)
                  case c1 => exact fun j u hu => cells_at wr _ _ j u hu
                  case c2 => intro u hu; simp at hu; subst hu; rfl
                  case c3 => unfold maxLen; omega
                  case c4 => omega
                  case c5 => simp; omega
                  intro v' w2 hown2 hg2 hnil
                  clear hnil
                  obtain ⟨nA, nc, rfl⟩ := owns_form hown2
                  have X2 : Ext w w2 := Below.grown ((er.alloc _).drew) hg2 (by simp; omega) HV.out
                  have HO2 := Lib.hid hown2
                  clear hown2 hg2
                  go_wp2
                  (refine ord_flo (pick_cons rfl pick_nil) ?_; (repeat (go_big_quiet_step (fail))); refine wpQuiet_nil ?_; show ordWalk _ _ _ _ _ _ _)
                  refine ord_fin ?_
                  go_wp2
                  go_roundw
                  case rel => exact (show ((k : Int) + 4) = ((k + 4 : Nat) : Int) by omega) ▸ runq_rel (a := x) (j := k + 4) HR.out hlt hl (by omega) (by omega) (fun b u h => some_pair (by rw [HD.out] at h; exact h)) HO2.out X2
                  case measure => simp [intOf]; omega
                · have x3 : hexOk s[k + 3] = false := by simpa using x2
                  obtain ⟨m, hm⟩ : ∃ m, hexV s[k + 2] = m := ⟨_, rfl⟩
                  have H1 : Hid (hexI s[k + 2] = (m : Int)) := Lib.hid (by unfold hexI; rw [if_pos x1, hm])
                  have H2 : Hid (hexI s[k + 3] = -1) := Lib.hid (by unfold hexI; rw [x3]; rfl)
                  have HD : Hid (decQ (s.data.toList.drop k) = none) := Lib.hid (by rw [HL3.out]; show (if hexOk s[k + 2] && hexOk s[k + 3] then _ else none) = _; rw [if_neg (by rw [x3]; simp)])
                  clear x1 x2 x3 hm
                  go_wp2_with (first | (have z := m1; clear z m1; go_at_call 64; refine (rhex_any s[k + 2] _ _ H1).mono ?_; rintro e w3 ⟨rfl, rfl⟩; have m2 : True := trivial) | (have z := m2; clear z m2; go_at_call 64; refine (rhex_any s[k + 3] _ _ H2).mono ?_; rintro e w4 ⟨rfl, rfl⟩; have m3 : True := trivial))
                  go_ret2
                  exact ⟨runq_fail HR.out hlt HD.out, er⟩
              · have x3 : hexOk s[k + 2] = false := by simpa using x1
                have H1 : Hid (hexI s[k + 2] = -1) := Lib.hid (by unfold hexI; rw [x3]; rfl)
                have HD : Hid (decQ (s.data.toList.drop k) = none) := Lib.hid (by rw [HL3.out]; show (if hexOk s[k + 2] && hexOk s[k + 3] then _ else none) = _; rw [if_neg (by rw [x3]; simp)])
                clear x1 x3
                go_wp2_with (first | (have z := m1; clear z m1; go_at_call 64; refine (rhex_any s[k + 2] _ _ H1).mono ?_; rintro e w3 ⟨rfl, rfl⟩; have m2 : True := trivial) | fail)
                go_ret2
                exact ⟨runq_fail HR.out hlt HD.out, er⟩
            · have HD : Hid (decQ (s.data.toList.drop k) = none) := Lib.hid (by
                rw [drop_at hlt, drop_at h1, HEc.out, HEd.out]
                by_cases h2 : k + 2 < s.size
                · rw [drop_at h2, List.drop_eq_nil_of_le (by rw [size_data]; omega)]; rfl
                · rw [List.drop_eq_nil_of_le (by rw [size_data]; omega)]; rfl)
              go_wp2
              go_ret2
              exact ⟨runq_fail HR.out hlt (HD.out), er⟩
          have HNx := Lib.hid (no_nat 120 hd)
          have t39_39 := two_no 39 39 hlt h1 (by simp; omega)
          have t92_92 := two_no 92 92 hlt h1 (by simp; omega)
          have t92_110 := two_no 92 110 hlt h1 (by simp; omega)
          have t92_114 := two_no 92 114 hlt h1 (by simp; omega)
          have t92_116 := two_no 92 116 hlt h1 (by simp; omega)
          have t92_120 := two_no 92 120 hlt h1 (by simp; omega)
          have z39 : ((s[k].toNat : Int) == 39) = false := by simp; omega
          have z92 : ((s[k].toNat : Int) == 92) = true := by simp; omega
          clear hd
          go_wp2
          go_ret2
          exact ⟨runq_fail HR.out hlt (by rw [drop_at hlt, drop_at h1, HEc.out]; exact decQ_no HN92.out HN110.out HN114.out HN116.out HNx.out), er⟩
        have HN92 := Lib.hid (no_nat 92 hc)
        have t39_39 := two_no 39 39 hlt h1 (by simp; omega)
        have t92_92 := two_no 92 92 hlt h1 (by simp; omega)
        have t92_110 := two_no 92 110 hlt h1 (by simp; omega)
        have t92_114 := two_no 92 114 hlt h1 (by simp; omega)
        have t92_116 := two_no 92 116 hlt h1 (by simp; omega)
        have t92_120 := two_no 92 120 hlt h1 (by simp; omega)
        have z39 : ((s[k].toNat : Int) == 39) = false := by simp; omega
        have z92 : ((s[k].toNat : Int) == 92) = false := by simp; omega
        go_wp2_with (at_builtin; refine wpList_append_own _ rfl _ _ 33 rfl w.heap.size 5 i0 (.int .u8 0) 1 1 under_bytes HI.out hz0 hz1 hz2 rfl (by decide) (.slice A n c) n _ rfl (row_ext HO.out ((Ext.refl _).alloc _)) ⟨wr.heap.size, 0, none⟩ 1 1 [.int .u8 (s[k].toNat : Int)] rfl rfl ?c1 ?c2 ?c3 ?c4 ?c5 ?_)
        case c1 => exact fun j u hu => cells_at wr _ _ j u hu
        case c2 => intro u hu; simp at hu; subst hu; rfl
        case c3 => unfold maxLen; omega
        case c4 => omega
        case c5 => simp; omega
        intro v' w2 hown2 hg2 hnil
        clear hnil
        obtain ⟨nA, nc, rfl⟩ := owns_form hown2
        have X2 : Ext w w2 := Below.grown (er.alloc _) hg2 (by simp; omega) HV.out
        have HO2 := Lib.hid hown2
        clear hown2 hg2
        go_wp2
        go_roundw
        case rel => exact (show ((k : Int) + 1) = ((k + 1 : Nat) : Int) by omega) ▸ runq_rel (a := s[k]) (j := k + 1) HR.out hlt hl (by omega) (by omega) (fun b u h => some_pair (by rw [drop_at hlt, decQ_plain HN39.out HN92.out] at h; exact h)) HO2.out X2
        case measure => simp [intOf]; omega
      · have HNil : Hid (s.data.toList.drop (k + 1) = []) := Lib.hid (List.drop_eq_nil_of_le (by rw [size_data]; omega))
        by_cases hc : s[k].toNat = 39
        · have HEc := Lib.hid (of_nat 39 hc)
          have z39 : ((s[k].toNat : Int) == 39) = true := by simp; omega
          have z92 : ((s[k].toNat : Int) == 92) = false := by simp; omega
          go_wp2
          go_ret2
          exact ⟨runq_fail HR.out hlt (by rw [drop_at hlt, HNil.out, HEc.out]; rfl), er⟩
        have HN39 := Lib.hid (no_nat 39 hc)
        by_cases hc2 : s[k].toNat = 92
        · have HEc := Lib.hid (of_nat 92 hc2)
          have z39 : ((s[k].toNat : Int) == 39) = false := by simp; omega
          have z92 : ((s[k].toNat : Int) == 92) = true := by simp; omega
          go_wp2
          go_ret2
          exact ⟨runq_fail HR.out hlt (by rw [drop_at hlt, HNil.out, HEc.out]; rfl), er⟩
        have HN92 := Lib.hid (no_nat 92 hc2)
        have z39 : ((s[k].toNat : Int) == 39) = false := by simp; omega
        have z92 : ((s[k].toNat : Int) == 92) = false := by simp; omega
        go_wp2_with (at_builtin; refine wpList_append_own _ rfl _ _ 33 rfl w.heap.size 5 i0 (.int .u8 0) 1 1 under_bytes HI.out hz0 hz1 hz2 rfl (by decide) (.slice A n c) n _ rfl (row_ext HO.out ((Ext.refl _).alloc _)) ⟨wr.heap.size, 0, none⟩ 1 1 [.int .u8 (s[k].toNat : Int)] rfl rfl ?c1 ?c2 ?c3 ?c4 ?c5 ?_)
        case c1 => exact fun j u hu => cells_at wr _ _ j u hu
        case c2 => intro u hu; simp at hu; subst hu; rfl
        case c3 => unfold maxLen; omega
        case c4 => omega
        case c5 => simp; omega
        intro v' w2 hown2 hg2 hnil
        clear hnil
        obtain ⟨nA, nc, rfl⟩ := owns_form hown2
        have X2 : Ext w w2 := Below.grown (er.alloc _) hg2 (by simp; omega) HV.out
        have HO2 := Lib.hid hown2
        clear hown2 hg2
        go_wp2
        go_roundw
        case rel => exact (show ((k : Int) + 1) = ((k + 1 : Nat) : Int) by omega) ▸ runq_rel (a := s[k]) (j := k + 1) HR.out hlt hl (by omega) (by omega) (fun b u h => some_pair (by rw [drop_at hlt, decQ_plain HN39.out HN92.out] at h; exact h)) HO2.out X2
        case measure => simp [intOf]; omega
    · go_wp2
      rw [conv_row _ HO.out]
      simp only [Result.andThen]
      rw [Oper.upon_value]
      go_simp
      go_wp2
      go_ret2
      exact ⟨runq_end HR.out hlt hk hl, er⟩
end Go.Proofs.YtngeioghihbkeaaGreatDoor
namespace Go.Proofs.YtngeioghihbkeaaGreatDoor
open Go.RowKit

theorem rcheckK {k n : Int} {b : Bool} {s : ByteArray} {c : Int} (w : World) (h : Hid (checkT k b n s = c)) (hs : s.size ≤ 4000000) :
    Calls Tryz.prog 40 #[.agg #[.int .u8 k, .bool b, .int .i64 n, .string s]] w fun e w' => e = .returned (.int .i64 c) ∧ Ext w w' := rcheck_at _ _ _ _ _ h (by omega)
theorem rprintK {k n : Int} {b : Bool} {s p : ByteArray} (w : World) (h : Hid (printT k b n s = p)) (hs : s.size ≤ 4000000) (hn : In64 n) :
    Calls Tryz.prog 41 #[.agg #[.int .u8 k, .bool b, .int .i64 n, .string s]] w fun e w' => e = .returned (.string p) ∧ Ext w w' := rprint_lit _ _ _ _ _ h (by omega) hn
set_option maxRecDepth 100000 in
set_option maxHeartbeats 2000000 in
theorem rparse_null (w : World) : Calls Tryz.prog 18 #[.string ⟨#[110, 117, 108, 108]⟩] w (RefOut w (⟨1, false, 0, ⟨#[]⟩⟩, 0)) := by
  go_enter Tryz.func18, Tryz.ntmps18
  go_wp2_with (go_at_call 36; refine (refNull_any _).mono ?_; rintro r w1 ⟨rfl, x1⟩; have X1 : Ext (w.alloc (.cells #[.int .u8 0, .bool false, .int .i64 0, .string ⟨#[]⟩] 47)) w1 := ((Ext.refl _).alloc _).trans x1; have bz : Bk w1 w.heap.size 47 #[.int .u8 0, .bool false, .int .i64 0, .string ⟨#[]⟩] := (Bk.new w _ _).ext X1; have bzf0 : w1.frozen? ⟨w.heap.size, 0, none⟩ = false := bz.free 0; have bzf1 : w1.frozen? ⟨w.heap.size, 1, none⟩ = false := bz.free 1; have bzf2 : w1.frozen? ⟨w.heap.size, 2, none⟩ = false := bz.free 2; have bzf3 : w1.frozen? ⟨w.heap.size, 3, none⟩ = false := bz.free 3; have bz0 : w1.cell? ⟨w.heap.size, 0, none⟩ = some (.int .u8 (0)) := bz.cell 0; have bz1 : w1.cell? ⟨w.heap.size, 1, none⟩ = some (.bool (false)) := bz.cell 1; have bz2 : w1.cell? ⟨w.heap.size, 2, none⟩ = some (.int .i64 (0)) := bz.cell 2; have bz3 : w1.cell? ⟨w.heap.size, 3, none⟩ = some (.string (⟨#[]⟩)) := bz.cell 3)
  have q := bz.set4 (.int .u8 (1)) (.bool (false)) (.int .i64 (0)) (.string (⟨#[]⟩)); refine bodyPost_ret (v := .tuple #[.agg #[.int .u8 (1), .bool (false), .int .i64 (0), .string (⟨#[]⟩)], .int .i64 (0)]) (by simp [results, Tryz.results18, go_sem, q.1, q.2.1, q.2.2.1, q.2.2.2]) rfl ⟨rfl, Ext.set4 (((Ext.refl w).alloc _).trans X1) (by first | omega | simp) _ _ _ _⟩
set_option maxRecDepth 100000 in
set_option maxHeartbeats 2000000 in
theorem rparse_true (w : World) : Calls Tryz.prog 18 #[.string ⟨#[116, 114, 117, 101]⟩] w (RefOut w (⟨2, true, 0, ⟨#[]⟩⟩, 0)) := by
  go_enter Tryz.func18, Tryz.ntmps18
  go_wp2_with (go_at_call 37; refine (refBool_any _ _).mono ?_; rintro r w1 ⟨rfl, x1⟩; have X1 : Ext (w.alloc (.cells #[.int .u8 0, .bool false, .int .i64 0, .string ⟨#[]⟩] 47)) w1 := ((Ext.refl _).alloc _).trans x1; have bz : Bk w1 w.heap.size 47 #[.int .u8 0, .bool false, .int .i64 0, .string ⟨#[]⟩] := (Bk.new w _ _).ext X1; have bzf0 : w1.frozen? ⟨w.heap.size, 0, none⟩ = false := bz.free 0; have bzf1 : w1.frozen? ⟨w.heap.size, 1, none⟩ = false := bz.free 1; have bzf2 : w1.frozen? ⟨w.heap.size, 2, none⟩ = false := bz.free 2; have bzf3 : w1.frozen? ⟨w.heap.size, 3, none⟩ = false := bz.free 3; have bz0 : w1.cell? ⟨w.heap.size, 0, none⟩ = some (.int .u8 (0)) := bz.cell 0; have bz1 : w1.cell? ⟨w.heap.size, 1, none⟩ = some (.bool (false)) := bz.cell 1; have bz2 : w1.cell? ⟨w.heap.size, 2, none⟩ = some (.int .i64 (0)) := bz.cell 2; have bz3 : w1.cell? ⟨w.heap.size, 3, none⟩ = some (.string (⟨#[]⟩)) := bz.cell 3)
  have q := bz.set4 (.int .u8 (2)) (.bool (true)) (.int .i64 (0)) (.string (⟨#[]⟩)); refine bodyPost_ret (v := .tuple #[.agg #[.int .u8 (2), .bool (true), .int .i64 (0), .string (⟨#[]⟩)], .int .i64 (0)]) (by simp [results, Tryz.results18, go_sem, q.1, q.2.1, q.2.2.1, q.2.2.2]) rfl ⟨rfl, Ext.set4 (((Ext.refl w).alloc _).trans X1) (by first | omega | simp) _ _ _ _⟩
set_option maxRecDepth 100000 in
set_option maxHeartbeats 2000000 in
theorem rparse_false (w : World) : Calls Tryz.prog 18 #[.string ⟨#[102, 97, 108, 115, 101]⟩] w (RefOut w (⟨2, false, 0, ⟨#[]⟩⟩, 0)) := by
  go_enter Tryz.func18, Tryz.ntmps18
  go_wp2_with (go_at_call 37; refine (refBool_any _ _).mono ?_; rintro r w1 ⟨rfl, x1⟩; have X1 : Ext (w.alloc (.cells #[.int .u8 0, .bool false, .int .i64 0, .string ⟨#[]⟩] 47)) w1 := ((Ext.refl _).alloc _).trans x1; have bz : Bk w1 w.heap.size 47 #[.int .u8 0, .bool false, .int .i64 0, .string ⟨#[]⟩] := (Bk.new w _ _).ext X1; have bzf0 : w1.frozen? ⟨w.heap.size, 0, none⟩ = false := bz.free 0; have bzf1 : w1.frozen? ⟨w.heap.size, 1, none⟩ = false := bz.free 1; have bzf2 : w1.frozen? ⟨w.heap.size, 2, none⟩ = false := bz.free 2; have bzf3 : w1.frozen? ⟨w.heap.size, 3, none⟩ = false := bz.free 3; have bz0 : w1.cell? ⟨w.heap.size, 0, none⟩ = some (.int .u8 (0)) := bz.cell 0; have bz1 : w1.cell? ⟨w.heap.size, 1, none⟩ = some (.bool (false)) := bz.cell 1; have bz2 : w1.cell? ⟨w.heap.size, 2, none⟩ = some (.int .i64 (0)) := bz.cell 2; have bz3 : w1.cell? ⟨w.heap.size, 3, none⟩ = some (.string (⟨#[]⟩)) := bz.cell 3)
  have q := bz.set4 (.int .u8 (2)) (.bool (false)) (.int .i64 (0)) (.string (⟨#[]⟩)); refine bodyPost_ret (v := .tuple #[.agg #[.int .u8 (2), .bool (false), .int .i64 (0), .string (⟨#[]⟩)], .int .i64 (0)]) (by simp [results, Tryz.results18, go_sem, q.1, q.2.1, q.2.2.1, q.2.2.2]) rfl ⟨rfl, Ext.set4 (((Ext.refl w).alloc _).trans X1) (by first | omega | simp) _ _ _ _⟩
end Go.Proofs.YtngeioghihbkeaaGreatDoor
namespace Go.Proofs.YtngeioghihbkeaaGreatDoor
open Go.RowKit

theorem wrap_in64 (n : Int) : In64 (IntKind.i64.wrap n) := by
  rw [IntKind.wrap_i64]
  unfold In64
  omega
set_option maxRecDepth 100000 in
set_option maxHeartbeats 2000000 in
theorem rparse_none_a (s : ByteArray) (w : World) (hs : s.size ≤ 4000000) (h1 : (s.toList == [110, 117, 108, 108]) = false) (h2 : (s.toList == [116, 114, 117, 101]) = false) (h3 : (s.toList == [102, 97, 108, 115, 101]) = false) (hc : ∀ x : Dat, Ok x → printT x.k x.b x.n x.s = s → ∃ v, In64 v ∧ s.data.toList = Lib.itoa v ∧ x = ⟨3, false, v, ⟨#[]⟩⟩) (h4 : 2 ≤ s.size) (h5 : ¬ s[0].toNat = 39) (hz : 20 < s.size) : Calls Tryz.prog 18 #[.string s] w fun e w' => ∃ d x, ParseRel s d x ∧ RefOut w (d, x) e w' := by
  have hN : Hid (NoCand s) := Lib.hid fun x hx hp => (by
    obtain ⟨v, q1, q2, _⟩ := hc x hx hp
    have := itoa_len q1
    rw [← q2, size_data] at this
    omega)
  have HC2 : Hid (checkT 0 false 0 ⟨#[]⟩ = 13) := Lib.hid (by decide +kernel)
  clear hc
  have z5 : ((s[0].toNat : Int) == 39) = false := by simp; omega
  go_enter Tryz.func18, Tryz.ntmps18
  go_wp2_with (go_at_call 40; refine (rcheckK _ HC2 (by decide)).mono ?_; rintro r w1 ⟨rfl, x1⟩; have X1 : Ext (w.alloc (.cells #[.int .u8 0, .bool false, .int .i64 0, .string ⟨#[]⟩] 47)) w1 := ((Ext.refl _).alloc _).trans x1; have bz : Bk w1 w.heap.size 47 #[.int .u8 0, .bool false, .int .i64 0, .string ⟨#[]⟩] := (Bk.new w _ _).ext X1; have bzf0 : w1.frozen? ⟨w.heap.size, 0, none⟩ = false := bz.free 0; have bzf1 : w1.frozen? ⟨w.heap.size, 1, none⟩ = false := bz.free 1; have bzf2 : w1.frozen? ⟨w.heap.size, 2, none⟩ = false := bz.free 2; have bzf3 : w1.frozen? ⟨w.heap.size, 3, none⟩ = false := bz.free 3; have bz0 : w1.cell? ⟨w.heap.size, 0, none⟩ = some (.int .u8 (0)) := bz.cell 0; have bz1 : w1.cell? ⟨w.heap.size, 1, none⟩ = some (.bool (false)) := bz.cell 1; have bz2 : w1.cell? ⟨w.heap.size, 2, none⟩ = some (.int .i64 (0)) := bz.cell 2; have bz3 : w1.cell? ⟨w.heap.size, 3, none⟩ = some (.string (⟨#[]⟩)) := bz.cell 3)
  have q := bz.set4 (.int .u8 (0)) (.bool (false)) (.int .i64 (0)) (.string (⟨#[]⟩)); refine bodyPost_ret (v := .tuple #[.agg #[.int .u8 (0), .bool (false), .int .i64 (0), .string (⟨#[]⟩)], .int .i64 (13)]) (by simp [results, Tryz.results18, go_sem, q.1, q.2.1, q.2.2.1, q.2.2.2]) rfl ⟨⟨0, false, 0, ⟨#[]⟩⟩, 13, .inr ⟨rfl, rfl, hN.out⟩, rfl, Ext.set4 (((Ext.refl w).alloc _).trans X1) (by first | omega | simp) _ _ _ _⟩
set_option maxRecDepth 100000 in
set_option maxHeartbeats 2000000 in
theorem rparse_none_c (s : ByteArray) (w : World) (hs : s.size ≤ 4000000) (h1 : (s.toList == [110, 117, 108, 108]) = false) (h2 : (s.toList == [116, 114, 117, 101]) = false) (h3 : (s.toList == [102, 97, 108, 115, 101]) = false) (hc : ∀ x : Dat, Ok x → printT x.k x.b x.n x.s = s → ∃ v, In64 v ∧ s.data.toList = Lib.itoa v ∧ x = ⟨3, false, v, ⟨#[]⟩⟩) (h4 : s.size < 2) (hz : s.size = 0) : Calls Tryz.prog 18 #[.string s] w fun e w' => ∃ d x, ParseRel s d x ∧ RefOut w (d, x) e w' := by
  have hN : Hid (NoCand s) := Lib.hid fun x hx hp => (by
    obtain ⟨v, q1, q2, _⟩ := hc x hx hp
    have := itoa_len q1
    rw [← q2, size_data] at this
    omega)
  have HC2 : Hid (checkT 0 false 0 ⟨#[]⟩ = 13) := Lib.hid (by decide +kernel)
  clear hc
  go_enter Tryz.func18, Tryz.ntmps18
  go_wp2_with (go_at_call 40; refine (rcheckK _ HC2 (by decide)).mono ?_; rintro r w1 ⟨rfl, x1⟩; have X1 : Ext (w.alloc (.cells #[.int .u8 0, .bool false, .int .i64 0, .string ⟨#[]⟩] 47)) w1 := ((Ext.refl _).alloc _).trans x1; have bz : Bk w1 w.heap.size 47 #[.int .u8 0, .bool false, .int .i64 0, .string ⟨#[]⟩] := (Bk.new w _ _).ext X1; have bzf0 : w1.frozen? ⟨w.heap.size, 0, none⟩ = false := bz.free 0; have bzf1 : w1.frozen? ⟨w.heap.size, 1, none⟩ = false := bz.free 1; have bzf2 : w1.frozen? ⟨w.heap.size, 2, none⟩ = false := bz.free 2; have bzf3 : w1.frozen? ⟨w.heap.size, 3, none⟩ = false := bz.free 3; have bz0 : w1.cell? ⟨w.heap.size, 0, none⟩ = some (.int .u8 (0)) := bz.cell 0; have bz1 : w1.cell? ⟨w.heap.size, 1, none⟩ = some (.bool (false)) := bz.cell 1; have bz2 : w1.cell? ⟨w.heap.size, 2, none⟩ = some (.int .i64 (0)) := bz.cell 2; have bz3 : w1.cell? ⟨w.heap.size, 3, none⟩ = some (.string (⟨#[]⟩)) := bz.cell 3)
  have q := bz.set4 (.int .u8 (0)) (.bool (false)) (.int .i64 (0)) (.string (⟨#[]⟩)); refine bodyPost_ret (v := .tuple #[.agg #[.int .u8 (0), .bool (false), .int .i64 (0), .string (⟨#[]⟩)], .int .i64 (13)]) (by simp [results, Tryz.results18, go_sem, q.1, q.2.1, q.2.2.1, q.2.2.2]) rfl ⟨⟨0, false, 0, ⟨#[]⟩⟩, 13, .inr ⟨rfl, rfl, hN.out⟩, rfl, Ext.set4 (((Ext.refl w).alloc _).trans X1) (by first | omega | simp) _ _ _ _⟩
set_option maxRecDepth 100000 in
set_option maxHeartbeats 2000000 in
theorem rparse_none_b (s : ByteArray) (w : World) (hs : s.size ≤ 4000000) (h1 : (s.toList == [110, 117, 108, 108]) = false) (h2 : (s.toList == [116, 114, 117, 101]) = false) (h3 : (s.toList == [102, 97, 108, 115, 101]) = false) (hc : ∀ x : Dat, Ok x → printT x.k x.b x.n x.s = s → ∃ v, In64 v ∧ s.data.toList = Lib.itoa v ∧ x = ⟨3, false, v, ⟨#[]⟩⟩) (h4 : 2 ≤ s.size) (h5 : s[0].toNat = 39) (h6 : ¬ s[s.size - 1].toNat = 39) (hz : 20 < s.size) : Calls Tryz.prog 18 #[.string s] w fun e w' => ∃ d x, ParseRel s d x ∧ RefOut w (d, x) e w' := by
  have hN : Hid (NoCand s) := Lib.hid fun x hx hp => (by
    obtain ⟨v, q1, q2, _⟩ := hc x hx hp
    have := itoa_len q1
    rw [← q2, size_data] at this
    omega)
  have HC2 : Hid (checkT 0 false 0 ⟨#[]⟩ = 13) := Lib.hid (by decide +kernel)
  clear hc
  have z5 : ((s[0].toNat : Int) == 39) = true := by simp; omega
  have z6 : ((s[s.size - 1].toNat : Int) == 39) = false := by simp; omega
  go_enter Tryz.func18, Tryz.ntmps18
  go_wp2_with (go_at_call 40; refine (rcheckK _ HC2 (by decide)).mono ?_; rintro r w1 ⟨rfl, x1⟩; have X1 : Ext (w.alloc (.cells #[.int .u8 0, .bool false, .int .i64 0, .string ⟨#[]⟩] 47)) w1 := ((Ext.refl _).alloc _).trans x1; have bz : Bk w1 w.heap.size 47 #[.int .u8 0, .bool false, .int .i64 0, .string ⟨#[]⟩] := (Bk.new w _ _).ext X1; have bzf0 : w1.frozen? ⟨w.heap.size, 0, none⟩ = false := bz.free 0; have bzf1 : w1.frozen? ⟨w.heap.size, 1, none⟩ = false := bz.free 1; have bzf2 : w1.frozen? ⟨w.heap.size, 2, none⟩ = false := bz.free 2; have bzf3 : w1.frozen? ⟨w.heap.size, 3, none⟩ = false := bz.free 3; have bz0 : w1.cell? ⟨w.heap.size, 0, none⟩ = some (.int .u8 (0)) := bz.cell 0; have bz1 : w1.cell? ⟨w.heap.size, 1, none⟩ = some (.bool (false)) := bz.cell 1; have bz2 : w1.cell? ⟨w.heap.size, 2, none⟩ = some (.int .i64 (0)) := bz.cell 2; have bz3 : w1.cell? ⟨w.heap.size, 3, none⟩ = some (.string (⟨#[]⟩)) := bz.cell 3)
  have q := bz.set4 (.int .u8 (0)) (.bool (false)) (.int .i64 (0)) (.string (⟨#[]⟩)); refine bodyPost_ret (v := .tuple #[.agg #[.int .u8 (0), .bool (false), .int .i64 (0), .string (⟨#[]⟩)], .int .i64 (13)]) (by simp [results, Tryz.results18, go_sem, q.1, q.2.1, q.2.2.1, q.2.2.2]) rfl ⟨⟨0, false, 0, ⟨#[]⟩⟩, 13, .inr ⟨rfl, rfl, hN.out⟩, rfl, Ext.set4 (((Ext.refl w).alloc _).trans X1) (by first | omega | simp) _ _ _ _⟩
set_option maxRecDepth 100000 in
set_option maxHeartbeats 8000000 in
theorem rparse_num_a0 (s : ByteArray) (w : World) (h1 : (s.toList == [110, 117, 108, 108]) = false) (h2 : (s.toList == [116, 114, 117, 101]) = false) (h3 : (s.toList == [102, 97, 108, 115, 101]) = false) (hc : ∀ x : Dat, Ok x → printT x.k x.b x.n x.s = s → ∃ v, In64 v ∧ s.data.toList = Lib.itoa v ∧ x = ⟨3, false, v, ⟨#[]⟩⟩) (h4 : 2 ≤ s.size) (h5 : ¬ s[0].toNat = 39) (h0 : 0 < s.size) (h20 : s.size ≤ 20) (hsg : ¬ s[0].toNat = 45) : Calls Tryz.prog 18 #[.string s] w fun e w' => ∃ d x, ParseRel s d x ∧ RefOut w (d, x) e w' := by
  have HC := Lib.hid hc
  clear hc
  have z5 : ((s[0].toNat : Int) == 39) = false := by simp; omega
  have z45 : ((s[0].toNat : Int) == 45) = false := by simp; omega
  go_enter Tryz.func18, Tryz.ntmps18
  go_upto_region 12 with fail
  have bd : Bk ((w.alloc (.cells #[.int .u8 0, .bool false, .int .i64 0, .string ⟨#[]⟩] 47)).alloc (.cells #[.int .u8 0, .bool false, .int .i64 0, .string ⟨#[]⟩] 47)) (w.heap.size + 1) 47 #[.int .u8 0, .bool false, .int .i64 0, .string ⟨#[]⟩] := Bk.at (by simp)
  have E0 : Ext (w.alloc (.cells #[.int .u8 0, .bool false, .int .i64 0, .string ⟨#[]⟩] 47)) ((w.alloc (.cells #[.int .u8 0, .bool false, .int .i64 0, .string ⟨#[]⟩] 47)).alloc (.cells #[.int .u8 0, .bool false, .int .i64 0, .string ⟨#[]⟩] 47)) := (Ext.refl _).alloc _
  obtain ⟨w0, hw0⟩ : ∃ x, x = ((w.alloc (.cells #[.int .u8 0, .bool false, .int .i64 0, .string ⟨#[]⟩] 47)).alloc (.cells #[.int .u8 0, .bool false, .int .i64 0, .string ⟨#[]⟩] 47)) := ⟨_, rfl⟩
  rw [← hw0] at bd E0 ⊢
  clear hw0
  have bz : Bk w0 w.heap.size 47 #[.int .u8 0, .bool false, .int .i64 0, .string ⟨#[]⟩] := (Bk.new w _ _).ext E0
  have E1 : Ext w w0 := ((Ext.refl w).alloc _).trans E0
  have s0 := E0.size
  have bzf0 : w0.frozen? ⟨w.heap.size, 0, none⟩ = false := bz.free 0; have bzf1 : w0.frozen? ⟨w.heap.size, 1, none⟩ = false := bz.free 1; have bzf2 : w0.frozen? ⟨w.heap.size, 2, none⟩ = false := bz.free 2; have bzf3 : w0.frozen? ⟨w.heap.size, 3, none⟩ = false := bz.free 3
  have bz0 : w0.cell? ⟨w.heap.size, 0, none⟩ = some (.int .u8 (0)) := bz.cell 0; have bz1 : w0.cell? ⟨w.heap.size, 1, none⟩ = some (.bool (false)) := bz.cell 1; have bz2 : w0.cell? ⟨w.heap.size, 2, none⟩ = some (.int .i64 (0)) := bz.cell 2; have bz3 : w0.cell? ⟨w.heap.size, 3, none⟩ = some (.string (⟨#[]⟩)) := bz.cell 3
  have bdf0 : w0.frozen? ⟨w.heap.size + 1, 0, none⟩ = false := bd.free 0; have bdf1 : w0.frozen? ⟨w.heap.size + 1, 1, none⟩ = false := bd.free 1; have bdf2 : w0.frozen? ⟨w.heap.size + 1, 2, none⟩ = false := bd.free 2; have bdf3 : w0.frozen? ⟨w.heap.size + 1, 3, none⟩ = false := bd.free 3
  have bd0 : w0.cell? ⟨w.heap.size + 1, 0, none⟩ = some (.int .u8 (0)) := bd.cell 0; have bd1 : w0.cell? ⟨w.heap.size + 1, 1, none⟩ = some (.bool (false)) := bd.cell 1; have bd2 : w0.cell? ⟨w.heap.size + 1, 2, none⟩ = some (.int .i64 (0)) := bd.cell 2; have bd3 : w0.cell? ⟨w.heap.size + 1, 3, none⟩ = some (.string (⟨#[]⟩)) := bd.cell 3
  go_wp2
  go_loop [7, 8] (fun u v => ∃ k m : Nat, k ≤ s.size ∧ m < 18446744073709551616 ∧ u = .int .u64 m ∧ v = .int .i64 k ∧ Hid (dig s 0 k = m)) (fun _ v => s.size - (intOf v).toNat)
  case atStart => exact ⟨0, 0, Nat.zero_le _, by decide, rfl, rfl, Lib.hid (dig_zero s 0)⟩
  case round =>
    obtain ⟨k, m, hk, hm, rfl, rfl, HM⟩ := hrel
    by_cases hlt : k < s.size
    · have hzk : ((k : Int) == 0) = false ∨ (((k : Int) == 0) = true ∧ k = 0) := by
        by_cases q : k = 0
        · exact .inr ⟨by simp; omega, q⟩
        · exact .inl (by simp; omega)
      have hnk : ¬ (k = 0 ∧ s[k].toNat = 45) := fun q => hsg (by obtain ⟨rfl, q⟩ := q; exact q)
      have hjk : 0 ≤ k := Nat.zero_le _
      have hc256 : s[k].toNat < 256 := s[k].toNat_lt
      have HS : Hid (dig s 0 (k + 1) = (10 * m % 18446744073709551616 + (s[k].toNat - 48)) % 18446744073709551616) := Lib.hid (dig_step hjk hlt HM.out)
      have HN := Lib.hid (not_itoa hlt hnk)
      clear hnk HM
      by_cases hd1 : s[k].toNat < 48
      · have hN : Hid (NoCand s) := Lib.hid fun x hx hp => (by obtain ⟨v, _, q2, _⟩ := HC.out x hx hp; exact HN.out (by omega) v q2)
        have y1 : decide ((s[k].toNat : Int) < 48) = true := by simp; omega
        rcases hzk with zk | ⟨zk, rfl⟩
        all_goals
          go_wp2
          have q := bz.set4 (.int .u8 (0)) (.bool (false)) (.int .i64 (0)) (.string (⟨#[]⟩)); refine bodyPost_ret (v := .tuple #[.agg #[.int .u8 (0), .bool (false), .int .i64 (0), .string (⟨#[]⟩)], .int .i64 (13)]) (by simp [results, Tryz.results18, go_sem, q.1, q.2.1, q.2.2.1, q.2.2.2]) rfl ⟨⟨0, false, 0, ⟨#[]⟩⟩, 13, .inr ⟨rfl, rfl, hN.out⟩, rfl, Ext.set4 E1 (by first | omega | simp) _ _ _ _⟩
      have y1 : decide ((s[k].toNat : Int) < 48) = false := by simp; omega
      by_cases hd2 : 57 < s[k].toNat
      · have hN : Hid (NoCand s) := Lib.hid fun x hx hp => (by obtain ⟨v, _, q2, _⟩ := HC.out x hx hp; exact HN.out (by omega) v q2)
        have y2 : decide ((57 : Int) < (s[k].toNat : Int)) = true := by simp; omega
        rcases hzk with zk | ⟨zk, rfl⟩
        all_goals
          go_wp2
          have q := bz.set4 (.int .u8 (0)) (.bool (false)) (.int .i64 (0)) (.string (⟨#[]⟩)); refine bodyPost_ret (v := .tuple #[.agg #[.int .u8 (0), .bool (false), .int .i64 (0), .string (⟨#[]⟩)], .int .i64 (13)]) (by simp [results, Tryz.results18, go_sem, q.1, q.2.1, q.2.2.1, q.2.2.2]) rfl ⟨⟨0, false, 0, ⟨#[]⟩⟩, 13, .inr ⟨rfl, rfl, hN.out⟩, rfl, Ext.set4 E1 (by first | omega | simp) _ _ _ _⟩
      have y2 : decide ((57 : Int) < (s[k].toNat : Int)) = false := by simp; omega
      obtain ⟨m1, hm1⟩ : ∃ x, 10 * m % 18446744073709551616 = x := ⟨_, rfl⟩
      obtain ⟨m2, hm2⟩ : ∃ x, (m1 + (s[k].toNat - 48)) % 18446744073709551616 = x := ⟨_, rfl⟩
      have hb2 : m2 < 18446744073709551616 := by omega
      have q1 : IntKind.u64.wrap (10 * (m : Int)) = (m1 : Int) := by rw [IntKind.wrap_u64]; omega
      have q2 : IntKind.u8.wrap ((s[k].toNat : Int) - 48) = (s[k].toNat : Int) - 48 := IntWalk.u8_in _ (by omega)
      have q3 : IntKind.u64.wrap ((s[k].toNat : Int) - 48) = (s[k].toNat : Int) - 48 := IntWalk.u64_in _ (by omega)
      have q4 : IntKind.u64.wrap ((m1 : Int) + ((s[k].toNat : Int) - 48)) = (m2 : Int) := by rw [IntKind.wrap_u64]; omega
      have HM2 : Hid (dig s 0 (k + 1) = m2) := Lib.hid (by rw [HS.out, hm1, hm2])
      clear HS HN hm1 hm2 hm hd1 hd2 hc256
      rcases hzk with zk | ⟨zk, rfl⟩
      · go_wp2
        go_round
        case rel => exact ⟨k + 1, m2, by omega, hb2, rfl, by go_num, HM2⟩
        case measure => simp [intOf]; omega
      · go_wp2
        go_round
        case rel => exact ⟨1, m2, by omega, hb2, rfl, rfl, HM2⟩
        case measure => simp [intOf]; omega
    · obtain rfl : k = s.size := by omega
      obtain ⟨v, hv⟩ : ∃ v, IntKind.i64.wrap (m : Int) = v := ⟨_, rfl⟩
      have hn : In64 v := hv ▸ wrap_in64 _
      have hcand : Cand s ⟨3, false, v, ⟨#[]⟩⟩ := fun x hx hp => (by obtain ⟨y, q1, q2, e⟩ := HC.out x hx hp; rw [e, ← hv, ← HM.out, dig_pos q1 q2 h0 hsg])
      have hck : checkT 3 false v ⟨#[]⟩ = 0 := by rw [checkT_on ⟨.inr (.inr (.inl rfl)), fun _ => rfl, fun h => absurd rfl h, fun _ => rfl⟩]; decide +kernel
      have HN := Lib.hid hn; have HK := Lib.hid hcand; have HC2 := Lib.hid hck
      clear hn hcand hck HM hk hlt
      by_cases hp : printT 3 false v ⟨#[]⟩ = s
      · have HP := Lib.hid hp
        clear hp
        have m1 : True := trivial
        go_wp2_with (first
          | (have z := m1; clear z m1; go_at_call 19; refine (refInt_any _ _).mono ?_; rintro r w1 ⟨rfl, x1⟩; have Y1 : Ext (w.alloc (.cells #[.int .u8 0, .bool false, .int .i64 0, .string ⟨#[]⟩] 47)) w1 := E0.trans x1; have be : Bk w1 (w.heap.size + 1) 47 #[.int .u8 0, .bool false, .int .i64 0, .string ⟨#[]⟩] := bd.ext x1; have s1 := Y1.size; have bef0 : w1.frozen? ⟨w.heap.size + 1, 0, none⟩ = false := be.free 0; have bef1 : w1.frozen? ⟨w.heap.size + 1, 1, none⟩ = false := be.free 1; have bef2 : w1.frozen? ⟨w.heap.size + 1, 2, none⟩ = false := be.free 2; have bef3 : w1.frozen? ⟨w.heap.size + 1, 3, none⟩ = false := be.free 3; have be0 : w1.cell? ⟨w.heap.size + 1, 0, none⟩ = some (.int .u8 (0)) := be.cell 0; have be1 : w1.cell? ⟨w.heap.size + 1, 1, none⟩ = some (.bool (false)) := be.cell 1; have be2 : w1.cell? ⟨w.heap.size + 1, 2, none⟩ = some (.int .i64 (0)) := be.cell 2; have be3 : w1.cell? ⟨w.heap.size + 1, 3, none⟩ = some (.string (⟨#[]⟩)) := be.cell 3; have be4 := be.set4 (.int .u8 (3)) (.bool false) (.int .i64 v) (.string ⟨#[]⟩); have bed0 := be4.1; have bed1 := be4.2.1; have bed2 := be4.2.2.1; have bed3 := be4.2.2.2; have Y1s := Lib.hid (Y1.set4 (g := w.heap.size + 1) (by simp) (.int .u8 (3)) (.bool false) (.int .i64 v) (.string ⟨#[]⟩)); clear be4; have m2 : True := trivial)
          | (go_at_call 40; refine (rcheckK _ HC2 (by decide)).mono ?_; rintro r w3 ⟨rfl, x3⟩; have Y3 : Ext (w.alloc (.cells #[.int .u8 0, .bool false, .int .i64 0, .string ⟨#[]⟩] 47)) w3 := Y1s.out.trans x3; have bi : Bk w3 (w.heap.size + 1) 47 #[.int .u8 3, .bool false, .int .i64 v, .string ⟨#[]⟩] := ((((be.set 0 _).set 1 _).set 2 _).set 3 _).ext x3; have bi0 : w3.cell? ⟨w.heap.size + 1, 0, none⟩ = some (.int .u8 (3)) := bi.cell 0; have bi1 : w3.cell? ⟨w.heap.size + 1, 1, none⟩ = some (.bool (false)) := bi.cell 1; have bi2 : w3.cell? ⟨w.heap.size + 1, 2, none⟩ = some (.int .i64 (v)) := bi.cell 2; have bi3 : w3.cell? ⟨w.heap.size + 1, 3, none⟩ = some (.string (⟨#[]⟩)) := bi.cell 3)
          | (go_at_call 41; refine (rprintK _ HP (by decide) HN.out).mono ?_; rintro r w4 ⟨rfl, x4⟩; have Y4 : Ext (w.alloc (.cells #[.int .u8 0, .bool false, .int .i64 0, .string ⟨#[]⟩] 47)) w4 := Y3.trans x4; have bj : Bk w4 (w.heap.size + 1) 47 #[.int .u8 3, .bool false, .int .i64 v, .string ⟨#[]⟩] := bi.ext x4; have bh : Bk w4 w.heap.size 47 #[.int .u8 0, .bool false, .int .i64 0, .string ⟨#[]⟩] := (Bk.new w _ _).ext Y4; have bj0 : w4.cell? ⟨w.heap.size + 1, 0, none⟩ = some (.int .u8 (3)) := bj.cell 0; have bj1 : w4.cell? ⟨w.heap.size + 1, 1, none⟩ = some (.bool (false)) := bj.cell 1; have bj2 : w4.cell? ⟨w.heap.size + 1, 2, none⟩ = some (.int .i64 (v)) := bj.cell 2; have bj3 : w4.cell? ⟨w.heap.size + 1, 3, none⟩ = some (.string (⟨#[]⟩)) := bj.cell 3; have bhf0 : w4.frozen? ⟨w.heap.size, 0, none⟩ = false := bh.free 0; have bhf1 : w4.frozen? ⟨w.heap.size, 1, none⟩ = false := bh.free 1; have bhf2 : w4.frozen? ⟨w.heap.size, 2, none⟩ = false := bh.free 2; have bhf3 : w4.frozen? ⟨w.heap.size, 3, none⟩ = false := bh.free 3; have bh0 : w4.cell? ⟨w.heap.size, 0, none⟩ = some (.int .u8 (0)) := bh.cell 0; have bh1 : w4.cell? ⟨w.heap.size, 1, none⟩ = some (.bool (false)) := bh.cell 1; have bh2 : w4.cell? ⟨w.heap.size, 2, none⟩ = some (.int .i64 (0)) := bh.cell 2; have bh3 : w4.cell? ⟨w.heap.size, 3, none⟩ = some (.string (⟨#[]⟩)) := bh.cell 3))
        have q := bh.set4 (.int .u8 (3)) (.bool (false)) (.int .i64 (v)) (.string (⟨#[]⟩)); refine bodyPost_ret (v := .tuple #[.agg #[.int .u8 (3), .bool (false), .int .i64 (v), .string (⟨#[]⟩)], .int .i64 (0)]) (by simp [results, Tryz.results18, go_sem, q.1, q.2.1, q.2.2.1, q.2.2.2]) rfl ⟨⟨3, false, v, ⟨#[]⟩⟩, 0, parse_on ⟨HC2.out, HN.out⟩ HP.out, rfl, Ext.set4 (((Ext.refl w).alloc _).trans Y4) (by first | omega | simp) _ _ _ _⟩
      · obtain ⟨p, hpp⟩ : ∃ p, printT 3 false v ⟨#[]⟩ = p := ⟨_, rfl⟩
        have HNo : Hid (¬ (Ok ⟨3, false, v, ⟨#[]⟩⟩ ∧ printT 3 false v ⟨#[]⟩ = s)) := Lib.hid fun h => hp h.2
        rw [hpp] at hp
        have HP := Lib.hid hpp
        have hpl : ¬ p.toList = s.toList := fun h => hp (data_inj (by rw [Lib.toList_data, Lib.toList_data] at h; exact h))
        have zp : (!(p.toList == s.toList)) = true := by simpa using hpl
        have zq : (p.toList == s.toList) = false := by simpa using hpl
        clear hpp
        have m1 : True := trivial
        go_wp2_with (first
          | (have z := m1; clear z m1; go_at_call 19; refine (refInt_any _ _).mono ?_; rintro r w1 ⟨rfl, x1⟩; have Y1 : Ext (w.alloc (.cells #[.int .u8 0, .bool false, .int .i64 0, .string ⟨#[]⟩] 47)) w1 := E0.trans x1; have be : Bk w1 (w.heap.size + 1) 47 #[.int .u8 0, .bool false, .int .i64 0, .string ⟨#[]⟩] := bd.ext x1; have s1 := Y1.size; have bef0 : w1.frozen? ⟨w.heap.size + 1, 0, none⟩ = false := be.free 0; have bef1 : w1.frozen? ⟨w.heap.size + 1, 1, none⟩ = false := be.free 1; have bef2 : w1.frozen? ⟨w.heap.size + 1, 2, none⟩ = false := be.free 2; have bef3 : w1.frozen? ⟨w.heap.size + 1, 3, none⟩ = false := be.free 3; have be0 : w1.cell? ⟨w.heap.size + 1, 0, none⟩ = some (.int .u8 (0)) := be.cell 0; have be1 : w1.cell? ⟨w.heap.size + 1, 1, none⟩ = some (.bool (false)) := be.cell 1; have be2 : w1.cell? ⟨w.heap.size + 1, 2, none⟩ = some (.int .i64 (0)) := be.cell 2; have be3 : w1.cell? ⟨w.heap.size + 1, 3, none⟩ = some (.string (⟨#[]⟩)) := be.cell 3; have be4 := be.set4 (.int .u8 (3)) (.bool false) (.int .i64 v) (.string ⟨#[]⟩); have bed0 := be4.1; have bed1 := be4.2.1; have bed2 := be4.2.2.1; have bed3 := be4.2.2.2; have Y1s := Lib.hid (Y1.set4 (g := w.heap.size + 1) (by simp) (.int .u8 (3)) (.bool false) (.int .i64 v) (.string ⟨#[]⟩)); clear be4; have m2 : True := trivial)
          | (go_at_call 40; refine (rcheckK _ HC2 (by decide)).mono ?_; rintro r w3 ⟨rfl, x3⟩; have Y3 : Ext (w.alloc (.cells #[.int .u8 0, .bool false, .int .i64 0, .string ⟨#[]⟩] 47)) w3 := Y1s.out.trans x3; have bi : Bk w3 (w.heap.size + 1) 47 #[.int .u8 3, .bool false, .int .i64 v, .string ⟨#[]⟩] := ((((be.set 0 _).set 1 _).set 2 _).set 3 _).ext x3; have bi0 : w3.cell? ⟨w.heap.size + 1, 0, none⟩ = some (.int .u8 (3)) := bi.cell 0; have bi1 : w3.cell? ⟨w.heap.size + 1, 1, none⟩ = some (.bool (false)) := bi.cell 1; have bi2 : w3.cell? ⟨w.heap.size + 1, 2, none⟩ = some (.int .i64 (v)) := bi.cell 2; have bi3 : w3.cell? ⟨w.heap.size + 1, 3, none⟩ = some (.string (⟨#[]⟩)) := bi.cell 3)
          | (go_at_call 41; refine (rprintK _ HP (by decide) HN.out).mono ?_; rintro r w4 ⟨rfl, x4⟩; have Y4 : Ext (w.alloc (.cells #[.int .u8 0, .bool false, .int .i64 0, .string ⟨#[]⟩] 47)) w4 := Y3.trans x4; have bj : Bk w4 (w.heap.size + 1) 47 #[.int .u8 3, .bool false, .int .i64 v, .string ⟨#[]⟩] := bi.ext x4; have bh : Bk w4 w.heap.size 47 #[.int .u8 0, .bool false, .int .i64 0, .string ⟨#[]⟩] := (Bk.new w _ _).ext Y4; have bj0 : w4.cell? ⟨w.heap.size + 1, 0, none⟩ = some (.int .u8 (3)) := bj.cell 0; have bj1 : w4.cell? ⟨w.heap.size + 1, 1, none⟩ = some (.bool (false)) := bj.cell 1; have bj2 : w4.cell? ⟨w.heap.size + 1, 2, none⟩ = some (.int .i64 (v)) := bj.cell 2; have bj3 : w4.cell? ⟨w.heap.size + 1, 3, none⟩ = some (.string (⟨#[]⟩)) := bj.cell 3; have bhf0 : w4.frozen? ⟨w.heap.size, 0, none⟩ = false := bh.free 0; have bhf1 : w4.frozen? ⟨w.heap.size, 1, none⟩ = false := bh.free 1; have bhf2 : w4.frozen? ⟨w.heap.size, 2, none⟩ = false := bh.free 2; have bhf3 : w4.frozen? ⟨w.heap.size, 3, none⟩ = false := bh.free 3; have bh0 : w4.cell? ⟨w.heap.size, 0, none⟩ = some (.int .u8 (0)) := bh.cell 0; have bh1 : w4.cell? ⟨w.heap.size, 1, none⟩ = some (.bool (false)) := bh.cell 1; have bh2 : w4.cell? ⟨w.heap.size, 2, none⟩ = some (.int .i64 (0)) := bh.cell 2; have bh3 : w4.cell? ⟨w.heap.size, 3, none⟩ = some (.string (⟨#[]⟩)) := bh.cell 3))
        have q := bh.set4 (.int .u8 (0)) (.bool (false)) (.int .i64 (0)) (.string (⟨#[]⟩)); refine bodyPost_ret (v := .tuple #[.agg #[.int .u8 (0), .bool (false), .int .i64 (0), .string (⟨#[]⟩)], .int .i64 (13)]) (by simp [results, Tryz.results18, go_sem, q.1, q.2.1, q.2.2.1, q.2.2.2]) rfl ⟨⟨0, false, 0, ⟨#[]⟩⟩, 13, parse_off HK.out HNo.out, rfl, Ext.set4 (((Ext.refl w).alloc _).trans Y4) (by first | omega | simp) _ _ _ _⟩
set_option maxRecDepth 100000 in
set_option maxHeartbeats 8000000 in
theorem rparse_num_a1 (s : ByteArray) (w : World) (h1 : (s.toList == [110, 117, 108, 108]) = false) (h2 : (s.toList == [116, 114, 117, 101]) = false) (h3 : (s.toList == [102, 97, 108, 115, 101]) = false) (hc : ∀ x : Dat, Ok x → printT x.k x.b x.n x.s = s → ∃ v, In64 v ∧ s.data.toList = Lib.itoa v ∧ x = ⟨3, false, v, ⟨#[]⟩⟩) (h4 : 2 ≤ s.size) (h5 : ¬ s[0].toNat = 39) (h0 : 0 < s.size) (h20 : s.size ≤ 20) (hsg : s[0].toNat = 45) : Calls Tryz.prog 18 #[.string s] w fun e w' => ∃ d x, ParseRel s d x ∧ RefOut w (d, x) e w' := by
  have HC := Lib.hid hc
  clear hc
  have z5 : ((s[0].toNat : Int) == 39) = false := by simp; omega
  have z45 : ((s[0].toNat : Int) == 45) = true := by simp; omega
  go_enter Tryz.func18, Tryz.ntmps18
  go_upto_region 12 with fail
  have bd : Bk ((w.alloc (.cells #[.int .u8 0, .bool false, .int .i64 0, .string ⟨#[]⟩] 47)).alloc (.cells #[.int .u8 0, .bool false, .int .i64 0, .string ⟨#[]⟩] 47)) (w.heap.size + 1) 47 #[.int .u8 0, .bool false, .int .i64 0, .string ⟨#[]⟩] := Bk.at (by simp)
  have E0 : Ext (w.alloc (.cells #[.int .u8 0, .bool false, .int .i64 0, .string ⟨#[]⟩] 47)) ((w.alloc (.cells #[.int .u8 0, .bool false, .int .i64 0, .string ⟨#[]⟩] 47)).alloc (.cells #[.int .u8 0, .bool false, .int .i64 0, .string ⟨#[]⟩] 47)) := (Ext.refl _).alloc _
  obtain ⟨w0, hw0⟩ : ∃ x, x = ((w.alloc (.cells #[.int .u8 0, .bool false, .int .i64 0, .string ⟨#[]⟩] 47)).alloc (.cells #[.int .u8 0, .bool false, .int .i64 0, .string ⟨#[]⟩] 47)) := ⟨_, rfl⟩
  rw [← hw0] at bd E0 ⊢
  clear hw0
  have bz : Bk w0 w.heap.size 47 #[.int .u8 0, .bool false, .int .i64 0, .string ⟨#[]⟩] := (Bk.new w _ _).ext E0
  have E1 : Ext w w0 := ((Ext.refl w).alloc _).trans E0
  have s0 := E0.size
  have bzf0 : w0.frozen? ⟨w.heap.size, 0, none⟩ = false := bz.free 0; have bzf1 : w0.frozen? ⟨w.heap.size, 1, none⟩ = false := bz.free 1; have bzf2 : w0.frozen? ⟨w.heap.size, 2, none⟩ = false := bz.free 2; have bzf3 : w0.frozen? ⟨w.heap.size, 3, none⟩ = false := bz.free 3
  have bz0 : w0.cell? ⟨w.heap.size, 0, none⟩ = some (.int .u8 (0)) := bz.cell 0; have bz1 : w0.cell? ⟨w.heap.size, 1, none⟩ = some (.bool (false)) := bz.cell 1; have bz2 : w0.cell? ⟨w.heap.size, 2, none⟩ = some (.int .i64 (0)) := bz.cell 2; have bz3 : w0.cell? ⟨w.heap.size, 3, none⟩ = some (.string (⟨#[]⟩)) := bz.cell 3
  have bdf0 : w0.frozen? ⟨w.heap.size + 1, 0, none⟩ = false := bd.free 0; have bdf1 : w0.frozen? ⟨w.heap.size + 1, 1, none⟩ = false := bd.free 1; have bdf2 : w0.frozen? ⟨w.heap.size + 1, 2, none⟩ = false := bd.free 2; have bdf3 : w0.frozen? ⟨w.heap.size + 1, 3, none⟩ = false := bd.free 3
  have bd0 : w0.cell? ⟨w.heap.size + 1, 0, none⟩ = some (.int .u8 (0)) := bd.cell 0; have bd1 : w0.cell? ⟨w.heap.size + 1, 1, none⟩ = some (.bool (false)) := bd.cell 1; have bd2 : w0.cell? ⟨w.heap.size + 1, 2, none⟩ = some (.int .i64 (0)) := bd.cell 2; have bd3 : w0.cell? ⟨w.heap.size + 1, 3, none⟩ = some (.string (⟨#[]⟩)) := bd.cell 3
  go_wp2
  go_loop [7, 8] (fun u v => ∃ k m : Nat, k ≤ s.size ∧ m < 18446744073709551616 ∧ u = .int .u64 m ∧ v = .int .i64 k ∧ Hid (dig s 1 k = m)) (fun _ v => s.size - (intOf v).toNat)
  case atStart => exact ⟨0, 0, Nat.zero_le _, by decide, rfl, rfl, Lib.hid (dig_zero s 1)⟩
  case round =>
    obtain ⟨k, m, hk, hm, rfl, rfl, HM⟩ := hrel
    by_cases hlt : k < s.size
    · by_cases hk0 : k = 0
      · subst hk0
        have HM1 : Hid (m = 0) := Lib.hid (by rw [← HM.out]; exact dig_zero s 1)
        obtain rfl := HM1.out
        have HM2 : Hid (dig s 1 1 = 0) := Lib.hid (dig_one s)
        clear HM HM1
        go_wp2
        go_round
        case rel => exact ⟨1, 0, by omega, by decide, rfl, rfl, HM2⟩
        case measure => simp [intOf]; omega
      have zk : ((k : Int) == 0) = false := by simp; omega
      have hnk : ¬ (k = 0 ∧ s[k].toNat = 45) := fun q => hk0 q.1
      have hjk : 1 ≤ k := by omega
      have hc256 : s[k].toNat < 256 := s[k].toNat_lt
      have HS : Hid (dig s 1 (k + 1) = (10 * m % 18446744073709551616 + (s[k].toNat - 48)) % 18446744073709551616) := Lib.hid (dig_step hjk hlt HM.out)
      have HN := Lib.hid (not_itoa hlt hnk)
      clear hnk HM
      by_cases hd1 : s[k].toNat < 48
      · have hN : Hid (NoCand s) := Lib.hid fun x hx hp => (by obtain ⟨v, _, q2, _⟩ := HC.out x hx hp; exact HN.out (by omega) v q2)
        have y1 : decide ((s[k].toNat : Int) < 48) = true := by simp; omega
        go_wp2
        have q := bz.set4 (.int .u8 (0)) (.bool (false)) (.int .i64 (0)) (.string (⟨#[]⟩)); refine bodyPost_ret (v := .tuple #[.agg #[.int .u8 (0), .bool (false), .int .i64 (0), .string (⟨#[]⟩)], .int .i64 (13)]) (by simp [results, Tryz.results18, go_sem, q.1, q.2.1, q.2.2.1, q.2.2.2]) rfl ⟨⟨0, false, 0, ⟨#[]⟩⟩, 13, .inr ⟨rfl, rfl, hN.out⟩, rfl, Ext.set4 E1 (by first | omega | simp) _ _ _ _⟩
      have y1 : decide ((s[k].toNat : Int) < 48) = false := by simp; omega
      by_cases hd2 : 57 < s[k].toNat
      · have hN : Hid (NoCand s) := Lib.hid fun x hx hp => (by obtain ⟨v, _, q2, _⟩ := HC.out x hx hp; exact HN.out (by omega) v q2)
        have y2 : decide ((57 : Int) < (s[k].toNat : Int)) = true := by simp; omega
        go_wp2
        have q := bz.set4 (.int .u8 (0)) (.bool (false)) (.int .i64 (0)) (.string (⟨#[]⟩)); refine bodyPost_ret (v := .tuple #[.agg #[.int .u8 (0), .bool (false), .int .i64 (0), .string (⟨#[]⟩)], .int .i64 (13)]) (by simp [results, Tryz.results18, go_sem, q.1, q.2.1, q.2.2.1, q.2.2.2]) rfl ⟨⟨0, false, 0, ⟨#[]⟩⟩, 13, .inr ⟨rfl, rfl, hN.out⟩, rfl, Ext.set4 E1 (by first | omega | simp) _ _ _ _⟩
      have y2 : decide ((57 : Int) < (s[k].toNat : Int)) = false := by simp; omega
      obtain ⟨m1, hm1⟩ : ∃ x, 10 * m % 18446744073709551616 = x := ⟨_, rfl⟩
      obtain ⟨m2, hm2⟩ : ∃ x, (m1 + (s[k].toNat - 48)) % 18446744073709551616 = x := ⟨_, rfl⟩
      have hb2 : m2 < 18446744073709551616 := by omega
      have q1 : IntKind.u64.wrap (10 * (m : Int)) = (m1 : Int) := by rw [IntKind.wrap_u64]; omega
      have q2 : IntKind.u8.wrap ((s[k].toNat : Int) - 48) = (s[k].toNat : Int) - 48 := IntWalk.u8_in _ (by omega)
      have q3 : IntKind.u64.wrap ((s[k].toNat : Int) - 48) = (s[k].toNat : Int) - 48 := IntWalk.u64_in _ (by omega)
      have q4 : IntKind.u64.wrap ((m1 : Int) + ((s[k].toNat : Int) - 48)) = (m2 : Int) := by rw [IntKind.wrap_u64]; omega
      have HM2 : Hid (dig s 1 (k + 1) = m2) := Lib.hid (by rw [HS.out, hm1, hm2])
      clear HS HN hm1 hm2 hm hd1 hd2 hc256
      go_wp2
      go_round
      case rel => exact ⟨k + 1, m2, by omega, hb2, rfl, by go_num, HM2⟩
      case measure => simp [intOf]; omega
    · obtain rfl : k = s.size := by omega
      obtain ⟨u, hu⟩ : ∃ u, IntKind.i64.wrap (m : Int) = u := ⟨_, rfl⟩
      obtain ⟨v, hv⟩ : ∃ v, IntKind.i64.wrap (-u) = v := ⟨_, rfl⟩
      have hn : In64 v := hv ▸ wrap_in64 _
      have hcand : Cand s ⟨3, false, v, ⟨#[]⟩⟩ := fun x hx hp => (by obtain ⟨y, q1, q2, e⟩ := HC.out x hx hp; rw [e, ← hv, ← hu, ← HM.out, dig_neg q1 q2 h0 hsg])
      have hck : checkT 3 false v ⟨#[]⟩ = 0 := by rw [checkT_on ⟨.inr (.inr (.inl rfl)), fun _ => rfl, fun h => absurd rfl h, fun _ => rfl⟩]; decide +kernel
      have HN := Lib.hid hn; have HK := Lib.hid hcand; have HC2 := Lib.hid hck
      clear hn hcand hck HM hk hlt
      by_cases hp : printT 3 false v ⟨#[]⟩ = s
      · have HP := Lib.hid hp
        clear hp
        have m1 : True := trivial
        go_wp2_with (first
          | (have z := m1; clear z m1; go_at_call 19; refine (refInt_any _ _).mono ?_; rintro r w1 ⟨rfl, x1⟩; have Y1 : Ext (w.alloc (.cells #[.int .u8 0, .bool false, .int .i64 0, .string ⟨#[]⟩] 47)) w1 := E0.trans x1; have be : Bk w1 (w.heap.size + 1) 47 #[.int .u8 0, .bool false, .int .i64 0, .string ⟨#[]⟩] := bd.ext x1; have s1 := Y1.size; have bef0 : w1.frozen? ⟨w.heap.size + 1, 0, none⟩ = false := be.free 0; have bef1 : w1.frozen? ⟨w.heap.size + 1, 1, none⟩ = false := be.free 1; have bef2 : w1.frozen? ⟨w.heap.size + 1, 2, none⟩ = false := be.free 2; have bef3 : w1.frozen? ⟨w.heap.size + 1, 3, none⟩ = false := be.free 3; have be0 : w1.cell? ⟨w.heap.size + 1, 0, none⟩ = some (.int .u8 (0)) := be.cell 0; have be1 : w1.cell? ⟨w.heap.size + 1, 1, none⟩ = some (.bool (false)) := be.cell 1; have be2 : w1.cell? ⟨w.heap.size + 1, 2, none⟩ = some (.int .i64 (0)) := be.cell 2; have be3 : w1.cell? ⟨w.heap.size + 1, 3, none⟩ = some (.string (⟨#[]⟩)) := be.cell 3; have be4 := be.set4 (.int .u8 (3)) (.bool false) (.int .i64 u) (.string ⟨#[]⟩); have bed0 := be4.1; have bed1 := be4.2.1; have bed2 := be4.2.2.1; have bed3 := be4.2.2.2; have Y1s := Lib.hid (Y1.set4 (g := w.heap.size + 1) (by simp) (.int .u8 (3)) (.bool false) (.int .i64 u) (.string ⟨#[]⟩)); clear be4; have m2 : True := trivial)
          | (have z := m2; clear z m2; go_at_call 19; refine (refInt_any _ _).mono ?_; rintro r w2 ⟨rfl, x2⟩; have Y2 : Ext (w.alloc (.cells #[.int .u8 0, .bool false, .int .i64 0, .string ⟨#[]⟩] 47)) w2 := Y1s.out.trans x2; have bg : Bk w2 (w.heap.size + 1) 47 #[.int .u8 3, .bool false, .int .i64 u, .string ⟨#[]⟩] := ((((be.set 0 _).set 1 _).set 2 _).set 3 _).ext x2; have s2 := Y2.size; have bgf0 : w2.frozen? ⟨w.heap.size + 1, 0, none⟩ = false := bg.free 0; have bgf1 : w2.frozen? ⟨w.heap.size + 1, 1, none⟩ = false := bg.free 1; have bgf2 : w2.frozen? ⟨w.heap.size + 1, 2, none⟩ = false := bg.free 2; have bgf3 : w2.frozen? ⟨w.heap.size + 1, 3, none⟩ = false := bg.free 3; have bg0 : w2.cell? ⟨w.heap.size + 1, 0, none⟩ = some (.int .u8 (3)) := bg.cell 0; have bg1 : w2.cell? ⟨w.heap.size + 1, 1, none⟩ = some (.bool (false)) := bg.cell 1; have bg2 : w2.cell? ⟨w.heap.size + 1, 2, none⟩ = some (.int .i64 (u)) := bg.cell 2; have bg3 : w2.cell? ⟨w.heap.size + 1, 3, none⟩ = some (.string (⟨#[]⟩)) := bg.cell 3; have bg4 := bg.set4 (.int .u8 (3)) (.bool false) (.int .i64 v) (.string ⟨#[]⟩); have bgd0 := bg4.1; have bgd1 := bg4.2.1; have bgd2 := bg4.2.2.1; have bgd3 := bg4.2.2.2; have Y2s := Lib.hid (Y2.set4 (g := w.heap.size + 1) (by simp) (.int .u8 (3)) (.bool false) (.int .i64 v) (.string ⟨#[]⟩)); clear bg4)
          | (go_at_call 40; refine (rcheckK _ HC2 (by decide)).mono ?_; rintro r w3 ⟨rfl, x3⟩; have Y3 : Ext (w.alloc (.cells #[.int .u8 0, .bool false, .int .i64 0, .string ⟨#[]⟩] 47)) w3 := Y2s.out.trans x3; have bi : Bk w3 (w.heap.size + 1) 47 #[.int .u8 3, .bool false, .int .i64 v, .string ⟨#[]⟩] := ((((bg.set 0 _).set 1 _).set 2 _).set 3 _).ext x3; have bi0 : w3.cell? ⟨w.heap.size + 1, 0, none⟩ = some (.int .u8 (3)) := bi.cell 0; have bi1 : w3.cell? ⟨w.heap.size + 1, 1, none⟩ = some (.bool (false)) := bi.cell 1; have bi2 : w3.cell? ⟨w.heap.size + 1, 2, none⟩ = some (.int .i64 (v)) := bi.cell 2; have bi3 : w3.cell? ⟨w.heap.size + 1, 3, none⟩ = some (.string (⟨#[]⟩)) := bi.cell 3)
          | (go_at_call 41; refine (rprintK _ HP (by decide) HN.out).mono ?_; rintro r w4 ⟨rfl, x4⟩; have Y4 : Ext (w.alloc (.cells #[.int .u8 0, .bool false, .int .i64 0, .string ⟨#[]⟩] 47)) w4 := Y3.trans x4; have bj : Bk w4 (w.heap.size + 1) 47 #[.int .u8 3, .bool false, .int .i64 v, .string ⟨#[]⟩] := bi.ext x4; have bh : Bk w4 w.heap.size 47 #[.int .u8 0, .bool false, .int .i64 0, .string ⟨#[]⟩] := (Bk.new w _ _).ext Y4; have bj0 : w4.cell? ⟨w.heap.size + 1, 0, none⟩ = some (.int .u8 (3)) := bj.cell 0; have bj1 : w4.cell? ⟨w.heap.size + 1, 1, none⟩ = some (.bool (false)) := bj.cell 1; have bj2 : w4.cell? ⟨w.heap.size + 1, 2, none⟩ = some (.int .i64 (v)) := bj.cell 2; have bj3 : w4.cell? ⟨w.heap.size + 1, 3, none⟩ = some (.string (⟨#[]⟩)) := bj.cell 3; have bhf0 : w4.frozen? ⟨w.heap.size, 0, none⟩ = false := bh.free 0; have bhf1 : w4.frozen? ⟨w.heap.size, 1, none⟩ = false := bh.free 1; have bhf2 : w4.frozen? ⟨w.heap.size, 2, none⟩ = false := bh.free 2; have bhf3 : w4.frozen? ⟨w.heap.size, 3, none⟩ = false := bh.free 3; have bh0 : w4.cell? ⟨w.heap.size, 0, none⟩ = some (.int .u8 (0)) := bh.cell 0; have bh1 : w4.cell? ⟨w.heap.size, 1, none⟩ = some (.bool (false)) := bh.cell 1; have bh2 : w4.cell? ⟨w.heap.size, 2, none⟩ = some (.int .i64 (0)) := bh.cell 2; have bh3 : w4.cell? ⟨w.heap.size, 3, none⟩ = some (.string (⟨#[]⟩)) := bh.cell 3))
        have q := bh.set4 (.int .u8 (3)) (.bool (false)) (.int .i64 (v)) (.string (⟨#[]⟩)); refine bodyPost_ret (v := .tuple #[.agg #[.int .u8 (3), .bool (false), .int .i64 (v), .string (⟨#[]⟩)], .int .i64 (0)]) (by simp [results, Tryz.results18, go_sem, q.1, q.2.1, q.2.2.1, q.2.2.2]) rfl ⟨⟨3, false, v, ⟨#[]⟩⟩, 0, parse_on ⟨HC2.out, HN.out⟩ HP.out, rfl, Ext.set4 (((Ext.refl w).alloc _).trans Y4) (by first | omega | simp) _ _ _ _⟩
      · obtain ⟨p, hpp⟩ : ∃ p, printT 3 false v ⟨#[]⟩ = p := ⟨_, rfl⟩
        have HNo : Hid (¬ (Ok ⟨3, false, v, ⟨#[]⟩⟩ ∧ printT 3 false v ⟨#[]⟩ = s)) := Lib.hid fun h => hp h.2
        rw [hpp] at hp
        have HP := Lib.hid hpp
        have hpl : ¬ p.toList = s.toList := fun h => hp (data_inj (by rw [Lib.toList_data, Lib.toList_data] at h; exact h))
        have zp : (!(p.toList == s.toList)) = true := by simpa using hpl
        have zq : (p.toList == s.toList) = false := by simpa using hpl
        clear hpp
        have m1 : True := trivial
        go_wp2_with (first
          | (have z := m1; clear z m1; go_at_call 19; refine (refInt_any _ _).mono ?_; rintro r w1 ⟨rfl, x1⟩; have Y1 : Ext (w.alloc (.cells #[.int .u8 0, .bool false, .int .i64 0, .string ⟨#[]⟩] 47)) w1 := E0.trans x1; have be : Bk w1 (w.heap.size + 1) 47 #[.int .u8 0, .bool false, .int .i64 0, .string ⟨#[]⟩] := bd.ext x1; have s1 := Y1.size; have bef0 : w1.frozen? ⟨w.heap.size + 1, 0, none⟩ = false := be.free 0; have bef1 : w1.frozen? ⟨w.heap.size + 1, 1, none⟩ = false := be.free 1; have bef2 : w1.frozen? ⟨w.heap.size + 1, 2, none⟩ = false := be.free 2; have bef3 : w1.frozen? ⟨w.heap.size + 1, 3, none⟩ = false := be.free 3; have be0 : w1.cell? ⟨w.heap.size + 1, 0, none⟩ = some (.int .u8 (0)) := be.cell 0; have be1 : w1.cell? ⟨w.heap.size + 1, 1, none⟩ = some (.bool (false)) := be.cell 1; have be2 : w1.cell? ⟨w.heap.size + 1, 2, none⟩ = some (.int .i64 (0)) := be.cell 2; have be3 : w1.cell? ⟨w.heap.size + 1, 3, none⟩ = some (.string (⟨#[]⟩)) := be.cell 3; have be4 := be.set4 (.int .u8 (3)) (.bool false) (.int .i64 u) (.string ⟨#[]⟩); have bed0 := be4.1; have bed1 := be4.2.1; have bed2 := be4.2.2.1; have bed3 := be4.2.2.2; have Y1s := Lib.hid (Y1.set4 (g := w.heap.size + 1) (by simp) (.int .u8 (3)) (.bool false) (.int .i64 u) (.string ⟨#[]⟩)); clear be4; have m2 : True := trivial)
          | (have z := m2; clear z m2; go_at_call 19; refine (refInt_any _ _).mono ?_; rintro r w2 ⟨rfl, x2⟩; have Y2 : Ext (w.alloc (.cells #[.int .u8 0, .bool false, .int .i64 0, .string ⟨#[]⟩] 47)) w2 := Y1s.out.trans x2; have bg : Bk w2 (w.heap.size + 1) 47 #[.int .u8 3, .bool false, .int .i64 u, .string ⟨#[]⟩] := ((((be.set 0 _).set 1 _).set 2 _).set 3 _).ext x2; have s2 := Y2.size; have bgf0 : w2.frozen? ⟨w.heap.size + 1, 0, none⟩ = false := bg.free 0; have bgf1 : w2.frozen? ⟨w.heap.size + 1, 1, none⟩ = false := bg.free 1; have bgf2 : w2.frozen? ⟨w.heap.size + 1, 2, none⟩ = false := bg.free 2; have bgf3 : w2.frozen? ⟨w.heap.size + 1, 3, none⟩ = false := bg.free 3; have bg0 : w2.cell? ⟨w.heap.size + 1, 0, none⟩ = some (.int .u8 (3)) := bg.cell 0; have bg1 : w2.cell? ⟨w.heap.size + 1, 1, none⟩ = some (.bool (false)) := bg.cell 1; have bg2 : w2.cell? ⟨w.heap.size + 1, 2, none⟩ = some (.int .i64 (u)) := bg.cell 2; have bg3 : w2.cell? ⟨w.heap.size + 1, 3, none⟩ = some (.string (⟨#[]⟩)) := bg.cell 3; have bg4 := bg.set4 (.int .u8 (3)) (.bool false) (.int .i64 v) (.string ⟨#[]⟩); have bgd0 := bg4.1; have bgd1 := bg4.2.1; have bgd2 := bg4.2.2.1; have bgd3 := bg4.2.2.2; have Y2s := Lib.hid (Y2.set4 (g := w.heap.size + 1) (by simp) (.int .u8 (3)) (.bool false) (.int .i64 v) (.string ⟨#[]⟩)); clear bg4)
          | (go_at_call 40; refine (rcheckK _ HC2 (by decide)).mono ?_; rintro r w3 ⟨rfl, x3⟩; have Y3 : Ext (w.alloc (.cells #[.int .u8 0, .bool false, .int .i64 0, .string ⟨#[]⟩] 47)) w3 := Y2s.out.trans x3; have bi : Bk w3 (w.heap.size + 1) 47 #[.int .u8 3, .bool false, .int .i64 v, .string ⟨#[]⟩] := ((((bg.set 0 _).set 1 _).set 2 _).set 3 _).ext x3; have bi0 : w3.cell? ⟨w.heap.size + 1, 0, none⟩ = some (.int .u8 (3)) := bi.cell 0; have bi1 : w3.cell? ⟨w.heap.size + 1, 1, none⟩ = some (.bool (false)) := bi.cell 1; have bi2 : w3.cell? ⟨w.heap.size + 1, 2, none⟩ = some (.int .i64 (v)) := bi.cell 2; have bi3 : w3.cell? ⟨w.heap.size + 1, 3, none⟩ = some (.string (⟨#[]⟩)) := bi.cell 3)
          | (go_at_call 41; refine (rprintK _ HP (by decide) HN.out).mono ?_; rintro r w4 ⟨rfl, x4⟩; have Y4 : Ext (w.alloc (.cells #[.int .u8 0, .bool false, .int .i64 0, .string ⟨#[]⟩] 47)) w4 := Y3.trans x4; have bj : Bk w4 (w.heap.size + 1) 47 #[.int .u8 3, .bool false, .int .i64 v, .string ⟨#[]⟩] := bi.ext x4; have bh : Bk w4 w.heap.size 47 #[.int .u8 0, .bool false, .int .i64 0, .string ⟨#[]⟩] := (Bk.new w _ _).ext Y4; have bj0 : w4.cell? ⟨w.heap.size + 1, 0, none⟩ = some (.int .u8 (3)) := bj.cell 0; have bj1 : w4.cell? ⟨w.heap.size + 1, 1, none⟩ = some (.bool (false)) := bj.cell 1; have bj2 : w4.cell? ⟨w.heap.size + 1, 2, none⟩ = some (.int .i64 (v)) := bj.cell 2; have bj3 : w4.cell? ⟨w.heap.size + 1, 3, none⟩ = some (.string (⟨#[]⟩)) := bj.cell 3; have bhf0 : w4.frozen? ⟨w.heap.size, 0, none⟩ = false := bh.free 0; have bhf1 : w4.frozen? ⟨w.heap.size, 1, none⟩ = false := bh.free 1; have bhf2 : w4.frozen? ⟨w.heap.size, 2, none⟩ = false := bh.free 2; have bhf3 : w4.frozen? ⟨w.heap.size, 3, none⟩ = false := bh.free 3; have bh0 : w4.cell? ⟨w.heap.size, 0, none⟩ = some (.int .u8 (0)) := bh.cell 0; have bh1 : w4.cell? ⟨w.heap.size, 1, none⟩ = some (.bool (false)) := bh.cell 1; have bh2 : w4.cell? ⟨w.heap.size, 2, none⟩ = some (.int .i64 (0)) := bh.cell 2; have bh3 : w4.cell? ⟨w.heap.size, 3, none⟩ = some (.string (⟨#[]⟩)) := bh.cell 3))
        have q := bh.set4 (.int .u8 (0)) (.bool (false)) (.int .i64 (0)) (.string (⟨#[]⟩)); refine bodyPost_ret (v := .tuple #[.agg #[.int .u8 (0), .bool (false), .int .i64 (0), .string (⟨#[]⟩)], .int .i64 (13)]) (by simp [results, Tryz.results18, go_sem, q.1, q.2.1, q.2.2.1, q.2.2.2]) rfl ⟨⟨0, false, 0, ⟨#[]⟩⟩, 13, parse_off HK.out HNo.out, rfl, Ext.set4 (((Ext.refl w).alloc _).trans Y4) (by first | omega | simp) _ _ _ _⟩
set_option maxRecDepth 100000 in
set_option maxHeartbeats 8000000 in
theorem rparse_num_c0 (s : ByteArray) (w : World) (h1 : (s.toList == [110, 117, 108, 108]) = false) (h2 : (s.toList == [116, 114, 117, 101]) = false) (h3 : (s.toList == [102, 97, 108, 115, 101]) = false) (hc : ∀ x : Dat, Ok x → printT x.k x.b x.n x.s = s → ∃ v, In64 v ∧ s.data.toList = Lib.itoa v ∧ x = ⟨3, false, v, ⟨#[]⟩⟩) (h4 : s.size < 2) (h0 : 0 < s.size) (h20 : s.size ≤ 20) (hsg : ¬ s[0].toNat = 45) : Calls Tryz.prog 18 #[.string s] w fun e w' => ∃ d x, ParseRel s d x ∧ RefOut w (d, x) e w' := by
  have HC := Lib.hid hc
  clear hc
  have z45 : ((s[0].toNat : Int) == 45) = false := by simp; omega
  go_enter Tryz.func18, Tryz.ntmps18
  go_upto_region 12 with fail
  have bd : Bk ((w.alloc (.cells #[.int .u8 0, .bool false, .int .i64 0, .string ⟨#[]⟩] 47)).alloc (.cells #[.int .u8 0, .bool false, .int .i64 0, .string ⟨#[]⟩] 47)) (w.heap.size + 1) 47 #[.int .u8 0, .bool false, .int .i64 0, .string ⟨#[]⟩] := Bk.at (by simp)
  have E0 : Ext (w.alloc (.cells #[.int .u8 0, .bool false, .int .i64 0, .string ⟨#[]⟩] 47)) ((w.alloc (.cells #[.int .u8 0, .bool false, .int .i64 0, .string ⟨#[]⟩] 47)).alloc (.cells #[.int .u8 0, .bool false, .int .i64 0, .string ⟨#[]⟩] 47)) := (Ext.refl _).alloc _
  obtain ⟨w0, hw0⟩ : ∃ x, x = ((w.alloc (.cells #[.int .u8 0, .bool false, .int .i64 0, .string ⟨#[]⟩] 47)).alloc (.cells #[.int .u8 0, .bool false, .int .i64 0, .string ⟨#[]⟩] 47)) := ⟨_, rfl⟩
  rw [← hw0] at bd E0 ⊢
  clear hw0
  have bz : Bk w0 w.heap.size 47 #[.int .u8 0, .bool false, .int .i64 0, .string ⟨#[]⟩] := (Bk.new w _ _).ext E0
  have E1 : Ext w w0 := ((Ext.refl w).alloc _).trans E0
  have s0 := E0.size
  have bzf0 : w0.frozen? ⟨w.heap.size, 0, none⟩ = false := bz.free 0; have bzf1 : w0.frozen? ⟨w.heap.size, 1, none⟩ = false := bz.free 1; have bzf2 : w0.frozen? ⟨w.heap.size, 2, none⟩ = false := bz.free 2; have bzf3 : w0.frozen? ⟨w.heap.size, 3, none⟩ = false := bz.free 3
  have bz0 : w0.cell? ⟨w.heap.size, 0, none⟩ = some (.int .u8 (0)) := bz.cell 0; have bz1 : w0.cell? ⟨w.heap.size, 1, none⟩ = some (.bool (false)) := bz.cell 1; have bz2 : w0.cell? ⟨w.heap.size, 2, none⟩ = some (.int .i64 (0)) := bz.cell 2; have bz3 : w0.cell? ⟨w.heap.size, 3, none⟩ = some (.string (⟨#[]⟩)) := bz.cell 3
  have bdf0 : w0.frozen? ⟨w.heap.size + 1, 0, none⟩ = false := bd.free 0; have bdf1 : w0.frozen? ⟨w.heap.size + 1, 1, none⟩ = false := bd.free 1; have bdf2 : w0.frozen? ⟨w.heap.size + 1, 2, none⟩ = false := bd.free 2; have bdf3 : w0.frozen? ⟨w.heap.size + 1, 3, none⟩ = false := bd.free 3
  have bd0 : w0.cell? ⟨w.heap.size + 1, 0, none⟩ = some (.int .u8 (0)) := bd.cell 0; have bd1 : w0.cell? ⟨w.heap.size + 1, 1, none⟩ = some (.bool (false)) := bd.cell 1; have bd2 : w0.cell? ⟨w.heap.size + 1, 2, none⟩ = some (.int .i64 (0)) := bd.cell 2; have bd3 : w0.cell? ⟨w.heap.size + 1, 3, none⟩ = some (.string (⟨#[]⟩)) := bd.cell 3
  go_wp2
  go_loop [7, 8] (fun u v => ∃ k m : Nat, k ≤ s.size ∧ m < 18446744073709551616 ∧ u = .int .u64 m ∧ v = .int .i64 k ∧ Hid (dig s 0 k = m)) (fun _ v => s.size - (intOf v).toNat)
  case atStart => exact ⟨0, 0, Nat.zero_le _, by decide, rfl, rfl, Lib.hid (dig_zero s 0)⟩
  case round =>
    obtain ⟨k, m, hk, hm, rfl, rfl, HM⟩ := hrel
    by_cases hlt : k < s.size
    · have hzk : ((k : Int) == 0) = false ∨ (((k : Int) == 0) = true ∧ k = 0) := by
        by_cases q : k = 0
        · exact .inr ⟨by simp; omega, q⟩
        · exact .inl (by simp; omega)
      have hnk : ¬ (k = 0 ∧ s[k].toNat = 45) := fun q => hsg (by obtain ⟨rfl, q⟩ := q; exact q)
      have hjk : 0 ≤ k := Nat.zero_le _
      have hc256 : s[k].toNat < 256 := s[k].toNat_lt
      have HS : Hid (dig s 0 (k + 1) = (10 * m % 18446744073709551616 + (s[k].toNat - 48)) % 18446744073709551616) := Lib.hid (dig_step hjk hlt HM.out)
      have HN := Lib.hid (not_itoa hlt hnk)
      clear hnk HM
      by_cases hd1 : s[k].toNat < 48
      · have hN : Hid (NoCand s) := Lib.hid fun x hx hp => (by obtain ⟨v, _, q2, _⟩ := HC.out x hx hp; exact HN.out (by omega) v q2)
        have y1 : decide ((s[k].toNat : Int) < 48) = true := by simp; omega
        rcases hzk with zk | ⟨zk, rfl⟩
        all_goals
          go_wp2
          have q := bz.set4 (.int .u8 (0)) (.bool (false)) (.int .i64 (0)) (.string (⟨#[]⟩)); refine bodyPost_ret (v := .tuple #[.agg #[.int .u8 (0), .bool (false), .int .i64 (0), .string (⟨#[]⟩)], .int .i64 (13)]) (by simp [results, Tryz.results18, go_sem, q.1, q.2.1, q.2.2.1, q.2.2.2]) rfl ⟨⟨0, false, 0, ⟨#[]⟩⟩, 13, .inr ⟨rfl, rfl, hN.out⟩, rfl, Ext.set4 E1 (by first | omega | simp) _ _ _ _⟩
      have y1 : decide ((s[k].toNat : Int) < 48) = false := by simp; omega
      by_cases hd2 : 57 < s[k].toNat
      · have hN : Hid (NoCand s) := Lib.hid fun x hx hp => (by obtain ⟨v, _, q2, _⟩ := HC.out x hx hp; exact HN.out (by omega) v q2)
        have y2 : decide ((57 : Int) < (s[k].toNat : Int)) = true := by simp; omega
        rcases hzk with zk | ⟨zk, rfl⟩
        all_goals
          go_wp2
          have q := bz.set4 (.int .u8 (0)) (.bool (false)) (.int .i64 (0)) (.string (⟨#[]⟩)); refine bodyPost_ret (v := .tuple #[.agg #[.int .u8 (0), .bool (false), .int .i64 (0), .string (⟨#[]⟩)], .int .i64 (13)]) (by simp [results, Tryz.results18, go_sem, q.1, q.2.1, q.2.2.1, q.2.2.2]) rfl ⟨⟨0, false, 0, ⟨#[]⟩⟩, 13, .inr ⟨rfl, rfl, hN.out⟩, rfl, Ext.set4 E1 (by first | omega | simp) _ _ _ _⟩
      have y2 : decide ((57 : Int) < (s[k].toNat : Int)) = false := by simp; omega
      obtain ⟨m1, hm1⟩ : ∃ x, 10 * m % 18446744073709551616 = x := ⟨_, rfl⟩
      obtain ⟨m2, hm2⟩ : ∃ x, (m1 + (s[k].toNat - 48)) % 18446744073709551616 = x := ⟨_, rfl⟩
      have hb2 : m2 < 18446744073709551616 := by omega
      have q1 : IntKind.u64.wrap (10 * (m : Int)) = (m1 : Int) := by rw [IntKind.wrap_u64]; omega
      have q2 : IntKind.u8.wrap ((s[k].toNat : Int) - 48) = (s[k].toNat : Int) - 48 := IntWalk.u8_in _ (by omega)
      have q3 : IntKind.u64.wrap ((s[k].toNat : Int) - 48) = (s[k].toNat : Int) - 48 := IntWalk.u64_in _ (by omega)
      have q4 : IntKind.u64.wrap ((m1 : Int) + ((s[k].toNat : Int) - 48)) = (m2 : Int) := by rw [IntKind.wrap_u64]; omega
      have HM2 : Hid (dig s 0 (k + 1) = m2) := Lib.hid (by rw [HS.out, hm1, hm2])
      clear HS HN hm1 hm2 hm hd1 hd2 hc256
      rcases hzk with zk | ⟨zk, rfl⟩
      · go_wp2
        go_round
        case rel => exact ⟨k + 1, m2, by omega, hb2, rfl, by go_num, HM2⟩
        case measure => simp [intOf]; omega
      · go_wp2
        go_round
        case rel => exact ⟨1, m2, by omega, hb2, rfl, rfl, HM2⟩
        case measure => simp [intOf]; omega
    · obtain rfl : k = s.size := by omega
      obtain ⟨v, hv⟩ : ∃ v, IntKind.i64.wrap (m : Int) = v := ⟨_, rfl⟩
      have hn : In64 v := hv ▸ wrap_in64 _
      have hcand : Cand s ⟨3, false, v, ⟨#[]⟩⟩ := fun x hx hp => (by obtain ⟨y, q1, q2, e⟩ := HC.out x hx hp; rw [e, ← hv, ← HM.out, dig_pos q1 q2 h0 hsg])
      have hck : checkT 3 false v ⟨#[]⟩ = 0 := by rw [checkT_on ⟨.inr (.inr (.inl rfl)), fun _ => rfl, fun h => absurd rfl h, fun _ => rfl⟩]; decide +kernel
      have HN := Lib.hid hn; have HK := Lib.hid hcand; have HC2 := Lib.hid hck
      clear hn hcand hck HM hk hlt
      by_cases hp : printT 3 false v ⟨#[]⟩ = s
      · have HP := Lib.hid hp
        clear hp
        have m1 : True := trivial
        go_wp2_with (first
          | (have z := m1; clear z m1; go_at_call 19; refine (refInt_any _ _).mono ?_; rintro r w1 ⟨rfl, x1⟩; have Y1 : Ext (w.alloc (.cells #[.int .u8 0, .bool false, .int .i64 0, .string ⟨#[]⟩] 47)) w1 := E0.trans x1; have be : Bk w1 (w.heap.size + 1) 47 #[.int .u8 0, .bool false, .int .i64 0, .string ⟨#[]⟩] := bd.ext x1; have s1 := Y1.size; have bef0 : w1.frozen? ⟨w.heap.size + 1, 0, none⟩ = false := be.free 0; have bef1 : w1.frozen? ⟨w.heap.size + 1, 1, none⟩ = false := be.free 1; have bef2 : w1.frozen? ⟨w.heap.size + 1, 2, none⟩ = false := be.free 2; have bef3 : w1.frozen? ⟨w.heap.size + 1, 3, none⟩ = false := be.free 3; have be0 : w1.cell? ⟨w.heap.size + 1, 0, none⟩ = some (.int .u8 (0)) := be.cell 0; have be1 : w1.cell? ⟨w.heap.size + 1, 1, none⟩ = some (.bool (false)) := be.cell 1; have be2 : w1.cell? ⟨w.heap.size + 1, 2, none⟩ = some (.int .i64 (0)) := be.cell 2; have be3 : w1.cell? ⟨w.heap.size + 1, 3, none⟩ = some (.string (⟨#[]⟩)) := be.cell 3; have be4 := be.set4 (.int .u8 (3)) (.bool false) (.int .i64 v) (.string ⟨#[]⟩); have bed0 := be4.1; have bed1 := be4.2.1; have bed2 := be4.2.2.1; have bed3 := be4.2.2.2; have Y1s := Lib.hid (Y1.set4 (g := w.heap.size + 1) (by simp) (.int .u8 (3)) (.bool false) (.int .i64 v) (.string ⟨#[]⟩)); clear be4; have m2 : True := trivial)
          | (go_at_call 40; refine (rcheckK _ HC2 (by decide)).mono ?_; rintro r w3 ⟨rfl, x3⟩; have Y3 : Ext (w.alloc (.cells #[.int .u8 0, .bool false, .int .i64 0, .string ⟨#[]⟩] 47)) w3 := Y1s.out.trans x3; have bi : Bk w3 (w.heap.size + 1) 47 #[.int .u8 3, .bool false, .int .i64 v, .string ⟨#[]⟩] := ((((be.set 0 _).set 1 _).set 2 _).set 3 _).ext x3; have bi0 : w3.cell? ⟨w.heap.size + 1, 0, none⟩ = some (.int .u8 (3)) := bi.cell 0; have bi1 : w3.cell? ⟨w.heap.size + 1, 1, none⟩ = some (.bool (false)) := bi.cell 1; have bi2 : w3.cell? ⟨w.heap.size + 1, 2, none⟩ = some (.int .i64 (v)) := bi.cell 2; have bi3 : w3.cell? ⟨w.heap.size + 1, 3, none⟩ = some (.string (⟨#[]⟩)) := bi.cell 3)
          | (go_at_call 41; refine (rprintK _ HP (by decide) HN.out).mono ?_; rintro r w4 ⟨rfl, x4⟩; have Y4 : Ext (w.alloc (.cells #[.int .u8 0, .bool false, .int .i64 0, .string ⟨#[]⟩] 47)) w4 := Y3.trans x4; have bj : Bk w4 (w.heap.size + 1) 47 #[.int .u8 3, .bool false, .int .i64 v, .string ⟨#[]⟩] := bi.ext x4; have bh : Bk w4 w.heap.size 47 #[.int .u8 0, .bool false, .int .i64 0, .string ⟨#[]⟩] := (Bk.new w _ _).ext Y4; have bj0 : w4.cell? ⟨w.heap.size + 1, 0, none⟩ = some (.int .u8 (3)) := bj.cell 0; have bj1 : w4.cell? ⟨w.heap.size + 1, 1, none⟩ = some (.bool (false)) := bj.cell 1; have bj2 : w4.cell? ⟨w.heap.size + 1, 2, none⟩ = some (.int .i64 (v)) := bj.cell 2; have bj3 : w4.cell? ⟨w.heap.size + 1, 3, none⟩ = some (.string (⟨#[]⟩)) := bj.cell 3; have bhf0 : w4.frozen? ⟨w.heap.size, 0, none⟩ = false := bh.free 0; have bhf1 : w4.frozen? ⟨w.heap.size, 1, none⟩ = false := bh.free 1; have bhf2 : w4.frozen? ⟨w.heap.size, 2, none⟩ = false := bh.free 2; have bhf3 : w4.frozen? ⟨w.heap.size, 3, none⟩ = false := bh.free 3; have bh0 : w4.cell? ⟨w.heap.size, 0, none⟩ = some (.int .u8 (0)) := bh.cell 0; have bh1 : w4.cell? ⟨w.heap.size, 1, none⟩ = some (.bool (false)) := bh.cell 1; have bh2 : w4.cell? ⟨w.heap.size, 2, none⟩ = some (.int .i64 (0)) := bh.cell 2; have bh3 : w4.cell? ⟨w.heap.size, 3, none⟩ = some (.string (⟨#[]⟩)) := bh.cell 3))
        have q := bh.set4 (.int .u8 (3)) (.bool (false)) (.int .i64 (v)) (.string (⟨#[]⟩)); refine bodyPost_ret (v := .tuple #[.agg #[.int .u8 (3), .bool (false), .int .i64 (v), .string (⟨#[]⟩)], .int .i64 (0)]) (by simp [results, Tryz.results18, go_sem, q.1, q.2.1, q.2.2.1, q.2.2.2]) rfl ⟨⟨3, false, v, ⟨#[]⟩⟩, 0, parse_on ⟨HC2.out, HN.out⟩ HP.out, rfl, Ext.set4 (((Ext.refl w).alloc _).trans Y4) (by first | omega | simp) _ _ _ _⟩
      · obtain ⟨p, hpp⟩ : ∃ p, printT 3 false v ⟨#[]⟩ = p := ⟨_, rfl⟩
        have HNo : Hid (¬ (Ok ⟨3, false, v, ⟨#[]⟩⟩ ∧ printT 3 false v ⟨#[]⟩ = s)) := Lib.hid fun h => hp h.2
        rw [hpp] at hp
        have HP := Lib.hid hpp
        have hpl : ¬ p.toList = s.toList := fun h => hp (data_inj (by rw [Lib.toList_data, Lib.toList_data] at h; exact h))
        have zp : (!(p.toList == s.toList)) = true := by simpa using hpl
        have zq : (p.toList == s.toList) = false := by simpa using hpl
        clear hpp
        have m1 : True := trivial
        go_wp2_with (first
          | (have z := m1; clear z m1; go_at_call 19; refine (refInt_any _ _).mono ?_; rintro r w1 ⟨rfl, x1⟩; have Y1 : Ext (w.alloc (.cells #[.int .u8 0, .bool false, .int .i64 0, .string ⟨#[]⟩] 47)) w1 := E0.trans x1; have be : Bk w1 (w.heap.size + 1) 47 #[.int .u8 0, .bool false, .int .i64 0, .string ⟨#[]⟩] := bd.ext x1; have s1 := Y1.size; have bef0 : w1.frozen? ⟨w.heap.size + 1, 0, none⟩ = false := be.free 0; have bef1 : w1.frozen? ⟨w.heap.size + 1, 1, none⟩ = false := be.free 1; have bef2 : w1.frozen? ⟨w.heap.size + 1, 2, none⟩ = false := be.free 2; have bef3 : w1.frozen? ⟨w.heap.size + 1, 3, none⟩ = false := be.free 3; have be0 : w1.cell? ⟨w.heap.size + 1, 0, none⟩ = some (.int .u8 (0)) := be.cell 0; have be1 : w1.cell? ⟨w.heap.size + 1, 1, none⟩ = some (.bool (false)) := be.cell 1; have be2 : w1.cell? ⟨w.heap.size + 1, 2, none⟩ = some (.int .i64 (0)) := be.cell 2; have be3 : w1.cell? ⟨w.heap.size + 1, 3, none⟩ = some (.string (⟨#[]⟩)) := be.cell 3; have be4 := be.set4 (.int .u8 (3)) (.bool false) (.int .i64 v) (.string ⟨#[]⟩); have bed0 := be4.1; have bed1 := be4.2.1; have bed2 := be4.2.2.1; have bed3 := be4.2.2.2; have Y1s := Lib.hid (Y1.set4 (g := w.heap.size + 1) (by simp) (.int .u8 (3)) (.bool false) (.int .i64 v) (.string ⟨#[]⟩)); clear be4; have m2 : True := trivial)
          | (go_at_call 40; refine (rcheckK _ HC2 (by decide)).mono ?_; rintro r w3 ⟨rfl, x3⟩; have Y3 : Ext (w.alloc (.cells #[.int .u8 0, .bool false, .int .i64 0, .string ⟨#[]⟩] 47)) w3 := Y1s.out.trans x3; have bi : Bk w3 (w.heap.size + 1) 47 #[.int .u8 3, .bool false, .int .i64 v, .string ⟨#[]⟩] := ((((be.set 0 _).set 1 _).set 2 _).set 3 _).ext x3; have bi0 : w3.cell? ⟨w.heap.size + 1, 0, none⟩ = some (.int .u8 (3)) := bi.cell 0; have bi1 : w3.cell? ⟨w.heap.size + 1, 1, none⟩ = some (.bool (false)) := bi.cell 1; have bi2 : w3.cell? ⟨w.heap.size + 1, 2, none⟩ = some (.int .i64 (v)) := bi.cell 2; have bi3 : w3.cell? ⟨w.heap.size + 1, 3, none⟩ = some (.string (⟨#[]⟩)) := bi.cell 3)
          | (go_at_call 41; refine (rprintK _ HP (by decide) HN.out).mono ?_; rintro r w4 ⟨rfl, x4⟩; have Y4 : Ext (w.alloc (.cells #[.int .u8 0, .bool false, .int .i64 0, .string ⟨#[]⟩] 47)) w4 := Y3.trans x4; have bj : Bk w4 (w.heap.size + 1) 47 #[.int .u8 3, .bool false, .int .i64 v, .string ⟨#[]⟩] := bi.ext x4; have bh : Bk w4 w.heap.size 47 #[.int .u8 0, .bool false, .int .i64 0, .string ⟨#[]⟩] := (Bk.new w _ _).ext Y4; have bj0 : w4.cell? ⟨w.heap.size + 1, 0, none⟩ = some (.int .u8 (3)) := bj.cell 0; have bj1 : w4.cell? ⟨w.heap.size + 1, 1, none⟩ = some (.bool (false)) := bj.cell 1; have bj2 : w4.cell? ⟨w.heap.size + 1, 2, none⟩ = some (.int .i64 (v)) := bj.cell 2; have bj3 : w4.cell? ⟨w.heap.size + 1, 3, none⟩ = some (.string (⟨#[]⟩)) := bj.cell 3; have bhf0 : w4.frozen? ⟨w.heap.size, 0, none⟩ = false := bh.free 0; have bhf1 : w4.frozen? ⟨w.heap.size, 1, none⟩ = false := bh.free 1; have bhf2 : w4.frozen? ⟨w.heap.size, 2, none⟩ = false := bh.free 2; have bhf3 : w4.frozen? ⟨w.heap.size, 3, none⟩ = false := bh.free 3; have bh0 : w4.cell? ⟨w.heap.size, 0, none⟩ = some (.int .u8 (0)) := bh.cell 0; have bh1 : w4.cell? ⟨w.heap.size, 1, none⟩ = some (.bool (false)) := bh.cell 1; have bh2 : w4.cell? ⟨w.heap.size, 2, none⟩ = some (.int .i64 (0)) := bh.cell 2; have bh3 : w4.cell? ⟨w.heap.size, 3, none⟩ = some (.string (⟨#[]⟩)) := bh.cell 3))
        have q := bh.set4 (.int .u8 (0)) (.bool (false)) (.int .i64 (0)) (.string (⟨#[]⟩)); refine bodyPost_ret (v := .tuple #[.agg #[.int .u8 (0), .bool (false), .int .i64 (0), .string (⟨#[]⟩)], .int .i64 (13)]) (by simp [results, Tryz.results18, go_sem, q.1, q.2.1, q.2.2.1, q.2.2.2]) rfl ⟨⟨0, false, 0, ⟨#[]⟩⟩, 13, parse_off HK.out HNo.out, rfl, Ext.set4 (((Ext.refl w).alloc _).trans Y4) (by first | omega | simp) _ _ _ _⟩
set_option maxRecDepth 100000 in
set_option maxHeartbeats 8000000 in
theorem rparse_num_c1 (s : ByteArray) (w : World) (h1 : (s.toList == [110, 117, 108, 108]) = false) (h2 : (s.toList == [116, 114, 117, 101]) = false) (h3 : (s.toList == [102, 97, 108, 115, 101]) = false) (hc : ∀ x : Dat, Ok x → printT x.k x.b x.n x.s = s → ∃ v, In64 v ∧ s.data.toList = Lib.itoa v ∧ x = ⟨3, false, v, ⟨#[]⟩⟩) (h4 : s.size < 2) (h0 : 0 < s.size) (h20 : s.size ≤ 20) (hsg : s[0].toNat = 45) : Calls Tryz.prog 18 #[.string s] w fun e w' => ∃ d x, ParseRel s d x ∧ RefOut w (d, x) e w' := by
  have HC := Lib.hid hc
  clear hc
  have z45 : ((s[0].toNat : Int) == 45) = true := by simp; omega
  go_enter Tryz.func18, Tryz.ntmps18
  go_upto_region 12 with fail
  have bd : Bk ((w.alloc (.cells #[.int .u8 0, .bool false, .int .i64 0, .string ⟨#[]⟩] 47)).alloc (.cells #[.int .u8 0, .bool false, .int .i64 0, .string ⟨#[]⟩] 47)) (w.heap.size + 1) 47 #[.int .u8 0, .bool false, .int .i64 0, .string ⟨#[]⟩] := Bk.at (by simp)
  have E0 : Ext (w.alloc (.cells #[.int .u8 0, .bool false, .int .i64 0, .string ⟨#[]⟩] 47)) ((w.alloc (.cells #[.int .u8 0, .bool false, .int .i64 0, .string ⟨#[]⟩] 47)).alloc (.cells #[.int .u8 0, .bool false, .int .i64 0, .string ⟨#[]⟩] 47)) := (Ext.refl _).alloc _
  obtain ⟨w0, hw0⟩ : ∃ x, x = ((w.alloc (.cells #[.int .u8 0, .bool false, .int .i64 0, .string ⟨#[]⟩] 47)).alloc (.cells #[.int .u8 0, .bool false, .int .i64 0, .string ⟨#[]⟩] 47)) := ⟨_, rfl⟩
  rw [← hw0] at bd E0 ⊢
  clear hw0
  have bz : Bk w0 w.heap.size 47 #[.int .u8 0, .bool false, .int .i64 0, .string ⟨#[]⟩] := (Bk.new w _ _).ext E0
  have E1 : Ext w w0 := ((Ext.refl w).alloc _).trans E0
  have s0 := E0.size
  have bzf0 : w0.frozen? ⟨w.heap.size, 0, none⟩ = false := bz.free 0; have bzf1 : w0.frozen? ⟨w.heap.size, 1, none⟩ = false := bz.free 1; have bzf2 : w0.frozen? ⟨w.heap.size, 2, none⟩ = false := bz.free 2; have bzf3 : w0.frozen? ⟨w.heap.size, 3, none⟩ = false := bz.free 3
  have bz0 : w0.cell? ⟨w.heap.size, 0, none⟩ = some (.int .u8 (0)) := bz.cell 0; have bz1 : w0.cell? ⟨w.heap.size, 1, none⟩ = some (.bool (false)) := bz.cell 1; have bz2 : w0.cell? ⟨w.heap.size, 2, none⟩ = some (.int .i64 (0)) := bz.cell 2; have bz3 : w0.cell? ⟨w.heap.size, 3, none⟩ = some (.string (⟨#[]⟩)) := bz.cell 3
  have bdf0 : w0.frozen? ⟨w.heap.size + 1, 0, none⟩ = false := bd.free 0; have bdf1 : w0.frozen? ⟨w.heap.size + 1, 1, none⟩ = false := bd.free 1; have bdf2 : w0.frozen? ⟨w.heap.size + 1, 2, none⟩ = false := bd.free 2; have bdf3 : w0.frozen? ⟨w.heap.size + 1, 3, none⟩ = false := bd.free 3
  have bd0 : w0.cell? ⟨w.heap.size + 1, 0, none⟩ = some (.int .u8 (0)) := bd.cell 0; have bd1 : w0.cell? ⟨w.heap.size + 1, 1, none⟩ = some (.bool (false)) := bd.cell 1; have bd2 : w0.cell? ⟨w.heap.size + 1, 2, none⟩ = some (.int .i64 (0)) := bd.cell 2; have bd3 : w0.cell? ⟨w.heap.size + 1, 3, none⟩ = some (.string (⟨#[]⟩)) := bd.cell 3
  go_wp2
  go_loop [7, 8] (fun u v => ∃ k m : Nat, k ≤ s.size ∧ m < 18446744073709551616 ∧ u = .int .u64 m ∧ v = .int .i64 k ∧ Hid (dig s 1 k = m)) (fun _ v => s.size - (intOf v).toNat)
  case atStart => exact ⟨0, 0, Nat.zero_le _, by decide, rfl, rfl, Lib.hid (dig_zero s 1)⟩
  case round =>
    obtain ⟨k, m, hk, hm, rfl, rfl, HM⟩ := hrel
    by_cases hlt : k < s.size
    · by_cases hk0 : k = 0
      · subst hk0
        have HM1 : Hid (m = 0) := Lib.hid (by rw [← HM.out]; exact dig_zero s 1)
        obtain rfl := HM1.out
        have HM2 : Hid (dig s 1 1 = 0) := Lib.hid (dig_one s)
        clear HM HM1
        go_wp2
        go_round
        case rel => exact ⟨1, 0, by omega, by decide, rfl, rfl, HM2⟩
        case measure => simp [intOf]; omega
      have zk : ((k : Int) == 0) = false := by simp; omega
      have hnk : ¬ (k = 0 ∧ s[k].toNat = 45) := fun q => hk0 q.1
      have hjk : 1 ≤ k := by omega
      exfalso; omega
    · obtain rfl : k = s.size := by omega
      obtain ⟨u, hu⟩ : ∃ u, IntKind.i64.wrap (m : Int) = u := ⟨_, rfl⟩
      obtain ⟨v, hv⟩ : ∃ v, IntKind.i64.wrap (-u) = v := ⟨_, rfl⟩
      have hn : In64 v := hv ▸ wrap_in64 _
      have hcand : Cand s ⟨3, false, v, ⟨#[]⟩⟩ := fun x hx hp => (by obtain ⟨y, q1, q2, e⟩ := HC.out x hx hp; rw [e, ← hv, ← hu, ← HM.out, dig_neg q1 q2 h0 hsg])
      have hck : checkT 3 false v ⟨#[]⟩ = 0 := by rw [checkT_on ⟨.inr (.inr (.inl rfl)), fun _ => rfl, fun h => absurd rfl h, fun _ => rfl⟩]; decide +kernel
      have HN := Lib.hid hn; have HK := Lib.hid hcand; have HC2 := Lib.hid hck
      clear hn hcand hck HM hk hlt
      by_cases hp : printT 3 false v ⟨#[]⟩ = s
      · have HP := Lib.hid hp
        clear hp
        have m1 : True := trivial
        go_wp2_with (first
          | (have z := m1; clear z m1; go_at_call 19; refine (refInt_any _ _).mono ?_; rintro r w1 ⟨rfl, x1⟩; have Y1 : Ext (w.alloc (.cells #[.int .u8 0, .bool false, .int .i64 0, .string ⟨#[]⟩] 47)) w1 := E0.trans x1; have be : Bk w1 (w.heap.size + 1) 47 #[.int .u8 0, .bool false, .int .i64 0, .string ⟨#[]⟩] := bd.ext x1; have s1 := Y1.size; have bef0 : w1.frozen? ⟨w.heap.size + 1, 0, none⟩ = false := be.free 0; have bef1 : w1.frozen? ⟨w.heap.size + 1, 1, none⟩ = false := be.free 1; have bef2 : w1.frozen? ⟨w.heap.size + 1, 2, none⟩ = false := be.free 2; have bef3 : w1.frozen? ⟨w.heap.size + 1, 3, none⟩ = false := be.free 3; have be0 : w1.cell? ⟨w.heap.size + 1, 0, none⟩ = some (.int .u8 (0)) := be.cell 0; have be1 : w1.cell? ⟨w.heap.size + 1, 1, none⟩ = some (.bool (false)) := be.cell 1; have be2 : w1.cell? ⟨w.heap.size + 1, 2, none⟩ = some (.int .i64 (0)) := be.cell 2; have be3 : w1.cell? ⟨w.heap.size + 1, 3, none⟩ = some (.string (⟨#[]⟩)) := be.cell 3; have be4 := be.set4 (.int .u8 (3)) (.bool false) (.int .i64 u) (.string ⟨#[]⟩); have bed0 := be4.1; have bed1 := be4.2.1; have bed2 := be4.2.2.1; have bed3 := be4.2.2.2; have Y1s := Lib.hid (Y1.set4 (g := w.heap.size + 1) (by simp) (.int .u8 (3)) (.bool false) (.int .i64 u) (.string ⟨#[]⟩)); clear be4; have m2 : True := trivial)
          | (have z := m2; clear z m2; go_at_call 19; refine (refInt_any _ _).mono ?_; rintro r w2 ⟨rfl, x2⟩; have Y2 : Ext (w.alloc (.cells #[.int .u8 0, .bool false, .int .i64 0, .string ⟨#[]⟩] 47)) w2 := Y1s.out.trans x2; have bg : Bk w2 (w.heap.size + 1) 47 #[.int .u8 3, .bool false, .int .i64 u, .string ⟨#[]⟩] := ((((be.set 0 _).set 1 _).set 2 _).set 3 _).ext x2; have s2 := Y2.size; have bgf0 : w2.frozen? ⟨w.heap.size + 1, 0, none⟩ = false := bg.free 0; have bgf1 : w2.frozen? ⟨w.heap.size + 1, 1, none⟩ = false := bg.free 1; have bgf2 : w2.frozen? ⟨w.heap.size + 1, 2, none⟩ = false := bg.free 2; have bgf3 : w2.frozen? ⟨w.heap.size + 1, 3, none⟩ = false := bg.free 3; have bg0 : w2.cell? ⟨w.heap.size + 1, 0, none⟩ = some (.int .u8 (3)) := bg.cell 0; have bg1 : w2.cell? ⟨w.heap.size + 1, 1, none⟩ = some (.bool (false)) := bg.cell 1; have bg2 : w2.cell? ⟨w.heap.size + 1, 2, none⟩ = some (.int .i64 (u)) := bg.cell 2; have bg3 : w2.cell? ⟨w.heap.size + 1, 3, none⟩ = some (.string (⟨#[]⟩)) := bg.cell 3; have bg4 := bg.set4 (.int .u8 (3)) (.bool false) (.int .i64 v) (.string ⟨#[]⟩); have bgd0 := bg4.1; have bgd1 := bg4.2.1; have bgd2 := bg4.2.2.1; have bgd3 := bg4.2.2.2; have Y2s := Lib.hid (Y2.set4 (g := w.heap.size + 1) (by simp) (.int .u8 (3)) (.bool false) (.int .i64 v) (.string ⟨#[]⟩)); clear bg4)
          | (go_at_call 40; refine (rcheckK _ HC2 (by decide)).mono ?_; rintro r w3 ⟨rfl, x3⟩; have Y3 : Ext (w.alloc (.cells #[.int .u8 0, .bool false, .int .i64 0, .string ⟨#[]⟩] 47)) w3 := Y2s.out.trans x3; have bi : Bk w3 (w.heap.size + 1) 47 #[.int .u8 3, .bool false, .int .i64 v, .string ⟨#[]⟩] := ((((bg.set 0 _).set 1 _).set 2 _).set 3 _).ext x3; have bi0 : w3.cell? ⟨w.heap.size + 1, 0, none⟩ = some (.int .u8 (3)) := bi.cell 0; have bi1 : w3.cell? ⟨w.heap.size + 1, 1, none⟩ = some (.bool (false)) := bi.cell 1; have bi2 : w3.cell? ⟨w.heap.size + 1, 2, none⟩ = some (.int .i64 (v)) := bi.cell 2; have bi3 : w3.cell? ⟨w.heap.size + 1, 3, none⟩ = some (.string (⟨#[]⟩)) := bi.cell 3)
          | (go_at_call 41; refine (rprintK _ HP (by decide) HN.out).mono ?_; rintro r w4 ⟨rfl, x4⟩; have Y4 : Ext (w.alloc (.cells #[.int .u8 0, .bool false, .int .i64 0, .string ⟨#[]⟩] 47)) w4 := Y3.trans x4; have bj : Bk w4 (w.heap.size + 1) 47 #[.int .u8 3, .bool false, .int .i64 v, .string ⟨#[]⟩] := bi.ext x4; have bh : Bk w4 w.heap.size 47 #[.int .u8 0, .bool false, .int .i64 0, .string ⟨#[]⟩] := (Bk.new w _ _).ext Y4; have bj0 : w4.cell? ⟨w.heap.size + 1, 0, none⟩ = some (.int .u8 (3)) := bj.cell 0; have bj1 : w4.cell? ⟨w.heap.size + 1, 1, none⟩ = some (.bool (false)) := bj.cell 1; have bj2 : w4.cell? ⟨w.heap.size + 1, 2, none⟩ = some (.int .i64 (v)) := bj.cell 2; have bj3 : w4.cell? ⟨w.heap.size + 1, 3, none⟩ = some (.string (⟨#[]⟩)) := bj.cell 3; have bhf0 : w4.frozen? ⟨w.heap.size, 0, none⟩ = false := bh.free 0; have bhf1 : w4.frozen? ⟨w.heap.size, 1, none⟩ = false := bh.free 1; have bhf2 : w4.frozen? ⟨w.heap.size, 2, none⟩ = false := bh.free 2; have bhf3 : w4.frozen? ⟨w.heap.size, 3, none⟩ = false := bh.free 3; have bh0 : w4.cell? ⟨w.heap.size, 0, none⟩ = some (.int .u8 (0)) := bh.cell 0; have bh1 : w4.cell? ⟨w.heap.size, 1, none⟩ = some (.bool (false)) := bh.cell 1; have bh2 : w4.cell? ⟨w.heap.size, 2, none⟩ = some (.int .i64 (0)) := bh.cell 2; have bh3 : w4.cell? ⟨w.heap.size, 3, none⟩ = some (.string (⟨#[]⟩)) := bh.cell 3))
        have q := bh.set4 (.int .u8 (3)) (.bool (false)) (.int .i64 (v)) (.string (⟨#[]⟩)); refine bodyPost_ret (v := .tuple #[.agg #[.int .u8 (3), .bool (false), .int .i64 (v), .string (⟨#[]⟩)], .int .i64 (0)]) (by simp [results, Tryz.results18, go_sem, q.1, q.2.1, q.2.2.1, q.2.2.2]) rfl ⟨⟨3, false, v, ⟨#[]⟩⟩, 0, parse_on ⟨HC2.out, HN.out⟩ HP.out, rfl, Ext.set4 (((Ext.refl w).alloc _).trans Y4) (by first | omega | simp) _ _ _ _⟩
      · obtain ⟨p, hpp⟩ : ∃ p, printT 3 false v ⟨#[]⟩ = p := ⟨_, rfl⟩
        have HNo : Hid (¬ (Ok ⟨3, false, v, ⟨#[]⟩⟩ ∧ printT 3 false v ⟨#[]⟩ = s)) := Lib.hid fun h => hp h.2
        rw [hpp] at hp
        have HP := Lib.hid hpp
        have hpl : ¬ p.toList = s.toList := fun h => hp (data_inj (by rw [Lib.toList_data, Lib.toList_data] at h; exact h))
        have zp : (!(p.toList == s.toList)) = true := by simpa using hpl
        have zq : (p.toList == s.toList) = false := by simpa using hpl
        clear hpp
        have m1 : True := trivial
        go_wp2_with (first
          | (have z := m1; clear z m1; go_at_call 19; refine (refInt_any _ _).mono ?_; rintro r w1 ⟨rfl, x1⟩; have Y1 : Ext (w.alloc (.cells #[.int .u8 0, .bool false, .int .i64 0, .string ⟨#[]⟩] 47)) w1 := E0.trans x1; have be : Bk w1 (w.heap.size + 1) 47 #[.int .u8 0, .bool false, .int .i64 0, .string ⟨#[]⟩] := bd.ext x1; have s1 := Y1.size; have bef0 : w1.frozen? ⟨w.heap.size + 1, 0, none⟩ = false := be.free 0; have bef1 : w1.frozen? ⟨w.heap.size + 1, 1, none⟩ = false := be.free 1; have bef2 : w1.frozen? ⟨w.heap.size + 1, 2, none⟩ = false := be.free 2; have bef3 : w1.frozen? ⟨w.heap.size + 1, 3, none⟩ = false := be.free 3; have be0 : w1.cell? ⟨w.heap.size + 1, 0, none⟩ = some (.int .u8 (0)) := be.cell 0; have be1 : w1.cell? ⟨w.heap.size + 1, 1, none⟩ = some (.bool (false)) := be.cell 1; have be2 : w1.cell? ⟨w.heap.size + 1, 2, none⟩ = some (.int .i64 (0)) := be.cell 2; have be3 : w1.cell? ⟨w.heap.size + 1, 3, none⟩ = some (.string (⟨#[]⟩)) := be.cell 3; have be4 := be.set4 (.int .u8 (3)) (.bool false) (.int .i64 u) (.string ⟨#[]⟩); have bed0 := be4.1; have bed1 := be4.2.1; have bed2 := be4.2.2.1; have bed3 := be4.2.2.2; have Y1s := Lib.hid (Y1.set4 (g := w.heap.size + 1) (by simp) (.int .u8 (3)) (.bool false) (.int .i64 u) (.string ⟨#[]⟩)); clear be4; have m2 : True := trivial)
          | (have z := m2; clear z m2; go_at_call 19; refine (refInt_any _ _).mono ?_; rintro r w2 ⟨rfl, x2⟩; have Y2 : Ext (w.alloc (.cells #[.int .u8 0, .bool false, .int .i64 0, .string ⟨#[]⟩] 47)) w2 := Y1s.out.trans x2; have bg : Bk w2 (w.heap.size + 1) 47 #[.int .u8 3, .bool false, .int .i64 u, .string ⟨#[]⟩] := ((((be.set 0 _).set 1 _).set 2 _).set 3 _).ext x2; have s2 := Y2.size; have bgf0 : w2.frozen? ⟨w.heap.size + 1, 0, none⟩ = false := bg.free 0; have bgf1 : w2.frozen? ⟨w.heap.size + 1, 1, none⟩ = false := bg.free 1; have bgf2 : w2.frozen? ⟨w.heap.size + 1, 2, none⟩ = false := bg.free 2; have bgf3 : w2.frozen? ⟨w.heap.size + 1, 3, none⟩ = false := bg.free 3; have bg0 : w2.cell? ⟨w.heap.size + 1, 0, none⟩ = some (.int .u8 (3)) := bg.cell 0; have bg1 : w2.cell? ⟨w.heap.size + 1, 1, none⟩ = some (.bool (false)) := bg.cell 1; have bg2 : w2.cell? ⟨w.heap.size + 1, 2, none⟩ = some (.int .i64 (u)) := bg.cell 2; have bg3 : w2.cell? ⟨w.heap.size + 1, 3, none⟩ = some (.string (⟨#[]⟩)) := bg.cell 3; have bg4 := bg.set4 (.int .u8 (3)) (.bool false) (.int .i64 v) (.string ⟨#[]⟩); have bgd0 := bg4.1; have bgd1 := bg4.2.1; have bgd2 := bg4.2.2.1; have bgd3 := bg4.2.2.2; have Y2s := Lib.hid (Y2.set4 (g := w.heap.size + 1) (by simp) (.int .u8 (3)) (.bool false) (.int .i64 v) (.string ⟨#[]⟩)); clear bg4)
          | (go_at_call 40; refine (rcheckK _ HC2 (by decide)).mono ?_; rintro r w3 ⟨rfl, x3⟩; have Y3 : Ext (w.alloc (.cells #[.int .u8 0, .bool false, .int .i64 0, .string ⟨#[]⟩] 47)) w3 := Y2s.out.trans x3; have bi : Bk w3 (w.heap.size + 1) 47 #[.int .u8 3, .bool false, .int .i64 v, .string ⟨#[]⟩] := ((((bg.set 0 _).set 1 _).set 2 _).set 3 _).ext x3; have bi0 : w3.cell? ⟨w.heap.size + 1, 0, none⟩ = some (.int .u8 (3)) := bi.cell 0; have bi1 : w3.cell? ⟨w.heap.size + 1, 1, none⟩ = some (.bool (false)) := bi.cell 1; have bi2 : w3.cell? ⟨w.heap.size + 1, 2, none⟩ = some (.int .i64 (v)) := bi.cell 2; have bi3 : w3.cell? ⟨w.heap.size + 1, 3, none⟩ = some (.string (⟨#[]⟩)) := bi.cell 3)
          | (go_at_call 41; refine (rprintK _ HP (by decide) HN.out).mono ?_; rintro r w4 ⟨rfl, x4⟩; have Y4 : Ext (w.alloc (.cells #[.int .u8 0, .bool false, .int .i64 0, .string ⟨#[]⟩] 47)) w4 := Y3.trans x4; have bj : Bk w4 (w.heap.size + 1) 47 #[.int .u8 3, .bool false, .int .i64 v, .string ⟨#[]⟩] := bi.ext x4; have bh : Bk w4 w.heap.size 47 #[.int .u8 0, .bool false, .int .i64 0, .string ⟨#[]⟩] := (Bk.new w _ _).ext Y4; have bj0 : w4.cell? ⟨w.heap.size + 1, 0, none⟩ = some (.int .u8 (3)) := bj.cell 0; have bj1 : w4.cell? ⟨w.heap.size + 1, 1, none⟩ = some (.bool (false)) := bj.cell 1; have bj2 : w4.cell? ⟨w.heap.size + 1, 2, none⟩ = some (.int .i64 (v)) := bj.cell 2; have bj3 : w4.cell? ⟨w.heap.size + 1, 3, none⟩ = some (.string (⟨#[]⟩)) := bj.cell 3; have bhf0 : w4.frozen? ⟨w.heap.size, 0, none⟩ = false := bh.free 0; have bhf1 : w4.frozen? ⟨w.heap.size, 1, none⟩ = false := bh.free 1; have bhf2 : w4.frozen? ⟨w.heap.size, 2, none⟩ = false := bh.free 2; have bhf3 : w4.frozen? ⟨w.heap.size, 3, none⟩ = false := bh.free 3; have bh0 : w4.cell? ⟨w.heap.size, 0, none⟩ = some (.int .u8 (0)) := bh.cell 0; have bh1 : w4.cell? ⟨w.heap.size, 1, none⟩ = some (.bool (false)) := bh.cell 1; have bh2 : w4.cell? ⟨w.heap.size, 2, none⟩ = some (.int .i64 (0)) := bh.cell 2; have bh3 : w4.cell? ⟨w.heap.size, 3, none⟩ = some (.string (⟨#[]⟩)) := bh.cell 3))
        have q := bh.set4 (.int .u8 (0)) (.bool (false)) (.int .i64 (0)) (.string (⟨#[]⟩)); refine bodyPost_ret (v := .tuple #[.agg #[.int .u8 (0), .bool (false), .int .i64 (0), .string (⟨#[]⟩)], .int .i64 (13)]) (by simp [results, Tryz.results18, go_sem, q.1, q.2.1, q.2.2.1, q.2.2.2]) rfl ⟨⟨0, false, 0, ⟨#[]⟩⟩, 13, parse_off HK.out HNo.out, rfl, Ext.set4 (((Ext.refl w).alloc _).trans Y4) (by first | omega | simp) _ _ _ _⟩
set_option maxRecDepth 100000 in
set_option maxHeartbeats 8000000 in
theorem rparse_num_b0 (s : ByteArray) (w : World) (h1 : (s.toList == [110, 117, 108, 108]) = false) (h2 : (s.toList == [116, 114, 117, 101]) = false) (h3 : (s.toList == [102, 97, 108, 115, 101]) = false) (hc : ∀ x : Dat, Ok x → printT x.k x.b x.n x.s = s → ∃ v, In64 v ∧ s.data.toList = Lib.itoa v ∧ x = ⟨3, false, v, ⟨#[]⟩⟩) (h4 : 2 ≤ s.size) (h5 : s[0].toNat = 39) (h6 : ¬ s[s.size - 1].toNat = 39) (h0 : 0 < s.size) (h20 : s.size ≤ 20) (hsg : ¬ s[0].toNat = 45) : Calls Tryz.prog 18 #[.string s] w fun e w' => ∃ d x, ParseRel s d x ∧ RefOut w (d, x) e w' := by
  have HC := Lib.hid hc
  clear hc
  have z5 : ((s[0].toNat : Int) == 39) = true := by simp; omega
  have z6 : ((s[s.size - 1].toNat : Int) == 39) = false := by simp; omega
  have z45 : ((s[0].toNat : Int) == 45) = false := by simp; omega
  go_enter Tryz.func18, Tryz.ntmps18
  go_upto_region 12 with fail
  have bd : Bk ((w.alloc (.cells #[.int .u8 0, .bool false, .int .i64 0, .string ⟨#[]⟩] 47)).alloc (.cells #[.int .u8 0, .bool false, .int .i64 0, .string ⟨#[]⟩] 47)) (w.heap.size + 1) 47 #[.int .u8 0, .bool false, .int .i64 0, .string ⟨#[]⟩] := Bk.at (by simp)
  have E0 : Ext (w.alloc (.cells #[.int .u8 0, .bool false, .int .i64 0, .string ⟨#[]⟩] 47)) ((w.alloc (.cells #[.int .u8 0, .bool false, .int .i64 0, .string ⟨#[]⟩] 47)).alloc (.cells #[.int .u8 0, .bool false, .int .i64 0, .string ⟨#[]⟩] 47)) := (Ext.refl _).alloc _
  obtain ⟨w0, hw0⟩ : ∃ x, x = ((w.alloc (.cells #[.int .u8 0, .bool false, .int .i64 0, .string ⟨#[]⟩] 47)).alloc (.cells #[.int .u8 0, .bool false, .int .i64 0, .string ⟨#[]⟩] 47)) := ⟨_, rfl⟩
  rw [← hw0] at bd E0 ⊢
  clear hw0
  have bz : Bk w0 w.heap.size 47 #[.int .u8 0, .bool false, .int .i64 0, .string ⟨#[]⟩] := (Bk.new w _ _).ext E0
  have E1 : Ext w w0 := ((Ext.refl w).alloc _).trans E0
  have s0 := E0.size
  have bzf0 : w0.frozen? ⟨w.heap.size, 0, none⟩ = false := bz.free 0; have bzf1 : w0.frozen? ⟨w.heap.size, 1, none⟩ = false := bz.free 1; have bzf2 : w0.frozen? ⟨w.heap.size, 2, none⟩ = false := bz.free 2; have bzf3 : w0.frozen? ⟨w.heap.size, 3, none⟩ = false := bz.free 3
  have bz0 : w0.cell? ⟨w.heap.size, 0, none⟩ = some (.int .u8 (0)) := bz.cell 0; have bz1 : w0.cell? ⟨w.heap.size, 1, none⟩ = some (.bool (false)) := bz.cell 1; have bz2 : w0.cell? ⟨w.heap.size, 2, none⟩ = some (.int .i64 (0)) := bz.cell 2; have bz3 : w0.cell? ⟨w.heap.size, 3, none⟩ = some (.string (⟨#[]⟩)) := bz.cell 3
  have bdf0 : w0.frozen? ⟨w.heap.size + 1, 0, none⟩ = false := bd.free 0; have bdf1 : w0.frozen? ⟨w.heap.size + 1, 1, none⟩ = false := bd.free 1; have bdf2 : w0.frozen? ⟨w.heap.size + 1, 2, none⟩ = false := bd.free 2; have bdf3 : w0.frozen? ⟨w.heap.size + 1, 3, none⟩ = false := bd.free 3
  have bd0 : w0.cell? ⟨w.heap.size + 1, 0, none⟩ = some (.int .u8 (0)) := bd.cell 0; have bd1 : w0.cell? ⟨w.heap.size + 1, 1, none⟩ = some (.bool (false)) := bd.cell 1; have bd2 : w0.cell? ⟨w.heap.size + 1, 2, none⟩ = some (.int .i64 (0)) := bd.cell 2; have bd3 : w0.cell? ⟨w.heap.size + 1, 3, none⟩ = some (.string (⟨#[]⟩)) := bd.cell 3
  go_wp2
  have hN : Hid (NoCand s) := Lib.hid fun x hx hp => (by obtain ⟨v, _, q2, _⟩ := HC.out x hx hp; exact not_itoa h0 (fun q => hsg q.2) (by omega) v q2)
  go_loop [7, 8] (fun u v => u = .int .u64 0 ∧ v = .int .i64 0) (fun _ _ => 0)
  case atStart => exact ⟨rfl, rfl⟩
  case round =>
    obtain ⟨rfl, rfl⟩ := hrel
    have y1 : decide ((s[0].toNat : Int) < 48) = true := by simp; omega
    go_wp2
    have q := bz.set4 (.int .u8 (0)) (.bool (false)) (.int .i64 (0)) (.string (⟨#[]⟩)); refine bodyPost_ret (v := .tuple #[.agg #[.int .u8 (0), .bool (false), .int .i64 (0), .string (⟨#[]⟩)], .int .i64 (13)]) (by simp [results, Tryz.results18, go_sem, q.1, q.2.1, q.2.2.1, q.2.2.2]) rfl ⟨⟨0, false, 0, ⟨#[]⟩⟩, 13, .inr ⟨rfl, rfl, hN.out⟩, rfl, Ext.set4 E1 (by first | omega | simp) _ _ _ _⟩
end Go.Proofs.YtngeioghihbkeaaGreatDoor
namespace Go.Proofs.YtngeioghihbkeaaGreatDoor
open Go.RowKit

set_option maxRecDepth 100000 in
set_option maxHeartbeats 4000000 in
theorem rparse_text (s : ByteArray) (w : World) (hs : s.size ≤ 4000000) (h1 : (s.toList == [110, 117, 108, 108]) = false) (h2 : (s.toList == [116, 114, 117, 101]) = false) (h3 : (s.toList == [102, 97, 108, 115, 101]) = false) (h4 : 2 ≤ s.size) (h5 : s[0].toNat = 39) (h6 : s[s.size - 1].toNat = 39)
    (hc : ∀ (t : ByteArray) (ok : Bool), Unq (s.extract 1 (s.size - 1)) t ok → ∀ x : Dat, Ok x → printT x.k x.b x.n x.s = s → x = ⟨4, false, 0, t⟩ ∧ ok = true) :
    Calls Tryz.prog 18 #[.string s] w fun e w' => ∃ d x, ParseRel s d x ∧ RefOut w (d, x) e w' := by
  have z5 : ((s[0].toNat : Int) == 39) = true := by simp; omega
  have z6 : ((s[s.size - 1].toNat : Int) == 39) = true := by simp; omega
  have hz : (s.extract 1 (s.size - 1)).size ≤ s.size := by simp; omega
  have HZ := Lib.hid hz
  have HC := Lib.hid hc
  clear hc hz
  go_enter Tryz.func18, Tryz.ntmps18
  go_wp2_with fail
  refine (runq_any _ _ (by have := HZ.out; omega)).mono ?_
  rintro e w1 ⟨⟨t, ok, rfl, hu, ht⟩, x1⟩
  have HU := Lib.hid (HC.out t ok hu)
  have ht4 : t.size ≤ 4000000 := by have := HZ.out; omega
  have HT := Lib.hid ht4
  clear hu ht ht4
  have X1 : Ext (w.alloc (.cells #[.int .u8 0, .bool false, .int .i64 0, .string ⟨#[]⟩] 47)) w1 := ((Ext.refl _).alloc _).trans x1
  have bd : Bk w1 (w.heap.size + 1) 47 #[.int .u8 0, .bool false, .int .i64 0, .string ⟨#[]⟩] := (Bk.at (by simp)).ext x1
  have s1 := X1.size
  have bz : Bk w1 w.heap.size 47 #[.int .u8 0, .bool false, .int .i64 0, .string ⟨#[]⟩] := (Bk.new w _ _).ext X1
  cases ok
  · have hN : Hid (NoCand s) := Lib.hid fun x hx hp => (by cases (HU.out x hx hp).2)
    have bzf0 : w1.frozen? ⟨w.heap.size, 0, none⟩ = false := bz.free 0; have bzf1 : w1.frozen? ⟨w.heap.size, 1, none⟩ = false := bz.free 1; have bzf2 : w1.frozen? ⟨w.heap.size, 2, none⟩ = false := bz.free 2; have bzf3 : w1.frozen? ⟨w.heap.size, 3, none⟩ = false := bz.free 3
    have bz0 : w1.cell? ⟨w.heap.size, 0, none⟩ = some (.int .u8 (0)) := bz.cell 0; have bz1 : w1.cell? ⟨w.heap.size, 1, none⟩ = some (.bool (false)) := bz.cell 1; have bz2 : w1.cell? ⟨w.heap.size, 2, none⟩ = some (.int .i64 (0)) := bz.cell 2; have bz3 : w1.cell? ⟨w.heap.size, 3, none⟩ = some (.string (⟨#[]⟩)) := bz.cell 3
    have bd0 : w1.cell? ⟨w.heap.size + 1, 0, none⟩ = some (.int .u8 (0)) := bd.cell 0; have bd1 : w1.cell? ⟨w.heap.size + 1, 1, none⟩ = some (.bool (false)) := bd.cell 1; have bd2 : w1.cell? ⟨w.heap.size + 1, 2, none⟩ = some (.int .i64 (0)) := bd.cell 2; have bd3 : w1.cell? ⟨w.heap.size + 1, 3, none⟩ = some (.string (⟨#[]⟩)) := bd.cell 3
    go_wp2
    have q := bz.set4 (.int .u8 (0)) (.bool (false)) (.int .i64 (0)) (.string (⟨#[]⟩)); refine bodyPost_ret (v := .tuple #[.agg #[.int .u8 (0), .bool (false), .int .i64 (0), .string (⟨#[]⟩)], .int .i64 (13)]) (by simp [results, Tryz.results18, go_sem, q.1, q.2.1, q.2.2.1, q.2.2.2]) rfl ⟨⟨0, false, 0, ⟨#[]⟩⟩, 13, .inr ⟨rfl, rfl, hN.out⟩, rfl, Ext.set4 (((Ext.refl w).alloc _).trans X1) (by first | omega | simp) _ _ _ _⟩
  · have HK : Hid (Cand s ⟨4, false, 0, t⟩) := Lib.hid fun x hx hp => (HU.out x hx hp).1
    have hn : In64 0 := by decide
    have HN := Lib.hid hn
    clear hn
    by_cases hk : checkT 4 false 0 t = 0
    · have HC2 := Lib.hid hk
      clear hk
      by_cases hp : printT 4 false 0 t = s
      · have HP := Lib.hid hp
        clear hp
        go_wp2_with (first
        | (go_at_call 39; refine (refText_any _ _).mono ?_; rintro r w2 ⟨rfl, x2⟩; have Y1 : Ext (w.alloc (.cells #[.int .u8 0, .bool false, .int .i64 0, .string ⟨#[]⟩] 47)) w2 := X1.trans x2; have be : Bk w2 (w.heap.size + 1) 47 #[.int .u8 0, .bool false, .int .i64 0, .string ⟨#[]⟩] := bd.ext x2; have s2 := Y1.size; have bef0 : w2.frozen? ⟨w.heap.size + 1, 0, none⟩ = false := be.free 0; have bef1 : w2.frozen? ⟨w.heap.size + 1, 1, none⟩ = false := be.free 1; have bef2 : w2.frozen? ⟨w.heap.size + 1, 2, none⟩ = false := be.free 2; have bef3 : w2.frozen? ⟨w.heap.size + 1, 3, none⟩ = false := be.free 3; have be0 : w2.cell? ⟨w.heap.size + 1, 0, none⟩ = some (.int .u8 (0)) := be.cell 0; have be1 : w2.cell? ⟨w.heap.size + 1, 1, none⟩ = some (.bool (false)) := be.cell 1; have be2 : w2.cell? ⟨w.heap.size + 1, 2, none⟩ = some (.int .i64 (0)) := be.cell 2; have be3 : w2.cell? ⟨w.heap.size + 1, 3, none⟩ = some (.string (⟨#[]⟩)) := be.cell 3; have be4 := be.set4 (.int .u8 (4)) (.bool false) (.int .i64 0) (.string t); have d0 := be4.1; have d1 := be4.2.1; have d2 := be4.2.2.1; have d3 := be4.2.2.2; have X1s := Lib.hid (Y1.set4 (g := w.heap.size + 1) (by simp) (.int .u8 (4)) (.bool false) (.int .i64 0) (.string t)); clear be4)
        | (go_at_call 40; refine (rcheckK _ HC2 HT.out).mono ?_; rintro r w3 ⟨rfl, x3⟩; have X2 : Ext (w.alloc (.cells #[.int .u8 0, .bool false, .int .i64 0, .string ⟨#[]⟩] 47)) w3 := X1s.out.trans x3; have bf : Bk w3 (w.heap.size + 1) 47 #[.int .u8 4, .bool false, .int .i64 0, .string t] := ((((be.set 0 _).set 1 _).set 2 _).set 3 _).ext x3; have bf0 : w3.cell? ⟨w.heap.size + 1, 0, none⟩ = some (.int .u8 (4)) := bf.cell 0; have bf1 : w3.cell? ⟨w.heap.size + 1, 1, none⟩ = some (.bool (false)) := bf.cell 1; have bf2 : w3.cell? ⟨w.heap.size + 1, 2, none⟩ = some (.int .i64 (0)) := bf.cell 2; have bf3 : w3.cell? ⟨w.heap.size + 1, 3, none⟩ = some (.string (t)) := bf.cell 3)
        | (go_at_call 41; refine (rprintK _ HP HT.out HN.out).mono ?_; rintro r w4 ⟨rfl, x4⟩; have X3 : Ext (w.alloc (.cells #[.int .u8 0, .bool false, .int .i64 0, .string ⟨#[]⟩] 47)) w4 := X2.trans x4; have bg : Bk w4 (w.heap.size + 1) 47 #[.int .u8 4, .bool false, .int .i64 0, .string t] := bf.ext x4; have bh : Bk w4 w.heap.size 47 #[.int .u8 0, .bool false, .int .i64 0, .string ⟨#[]⟩] := (Bk.new w _ _).ext X3; have bg0 : w4.cell? ⟨w.heap.size + 1, 0, none⟩ = some (.int .u8 (4)) := bg.cell 0; have bg1 : w4.cell? ⟨w.heap.size + 1, 1, none⟩ = some (.bool (false)) := bg.cell 1; have bg2 : w4.cell? ⟨w.heap.size + 1, 2, none⟩ = some (.int .i64 (0)) := bg.cell 2; have bg3 : w4.cell? ⟨w.heap.size + 1, 3, none⟩ = some (.string (t)) := bg.cell 3; have bhf0 : w4.frozen? ⟨w.heap.size, 0, none⟩ = false := bh.free 0; have bhf1 : w4.frozen? ⟨w.heap.size, 1, none⟩ = false := bh.free 1; have bhf2 : w4.frozen? ⟨w.heap.size, 2, none⟩ = false := bh.free 2; have bhf3 : w4.frozen? ⟨w.heap.size, 3, none⟩ = false := bh.free 3; have bh0 : w4.cell? ⟨w.heap.size, 0, none⟩ = some (.int .u8 (0)) := bh.cell 0; have bh1 : w4.cell? ⟨w.heap.size, 1, none⟩ = some (.bool (false)) := bh.cell 1; have bh2 : w4.cell? ⟨w.heap.size, 2, none⟩ = some (.int .i64 (0)) := bh.cell 2; have bh3 : w4.cell? ⟨w.heap.size, 3, none⟩ = some (.string (⟨#[]⟩)) := bh.cell 3))
        have q := bh.set4 (.int .u8 (4)) (.bool (false)) (.int .i64 (0)) (.string (t)); refine bodyPost_ret (v := .tuple #[.agg #[.int .u8 (4), .bool (false), .int .i64 (0), .string (t)], .int .i64 (0)]) (by simp [results, Tryz.results18, go_sem, q.1, q.2.1, q.2.2.1, q.2.2.2]) rfl ⟨⟨4, false, 0, t⟩, 0, parse_on ⟨HC2.out, HN.out⟩ HP.out, rfl, Ext.set4 (((Ext.refl w).alloc _).trans X3) (by first | omega | simp) _ _ _ _⟩
      · obtain ⟨p, hpp⟩ : ∃ p, printT 4 false 0 t = p := ⟨_, rfl⟩
        have HNo : Hid (¬ (Ok ⟨4, false, 0, t⟩ ∧ printT 4 false 0 t = s)) := Lib.hid fun h => hp h.2
        rw [hpp] at hp
        have HP := Lib.hid hpp
        have hpl : ¬ p.toList = s.toList := fun h => hp (data_inj (by rw [Lib.toList_data, Lib.toList_data] at h; exact h))
        have zp : (!(p.toList == s.toList)) = true := by simpa using hpl
        have zq : (p.toList == s.toList) = false := by simpa using hpl
        clear hpp
        go_wp2_with (first
        | (go_at_call 39; refine (refText_any _ _).mono ?_; rintro r w2 ⟨rfl, x2⟩; have Y1 : Ext (w.alloc (.cells #[.int .u8 0, .bool false, .int .i64 0, .string ⟨#[]⟩] 47)) w2 := X1.trans x2; have be : Bk w2 (w.heap.size + 1) 47 #[.int .u8 0, .bool false, .int .i64 0, .string ⟨#[]⟩] := bd.ext x2; have s2 := Y1.size; have bef0 : w2.frozen? ⟨w.heap.size + 1, 0, none⟩ = false := be.free 0; have bef1 : w2.frozen? ⟨w.heap.size + 1, 1, none⟩ = false := be.free 1; have bef2 : w2.frozen? ⟨w.heap.size + 1, 2, none⟩ = false := be.free 2; have bef3 : w2.frozen? ⟨w.heap.size + 1, 3, none⟩ = false := be.free 3; have be0 : w2.cell? ⟨w.heap.size + 1, 0, none⟩ = some (.int .u8 (0)) := be.cell 0; have be1 : w2.cell? ⟨w.heap.size + 1, 1, none⟩ = some (.bool (false)) := be.cell 1; have be2 : w2.cell? ⟨w.heap.size + 1, 2, none⟩ = some (.int .i64 (0)) := be.cell 2; have be3 : w2.cell? ⟨w.heap.size + 1, 3, none⟩ = some (.string (⟨#[]⟩)) := be.cell 3; have be4 := be.set4 (.int .u8 (4)) (.bool false) (.int .i64 0) (.string t); have d0 := be4.1; have d1 := be4.2.1; have d2 := be4.2.2.1; have d3 := be4.2.2.2; have X1s := Lib.hid (Y1.set4 (g := w.heap.size + 1) (by simp) (.int .u8 (4)) (.bool false) (.int .i64 0) (.string t)); clear be4)
        | (go_at_call 40; refine (rcheckK _ HC2 HT.out).mono ?_; rintro r w3 ⟨rfl, x3⟩; have X2 : Ext (w.alloc (.cells #[.int .u8 0, .bool false, .int .i64 0, .string ⟨#[]⟩] 47)) w3 := X1s.out.trans x3; have bf : Bk w3 (w.heap.size + 1) 47 #[.int .u8 4, .bool false, .int .i64 0, .string t] := ((((be.set 0 _).set 1 _).set 2 _).set 3 _).ext x3; have bf0 : w3.cell? ⟨w.heap.size + 1, 0, none⟩ = some (.int .u8 (4)) := bf.cell 0; have bf1 : w3.cell? ⟨w.heap.size + 1, 1, none⟩ = some (.bool (false)) := bf.cell 1; have bf2 : w3.cell? ⟨w.heap.size + 1, 2, none⟩ = some (.int .i64 (0)) := bf.cell 2; have bf3 : w3.cell? ⟨w.heap.size + 1, 3, none⟩ = some (.string (t)) := bf.cell 3)
        | (go_at_call 41; refine (rprintK _ HP HT.out HN.out).mono ?_; rintro r w4 ⟨rfl, x4⟩; have X3 : Ext (w.alloc (.cells #[.int .u8 0, .bool false, .int .i64 0, .string ⟨#[]⟩] 47)) w4 := X2.trans x4; have bg : Bk w4 (w.heap.size + 1) 47 #[.int .u8 4, .bool false, .int .i64 0, .string t] := bf.ext x4; have bh : Bk w4 w.heap.size 47 #[.int .u8 0, .bool false, .int .i64 0, .string ⟨#[]⟩] := (Bk.new w _ _).ext X3; have bg0 : w4.cell? ⟨w.heap.size + 1, 0, none⟩ = some (.int .u8 (4)) := bg.cell 0; have bg1 : w4.cell? ⟨w.heap.size + 1, 1, none⟩ = some (.bool (false)) := bg.cell 1; have bg2 : w4.cell? ⟨w.heap.size + 1, 2, none⟩ = some (.int .i64 (0)) := bg.cell 2; have bg3 : w4.cell? ⟨w.heap.size + 1, 3, none⟩ = some (.string (t)) := bg.cell 3; have bhf0 : w4.frozen? ⟨w.heap.size, 0, none⟩ = false := bh.free 0; have bhf1 : w4.frozen? ⟨w.heap.size, 1, none⟩ = false := bh.free 1; have bhf2 : w4.frozen? ⟨w.heap.size, 2, none⟩ = false := bh.free 2; have bhf3 : w4.frozen? ⟨w.heap.size, 3, none⟩ = false := bh.free 3; have bh0 : w4.cell? ⟨w.heap.size, 0, none⟩ = some (.int .u8 (0)) := bh.cell 0; have bh1 : w4.cell? ⟨w.heap.size, 1, none⟩ = some (.bool (false)) := bh.cell 1; have bh2 : w4.cell? ⟨w.heap.size, 2, none⟩ = some (.int .i64 (0)) := bh.cell 2; have bh3 : w4.cell? ⟨w.heap.size, 3, none⟩ = some (.string (⟨#[]⟩)) := bh.cell 3))
        have q := bh.set4 (.int .u8 (0)) (.bool (false)) (.int .i64 (0)) (.string (⟨#[]⟩)); refine bodyPost_ret (v := .tuple #[.agg #[.int .u8 (0), .bool (false), .int .i64 (0), .string (⟨#[]⟩)], .int .i64 (13)]) (by simp [results, Tryz.results18, go_sem, q.1, q.2.1, q.2.2.1, q.2.2.2]) rfl ⟨⟨0, false, 0, ⟨#[]⟩⟩, 13, parse_off HK.out HNo.out, rfl, Ext.set4 (((Ext.refl w).alloc _).trans X3) (by first | omega | simp) _ _ _ _⟩
    · obtain ⟨c, hcc⟩ : ∃ c, checkT 4 false 0 t = c := ⟨_, rfl⟩
      have HNo : Hid (¬ (Ok ⟨4, false, 0, t⟩ ∧ printT 4 false 0 t = s)) := Lib.hid fun h => hk h.1.1
      rw [hcc] at hk
      have HC2 := Lib.hid hcc
      have zc : (c != 0) = true := by simpa using hk
      have zd : (c == 0) = false := by simpa using hk
      clear hcc
      go_wp2_with (first
        | (go_at_call 39; refine (refText_any _ _).mono ?_; rintro r w2 ⟨rfl, x2⟩; have Y1 : Ext (w.alloc (.cells #[.int .u8 0, .bool false, .int .i64 0, .string ⟨#[]⟩] 47)) w2 := X1.trans x2; have be : Bk w2 (w.heap.size + 1) 47 #[.int .u8 0, .bool false, .int .i64 0, .string ⟨#[]⟩] := bd.ext x2; have s2 := Y1.size; have bef0 : w2.frozen? ⟨w.heap.size + 1, 0, none⟩ = false := be.free 0; have bef1 : w2.frozen? ⟨w.heap.size + 1, 1, none⟩ = false := be.free 1; have bef2 : w2.frozen? ⟨w.heap.size + 1, 2, none⟩ = false := be.free 2; have bef3 : w2.frozen? ⟨w.heap.size + 1, 3, none⟩ = false := be.free 3; have be0 : w2.cell? ⟨w.heap.size + 1, 0, none⟩ = some (.int .u8 (0)) := be.cell 0; have be1 : w2.cell? ⟨w.heap.size + 1, 1, none⟩ = some (.bool (false)) := be.cell 1; have be2 : w2.cell? ⟨w.heap.size + 1, 2, none⟩ = some (.int .i64 (0)) := be.cell 2; have be3 : w2.cell? ⟨w.heap.size + 1, 3, none⟩ = some (.string (⟨#[]⟩)) := be.cell 3; have be4 := be.set4 (.int .u8 (4)) (.bool false) (.int .i64 0) (.string t); have d0 := be4.1; have d1 := be4.2.1; have d2 := be4.2.2.1; have d3 := be4.2.2.2; have X1s := Lib.hid (Y1.set4 (g := w.heap.size + 1) (by simp) (.int .u8 (4)) (.bool false) (.int .i64 0) (.string t)); clear be4)
        | (go_at_call 40; refine (rcheckK _ HC2 HT.out).mono ?_; rintro r w3 ⟨rfl, x3⟩; have X2 : Ext (w.alloc (.cells #[.int .u8 0, .bool false, .int .i64 0, .string ⟨#[]⟩] 47)) w3 := X1s.out.trans x3; have bf : Bk w3 (w.heap.size + 1) 47 #[.int .u8 4, .bool false, .int .i64 0, .string t] := ((((be.set 0 _).set 1 _).set 2 _).set 3 _).ext x3; have bf0 : w3.cell? ⟨w.heap.size + 1, 0, none⟩ = some (.int .u8 (4)) := bf.cell 0; have bf1 : w3.cell? ⟨w.heap.size + 1, 1, none⟩ = some (.bool (false)) := bf.cell 1; have bf2 : w3.cell? ⟨w.heap.size + 1, 2, none⟩ = some (.int .i64 (0)) := bf.cell 2; have bf3 : w3.cell? ⟨w.heap.size + 1, 3, none⟩ = some (.string (t)) := bf.cell 3; have bh : Bk w3 w.heap.size 47 #[.int .u8 0, .bool false, .int .i64 0, .string ⟨#[]⟩] := (Bk.new w _ _).ext X2; have bhf0 : w3.frozen? ⟨w.heap.size, 0, none⟩ = false := bh.free 0; have bhf1 : w3.frozen? ⟨w.heap.size, 1, none⟩ = false := bh.free 1; have bhf2 : w3.frozen? ⟨w.heap.size, 2, none⟩ = false := bh.free 2; have bhf3 : w3.frozen? ⟨w.heap.size, 3, none⟩ = false := bh.free 3; have bh0 : w3.cell? ⟨w.heap.size, 0, none⟩ = some (.int .u8 (0)) := bh.cell 0; have bh1 : w3.cell? ⟨w.heap.size, 1, none⟩ = some (.bool (false)) := bh.cell 1; have bh2 : w3.cell? ⟨w.heap.size, 2, none⟩ = some (.int .i64 (0)) := bh.cell 2; have bh3 : w3.cell? ⟨w.heap.size, 3, none⟩ = some (.string (⟨#[]⟩)) := bh.cell 3))
      have q := bh.set4 (.int .u8 (0)) (.bool (false)) (.int .i64 (0)) (.string (⟨#[]⟩)); refine bodyPost_ret (v := .tuple #[.agg #[.int .u8 (0), .bool (false), .int .i64 (0), .string (⟨#[]⟩)], .int .i64 (13)]) (by simp [results, Tryz.results18, go_sem, q.1, q.2.1, q.2.2.1, q.2.2.2]) rfl ⟨⟨0, false, 0, ⟨#[]⟩⟩, 13, parse_off HK.out HNo.out, rfl, Ext.set4 (((Ext.refl w).alloc _).trans X2) (by first | omega | simp) _ _ _ _⟩
end Go.Proofs.YtngeioghihbkeaaGreatDoor
namespace Go.Proofs.YtngeioghihbkeaaGreatDoor
open Go.RowKit

theorem rparse_any (s : ByteArray) (w : World) (hs : s.size ≤ 4000000) :
    Calls Tryz.prog 18 #[.string s] w fun e w' => ∃ d x, ParseRel s d x ∧ RefOut w (d, x) e w' := by
  by_cases wnull : s = ⟨#[110, 117, 108, 108]⟩
  · subst wnull
    exact (rparse_null w).mono fun _ _ h => ⟨_, _, parse_on ⟨by decide +kernel, by decide⟩ (by decide +kernel), h⟩
  by_cases wtrue : s = ⟨#[116, 114, 117, 101]⟩
  · subst wtrue
    exact (rparse_true w).mono fun _ _ h => ⟨_, _, parse_on ⟨by decide +kernel, by decide⟩ (by decide +kernel), h⟩
  by_cases wfalse : s = ⟨#[102, 97, 108, 115, 101]⟩
  · subst wfalse
    exact (rparse_false w).mono fun _ _ h => ⟨_, _, parse_on ⟨by decide +kernel, by decide⟩ (by decide +kernel), h⟩
  have h1 := word_no (l := [110, 117, 108, 108]) wnull
  have h2 := word_no (l := [116, 114, 117, 101]) wtrue
  have h3 := word_no (l := [102, 97, 108, 115, 101]) wfalse
  have n1 : ¬ s.data.toList = [110, 117, 108, 108] := fun e => wnull (data_inj e)
  have n2 : ¬ s.data.toList = Lib.formatBool true := fun e => wtrue (data_inj e)
  have n3 : ¬ s.data.toList = Lib.formatBool false := fun e => wfalse (data_inj e)
  have pos : ∀ m, s.data.toList = 39 :: (m ++ [39]) → 0 < s.size := fun m e => by
    have q : s.data.toList.length = s.size := by simp
    rw [e] at q
    simp at q
    omega
  by_cases h4 : 2 ≤ s.size
  · by_cases h5 : s[0].toNat = 39
    · by_cases h6 : s[s.size - 1].toNat = 39
      · exact rparse_text s w hs h1 h2 h3 h4 h5 h6 (fun t ok hu => cand_text (quote_of h4 h5 h6) hu)
      · have hc := cand_itoa n1 n2 n3 (fun m e => h6 (quote_last (pos m e) e).2.2)
        by_cases hz : s.size = 0 ∨ 20 < s.size
        · exact rparse_none_b s w hs h1 h2 h3 hc h4 h5 h6 (by omega)
        · exact rparse_num_b0 s w h1 h2 h3 hc h4 h5 h6 (by omega) (by omega) (by omega)
    · have hc := cand_itoa n1 n2 n3 (fun m e => h5 (quote_last (pos m e) e).2.1)
      by_cases hz : s.size = 0 ∨ 20 < s.size
      · exact rparse_none_a s w hs h1 h2 h3 hc h4 h5 (by omega)
      · by_cases hsg : s[0].toNat = 45
        · exact rparse_num_a1 s w h1 h2 h3 hc h4 h5 (by omega) (by omega) hsg
        · exact rparse_num_a0 s w h1 h2 h3 hc h4 h5 (by omega) (by omega) hsg
  · have hc := cand_itoa n1 n2 n3 (fun m e => h4 (quote_last (pos m e) e).1)
    by_cases hz : s.size = 0 ∨ 20 < s.size
    · exact rparse_none_c s w hs h1 h2 h3 hc (by omega) (by omega)
    · have h0 : 0 < s.size := by omega
      by_cases hsg : s[0].toNat = 45
      · exact rparse_num_c1 s w h1 h2 h3 hc (by omega) h0 (by omega) hsg
      · exact rparse_num_c0 s w h1 h2 h3 hc (by omega) h0 (by omega) hsg
end Go.Proofs.YtngeioghihbkeaaGreatDoor
namespace Go.Proofs.YtngeioghihbkeaaGreatDoor
open Go.RowKit

theorem rparse_at (s t : ByteArray) (k n x : Int) (b : Bool) (w : World) (hs : s.size ≤ 4000000) (h : Hid (ParseRel s ⟨k, b, n, t⟩ x)) :
    Calls Tryz.prog 18 #[.string s] w fun e w' => e = .returned (.tuple #[.agg #[.int .u8 k, .bool b, .int .i64 n, .string t], .int .i64 x]) ∧ Ext w w' :=
  (rparse_any s w hs).mono fun e w' ⟨d, y, h1, h2, h3⟩ => by
    obtain ⟨rfl, rfl⟩ := rel_unique h1 h.out
    exact ⟨h2, h3⟩
end Go.Proofs.YtngeioghihbkeaaGreatDoor
