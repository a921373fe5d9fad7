/- penstockref02.end, Parse: what they answer. Conditions: the text is not too long. -/
import Derived.Test.YtngeioghihbkeaaGreatDoorRowParsA
import Derived.Test.YtngeioghihbkeaaGreatDoorRParsAll
namespace Go.Proofs.YtngeioghihbkeaaGreatDoor
open Go.RowKit

theorem upL_byte : ∀ (n : Nat) (q : Bool) (r : List UInt8) (k : Nat), r.length ≤ n → upL q r = some k → ∃ c t, r.drop k = c :: t ∧ (c = 44 ∨ c = 41)
  | n, q, [], k, _, h => by rw [upL_nil] at h; cases h
  | 0, q, c :: r, k, hn, h => by simp at hn
  | n + 1, q, c :: r, k, hn, h => by
    rw [List.length_cons] at hn
    rw [upL.eq_def] at h
    simp only at h
    split at h
    · cases hq : upL (!q) r with
      | none => rw [hq] at h; cases h
      | some j =>
        rw [hq] at h
        simp only [Option.map_some, Option.some.injEq] at h
        subst h
        exact upL_byte n _ r j (by omega) hq
    · split at h
      · cases r with
        | nil => cases h
        | cons c' r' =>
          simp only at h
          cases hq : upL q r' with
          | none => rw [hq] at h; cases h
          | some j =>
            rw [hq] at h
            simp only [Option.map_some, Option.some.injEq] at h
            subst h
            rw [List.length_cons] at hn
            exact upL_byte n _ r' j (by omega) hq
      · split at h
        · rename_i hc
          injection h with h
          subst h
          exact ⟨c, r, rfl, hc.2⟩
        · cases hq : upL q r with
          | none => rw [hq] at h; cases h
          | some j =>
            rw [hq] at h
            simp only [Option.map_some, Option.some.injEq] at h
            subst h
            exact upL_byte n _ r j (by omega) hq
/-- the number that end answers with -/
def endI (l : List UInt8) (j : Nat) : Int := match upL false (l.drop j) with | none => -1 | some k => (j + k : Nat)
set_option maxRecDepth 100000 in
set_option maxHeartbeats 4000000 in
theorem end_any (s : ByteArray) (j : Nat) (w : World) (hs : s.size ≤ 4000000) (hj : j ≤ s.size + 1) :
    Calls Tryz.prog 17 #[.string s, .int .i64 j] w fun e w' => e = .returned (.int .i64 (endI s.data.toList j)) ∧ Ext w w' := by
  go_enter Tryz.func17, Tryz.ntmps17
  go_wp2
  go_loopg [1, 5] (s.size + 2 - j) (fun z u v wr => ∃ (q : Bool) (i : Nat), z = s.size + 2 - i ∧ j ≤ i ∧ i ≤ s.size + 1 ∧ v = .bool q ∧ u = .int .i64 i ∧ Hid ((upL false (s.data.toList.drop j)).map (· + j) = (upL q (s.data.toList.drop i)).map (· + i)) ∧ Hid (Ext w wr))
  case atStart => exact ⟨false, j, by omega, Nat.le_refl _, hj, rfl, rfl, Lib.hid rfl, Lib.hid (Ext.refl w)⟩
  case round =>
    obtain ⟨q, i, hz, hji, hi, rfl, rfl, HQ, ER⟩ := hrel
    have HZ := Lib.hid hz
    clear hz
    by_cases hlt : i < s.size
    · have HD := Lib.hid (drop_data hlt)
      by_cases c92 : s[i].toNat = 92
      · cases q with
        | true =>
          have HU : Hid ((upL false (s.data.toList.drop j)).map (· + j) = (upL true (s.data.toList.drop (i + 2))).map (· + (i + 2))) := Lib.hid (by
            rw [HQ.out, HD.out, byte_is (by decide) c92, show UInt8.ofNat 92 = 92 from rfl]
            by_cases h2 : i + 1 < s.size
            · rw [drop_data h2, upL_back, map_add, Nat.add_comm 2 i]
            · rw [drop_end (by omega), drop_end (by omega), upL_back_end, upL_nil]
              rfl)
          go_wp2
          go_roundg (s.size + 2 - (i + 2))
          case measure => have := HZ.out; omega
          case rel => exact ⟨true, i + 2, rfl, by omega, by omega, rfl, by go_num, HU, ER⟩
        | false =>
          have HU : Hid ((upL false (s.data.toList.drop j)).map (· + j) = (upL false (s.data.toList.drop (i + 1))).map (· + (i + 1))) := Lib.hid (by
            rw [HQ.out, HD.out, byte_is (by decide) c92, show UInt8.ofNat 92 = 92 from rfl, upL_out _ (by decide) (by decide), map_add, Nat.add_comm 1 i])
          go_wp2
          go_roundg (s.size + 2 - (i + 1))
          case measure => have := HZ.out; omega
          case rel => exact ⟨false, i + 1, rfl, by omega, by omega, rfl, by go_num, HU, ER⟩
      · have z92 : ((s[i].toNat : Int) == 92) = false := by simp; omega
        by_cases c39 : s[i].toNat = 39
        · have HU : Hid ((upL false (s.data.toList.drop j)).map (· + j) = (upL (!q) (s.data.toList.drop (i + 1))).map (· + (i + 1))) := Lib.hid (by
            rw [HQ.out, HD.out, byte_is (by decide) c39, show UInt8.ofNat 39 = 39 from rfl, upL_quote, map_add, Nat.add_comm 1 i])
          cases q with
          | true =>
            go_wp2
            go_roundg (s.size + 2 - (i + 1))
            case measure => have := HZ.out; omega
            case rel => exact ⟨false, i + 1, rfl, by omega, by omega, rfl, by go_num, HU, ER⟩
          | false =>
            go_wp2
            go_roundg (s.size + 2 - (i + 1))
            case measure => have := HZ.out; omega
            case rel => exact ⟨true, i + 1, rfl, by omega, by omega, rfl, by go_num, HU, ER⟩
        · have z39 : ((s[i].toNat : Int) == 39) = false := by simp; omega
          cases q with
          | true =>
            have HU : Hid ((upL false (s.data.toList.drop j)).map (· + j) = (upL true (s.data.toList.drop (i + 1))).map (· + (i + 1))) := Lib.hid (by
              rw [HQ.out, HD.out, upL_in _ (byte_not (by exact c39)) (byte_not (by exact c92)), map_add, Nat.add_comm 1 i])
            go_wp2
            go_roundg (s.size + 2 - (i + 1))
            case measure => have := HZ.out; omega
            case rel => exact ⟨true, i + 1, rfl, by omega, by omega, rfl, by go_num, HU, ER⟩
          | false =>
            by_cases c44 : s[i].toNat = 44
            · have HU : Hid (endI s.data.toList j = i) := Lib.hid (by
                have h := HQ.out
                rw [HD.out, byte_is (by decide) c44, show UInt8.ofNat 44 = 44 from rfl, upL_end _ (.inl rfl)] at h
                unfold endI
                cases hu : upL false (s.data.toList.drop j) with
                | none => rw [hu] at h; cases h
                | some k => rw [hu] at h; simp at h; simp; omega)
              go_wp2
              go_ret
              exact ⟨by rw [HU.out]; rfl, ER.out⟩
            · by_cases c41 : s[i].toNat = 41
              · have HU : Hid (endI s.data.toList j = i) := Lib.hid (by
                  have h := HQ.out
                  rw [HD.out, byte_is (by decide) c41, show UInt8.ofNat 41 = 41 from rfl, upL_end _ (.inr rfl)] at h
                  unfold endI
                  cases hu : upL false (s.data.toList.drop j) with
                  | none => rw [hu] at h; cases h
                  | some k => rw [hu] at h; simp at h; simp; omega)
                go_wp2
                go_ret
                exact ⟨by rw [HU.out]; rfl, ER.out⟩
              · have HU : Hid ((upL false (s.data.toList.drop j)).map (· + j) = (upL false (s.data.toList.drop (i + 1))).map (· + (i + 1))) := Lib.hid (by
                  rw [HQ.out, HD.out, upL_out _ (byte_not (by exact c39)) (fun e => e.elim (byte_not (by exact c44)) (byte_not (by exact c41))), map_add, Nat.add_comm 1 i])
                have z44 : ((s[i].toNat : Int) == 44) = false := by simp; omega
                have z41 : ((s[i].toNat : Int) == 41) = false := by simp; omega
                go_wp2
                go_roundg (s.size + 2 - (i + 1))
                case measure => have := HZ.out; omega
                case rel => exact ⟨false, i + 1, rfl, by omega, by omega, rfl, by go_num, HU, ER⟩
    · have HU : Hid (endI s.data.toList j = -1) := Lib.hid (by
        have h := HQ.out
        rw [drop_end (s := s) (i := i) (by omega), upL_nil] at h
        unfold endI
        cases hu : upL false (s.data.toList.drop j) with
        | none => rfl
        | some k => rw [hu] at h; cases h)
      go_wp2
      go_ret
      exact ⟨by rw [HU.out]; rfl, ER.out⟩
theorem end_lit {v : Int} (s : ByteArray) (j : Nat) (w : World) (hs : s.size ≤ 4000000) (hj : j ≤ s.size + 1) (hv : Hid (endI s.data.toList j = v)) :
    Calls Tryz.prog 17 #[.string s, .int .i64 j] w fun e w' => e = .returned (.int .i64 v) ∧ Ext w w' := hv.out ▸ end_any s j w hs hj
theorem ext_mid (s : ByteArray) (i k : Nat) : (s.extract i (i + k)).data.toList = (s.data.toList.drop i).take k := by
  have := ByteArray.data_extract (a := s) (b := i) (e := i + k)
  rw [this, Array.toList_extract]
  simp only [List.extract]
  rw [show i + k - i = k by omega]
/-- what Parse answers -/
def RParOut (w : World) (xs : List UInt8) (e : Ending) (w' : World) : Prop := ∃ A c, e = .returned (.tuple #[.slice A (parseL xs).length c, .int .i64 (parseE xs)]) ∧ Rw w' A c (parseL xs) ∧ Ext w w'
theorem RParOut.no {w w' : World} {xs : List UInt8} (h : parseV xs = none) (x : Ext w w') : RParOut w xs (.returned (.tuple #[.slice none 0 0, .int .i64 20])) w' := by
  unfold RParOut
  rw [parseL_none h, parseE_none h]
  exact ⟨none, 0, rfl, Rw.nil _, x⟩
theorem parse_small {s : ByteArray} (h : ¬ s = ⟨[40, 41].toArray⟩) (h3 : s.size < 3) : parseV s.data.toList = none := by
  have hl : s.data.toList.length = s.size := by simp
  have hne : ¬ s.data.toList = [40, 41] := fun e => h (data_inj e)
  unfold parseV
  rw [if_neg hne]
  split
  · rename_i r e
    rw [e, List.length_cons] at hl
    have : rowQ r = none := by
      rw [rowQ_step]
      cases hu : upL false r with
      | none => rfl
      | some k =>
        have hk := upL_lt _ _ _ hu
        have : k = 0 := by omega
        subst this
        simp only [Option.bind_some, List.take_zero]
        rw [pDat_nil]
        rfl
    rw [this]
    rfl
  · rfl
theorem parse_other {s : ByteArray} (h : 0 < s.size) (h0 : ¬ s[0].toNat = 40) : parseV s.data.toList = none := by
  have hd := drop_data (s := s) (i := 0) h
  rw [List.drop_zero] at hd
  unfold parseV
  rw [if_neg (fun e => h0 (by rw [e] at hd; injection hd with e1 _; rw [← e1]; rfl))]
  split
  · rename_i r e
    rw [e] at hd
    injection hd with e1 _
    exact absurd (by rw [← e1]; rfl) h0
  · rfl
set_option maxRecDepth 100000 in
set_option maxHeartbeats 400000 in
theorem rpar_unit (w : World) : Calls Tryz.prog 6 #[.string ⟨#[40, 41]⟩] w (RParOut w [40, 41]) := by
  go_enter Tryz.func6, Tryz.ntmps6
  go_wp2
  go_ret2
  have h : parseV [40, 41] = some [] := rfl
  unfold RParOut
  rw [parseL_some h, parseE_some h]
  exact ⟨none, 0, rfl, Rw.nil _, Ext.refl _⟩
set_option maxRecDepth 100000 in
set_option maxHeartbeats 400000 in
theorem rpar_short (s : ByteArray) (w : World) (h : ¬ s = ⟨[40, 41].toArray⟩) (h3 : s.size < 3) : Calls Tryz.prog 6 #[.string s] w (RParOut w s.data.toList) := by
  have hw := word_no h
  have HV := Lib.hid (parse_small h h3)
  clear h
  go_enter Tryz.func6, Tryz.ntmps6
  go_wp2
  go_ret2
  exact RParOut.no HV.out (Ext.refl _)
set_option maxRecDepth 100000 in
set_option maxHeartbeats 400000 in
theorem rpar_open (s : ByteArray) (w : World) (h : ¬ s = ⟨[40, 41].toArray⟩) (h3 : 3 ≤ s.size) (h9 : s.size ≤ 4000000) (h0 : ¬ s[0].toNat = 40) : Calls Tryz.prog 6 #[.string s] w (RParOut w s.data.toList) := by
  have hw := word_no h
  have HV := Lib.hid (parse_other (by omega) h0)
  have z0 : ((s[0].toNat : Int) == 40) = false := by simp; omega
  have z1 : ((s[0].toNat : Int) != 40) = true := by simp; omega
  clear h
  go_enter Tryz.func6, Tryz.ntmps6
  go_wp2
  go_ret2
  exact RParOut.no HV.out (Ext.refl _)
theorem rbad1 {xs : List UInt8} {l : List Dat} {i k : Nat} {d : Dat} {t : List UInt8} (h : PS xs (xs.drop i) l) (hu : upL false (xs.drop i) = some k) (hp : pDat ((xs.drop i).take k) = some d) (ht : (xs.drop i).drop k = 41 :: t) (hne : t ≠ []) : parseV xs = none :=
  h.bad hu hp (by rw [ht]; intro e; injection e with _ e; exact hne e) (by rw [ht]; simp [Lib.hasPrefix, List.isPrefixOf])
theorem rbad2 {xs : List UInt8} {l : List Dat} {i k : Nat} {d : Dat} {t : List UInt8} (h : PS xs (xs.drop i) l) (hu : upL false (xs.drop i) = some k) (hp : pDat ((xs.drop i).take k) = some d) (ht : (xs.drop i).drop k = 44 :: t) (hne : ∀ r, t ≠ 32 :: r) : parseV xs = none :=
  h.bad hu hp (by rw [ht]; intro e; injection e with e _; simp at e) (by
    rw [ht]
    cases t with
    | nil => simp [Lib.hasPrefix, List.isPrefixOf]
    | cons c r =>
      simp [Lib.hasPrefix, List.isPrefixOf]
      intro e
      exact hne r (by rw [← e]))
set_option maxRecDepth 100000 in
set_option maxHeartbeats 4000000 in
theorem rpar_in (s : ByteArray) (w : World) (hs : s.size ≤ 4000000) (h : ¬ s = ⟨[40, 41].toArray⟩) (h3 : 3 ≤ s.size) (h0 : s[0].toNat = 40) : Calls Tryz.prog 6 #[.string s] w (RParOut w s.data.toList) := by
  have hw := word_no h
  have HS0 : Hid (PS s.data.toList (s.data.toList.drop 1) []) := Lib.hid (by
    have hd := drop_data (s := s) (i := 0) (by omega)
    rw [List.drop_zero, byte_is (by decide) h0, show UInt8.ofNat 40 = 40 from rfl] at hd
    have hq := PS.start (r := s.data.toList.drop 1) (fun e => h (data_inj (by rw [hd, e])))
    rw [← hd] at hq
    exact hq)
  clear h
  go_enter Tryz.func6, Tryz.ntmps6
  go_wp2
  go_loopg [4, 5] (s.size - 1) (fun z u v wr => ∃ (i : Nat) (l : List Dat) (k c0 : Nat) (A0 : Option Addr), z = s.size - i ∧ i ≤ s.size ∧ v = .int .i64 i ∧ u = .slice A0 k c0 ∧ k ≤ 32 ∧ Hid (k = l.length) ∧ Hid (Own wr w.heap.size 47 4 A0 k c0 (rowC l)) ∧ Hid (PS s.data.toList (s.data.toList.drop i) l) ∧ Hid (Ext w wr))
  case atStart => exact ⟨1, [], 0, 0, none, rfl, by omega, rfl, rfl, by omega, Lib.hid rfl, Lib.hid (Own.nil _ _ _ _), HS0, Lib.hid (Ext.refl w)⟩
  case round =>
    clear HS0 hw
    obtain ⟨i, l, k, c0, A0, hz, hi, rfl, rfl, hk, HK, HO, HP, ER⟩ := hrel
    have HZ := Lib.hid hz
    clear hz
    have m1 : True := trivial
    cases hu : upL false (s.data.toList.drop i) with
    | none =>
      have HU : Hid (endI s.data.toList i = -1) := Lib.hid (by unfold endI; rw [hu])
      have HV := Lib.hid (HP.out.none_up hu)
      clear hu
      go_wp2_with (first
        | (go_at_call 17; have mk := m1; clear m1 mk; refine (end_lit s i _ hs (by omega) HU).mono ?_; rintro e w1 ⟨rfl, x1⟩; have X1 := Lib.hid (ER.out.trans x1); have O1 := Lib.hid (HO.out.ext x1); have m2 : True := trivial; clear x1))
      go_ret2
      exact RParOut.no HV.out X1.out
    | some j =>
      have hj : i + j < s.size := by
        have := upL_lt _ _ _ hu
        rw [List.length_drop] at this
        have hl : s.data.toList.length = s.size := by simp
        omega
      obtain ⟨cb, tb, htb, hcb⟩ := upL_byte _ _ _ _ (Nat.le_refl _) hu
      obtain ⟨tz, hto⟩ : ∃ tz, i + j = tz := ⟨_, rfl⟩
      have HU : Hid (endI s.data.toList i = (tz : Int)) := Lib.hid (by unfold endI; rw [hu, ← hto])
      have HUU := Lib.hid hu
      have hts : tz < s.size := by omega
      have hitz : i ≤ tz := by omega
      have hto0 : decide ((tz : Int) < 0) = false := by simp
      have hdt : s.data.toList.drop tz = cb :: tb := by rw [← hto, ← List.drop_drop]; exact htb
      have hb : s[tz] = cb ∧ s.data.toList.drop (tz + 1) = tb := by rw [drop_data hts] at hdt; injection hdt with e1 e2; exact ⟨e1, e2⟩
      have HTB := Lib.hid htb
      have HTB2 := Lib.hid hb.2
      have hsb := hb.1
      clear hu hdt htb hb
      by_cases hk32 : k = 32
      · have HV := Lib.hid (HP.out.full (by rw [← HK.out]; omega))
        have HSB := Lib.hid hsb
        clear hsb hcb
        subst hk32
        go_wp2_with (first
          | (go_at_call 17; have mk := m1; clear m1 mk; refine (end_lit s i _ hs (by omega) HU).mono ?_; rintro e w1 ⟨rfl, x1⟩; have X1 := Lib.hid (ER.out.trans x1); have O1 := Lib.hid (HO.out.ext x1); have m2 : True := trivial; clear x1))
        go_ret2
        exact RParOut.no HV.out X1.out
      · have hkz : ((k : Int) == 32) = false := by simp; omega
        obtain ⟨T, hT⟩ : ∃ T, s.extract i tz = T := ⟨_, rfl⟩
        have hTl : T.data.toList = (s.data.toList.drop i).take j := by rw [← hT, ← hto]; exact ext_mid s i j
        have hTs : T.size ≤ 4000000 := by
          have q1 : T.data.toList.length = T.size := by simp
          have q2 : s.data.toList.length = s.size := by simp
          rw [hTl, List.length_take, List.length_drop] at q1
          omega
        have hTe : (⟨((s.data.toList.drop i).take j).toArray⟩ : ByteArray) = T := data_inj (by rw [hTl])
        have HTo := Lib.hid hto
        clear hto
        rcases rel_exists T with ⟨⟨kd, b, nd, t⟩, hr, _⟩ | hr
        · have HPD : Hid (pDat ((s.data.toList.drop i).take j) = some ⟨kd, b, nd, t⟩) := Lib.hid (pDat_yes (by rw [hTe]; exact hr))
          have HRel := Lib.hid hr
          have HTl := Lib.hid hTl
          clear hr hTl hTe
          rcases hcb with rfl | rfl
          · have hsb2 : s[tz].toNat = 44 := by rw [hsb]; rfl
            have HSB := Lib.hid hsb
            clear hsb
            by_cases hto1 : tz + 1 < s.size
            · by_cases h32 : s[tz + 1].toNat = 32
              · have HR : Hid ((s.data.toList.drop i).drop j = 44 :: 32 :: s.data.toList.drop (tz + 2)) := Lib.hid (by
                  rw [HTB.out, ← HTB2.out, drop_data hto1, byte_is (by decide) h32]
                  rfl)
                have HPS := Lib.hid (HP.out.step HUU.out HPD.out HR.out)
                go_wp2_with (first
                  | (go_at_call 17; have mk := m1; clear m1 mk; refine (end_lit s i _ hs (by omega) HU).mono ?_; rintro e w1 ⟨rfl, x1⟩; have X1 := Lib.hid (ER.out.trans x1); have O1 := Lib.hid (HO.out.ext x1); have m2 : True := trivial; clear x1)
                  | (go_at_call 18; have mk := m2; clear m2 mk; go_loud (refine (rparse_at T t kd nd 0 b _ hTs HRel).mono ?_); rintro e w2 ⟨rfl, x2⟩; have F2 := Lib.hid ((X1.out.trans x2).alloc (.cells #[.int .u8 kd, .bool b, .int .i64 nd, .string t] 47)); have O2 := Lib.hid (O1.out.ext (x2.alloc (.cells #[.int .u8 kd, .bool b, .int .i64 nd, .string t] 47))); have a2 := Bk.new w2 47 #[.int .u8 kd, .bool b, .int .i64 nd, .string t]; have b0 := a2.cell 0; have b1 := a2.cell 1; have b2 := a2.cell 2; have b3 := a2.cell 3; have m3 : True := trivial; clear x2 a2)
                  | (at_builtin; have mk := m3; clear m3 mk; go_loud (refine wpList_append_two _ elem_dat w.heap.size _ _ rfl rfl A0 k c0 (rowC l) rfl (O2.out.alloc _) _ 1 1 [.int .u8 kd, .bool b, .int .i64 nd, .string t] rfl (sl_one2 w2 kd nd b t) (rowC_one [⟨kd, b, nd, t⟩]) (by omega) (by decide) (by have := F2.out.size; simp at this ⊢; omega) ?_); intro A3 c3 w3 o3 g3 x3; clear x3; have O3 := Lib.hid o3; have F3 : Hid (Ext w w3) := Lib.hid ((F2.out.alloc _).grown g3 (fun j e => (O2.out.lt j e).1)); clear o3 g3))
                go_roundg (s.size - (tz + 2))
                case measure => have := HZ.out; have := HTo.out; omega
                case rel => exact ⟨tz + 2, l ++ [⟨kd, b, nd, t⟩], k + 1, c3, A3, rfl, by omega, by go_num, rfl, by omega, Lib.hid (by rw [List.length_append, ← HK.out]; rfl), Lib.hid (by rw [rowC_append]; exact O3.out), HPS, F3⟩
              · have z32 : ((s[tz + 1].toNat : Int) == 32) = false := by simp; omega
                have z33 : ((s[tz + 1].toNat : Int) != 32) = true := by simp; omega
                have HV : Hid (parseV s.data.toList = none) := Lib.hid (rbad2 HP.out HUU.out HPD.out HTB.out (fun r e => h32 (by rw [← HTB2.out, drop_data hto1] at e; injection e with e1 _; rw [e1]; rfl)))
                go_wp2_with (first
                  | (go_at_call 17; have mk := m1; clear m1 mk; refine (end_lit s i _ hs (by omega) HU).mono ?_; rintro e w1 ⟨rfl, x1⟩; have X1 := Lib.hid (ER.out.trans x1); have O1 := Lib.hid (HO.out.ext x1); have m2 : True := trivial; clear x1)
                  | (go_at_call 18; have mk := m2; clear m2 mk; go_loud (refine (rparse_at T t kd nd 0 b _ hTs HRel).mono ?_); rintro e w2 ⟨rfl, x2⟩; have F2 := Lib.hid ((X1.out.trans x2).alloc (.cells #[.int .u8 kd, .bool b, .int .i64 nd, .string t] 47)); have O2 := Lib.hid (O1.out.ext (x2.alloc (.cells #[.int .u8 kd, .bool b, .int .i64 nd, .string t] 47))); have a2 := Bk.new w2 47 #[.int .u8 kd, .bool b, .int .i64 nd, .string t]; have b0 := a2.cell 0; have b1 := a2.cell 1; have b2 := a2.cell 2; have b3 := a2.cell 3; have m3 : True := trivial; clear x2 a2)
                  | (at_builtin; have mk := m3; clear m3 mk; go_loud (refine wpList_append_two _ elem_dat w.heap.size _ _ rfl rfl A0 k c0 (rowC l) rfl (O2.out.alloc _) _ 1 1 [.int .u8 kd, .bool b, .int .i64 nd, .string t] rfl (sl_one2 w2 kd nd b t) (rowC_one [⟨kd, b, nd, t⟩]) (by omega) (by decide) (by have := F2.out.size; simp at this ⊢; omega) ?_); intro A3 c3 w3 o3 g3 x3; clear x3; have O3 := Lib.hid o3; have F3 : Hid (Ext w w3) := Lib.hid ((F2.out.alloc _).grown g3 (fun j e => (O2.out.lt j e).1)); clear o3 g3))
                go_ret2
                exact RParOut.no HV.out F3.out
            · have HV : Hid (parseV s.data.toList = none) := Lib.hid (rbad2 HP.out HUU.out HPD.out HTB.out (fun r e => by rw [← HTB2.out, drop_end (by omega)] at e; cases e))
              go_wp2_with (first
                | (go_at_call 17; have mk := m1; clear m1 mk; refine (end_lit s i _ hs (by omega) HU).mono ?_; rintro e w1 ⟨rfl, x1⟩; have X1 := Lib.hid (ER.out.trans x1); have O1 := Lib.hid (HO.out.ext x1); have m2 : True := trivial; clear x1)
                | (go_at_call 18; have mk := m2; clear m2 mk; go_loud (refine (rparse_at T t kd nd 0 b _ hTs HRel).mono ?_); rintro e w2 ⟨rfl, x2⟩; have F2 := Lib.hid ((X1.out.trans x2).alloc (.cells #[.int .u8 kd, .bool b, .int .i64 nd, .string t] 47)); have O2 := Lib.hid (O1.out.ext (x2.alloc (.cells #[.int .u8 kd, .bool b, .int .i64 nd, .string t] 47))); have a2 := Bk.new w2 47 #[.int .u8 kd, .bool b, .int .i64 nd, .string t]; have b0 := a2.cell 0; have b1 := a2.cell 1; have b2 := a2.cell 2; have b3 := a2.cell 3; have m3 : True := trivial; clear x2 a2)
                | (at_builtin; have mk := m3; clear m3 mk; go_loud (refine wpList_append_two _ elem_dat w.heap.size _ _ rfl rfl A0 k c0 (rowC l) rfl (O2.out.alloc _) _ 1 1 [.int .u8 kd, .bool b, .int .i64 nd, .string t] rfl (sl_one2 w2 kd nd b t) (rowC_one [⟨kd, b, nd, t⟩]) (by omega) (by decide) (by have := F2.out.size; simp at this ⊢; omega) ?_); intro A3 c3 w3 o3 g3 x3; clear x3; have O3 := Lib.hid o3; have F3 : Hid (Ext w w3) := Lib.hid ((F2.out.alloc _).grown g3 (fun j e => (O2.out.lt j e).1)); clear o3 g3))
              go_ret2
              exact RParOut.no HV.out F3.out
          · have hsb2 : s[tz].toNat = 41 := by rw [hsb]; rfl
            have HSB := Lib.hid hsb
            clear hsb
            by_cases hlast : tz + 1 = s.size
            · have HV : Hid (parseV s.data.toList = some (l ++ [⟨kd, b, nd, t⟩])) := Lib.hid (HP.out.last HUU.out HPD.out (by rw [HTB.out, ← HTB2.out, drop_end (by omega)]) (by rw [← HK.out]; omega))
              have hlz : ((tz : Int) != (s.size : Int) - 1) = false := by simp; omega
              go_wp2_with (first
                | (go_at_call 17; have mk := m1; clear m1 mk; refine (end_lit s i _ hs (by omega) HU).mono ?_; rintro e w1 ⟨rfl, x1⟩; have X1 := Lib.hid (ER.out.trans x1); have O1 := Lib.hid (HO.out.ext x1); have m2 : True := trivial; clear x1)
                | (go_at_call 18; have mk := m2; clear m2 mk; go_loud (refine (rparse_at T t kd nd 0 b _ hTs HRel).mono ?_); rintro e w2 ⟨rfl, x2⟩; have F2 := Lib.hid ((X1.out.trans x2).alloc (.cells #[.int .u8 kd, .bool b, .int .i64 nd, .string t] 47)); have O2 := Lib.hid (O1.out.ext (x2.alloc (.cells #[.int .u8 kd, .bool b, .int .i64 nd, .string t] 47))); have a2 := Bk.new w2 47 #[.int .u8 kd, .bool b, .int .i64 nd, .string t]; have b0 := a2.cell 0; have b1 := a2.cell 1; have b2 := a2.cell 2; have b3 := a2.cell 3; have m3 : True := trivial; clear x2 a2)
                | (at_builtin; have mk := m3; clear m3 mk; go_loud (refine wpList_append_two _ elem_dat w.heap.size _ _ rfl rfl A0 k c0 (rowC l) rfl (O2.out.alloc _) _ 1 1 [.int .u8 kd, .bool b, .int .i64 nd, .string t] rfl (sl_one2 w2 kd nd b t) (rowC_one [⟨kd, b, nd, t⟩]) (by omega) (by decide) (by have := F2.out.size; simp at this ⊢; omega) ?_); intro A3 c3 w3 o3 g3 x3; clear x3; have O3 := Lib.hid o3; have F3 : Hid (Ext w w3) := Lib.hid ((F2.out.alloc _).grown g3 (fun j e => (O2.out.lt j e).1)); clear o3 g3))
              go_ret2
              unfold RParOut
              rw [parseL_some HV.out, parseE_some HV.out, List.length_append, ← HK.out]
              refine ⟨A3, c3, rfl, ?_, F3.out⟩
              have o3 := O3.out.sl
              unfold Rw
              rw [rowC_append, List.length_append, ← HK.out]
              exact o3
            · have hlz : ((tz : Int) != (s.size : Int) - 1) = true := by simp; omega
              have HV : Hid (parseV s.data.toList = none) := Lib.hid (rbad1 HP.out HUU.out HPD.out HTB.out (fun e => by rw [← HTB2.out, drop_data (by omega)] at e; cases e))
              go_wp2_with (first
                | (go_at_call 17; have mk := m1; clear m1 mk; refine (end_lit s i _ hs (by omega) HU).mono ?_; rintro e w1 ⟨rfl, x1⟩; have X1 := Lib.hid (ER.out.trans x1); have O1 := Lib.hid (HO.out.ext x1); have m2 : True := trivial; clear x1)
                | (go_at_call 18; have mk := m2; clear m2 mk; go_loud (refine (rparse_at T t kd nd 0 b _ hTs HRel).mono ?_); rintro e w2 ⟨rfl, x2⟩; have F2 := Lib.hid ((X1.out.trans x2).alloc (.cells #[.int .u8 kd, .bool b, .int .i64 nd, .string t] 47)); have O2 := Lib.hid (O1.out.ext (x2.alloc (.cells #[.int .u8 kd, .bool b, .int .i64 nd, .string t] 47))); have a2 := Bk.new w2 47 #[.int .u8 kd, .bool b, .int .i64 nd, .string t]; have b0 := a2.cell 0; have b1 := a2.cell 1; have b2 := a2.cell 2; have b3 := a2.cell 3; have m3 : True := trivial; clear x2 a2)
                | (at_builtin; have mk := m3; clear m3 mk; go_loud (refine wpList_append_two _ elem_dat w.heap.size _ _ rfl rfl A0 k c0 (rowC l) rfl (O2.out.alloc _) _ 1 1 [.int .u8 kd, .bool b, .int .i64 nd, .string t] rfl (sl_one2 w2 kd nd b t) (rowC_one [⟨kd, b, nd, t⟩]) (by omega) (by decide) (by have := F2.out.size; simp at this ⊢; omega) ?_); intro A3 c3 w3 o3 g3 x3; clear x3; have O3 := Lib.hid o3; have F3 : Hid (Ext w w3) := Lib.hid ((F2.out.alloc _).grown g3 (fun j e => (O2.out.lt j e).1)); clear o3 g3))
              go_ret2
              exact RParOut.no HV.out F3.out
        · have HV := Lib.hid (HP.out.none_dat HUU.out (pDat_no (by rw [hTe]; exact hr) (by decide)))
          have HRel := Lib.hid hr
          have HSB := Lib.hid hsb
          clear hr hTl hTe hsb hcb
          go_wp2_with (first
            | (go_at_call 17; have mk := m1; clear m1 mk; refine (end_lit s i _ hs (by omega) HU).mono ?_; rintro e w1 ⟨rfl, x1⟩; have X1 := Lib.hid (ER.out.trans x1); have O1 := Lib.hid (HO.out.ext x1); have m2 : True := trivial; clear x1)
            | (go_at_call 18; have mk := m2; clear m2 mk; go_loud (refine (rparse_at T ⟨#[]⟩ 0 0 13 false _ hTs HRel).mono ?_); rintro e w2 ⟨rfl, x2⟩; have F2 := Lib.hid ((X1.out.trans x2).alloc (.cells #[.int .u8 0, .bool false, .int .i64 0, .string ⟨#[]⟩] 47)); clear x2))
          go_ret2
          exact RParOut.no HV.out F2.out
theorem refPars_any (s : ByteArray) (w : World) (hs : s.size ≤ 4000000) : Calls Tryz.prog 6 #[.string s] w (RParOut w s.data.toList) := by
  by_cases h : s = ⟨[40, 41].toArray⟩
  · subst h
    exact rpar_unit w
  · by_cases h3 : s.size < 3
    · exact rpar_short s w h h3
    · by_cases h0 : s[0].toNat = 40
      · exact rpar_in s w hs h (by omega) h0
      · exact rpar_open s w h (by omega) hs h0
end Go.Proofs.YtngeioghihbkeaaGreatDoor
