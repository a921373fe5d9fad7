/- RowSums: the walk. What comes in at chapter 02: rows with counts. Conditions: each theorem states its own. -/
import Derived.Test.YtngeioghihbkeaaDoorSumE
import Derived.Test.YtngeioghihbkeaaDoorRefSums
import Derived.Test.YtngeioghihbkeaaDoorRowL
import Derived.Test.YtngeioghihbkeaaDoorComes
namespace Go.Proofs.YtngeioghihbkeaaDoor
open Go.RowKit

def manyF : List Ct → Nat → Bool
  | [], t => decide (400 < t)
  | x :: L, t => if t ≤ 400 then manyF L (t + x.l.length / 16) else true
theorem manyF_few : ∀ (L : List Ct) (t : Nat), manyF L t = false → t ≤ 400 ∧ ∀ x ∈ L, x.l.length ≤ 6500
  | [], t, h => ⟨by unfold manyF at h; simpa using h, fun x hx => (nomatch hx)⟩
  | x :: L, t, h => by
    unfold manyF at h
    split at h
    · have := manyF_few L _ h
      refine ⟨by omega, fun y hy => ?_⟩
      rcases List.mem_cons.1 hy with rfl | hy
      · omega
      · exact this.2 y hy
    · exact nomatch h
theorem manyF_lot (L : List Ct) (t : Nat) (h : 400 < t) : manyF L t = true := by
  cases L with
  | nil => exact decide_eq_true h
  | cons x L =>
    show (if t ≤ 400 then _ else true) = true
    rw [if_neg (by omega)]
set_option maxRecDepth 100000 in
set_option maxHeartbeats 1000000 in
theorem many_any (A : Option Addr) (c n : Nat) (L : List Ct) (w : World) (b : Bool) (hb : manyF L n = b) (hn : n = L.length) (h : Cin w A c L) :
    Calls Tryd.prog 16 #[.slice A n c] w fun e w' => e = .returned (.bool b) ∧ Ext w w' := by
  have hnm := h.sl.le
  rw [← hn] at hnm
  have HN := Lib.hid hn
  have H := Lib.hid h
  have HB : Hid (manyF (L.drop 0) n = b) := Lib.hid hb
  clear hn h hb
  go_enter Tryd.func16, Tryd.ntmps16
  go_wp2
  go_loopg [3, 4] n (fun z u v wr => ∃ (i t : Nat), z = n - i ∧ i ≤ n ∧ t ≤ 9223372036854775807 ∧ u = .int .i64 t ∧ v = .int .i64 i ∧ Hid (manyF (L.drop i) t = b) ∧ Ext w wr)
  case atStart => exact ⟨0, n, rfl, Nat.zero_le _, hnm, rfl, rfl, HB, Ext.refl _⟩
  case round =>
    clear HB
    obtain ⟨i, t, rfl, hi, ht, rfl, rfl, HT, er⟩ := hrel
    by_cases h4 : t ≤ 400
    · by_cases hlt : i < n
      · have hil : i < L.length := by rw [← HN.out]; exact hlt
        obtain ⟨ad, rfl, p0, p1⟩ := (H.out.ext er).at hil
        have hm := getD_mem hil
        have hd0 : L.drop i = L.getD i Ct.zero :: L.drop (i + 1) := by
          rw [List.drop_eq_getElem_cons hil]
          congr 1
          rw [List.getD_eq_getElem?_getD, List.getElem?_eq_getElem hil]
          rfl
        obtain ⟨x, hx⟩ : ∃ x, L.getD i Ct.zero = x := ⟨_, rfl⟩
        rw [hx] at p0 p1 hm hd0
        have hxl := (H.out.rows x hm).le
        obtain ⟨nx, hnx⟩ : ∃ nx, nx = x.l.length := ⟨_, rfl⟩
        rw [← hnx] at p0 hxl
        obtain ⟨d, hd⟩ : ∃ d, d = nx / 16 := ⟨_, rfl⟩
        have hd1 : (nx : Int) / 16 = (d : Int) := by omega
        have hd2 : Int.tdiv (nx : Int) 16 = (d : Int) := by rw [Int.tdiv_eq_ediv_of_nonneg (by omega)]; omega
        have hd9 : d ≤ 600000000000000000 := by omega
        have HT2 : Hid (manyF (L.drop (i + 1)) (t + d) = b) := Lib.hid (by
          have := HT.out
          rw [hd0] at this
          unfold manyF at this
          rwa [if_pos h4, ← hnx, ← hd] at this)
        clear hil hm hx hnx hd hd0
        go_wp2
        go_roundg (n - (i + 1))
        case measure => omega
        case rel => exact ⟨i + 1, t + d, rfl, by omega, by omega, by go_num, by go_num, HT2, er⟩
      · obtain rfl : i = n := by omega
        have zt : decide ((400 : Int) < (t : Int)) = false := decide_eq_false (by omega)
        have hbb : b = false := by
          have := HT.out
          rw [List.drop_of_length_le (by rw [← HN.out]; exact Nat.le_refl _)] at this
          rw [← this]
          exact decide_eq_false (by omega)
        subst hbb
        go_wp2
        go_ret
        exact ⟨(by first | rfl | simp [zt] | (simp; omega)), er⟩
    · have zt : decide ((400 : Int) < (t : Int)) = true := decide_eq_true (by omega)
      have hbb : b = true := by rw [← HT.out]; exact manyF_lot _ _ (by omega)
      subst hbb
      by_cases hlt : i < n
      · go_wp2
        go_ret
        exact ⟨(by first | rfl | simp [zt] | (simp; omega)), er⟩
      · go_wp2
        go_ret
        exact ⟨(by first | rfl | simp [zt] | (simp; omega)), er⟩
theorem Cin.takeC {w : World} {A : Option Addr} {c k : Nat} {L : List Ct} (h : Cin w A c L) (hk : k ≤ L.length) : Cin w A c (L.take k) :=
  ⟨by rw [List.length_take, Nat.min_eq_left hk]; exact h.takeS rfl hk, fun x hx => h.rows x (List.mem_of_mem_take hx)⟩
def InL (L : List Ct) : Prop := ∀ x ∈ L, RwIn x.l ∧ InV (valC x)
theorem in_of {L M : List Ct} (h : InL L) (hl : ∀ x ∈ L, x.l.length ≤ 1000000) (he : M.map valC = L.map valC) : ∀ x ∈ M, InC x := by
  intro x hx
  have : valC x ∈ L.map valC := by rw [← he]; exact List.mem_map.2 ⟨x, hx, rfl⟩
  obtain ⟨y, hy, e⟩ := List.mem_map.1 this
  have e1 : y.l = x.l := congrArg Prod.fst e
  obtain ⟨q1, q2⟩ := h y hy
  have q3 := hl y hy
  rw [e1] at q1 q3
  exact ⟨q1.txt, q1.int, by rw [← e]; exact q2, q3⟩
theorem map_len {L M : List Ct} (h : M.map valC = L.map valC) : M.length = L.length := by
  have := congrArg List.length h
  rwa [List.length_map, List.length_map] at this
theorem SumRes.cin {w w' : World} {L : List Ct} {e : Ending} (h : SumRes w L e w') : AddR w (sumV (L.map valC)) e w' := by
  obtain ⟨A, m, c, R, rfl, hm, ho, hr, _, hv, X⟩ := h
  exact ⟨A, m, c, R, rfl, hm, ⟨by subst hm; exact ho.sl, fun x hx => (hr x hx).1.rw⟩, hv, X⟩
theorem lentCts_lit (A : Option Addr) (c n : Nat) (L : List Ct) (w : World) (hn : Hid (n = L.length)) (h : Hid (Cin w A c L)) (hs : n ≤ 1000000) (hr : Hid (∀ x ∈ L, x.l.length ≤ 1000000)) :
    Calls Tryd.prog 17 #[.slice A n c] w (LentCR w n L) := lentCts_any A c n L w hn.out h.out hs hr.out
theorem sum_lit2 (A : Option Addr) (c n : Nat) (L : List Ct) (w : World) (hn : Hid (n = L.length)) (h20 : n ≤ 100000000) (h : Hid (Cin w A c L)) (hin : Hid (∀ x ∈ L, InC x)) (G : Good w) : Calls Tryd.prog 18 #[.slice A n c] w (SumRes w L) := sum_any A c n L w hn.out h20 h.out hin.out G
theorem refSum_lit (A : Option Addr) (c n : Nat) (L : List Ct) (w : World) (hn : Hid (n = L.length)) (h : Hid (Cin w A c L)) (hs : n ≤ 1000000) : Calls Tryd.prog 20 #[.slice A n c] w (AddR w (sumV (L.map valC))) := refSum_any A c n L w hn.out h.out hs
theorem many_lit (A : Option Addr) (c n : Nat) (L : List Ct) (w : World) (b : Bool) (hb : Hid (manyF L n = b)) (hn : Hid (n = L.length)) (h : Hid (Cin w A c L)) :
    Calls Tryd.prog 16 #[.slice A n c] w fun e w' => e = .returned (.bool b) ∧ Ext w w' := many_any A c n L w b hb.out hn.out h.out
theorem sameCts_lit (A1 A2 : Option Addr) (c1 c2 n m : Nat) (L M : List Ct) (w : World) (hn : Hid (n = L.length)) (hm : Hid (m = M.length)) (h1 : Hid (Cin w A1 c1 L)) (h2 : Hid (Cin w A2 c2 M)) (he : Hid (L.map valC = M.map valC)) :
    Calls Tryd.prog 19 #[.slice A1 n c1, .slice A2 m c2] w fun e w' => e = .returned (.bool true) ∧ Ext w w' := sameCts_any A1 A2 c1 c2 n m L M w hn.out hm.out h1.out h2.out he.out
theorem wholeCts_lit (A2 : Option Addr) (c2 n m B g : Nat) (L M : List Ct) (w : World) (hm : Hid (m = L.length)) (hn : Hid (n = m)) (hs : n ≤ 1000000000) (h1 : Hid (LentCts w B g n M)) (h2 : Hid (Cin w A2 c2 L)) (he : Hid (M.map valC = L.map valC)) (hr : Hid (∀ x ∈ L, x.l.length ≤ 1000000)) :
    Calls Tryd.prog 21 #[.slice (some ⟨g, 0, none⟩) n (n + 1), .slice A2 m c2] w fun e w' => e = .returned (.bool true) ∧ Ext w w' := wholeCts_any A2 c2 n m B g L M w hm.out hn.out hs h1.out h2.out he.out hr.out
set_option maxRecDepth 100000 in
set_option maxHeartbeats 4000000 in
theorem rowSums_any (A : Option Addr) (c : Nat) (L : List Ct) (w : World) (h : Cin w A c L) (hin : InL L) (G : Good w) :
    Calls Tryd.prog 4 #[.slice A L.length c] w fun e w' => e = .returned (.bool true) ∧ Ext w w' := by
  obtain ⟨n, hn⟩ : ∃ n, n = L.length := ⟨_, rfl⟩
  rw [← hn]
  have hcap := h.sl.cap
  rw [← hn] at hcap
  have HN := Lib.hid hn
  have H := Lib.hid h
  have HIN := Lib.hid hin
  clear hn h hin
  obtain ⟨b, hb⟩ : ∃ b, manyF L n = b := ⟨_, rfl⟩
  have HB := Lib.hid hb
  clear hb
  cases b
  · obtain ⟨k, hk⟩ : ∃ k, k = min n 300 := ⟨_, rfl⟩
    have hkn : k ≤ n := by omega
    have hk3 : k ≤ 300 := by omega
    have hki : min (n : Int) 300 = (k : Int) := by omega
    have hki2 : (if (n : Int) ≤ 300 then (n : Int) else 300) = (k : Int) := by split <;> omega
    have hki3 : (if (300 : Int) < (n : Int) then (300 : Int) else (n : Int)) = (k : Int) := by split <;> omega
    have hki4 : (if (n : Int) < 300 then (n : Int) else 300) = (k : Int) := by split <;> omega
    obtain ⟨L1, hL1⟩ : ∃ L1, L1 = L.take k := ⟨_, rfl⟩
    have HN1 : Hid (k = L1.length) := Lib.hid (by rw [hL1, List.length_take]; have := HN.out; omega)
    have H1 : Hid (Cin w A c L1) := Lib.hid (by rw [hL1]; exact H.out.takeC (by rw [← HN.out]; exact hkn))
    have HIN1 : Hid (InL L1) := Lib.hid (by rw [hL1]; exact fun x hx => HIN.out x (List.mem_of_mem_take hx))
    have HRL : Hid (∀ x ∈ L1, x.l.length ≤ 1000000) := Lib.hid (by
      rw [hL1]
      intro x hx
      have := (manyF_few L n HB.out).2 x (List.mem_of_mem_take hx)
      omega)
    have m1 : True := trivial
    clear hL1 hk
    go_enter Tryd.func4, Tryd.ntmps4
    go_wp2_with (first
      | (go_at_call 16; have mk := m1; clear m1 mk; refine (many_lit A c n L _ false HB HN H).mono ?_; rintro e w1 ⟨rfl, x1⟩; have C1 := Lib.hid (H1.out.ext x1); have m2 : True := trivial)
      | (go_at_call 17; have mk := m2; clear m2 mk; refine (lentCts_lit A c k L1 _ HN1 C1 (by omega) HRL).mono ?_; rintro e w2 ⟨g, M, rfl, hg, hl, hv, x2⟩; have HL2 := Lib.hid hl; have HV2 := Lib.hid hv; have HMN : Hid (k = M.length) := Lib.hid (by rw [hl.len]); have HMC := Lib.hid hl.cin; have HMI := Lib.hid (in_of HIN1.out HRL.out hv); have X2 := x1.trans x2; clear hg hl hv; have m3 : True := trivial)
      | (go_at_call 18; have mk := m3; clear m3 mk; refine (sum_lit2 (some ⟨g, 0, none⟩) (k + 1) k M _ HMN (by omega) HMC HMI (G.ext X2)).mono ?_; rintro e w3 hs; obtain ⟨A3, n3, c3, R3, rfl, e3, hc3, hv3, x3⟩ := hs.cin; have HE3 := Lib.hid e3; have HC3 := Lib.hid hc3; have HV3 := Lib.hid hv3; have X3 := X2.trans x3; clear hs e3 hc3 hv3; have m4 : True := trivial)
      | (go_at_call 13; have mk := m4; clear m4 mk; refine (known_true _ (G.ext X3)).mono ?_; rintro e w4 ⟨rfl, x4⟩; have X4 := X3.trans x4; have C4 := Lib.hid (H1.out.ext X4); have m5 : True := trivial)
      | (go_at_call 20; have mk := m5; clear m5 mk; refine (refSum_lit A c k L1 _ HN1 C4 (by omega)).mono ?_; rintro e w5 hs; obtain ⟨A5, n5, c5, R5, rfl, e5, hc5, hv5, x5⟩ := hs; have HE5 := Lib.hid e5; have HC5 := Lib.hid hc5; have X5 := X4.trans x5; have HC35 := Lib.hid (HC3.out.ext (x4.trans x5)); have HVV : Hid (R3.map valC = R5.map valC) := Lib.hid (by rw [HV3.out, hv5, HV2.out]); clear e5 hc5 hv5; have m6 : True := trivial)
      | (go_at_call 19; have mk := m6; clear m6 mk; refine (sameCts_lit A3 A5 c3 c5 n3 n5 R3 R5 _ HE3 HE5 HC35 HC5 HVV).mono ?_; rintro e w6 ⟨rfl, x6⟩; have X6 := X5.trans x6; have C6 := Lib.hid (H1.out.ext X6); have HL6 := Lib.hid (HL2.out.ext (((x3.trans x4).trans x5).trans x6)); have m7 : True := trivial)
      | (go_at_call 21; have mk := m7; clear m7 mk; go_loud (refine (wholeCts_lit A c k k w1.heap.size g L1 M _ HN1 (Lib.hid rfl) (by omega) HL6 C6 HV2 HRL).mono ?_); rintro e w7 ⟨rfl, x7⟩))
    go_ret
    exact ⟨rfl, X6.trans x7⟩
  · go_enter Tryd.func4, Tryd.ntmps4
    go_wp2_with (go_at_call 16; refine (many_lit A c n L _ true HB HN H).mono ?_; rintro e w1 ⟨rfl, x1⟩)
    go_ret
    exact ⟨rfl, x1⟩
end Go.Proofs.YtngeioghihbkeaaDoor
namespace Go.Proofs.YtngeioghihbkeaaDoor
open Go.ChangeShapes Go.WideShapes Go.ChangeAt Go.RowKit Go.WideElems

instance : Inhabited Ct := ⟨Ct.zero⟩
section
variable {H : Type} {enc : TypeId × Value → H} {W : World}
theorem list2 {α : Type} {l : List α} (h : l.length = 2) : ∃ a b, l = [a, b] := by
  match l, h with
  | [a, b], _ => exact ⟨a, b, rfl⟩
theorem one_row : Tryd.prog.cellsOf 23 = 1 := by kernel_rfl
theorem two_ct : Tryd.prog.cellsOf 32 = 2 := by kernel_rfl
theorem come_ctC {fuel : Nat} {cs : List Value} {y : DataW H × List MemPlace} (h : DataW.trod enc Tryd.prog W 0 (fun _ => true) true fuel 32 cs = some y) :
    ∃ x : Ct, cs = ctC x ∧ Rw W x.A x.c x.l ∧ RwIn x.l ∧ InV (valC x) := by
  obtain ⟨y0, y1, n, _, hl, h0, h1⟩ := Go.ChangeShapes.trod_struct2 Tryd.underlying32 h
  rw [two_ct] at hl
  obtain ⟨c0, c1, rfl⟩ := list2 hl
  have g0 : DataW.trod enc Tryd.prog W 0 (fun _ => true) true n 23 [c0] = some y0 := by
    have : DataW.trod enc Tryd.prog W 0 (fun _ => true) true n 23 (([c0, c1].drop 0).take (Tryd.prog.cellsOf 23)) = some y0 := h0
    rw [one_row] at this
    exact this
  have g1 : DataW.trod enc Tryd.prog W 0 (fun _ => true) true n 2 [c1] = some y1 := by
    have : DataW.trod enc Tryd.prog W 0 (fun _ => true) true n 2 (([c0, c1].drop 1).take (Tryd.prog.cellsOf 2)) = some y1 := h1
    rw [one_i64] at this
    exact this
  obtain ⟨A, c, l, e0, r0, i0⟩ := come_rowC g0
  obtain ⟨k, e1, _, w1⟩ := DataW.trod_int Tryd.underlying2 g1
  obtain rfl : c0 = .slice A l.length c := by simpa using e0
  obtain rfl : c1 = .int .i64 k := by simpa using e1
  exact ⟨⟨A, c, l, k⟩, rfl, r0, i0, wf_i64 w1⟩
theorem come_ctsC {fuel : Nat} {cs : List Value} {y : DataW H × List MemPlace} (h : DataW.trod enc Tryd.prog W 0 (fun _ => true) true fuel 27 cs = some y) :
    ∃ A c L, cs = [.slice A L.length c] ∧ Cin W A c L ∧ InL L := by
  rcases Go.Deep.open_slice Tryd.underlying27 h with ⟨hcs, _⟩ | ⟨a, n, c, m, fu, D, Pl, hcs, _, hnc, hcm, hm, _, hx⟩
  · exact ⟨none, 0, [], hcs, ⟨Sl.nil W 2, fun x hx => (nomatch hx)⟩, fun x hx => (nomatch hx)⟩
  · rw [two_ct] at hx
    have hmn : n ≤ m := by rw [hm]; split <;> omega
    obtain ⟨F, hF⟩ := Go.Deep.choose_lt (α := Ct) (n := n) (p := fun i d => (∀ j, j < 2 → W.cell? (a.add (i * 2 + j)) = (ctC d)[j]?) ∧ Rw W d.A d.c d.l ∧ RwIn d.l ∧ InV (valC d)) (fun i hi => by
      obtain ⟨cs', h1, h2⟩ := hx i (by omega)
      obtain ⟨_, _, h3⟩ := World.cells?_some h1
      obtain ⟨d, rfl, h4⟩ := come_ctC h2
      exact ⟨d, fun j hj => by rw [← add_add']; exact h3 j hj, h4⟩)
    have hlen : ((List.range n).map F).length = n := by simp
    have hmem : ∀ d ∈ (List.range n).map F, Rw W d.A d.c d.l ∧ RwIn d.l ∧ InV (valC d) := fun d hd => by
      obtain ⟨i, hi, rfl⟩ := List.mem_map.1 hd
      exact (hF i (List.mem_range.1 hi)).2
    refine ⟨some a, c, (List.range n).map F, by rw [hlen]; exact hcs, ⟨⟨by rw [ctsC_len], by rw [hlen]; exact hnc, hcm, (fun h => nomatch h), fun _ => ⟨a, rfl, fun j u hu => ?_⟩⟩, fun d hd => (hmem d hd).1⟩, fun d hd => (hmem d hd).2⟩
    have hj : j < n * 2 := by
      rcases Nat.lt_or_ge j (n * 2) with q | q
      · exact q
      · rw [List.getElem?_eq_none (by rw [ctsC_len, hlen]; exact q)] at hu
        cases hu
    have e : j = j / 2 * 2 + j % 2 := by omega
    rw [e, ctsC_at _ _ _ (by rw [hlen]; omega) (by omega)] at hu
    have e2 : ((List.range n).map F).getD (j / 2) Ct.zero = F (j / 2) := by
      rw [List.getD_eq_getElem?_getD, List.getElem?_map, List.getElem?_range (by omega)]
      rfl
    rw [e2] at hu
    rw [e, (hF (j / 2) (by omega)).1 (j % 2) (by omega)]
    exact hu
set_option maxRecDepth 100000 in
theorem come_cts {base : Nat} {v : Value} {d : DataW H} {p : List MemPlace} (hv : Value.okWide Tryd.prog W .any base 27 v) (h : DataW.Trod enc Tryd.prog W 0 (fun _ => true) true 27 v d p) :
    ∃ A c L, v = .slice A L.length c ∧ Cin W A c L ∧ InL L := by
  obtain ⟨fuel, hf⟩ := h
  obtain ⟨A, c, l, e, h1, h2⟩ := come_ctsC hf
  obtain ⟨A', n', c', rfl⟩ := okWide_slice Tryd.underlying27 hv
  have e' : (Value.slice A' n' c') = .slice A l.length c := by injection e
  exact ⟨A, c, l, e', h1, h2⟩
end
end Go.Proofs.YtngeioghihbkeaaDoor
