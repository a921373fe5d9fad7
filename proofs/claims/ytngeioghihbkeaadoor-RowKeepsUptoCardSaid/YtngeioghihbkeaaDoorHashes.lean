/- row.Hash: any row, any columns, texts of a length that fits. row.Pick: any row, any columns. RowHashes: the plain law, the walk. Conditions: each theorem states its own. -/
import Derived.Test.YtngeioghihbkeaaDoorRowKey
import Derived.Test.YtngeioghihbkeaaDoorRowEncs
import Derived.Deep.LoopGhost
import Derived.Test.YtngeioghihbkeaaDoorRowClone
import Derived.Test.YtngeioghihbkeaaDoorSumAll
import Derived.Test.YtngeioghihbkeaaDoorRowKnown
namespace Go.Proofs.YtngeioghihbkeaaDoor
open Go.RowKit

def ints (l : List Int) : List Value := l.map (Value.int .i64)
theorem ints_one (l : List Int) : ∀ u ∈ ints l, u.oneCell' = true := by
  intro u hu
  obtain ⟨x, _, rfl⟩ := List.mem_map.1 hu
  rfl
/-- the slice '.slice A l.length c' reads as the ints l -/
def Is (w : World) (A : Option Addr) (c : Nat) (l : List Int) : Prop := Sl w 1 A l.length c (ints l)
theorem Is.ext {w w' : World} {A : Option Addr} {c : Nat} {l : List Int} (h : Is w A c l) (x : Ext w w') : Is w' A c l := Sl.ext h x
theorem Is.at {w : World} {A : Option Addr} {c : Nat} {l : List Int} (h : Is w A c l) {k : Nat} (hk : k < l.length) : ∃ ad, A = some ad ∧ w.cell? (ad.add k) = some (.int .i64 (l.getD k 0)) := by
  obtain ⟨ad, h1, h2⟩ := h.2.2.2.2 (by omega)
  refine ⟨ad, h1, h2 k _ ?_⟩
  unfold ints
  rw [List.getElem?_map, List.getElem?_eq_getElem hk, List.getD_eq_getElem?_getD, List.getElem?_eq_getElem hk]
  rfl
/-- one byte more -/
def hashB (h : Int) (c : UInt8) : Int := IntKind.u64.wrap (bits .xor .u64 h (c.toNat : Int) * 1099511628211)
def hashL (h : Int) (xs : List UInt8) : Int := xs.foldl hashB h
def hashD (l : List Dat) (h c : Int) : Int := if c < 0 ∨ (l.length : Int) ≤ c then h else hashL h (putT (l.getD c.toNat Dat.zero))
def hashV (l : List Dat) (cs : List Int) : Int := cs.foldl (hashD l) 14695981039346656037
theorem hashL_snoc (h : Int) (xs : List UInt8) {i : Nat} (hi : i < xs.length) : hashL h (xs.take (i + 1)) = hashB (hashL h (xs.take i)) (xs.getD i 0) := by
  unfold hashL
  rw [List.take_succ_eq_append_getElem hi, List.foldl_append, List.getD_eq_getElem?_getD, List.getElem?_eq_getElem hi]
  rfl
theorem hashV_snoc (l : List Dat) (cs : List Int) (h : Int) {i : Nat} (hi : i < cs.length) : (cs.take (i + 1)).foldl (hashD l) h = hashD l ((cs.take i).foldl (hashD l) h) (cs.getD i 0) := by
  rw [List.take_succ_eq_append_getElem hi, List.foldl_append, List.getD_eq_getElem?_getD, List.getElem?_eq_getElem hi]
  rfl
theorem hashD_out {l : List Dat} {h c : Int} (q : c < 0 ∨ (l.length : Int) ≤ c) : hashD l h c = h := if_pos q
theorem hashD_in {l : List Dat} {h : Int} {c : Nat} (q : c < l.length) : hashD l h (c : Int) = hashL h (putT (l.getD c Dat.zero)) := by
  unfold hashD
  rw [if_neg (by omega)]
  rfl
theorem u8_wrap (c : UInt8) : IntKind.u64.wrap (c.toNat : Int) = (c.toNat : Int) := by
  have := c.toNat_lt
  rw [IntKind.wrap_u64]
  omega
theorem putb (k n : Int) (b : Bool) (s : ByteArray) (B : Nat) (w : World) (hB : B ≤ w.heap.size) (r : List UInt8) (hr : Hid (putT ⟨k, b, n, s⟩ = r)) (hn : -9223372036854775808 ≤ n ∧ n ≤ 9223372036854775807) (hs : s.size ≤ 10000000000000) :
    Calls Tryd.prog 64 #[.slice none 0 0, .agg #[.int .u8 k, .bool b, .int .i64 n, .string s]] w (PutOut w B r) := hr.out ▸ (put_any none 0 0 B [] w ⟨k, b, n, s⟩ hn hs (OwnB.nil w hB) (by decide))
set_option maxRecDepth 100000 in
set_option maxHeartbeats 4000000 in
theorem hash_any (A C : Option Addr) (c cc n nc : Nat) (l : List Dat) (cs : List Int) (w : World) (e1 : Hid (n = l.length)) (e2 : Hid (nc = cs.length)) (h1 : Hid (Rw w A c l)) (h2 : Hid (Is w C cc cs)) (hi : Hid (RwInt l)) (hz : Hid (∀ d ∈ l, d.s.size ≤ 10000000000000)) :
    Calls Tryd.prog 27 #[.slice A n c, .slice C nc cc] w fun e w' => e = .returned (.int .u64 (hashV l cs)) ∧ Ext w w' := by
  have hn9 : n ≤ 9223372036854775807 := by have := h1.out.le; rw [← e1.out] at this; exact this
  have hc9 : nc ≤ 9223372036854775807 := by have := Sl.le h2.out; rw [← e2.out] at this; exact this
  go_enter Tryd.func27, Tryd.ntmps27
  go_wp2
  go_loopg [5, 12] nc (fun z u v wr => ∃ (i : Nat) (h : Int), z = nc - i ∧ i ≤ nc ∧ v = .int .i64 i ∧ u = .int .u64 h ∧ Hid (h = (cs.take i).foldl (hashD l) 14695981039346656037) ∧ Ext w wr)
  case atStart => exact ⟨0, _, by omega, Nat.zero_le _, rfl, rfl, Lib.hid rfl, Ext.refl w⟩
  case round =>
    obtain ⟨i, h, rfl, hi1, rfl, rfl, HH, er⟩ := hrel
    obtain ⟨wo, hwo⟩ : ∃ wo : World, wo = wr := ⟨_, rfl⟩
    rw [← hwo] at er ⊢
    clear hwo
    have ER := Lib.hid er
    clear er
    by_cases hlt : i < nc
    · have hil : i < cs.length := by rw [← e2.out]; exact hlt
      obtain ⟨a1, rfl, p0⟩ := (h2.out.ext ER.out).at hil
      have HS := Lib.hid (hashV_snoc l cs 14695981039346656037 hil)
      obtain ⟨q, hq⟩ : ∃ q, cs.getD i 0 = q := ⟨_, rfl⟩
      rw [hq] at p0 HS
      by_cases hin : 0 ≤ q ∧ q < (n : Int)
      · obtain ⟨j, rfl⟩ := Int.eq_ofNat_of_zero_le hin.1
        have hjn : j < n := by omega
        have hj : j < l.length := by rw [← e1.out]; exact hjn
        obtain ⟨a2, rfl, d0, d1, d2, d3⟩ := (h1.out.ext ER.out).at hj
        have HIN := Lib.hid (hi.out.at hj)
        have HZ : Hid ((l.getD j Dat.zero).s.size ≤ 10000000000000) := Lib.hid (by
          rw [List.getD_eq_getElem?_getD, List.getElem?_eq_getElem hj]
          exact hz.out _ (List.getElem_mem hj))
        have HD := Lib.hid (hashD_in (h := h) hj)
        obtain ⟨d, hd⟩ : ∃ d, l.getD j Dat.zero = d := ⟨_, rfl⟩
        rw [hd] at d0 d1 d2 d3 HIN HZ HD
        clear hd
        obtain ⟨ka, ba, na, sa⟩ := d
        simp only at d0 d1 d2 d3
        obtain ⟨xs, hxs⟩ : ∃ xs, putT ⟨ka, ba, na, sa⟩ = xs := ⟨_, rfl⟩
        have HX := Lib.hid hxs
        rw [hxs] at HD
        clear hxs
        go_wp2_with (go_at_call 64; go_loud (refine (putb _ _ _ _ w.heap.size _ ER.out.size xs HX HIN.out HZ.out).mono ?_; rintro e w1 ⟨pA, pn, pc, rfl, o1, b1⟩; have PB := Lib.hid o1.bs; have PN := Lib.hid o1.len; have X1 : Hid (Ext w w1) := Lib.hid (Below.trans ER.out b1); have hp9 := o1.le; clear o1 b1))
        go_loopg [5, 30] pn (fun z u v wi => ∃ (k : Nat) (g : Int), z = pn - k ∧ k ≤ pn ∧ v = .int .i64 k ∧ u = .int .u64 g ∧ Hid (g = hashL h (xs.take k)) ∧ Ext w1 wi)
        case atStart => exact ⟨0, h, by omega, Nat.zero_le _, rfl, rfl, Lib.hid rfl, Ext.refl w1⟩
        case round =>
          obtain ⟨k, g, rfl, hk, rfl, rfl, HG, ei⟩ := hrel
          have EI := Lib.hid ei
          clear ei
          by_cases hkl : k < pn
          · have hkx : k < xs.length := by rw [← PN.out]; exact hkl
            obtain ⟨a3, rfl, y0⟩ := (PB.out.ext EI.out).at hkx
            have HT := Lib.hid (hashL_snoc h xs hkx)
            obtain ⟨y, hy⟩ : ∃ y, xs.getD k 0 = y := ⟨_, rfl⟩
            rw [hy] at y0 HT
            have hw := u8_wrap y
            go_wp2
            go_roundg (pn - (k + 1))
            case measure => omega
            case rel => exact ⟨k + 1, _, rfl, by omega, by go_num, rfl, Lib.hid (by rw [HT.out, ← HG.out]; rfl), by exact EI.out⟩
          · obtain rfl : k = pn := by omega
            have HT : Hid (g = hashL h xs) := Lib.hid (by rw [HG.out, List.take_of_length_le (by rw [← PN.out]; exact Nat.le_refl _)])
            go_wp2
            go_roundg (nc - (i + 1))
            case measure => omega
            case rel => exact ⟨i + 1, g, rfl, by omega, by go_num, rfl, Lib.hid (by rw [HS.out, ← HH.out, HD.out]; exact HT.out), (X1.out.trans EI.out)⟩
      · have hout : hashD l h q = h := hashD_out (by rw [← e1.out]; omega)
        have HO := Lib.hid hout
        clear hout
        rcases Int.lt_or_le q 0 with q1 | q1
        · go_wp2
          go_roundg (nc - (i + 1))
          case measure => omega
          case rel => exact ⟨i + 1, h, rfl, by omega, by go_num, rfl, Lib.hid (by rw [HS.out, ← HH.out, HO.out]), ER.out⟩
        · have q2 : (n : Int) ≤ q := by omega
          go_wp2
          go_roundg (nc - (i + 1))
          case measure => omega
          case rel => exact ⟨i + 1, h, rfl, by omega, by go_num, rfl, Lib.hid (by rw [HS.out, ← HH.out, HO.out]), ER.out⟩
    · obtain rfl : i = nc := by omega
      have HT : Hid (h = hashV l cs) := Lib.hid (by rw [HH.out, List.take_of_length_le (by rw [← e2.out]; exact Nat.le_refl _)]; rfl)
      go_wp2
      go_ret
      exact ⟨by rw [HT.out]; rfl, ER.out⟩
end Go.Proofs.YtngeioghihbkeaaDoor
namespace Go.Proofs.YtngeioghihbkeaaDoor
open Go.RowKit Go.Maps

def madeRow (n : Nat) : Obj := .cells (madeCells #[.int .u8 0, .bool false, .int .i64 0, .string ⟨#[]⟩] (n * 4)) 91
theorem make_row (n : Nat) (hn : n ≤ 1000000000) (W : World) : (Instr.makeSlice 23 (.int .i64 0) (.int .i64 (n : Int))).run Tryd.prog W = .ok (.slice (some ⟨W.heap.size, 0, none⟩) 0 n) (W.alloc (madeRow n)) := by
  obtain ⟨i, hi, hz, hs, hb⟩ := info_parts elem_dat.info
  have := run_make (P := Tryd.prog) (w := W) 23 91 i _ elem_dat.under hi hz .i64 .i64 0 (n : Int) (Int.le_refl _) (by omega) (by rw [hb]; omega) (by omega)
  rw [hs] at this
  exact this
theorem own_made (W : World) (n : Nat) (hn : n ≤ 1000000000) : Own (W.alloc (madeRow n)) W.heap.size 91 4 (some ⟨W.heap.size, 0, none⟩) 0 n [] :=
  ⟨rfl, .inr ⟨W.heap.size, _, rfl, Nat.le_refl _, heap_alloc_new W _, Nat.zero_le _, by unfold maxLen; omega, size_madeCells _ _, rfl⟩⟩
def pickL (l : List Dat) (cs : List Int) : List Dat := cs.map fun c => l.getD c.toNat Dat.zero
def pickOk (l : List Dat) (cs : List Int) : Prop := cs.length ≤ 32 ∧ ∀ c ∈ cs, 0 ≤ c ∧ c < (l.length : Int)
theorem take_snocI {α : Type} {l : List α} {i : Nat} (h : i < l.length) (d : α) : l.take (i + 1) = l.take i ++ [l.getD i d] := by
  rw [List.take_succ_eq_append_getElem h, List.getD_eq_getElem?_getD, List.getElem?_eq_getElem h]
  rfl
theorem pickL_snoc (l : List Dat) (cs : List Int) {i : Nat} (h : i < cs.length) : rowC (pickL l (cs.take (i + 1))) = rowC (pickL l (cs.take i)) ++ datC (l.getD (cs.getD i 0).toNat Dat.zero) := by
  unfold pickL
  rw [take_snocI h 0, List.map_append, rowC_append]
  exact congrArg _ (List.append_nil _)
theorem pickL_len (l : List Dat) (cs : List Int) : (pickL l cs).length = cs.length := List.length_map ..
/-- what Pick answers -/
def PickOut (w : World) (l : List Dat) (cs : List Int) (e : Ending) (w' : World) : Prop := Ext w w' ∧ ((pickOk l cs ∧ ∃ A c, e = .returned (.tuple #[.slice A cs.length c, .int .u16 0]) ∧ Own w' w.heap.size 91 4 A cs.length c (rowC (pickL l cs))) ∨ (¬ pickOk l cs ∧ e = .returned (.tuple #[.slice none 0 0, .int .u16 20])))
section
variable (A C : Option Addr) (c cc n nc : Nat) (l : List Dat) (cs : List Int) (w : World) (e1 : Hid (n = l.length)) (e2 : Hid (nc = cs.length)) (h1 : Hid (Rw w A c l)) (h2 : Hid (Is w C cc cs))
include e2 in
set_option maxRecDepth 100000 in
set_option maxHeartbeats 1000000 in
theorem pick_long (h : 32 < nc) : Calls Tryd.prog 26 #[.slice A n c, .slice C nc cc] w (PickOut w l cs) := by
  go_enter Tryd.func26, Tryd.ntmps26
  go_wp2
  go_ret2
  exact ⟨Ext.refl w, .inr ⟨fun q => by have := q.1; rw [← e2.out] at this; omega, rfl⟩⟩
include e1 e2 h1 h2
set_option maxRecDepth 100000 in
set_option maxHeartbeats 4000000 in
theorem pick_short (h : nc ≤ 32) : Calls Tryd.prog 26 #[.slice A n c, .slice C nc cc] w (PickOut w l cs) := by
  have hn9 : n ≤ 9223372036854775807 := by have := h1.out.le; rw [← e1.out] at this; exact this
  have hmk := make_row nc (by omega)
  have OM := Lib.hid (own_made w nc (by omega))
  go_enter Tryd.func26, Tryd.ntmps26
  go_wp2
  go_loopg [6, 17] nc (fun z u v wr => ∃ (i c0 : Nat) (A0 : Option Addr), z = nc - i ∧ i ≤ nc ∧ v = .int .i64 i ∧ u = .slice A0 i c0 ∧ Hid (∀ c ∈ cs.take i, 0 ≤ c ∧ c < (l.length : Int)) ∧ Hid (Own wr w.heap.size 91 4 A0 i c0 (rowC (pickL l (cs.take i)))) ∧ Ext w wr)
  case atStart => exact ⟨0, nc, _, by omega, Nat.zero_le _, rfl, rfl, Lib.hid (fun c hc => nomatch hc), OM, (Ext.refl w).alloc _⟩
  case round =>
    obtain ⟨i, c0, A0, rfl, hi1, rfl, rfl, HC, HO, er⟩ := hrel
    have ER := Lib.hid er
    clear er hmk OM
    by_cases hlt : i < nc
    · have hil : i < cs.length := by rw [← e2.out]; exact hlt
      obtain ⟨a1, rfl, p0⟩ := (h2.out.ext ER.out).at hil
      have HS := Lib.hid (pickL_snoc l cs hil)
      have HT := Lib.hid (take_snocI hil 0)
      obtain ⟨q, hq⟩ : ∃ q, cs.getD i 0 = q := ⟨_, rfl⟩
      rw [hq] at p0 HS HT
      have HQ : Hid (q ∈ cs) := Lib.hid (by rw [← hq, List.getD_eq_getElem?_getD, List.getElem?_eq_getElem hil]; exact List.getElem_mem hil)
      clear hq
      by_cases hin : 0 ≤ q ∧ q < (n : Int)
      · obtain ⟨j, rfl⟩ := Int.eq_ofNat_of_zero_le hin.1
        have hjn : j < n := by omega
        have hj : j < l.length := by rw [← e1.out]; exact hjn
        obtain ⟨a2, rfl, d0, d1, d2, d3⟩ := (h1.out.ext ER.out).at hj
        have HS2 : Hid (rowC (pickL l (cs.take (i + 1))) = rowC (pickL l (cs.take i)) ++ datC (l.getD j Dat.zero)) := Lib.hid (by rw [HS.out]; rfl)
        obtain ⟨d, hd⟩ : ∃ d, l.getD j Dat.zero = d := ⟨_, rfl⟩
        rw [hd] at d0 d1 d2 d3 HS2
        clear hd HS
        obtain ⟨ka, ba, na, sa⟩ := d
        simp only at d0 d1 d2 d3
        go_wp2_with (at_builtin; go_loud (refine wpList_append_two _ elem_dat w.heap.size _ _ rfl rfl A0 i c0 (rowC (pickL l (cs.take i))) rfl (HO.out.alloc _) _ 1 1 [.int .u8 ka, .bool ba, .int .i64 na, .string sa] rfl (Sl.one _ _ _ 4 rfl) (rowC_one [⟨ka, ba, na, sa⟩]) (by omega) (by decide) (by have := ER.out.size; simp; omega) ?_; intro A1 k1 w1 o1 g1 x1; clear x1; have O1 := Lib.hid o1; have X1 : Hid (Ext w w1) := Lib.hid ((ER.out.alloc _).grown g1 (fun k e => (HO.out.lt k e).1)); clear o1 g1))
        go_roundg (nc - (i + 1))
        case measure => omega
        case rel => exact ⟨i + 1, k1, A1, rfl, by omega, by go_num, rfl, Lib.hid (fun c hc => by rw [HT.out] at hc; rcases List.mem_append.1 hc with hc | hc; exact HC.out c hc; rw [List.mem_singleton] at hc; subst hc; rw [← e1.out]; exact hin), Lib.hid (by rw [HS2.out]; exact O1.out), X1.out⟩
      · have HN : Hid (¬ pickOk l cs) := Lib.hid (fun o => hin (by have := o.2 q HQ.out; rw [← e1.out] at this; exact this))
        rcases Int.lt_or_le q 0 with q1 | q1
        · go_wp2
          go_ret2
          exact ⟨ER.out, .inr ⟨HN.out, rfl⟩⟩
        · have q2 : (n : Int) ≤ q := by omega
          go_wp2
          go_ret2
          exact ⟨ER.out, .inr ⟨HN.out, rfl⟩⟩
    · obtain rfl : i = nc := by omega
      have HT : Hid (cs.take i = cs) := Lib.hid (List.take_of_length_le (by rw [← e2.out]; exact Nat.le_refl _))
      go_wp2
      go_ret2
      refine ⟨ER.out, .inl ⟨⟨by rw [← e2.out]; exact h, fun c hc => HC.out c (by rw [HT.out]; exact hc)⟩, A0, c0, by rw [← e2.out]; rfl, ?_⟩⟩
      have := HO.out
      rw [HT.out] at this
      rw [← e2.out]
      exact this
theorem pick_any : Calls Tryd.prog 26 #[.slice A n c, .slice C nc cc] w (PickOut w l cs) := by
  by_cases h : nc ≤ 32
  · exact pick_short A C c cc n nc l cs w e1 e2 h1 h2 h
  · exact pick_long A C c cc n nc l cs w e2 (by omega)
end
end Go.Proofs.YtngeioghihbkeaaDoor
namespace Go.Proofs.YtngeioghihbkeaaDoor
open Go.RowKit

theorem put_zero {a b : Dat} (h : cmpD a b = 0) : putT a = putT b := by
  unfold cmpD at h
  by_cases q : a.k = b.k
  · rw [if_pos q] at h
    unfold putT
    rw [← q]
    by_cases q2 : a.k = 2
    · rw [if_pos q2] at h
      have e := cmpT_zero h
      have e2 : a.b = b.b := by
        cases ha : a.b <;> cases hb : b.b <;> rw [ha, hb] at e
        · exact absurd e (by decide)
        · exact absurd e (by decide)
      rw [e2]
      simp only [q2]
      rfl
    · rw [if_neg q2] at h
      by_cases q3 : a.k = 3
      · rw [if_pos q3] at h
        rw [cmpT_zero h]
        simp only [q3]
        rfl
      · rw [if_neg q3] at h
        by_cases q4 : a.k = 4
        · rw [if_pos q4] at h
          rw [cmpS_zero h]
          simp only [q4]
          rfl
        · simp only [if_neg q2, if_neg q3, if_neg q4]
  · rw [if_neg q] at h
    exact absurd (cmpT_zero h) q
theorem hash_same_go (l m : List Dat) : ∀ cs : List Int, (∀ c ∈ cs, 0 ≤ c ∧ c < (l.length : Int)) → (∀ c ∈ cs, 0 ≤ c ∧ c < (m.length : Int)) → cmpR (pickL l cs) (pickL m cs) = 0 → ∀ h, cs.foldl (hashD l) h = cs.foldl (hashD m) h
  | [], _, _, _, h => rfl
  | c :: cs, hl, hm, hz, h => by
    unfold pickL at hz
    rw [List.map_cons, List.map_cons] at hz
    unfold cmpR at hz
    have a1 := hl c (List.mem_cons_self ..)
    have a2 := hm c (List.mem_cons_self ..)
    obtain ⟨j, rfl⟩ := Int.eq_ofNat_of_zero_le a1.1
    by_cases q : cmpD (l.getD (j : Int).toNat Dat.zero) (m.getD (j : Int).toNat Dat.zero) = 0
    · rw [if_pos q] at hz
      rw [List.foldl_cons, List.foldl_cons, hashD_in (l := l) (by omega), hashD_in (l := m) (by omega), put_zero (a := l.getD j Dat.zero) (b := m.getD j Dat.zero) q]
      exact hash_same_go l m cs (fun c hc => hl c (List.mem_cons_of_mem _ hc)) (fun c hc => hm c (List.mem_cons_of_mem _ hc)) hz _
    · rw [if_neg q] at hz
      exact absurd hz q
theorem hash_same {l m : List Dat} {cs : List Int} (hl : pickOk l cs) (hm : pickOk m cs) (h : cmpR (pickL l cs) (pickL m cs) = 0) : hashV l cs = hashV m cs := hash_same_go l m cs hl.2 hm.2 h _
def upI (n : Nat) : List Int := (List.range n).map fun i : Nat => (i : Int)
theorem upI_len (n : Nat) : (upI n).length = n := by unfold upI; rw [List.length_map, List.length_range]
theorem upI_at {n i : Nat} (h : i < n) : (upI n).getD i 0 = (i : Int) := by
  unfold upI
  rw [List.getD_eq_getElem?_getD, List.getElem?_map, List.getElem?_range h]
  rfl
theorem upI_succ (n : Nat) : upI (n + 1) = upI n ++ [(n : Int)] := by
  unfold upI
  rw [List.range_succ, List.map_append]
  rfl
theorem hash_pick_go (l : List Dat) (cs : List Int) (hk : pickOk l cs) (h : Int) : ∀ i, i ≤ cs.length → ((upI cs.length).take i).foldl (hashD (pickL l cs)) h = (cs.take i).foldl (hashD l) h
  | 0, _ => rfl
  | i + 1, hi => by
    have hi' : i < cs.length := hi
    rw [hashV_snoc _ (upI cs.length) h (by rw [upI_len]; exact hi'), hashV_snoc l cs h hi', hash_pick_go l cs hk h i (by omega), upI_at hi', hashD_in (by rw [pickL_len]; exact hi')]
    have a1 := hk.2 (cs.getD i 0) (by rw [List.getD_eq_getElem?_getD, List.getElem?_eq_getElem hi']; exact List.getElem_mem hi')
    obtain ⟨j, hj⟩ := Int.eq_ofNat_of_zero_le a1.1
    have e : (pickL l cs).getD i Dat.zero = l.getD (cs.getD i 0).toNat Dat.zero := by
      unfold pickL
      rw [List.getD_eq_getElem?_getD, List.getElem?_map, List.getD_eq_getElem?_getD (l := cs), List.getElem?_eq_getElem hi']
      rfl
    rw [e, hj, hashD_in (by omega)]
    rfl
theorem hash_pick {l : List Dat} {cs : List Int} (hk : pickOk l cs) : hashV (pickL l cs) (upI cs.length) = hashV l cs := by
  have := hash_pick_go l cs hk 14695981039346656037 cs.length (Nat.le_refl _)
  rw [List.take_of_length_le (Nat.le_refl _), List.take_of_length_le (by rw [upI_len]; exact Nat.le_refl _)] at this
  exact this
def TxtUp (l : List Dat) : Prop := ∀ d ∈ l, d.s.size ≤ 10000000000000
theorem pickL_mem {l : List Dat} {cs : List Int} (hk : pickOk l cs) {d : Dat} (hd : d ∈ pickL l cs) : d ∈ l := by
  obtain ⟨c, hc, rfl⟩ := List.mem_map.1 hd
  have := hk.2 c hc
  rw [List.getD_eq_getElem?_getD, List.getElem?_eq_getElem (by omega)]
  exact List.getElem_mem _
theorem pick_yes (A C : Option Addr) (c cc n nc : Nat) (l : List Dat) (cs : List Int) (w : World) (e1 : Hid (n = l.length)) (e2 : Hid (nc = cs.length)) (h1 : Hid (Rw w A c l)) (h2 : Hid (Is w C cc cs)) (hk : Hid (pickOk l cs)) :
    Calls Tryd.prog 26 #[.slice A n c, .slice C nc cc] w fun e w' => Ext w w' ∧ ∃ A' c', e = .returned (.tuple #[.slice A' nc c', .int .u16 0]) ∧ Rw w' A' c' (pickL l cs) :=
  (pick_any A C c cc n nc l cs w e1 e2 h1 h2).mono fun e w' ⟨x, q⟩ => ⟨x, by
    rcases q with ⟨_, A', c', he, r⟩ | ⟨q, _⟩
    · exact ⟨A', c', by rw [e2.out]; exact he, by unfold Rw; rw [pickL_len]; exact r.sl⟩
    · exact absurd hk.out q⟩
theorem pick_no (A C : Option Addr) (c cc n nc : Nat) (l : List Dat) (cs : List Int) (w : World) (e1 : Hid (n = l.length)) (e2 : Hid (nc = cs.length)) (h1 : Hid (Rw w A c l)) (h2 : Hid (Is w C cc cs)) (hk : Hid (¬ pickOk l cs)) :
    Calls Tryd.prog 26 #[.slice A n c, .slice C nc cc] w fun e w' => e = .returned (.tuple #[.slice none 0 0, .int .u16 20]) ∧ Ext w w' :=
  (pick_any A C c cc n nc l cs w e1 e2 h1 h2).mono fun e w' ⟨x, q⟩ => by
    rcases q with ⟨q, _⟩ | ⟨_, he⟩
    · exact absurd q hk.out
    · exact ⟨he, x⟩
theorem hash_lit (v : Int) (A C : Option Addr) (c cc n nc : Nat) (l : List Dat) (cs : List Int) (w : World) (hv : Hid (hashV l cs = v)) (e1 : Hid (n = l.length)) (e2 : Hid (nc = cs.length)) (h1 : Hid (Rw w A c l)) (h2 : Hid (Is w C cc cs)) (hi : Hid (RwInt l)) (hz : Hid (TxtUp l)) :
    Calls Tryd.prog 27 #[.slice A n c, .slice C nc cc] w fun e w' => e = .returned (.int .u64 v) ∧ Ext w w' := hv.out ▸ hash_any A C c cc n nc l cs w e1 e2 h1 h2 hi hz
theorem elem_int : Elem Tryd.prog 43 3 1 8 (.int .i64 0) := ⟨by kernel_rfl, by kernel_rfl, rfl, by decide⟩
section
variable (A1 A2 C : Option Addr) (c1 c2 cc n1 n2 nc : Nat) (l m : List Dat) (cs : List Int) (w : World) (E1 : Hid (n1 = l.length)) (E2 : Hid (n2 = m.length)) (E3 : Hid (nc = cs.length)) (H1 : Hid (Rw w A1 c1 l)) (H2 : Hid (Rw w A2 c2 m)) (H3 : Hid (Is w C cc cs)) (T1 : Hid (RwInt l)) (T2 : Hid (RwInt m)) (Z1 : Hid (TxtUp l)) (Z2 : Hid (TxtUp m)) (b1 : n1 ≤ 2000000) (b2 : n2 ≤ 2000000) (b3 : nc ≤ 2000000) (G : Good w)
include b1 b2 b3 G in
set_option maxRecDepth 100000 in
set_option maxHeartbeats 800000 in
theorem hashes_a (h : 200 < n1 + n2 + nc) : Calls Tryd.prog 8 #[.slice A1 n1 c1, .slice A2 n2 c2, .slice C nc cc] w fun e w' => e = .returned (.bool true) ∧ Ext w w' := by
  have hw1 : IntKind.i64.wrap ((n1 : Int) + (n2 : Int)) = (n1 : Int) + (n2 : Int) := IntWalk.i64_in _ (by omega)
  have hw2 : IntKind.i64.wrap ((n1 : Int) + (n2 : Int) + (nc : Int)) = (n1 : Int) + (n2 : Int) + (nc : Int) := IntWalk.i64_in _ (by omega)
  have hgt : ¬ (n1 : Int) + (n2 : Int) + (nc : Int) ≤ 200 := by omega
  go_enter Tryd.func8, Tryd.ntmps8
  go_wp2_with (go_at_call 13; refine (known_true _ G).mono ?_; rintro e w2 ⟨rfl, x2⟩)
  go_ret
  exact ⟨rfl, x2⟩
include E1 E2 E3 H1 H2 H3 G in
set_option maxRecDepth 100000 in
set_option maxHeartbeats 8000000 in
theorem hashes_ny (h200 : n1 + n2 + nc ≤ 200) (K1 : Hid (¬ pickOk l cs)) (K2 : Hid (pickOk m cs)) : Calls Tryd.prog 8 #[.slice A1 n1 c1, .slice A2 n2 c2, .slice C nc cc] w fun e w' => e = .returned (.bool true) ∧ Ext w w' := by
  have b1 : n1 ≤ 200 := by omega
  have b2 : n2 ≤ 200 := by omega
  have b3 : nc ≤ 200 := by omega
  have hw1 : IntKind.i64.wrap ((n1 : Int) + (n2 : Int)) = (n1 : Int) + (n2 : Int) := IntWalk.i64_in _ (by omega)
  have hw2 : IntKind.i64.wrap ((n1 : Int) + (n2 : Int) + (nc : Int)) = (n1 : Int) + (n2 : Int) + (nc : Int) := IntWalk.i64_in _ (by omega)
  have hle : (n1 : Int) + (n2 : Int) + (nc : Int) ≤ 200 := by omega
  have m1 : True := trivial
  go_enter Tryd.func8, Tryd.ntmps8
  go_wp2_with (first
    | (have z := m1; clear z m1; go_at_call 26; go_loud (refine (pick_no A1 C c1 cc n1 nc l cs _ E1 E3 H1 H3 K1).mono ?_; rintro e w1 ⟨rfl, x1⟩; have X1 := Lib.hid x1; clear x1; have m2 : True := trivial))
    | (have z := m2; clear z m2; go_at_call 26; go_loud (refine (pick_yes A2 C c2 cc n2 nc m cs _ E2 E3 (Lib.hid (H2.out.ext X1.out)) (Lib.hid (H3.out.ext X1.out)) K2).mono ?_; rintro e w2 ⟨x2, qA, qc, rfl, qr⟩; have X2 := Lib.hid (X1.out.trans x2); have QR := Lib.hid qr; clear x2 qr; have m3 : True := trivial))
    | (have z := m3; clear z m3; go_at_call 13; go_loud (refine (known_true _ (G.ext X2.out)).mono ?_; rintro e w3 ⟨rfl, x3⟩; skip; have m4 : True := trivial))
    | fail)
  go_ret
  exact ⟨rfl, X2.out.trans x3⟩
include E1 E2 E3 H1 H2 H3 G in
set_option maxRecDepth 100000 in
set_option maxHeartbeats 8000000 in
theorem hashes_nn (h200 : n1 + n2 + nc ≤ 200) (K1 : Hid (¬ pickOk l cs)) (K2 : Hid (¬ pickOk m cs)) : Calls Tryd.prog 8 #[.slice A1 n1 c1, .slice A2 n2 c2, .slice C nc cc] w fun e w' => e = .returned (.bool true) ∧ Ext w w' := by
  have b1 : n1 ≤ 200 := by omega
  have b2 : n2 ≤ 200 := by omega
  have b3 : nc ≤ 200 := by omega
  have hw1 : IntKind.i64.wrap ((n1 : Int) + (n2 : Int)) = (n1 : Int) + (n2 : Int) := IntWalk.i64_in _ (by omega)
  have hw2 : IntKind.i64.wrap ((n1 : Int) + (n2 : Int) + (nc : Int)) = (n1 : Int) + (n2 : Int) + (nc : Int) := IntWalk.i64_in _ (by omega)
  have hle : (n1 : Int) + (n2 : Int) + (nc : Int) ≤ 200 := by omega
  have m1 : True := trivial
  go_enter Tryd.func8, Tryd.ntmps8
  go_wp2_with (first
    | (have z := m1; clear z m1; go_at_call 26; go_loud (refine (pick_no A1 C c1 cc n1 nc l cs _ E1 E3 H1 H3 K1).mono ?_; rintro e w1 ⟨rfl, x1⟩; have X1 := Lib.hid x1; clear x1; have m2 : True := trivial))
    | (have z := m2; clear z m2; go_at_call 26; go_loud (refine (pick_no A2 C c2 cc n2 nc m cs _ E2 E3 (Lib.hid (H2.out.ext X1.out)) (Lib.hid (H3.out.ext X1.out)) K2).mono ?_; rintro e w2 ⟨rfl, x2⟩; have X2 := Lib.hid (X1.out.trans x2); clear x2; have m3 : True := trivial))
    | (have z := m3; clear z m3; go_at_call 13; go_loud (refine (known_true _ (G.ext X2.out)).mono ?_; rintro e w3 ⟨rfl, x3⟩; skip; have m4 : True := trivial))
    | fail)
  go_ret
  exact ⟨rfl, X2.out.trans x3⟩
include E1 E2 E3 H1 H2 H3 G T1 Z1 in
set_option maxRecDepth 100000 in
set_option maxHeartbeats 8000000 in
theorem hashes_yn (h200 : n1 + n2 + nc ≤ 200) (K1 : Hid (pickOk l cs)) (K2 : Hid (¬ pickOk m cs)) : Calls Tryd.prog 8 #[.slice A1 n1 c1, .slice A2 n2 c2, .slice C nc cc] w fun e w' => e = .returned (.bool true) ∧ Ext w w' := by
  have b1 : n1 ≤ 200 := by omega
  have b2 : n2 ≤ 200 := by omega
  have b3 : nc ≤ 200 := by omega
  have hw1 : IntKind.i64.wrap ((n1 : Int) + (n2 : Int)) = (n1 : Int) + (n2 : Int) := IntWalk.i64_in _ (by omega)
  have hw2 : IntKind.i64.wrap ((n1 : Int) + (n2 : Int) + (nc : Int)) = (n1 : Int) + (n2 : Int) + (nc : Int) := IntWalk.i64_in _ (by omega)
  have hle : (n1 : Int) + (n2 : Int) + (nc : Int) ≤ 200 := by omega
  have m1 : True := trivial
  obtain ⟨v, hv⟩ : ∃ v, hashV l cs = v := ⟨_, rfl⟩
  have HV := Lib.hid hv
  have HP : Hid (hashV (pickL l cs) (upI nc) = v) := Lib.hid (by rw [E3.out, hash_pick K1.out]; exact hv)
  have EP : Hid (nc = (pickL l cs).length) := Lib.hid (by rw [pickL_len]; exact E3.out)
  have EU : Hid (nc = (upI nc).length) := Lib.hid (upI_len nc).symm
  have TP : Hid (RwInt (pickL l cs)) := Lib.hid (fun d hd => T1.out d (pickL_mem K1.out hd))
  have ZP : Hid (TxtUp (pickL l cs)) := Lib.hid (fun d hd => Z1.out d (pickL_mem K1.out hd))
  clear hv
  go_enter Tryd.func8, Tryd.ntmps8
  go_wp2_with (first
    | (have z := m1; clear z m1; go_at_call 26; go_loud (refine (pick_yes A1 C c1 cc n1 nc l cs _ E1 E3 H1 H3 K1).mono ?_; rintro e w1 ⟨x1, pA, pc, rfl, pr⟩; have X1 := Lib.hid x1; have PR := Lib.hid pr; clear x1 pr; have m2 : True := trivial))
    | (have z := m2; clear z m2; go_at_call 26; go_loud (refine (pick_no A2 C c2 cc n2 nc m cs _ E2 E3 (Lib.hid (H2.out.ext X1.out)) (Lib.hid (H3.out.ext X1.out)) K2).mono ?_; rintro e w2 ⟨rfl, x2⟩; have X2 := Lib.hid (X1.out.trans x2); have PR2 := Lib.hid (PR.out.ext x2); clear x2; have m3 : True := trivial))
    | fail)
  go_loopg [11, 12] nc (fun z u v wr => ∃ (i c0 : Nat) (A0 : Option Addr), z = nc - i ∧ i ≤ nc ∧ v = .int .i64 i ∧ u = .slice A0 i c0 ∧ Hid (Own wr w2.heap.size 3 1 A0 i c0 (ints (upI i))) ∧ Ext w2 wr)
  case atStart => exact ⟨0, 0, none, by omega, Nat.zero_le _, rfl, rfl, Lib.hid (by exact Own.nil _ _ _ _), Ext.refl w2⟩
  case round =>
    obtain ⟨i, c0, A0, rfl, hi1, rfl, rfl, HO, er⟩ := hrel
    have ER := Lib.hid er
    clear er
    by_cases hlt : i < nc
    · go_wp2_with (at_builtin; go_loud (refine wpList_append_two _ elem_int w2.heap.size _ _ rfl rfl A0 i c0 (ints (upI i)) rfl (HO.out.alloc _) _ 1 1 [.int .i64 i] rfl (Sl.one _ _ _ 1 rfl) (by intro u hu; rw [List.mem_singleton] at hu; subst hu; rfl) (by omega) (by decide) (by have := ER.out.size; simp; omega) ?_; intro A3 k3 w3 o3 g3 x3; clear x3; have O3 := Lib.hid o3; have X3 : Hid (Ext w2 w3) := Lib.hid ((ER.out.alloc _).grown g3 (fun k e => (HO.out.lt k e).1)); clear o3 g3))
      go_roundg (nc - (i + 1))
      case measure => omega
      case rel => exact ⟨i + 1, k3, A3, rfl, by omega, by go_num, rfl, Lib.hid (by have := O3.out; rw [upI_succ]; unfold ints at this ⊢; rw [List.map_append]; exact this), X3.out⟩
    · obtain rfl : i = nc := by omega
      obtain ⟨w3, hw3⟩ : ∃ w3 : World, w3 = wr := ⟨_, rfl⟩
      rw [← hw3] at HO ER ⊢
      clear hw3
      have X3 := Lib.hid (X2.out.trans ER.out)
      have R1 := Lib.hid (H1.out.ext X3.out)
      have R2 := Lib.hid (H2.out.ext X3.out)
      have R3 := Lib.hid (H3.out.ext X3.out)
      have RP := Lib.hid (PR2.out.ext ER.out)
      have RU : Hid (Is w3 A0 c0 (upI i)) := Lib.hid (by have := HO.out.sl; unfold Is; rw [upI_len]; exact this)
      have m11 : True := trivial
      go_wp2_with (first
        | (have z := m11; clear z m11; go_at_call 27; go_loud (refine (hash_lit v A1 C c1 cc n1 i l cs _ HV E1 E3 R1 R3 T1 Z1).mono ?_; rintro e w4 ⟨rfl, x4⟩; have X4 := Lib.hid x4; have m12 : True := trivial))
        | (have z := m12; clear z m12; go_at_call 27; go_loud (refine (hash_lit v pA A0 pc c0 i i (pickL l cs) (upI i) _ HP EP EU (Lib.hid (RP.out.ext x4)) (Lib.hid (RU.out.ext x4)) TP ZP).mono ?_; rintro e w5 ⟨rfl, x5⟩; have X5 := Lib.hid (X4.out.trans x5); have m13 : True := trivial))
        | (have z := m13; clear z m13; go_at_call 13; go_loud (refine (known_true _ (G.ext (X3.out.trans X5.out))).mono ?_; rintro e w6 ⟨rfl, x6⟩; have X6 := Lib.hid (X5.out.trans x6); have m14 : True := trivial))
        | fail)
      go_ret
      exact ⟨rfl, X3.out.trans X6.out⟩
include E1 E2 E3 H1 H2 H3 G T1 Z1 in
set_option maxRecDepth 100000 in
set_option maxHeartbeats 8000000 in
theorem hashes_yv (h200 : n1 + n2 + nc ≤ 200) (K1 : Hid (pickOk l cs)) (K2 : Hid (pickOk m cs)) (u : Int) (hu : (u != 0) = true) (HU : Hid (cmpR (pickL l cs) (pickL m cs) = u)) : Calls Tryd.prog 8 #[.slice A1 n1 c1, .slice A2 n2 c2, .slice C nc cc] w fun e w' => e = .returned (.bool true) ∧ Ext w w' := by
  have b1 : n1 ≤ 200 := by omega
  have b2 : n2 ≤ 200 := by omega
  have b3 : nc ≤ 200 := by omega
  have hw1 : IntKind.i64.wrap ((n1 : Int) + (n2 : Int)) = (n1 : Int) + (n2 : Int) := IntWalk.i64_in _ (by omega)
  have hw2 : IntKind.i64.wrap ((n1 : Int) + (n2 : Int) + (nc : Int)) = (n1 : Int) + (n2 : Int) + (nc : Int) := IntWalk.i64_in _ (by omega)
  have hle : (n1 : Int) + (n2 : Int) + (nc : Int) ≤ 200 := by omega
  have m1 : True := trivial
  obtain ⟨v, hv⟩ : ∃ v, hashV l cs = v := ⟨_, rfl⟩
  have HV := Lib.hid hv
  have HP : Hid (hashV (pickL l cs) (upI nc) = v) := Lib.hid (by rw [E3.out, hash_pick K1.out]; exact hv)
  have EP : Hid (nc = (pickL l cs).length) := Lib.hid (by rw [pickL_len]; exact E3.out)
  have EU : Hid (nc = (upI nc).length) := Lib.hid (upI_len nc).symm
  have TP : Hid (RwInt (pickL l cs)) := Lib.hid (fun d hd => T1.out d (pickL_mem K1.out hd))
  have ZP : Hid (TxtUp (pickL l cs)) := Lib.hid (fun d hd => Z1.out d (pickL_mem K1.out hd))
  have EQ : Hid (nc = (pickL m cs).length) := Lib.hid (by rw [pickL_len]; exact E3.out)
  clear hv
  go_enter Tryd.func8, Tryd.ntmps8
  go_wp2_with (first
    | (have z := m1; clear z m1; go_at_call 26; go_loud (refine (pick_yes A1 C c1 cc n1 nc l cs _ E1 E3 H1 H3 K1).mono ?_; rintro e w1 ⟨x1, pA, pc, rfl, pr⟩; have X1 := Lib.hid x1; have PR := Lib.hid pr; clear x1 pr; have m2 : True := trivial))
    | (have z := m2; clear z m2; go_at_call 26; go_loud (refine (pick_yes A2 C c2 cc n2 nc m cs _ E2 E3 (Lib.hid (H2.out.ext X1.out)) (Lib.hid (H3.out.ext X1.out)) K2).mono ?_; rintro e w2 ⟨x2, qA, qc, rfl, qr⟩; have X2 := Lib.hid (X1.out.trans x2); have QR := Lib.hid qr; have PR2 := Lib.hid (PR.out.ext x2); clear x2 qr; have m3 : True := trivial))
    | fail)
  go_loopg [11, 12] nc (fun z u v wr => ∃ (i c0 : Nat) (A0 : Option Addr), z = nc - i ∧ i ≤ nc ∧ v = .int .i64 i ∧ u = .slice A0 i c0 ∧ Hid (Own wr w2.heap.size 3 1 A0 i c0 (ints (upI i))) ∧ Ext w2 wr)
  case atStart => exact ⟨0, 0, none, by omega, Nat.zero_le _, rfl, rfl, Lib.hid (by exact Own.nil _ _ _ _), Ext.refl w2⟩
  case round =>
    obtain ⟨i, c0, A0, rfl, hi1, rfl, rfl, HO, er⟩ := hrel
    have ER := Lib.hid er
    clear er
    by_cases hlt : i < nc
    · go_wp2_with (at_builtin; go_loud (refine wpList_append_two _ elem_int w2.heap.size _ _ rfl rfl A0 i c0 (ints (upI i)) rfl (HO.out.alloc _) _ 1 1 [.int .i64 i] rfl (Sl.one _ _ _ 1 rfl) (by intro u hu; rw [List.mem_singleton] at hu; subst hu; rfl) (by omega) (by decide) (by have := ER.out.size; simp; omega) ?_; intro A3 k3 w3 o3 g3 x3; clear x3; have O3 := Lib.hid o3; have X3 : Hid (Ext w2 w3) := Lib.hid ((ER.out.alloc _).grown g3 (fun k e => (HO.out.lt k e).1)); clear o3 g3))
      go_roundg (nc - (i + 1))
      case measure => omega
      case rel => exact ⟨i + 1, k3, A3, rfl, by omega, by go_num, rfl, Lib.hid (by have := O3.out; rw [upI_succ]; unfold ints at this ⊢; rw [List.map_append]; exact this), X3.out⟩
    · obtain rfl : i = nc := by omega
      obtain ⟨w3, hw3⟩ : ∃ w3 : World, w3 = wr := ⟨_, rfl⟩
      rw [← hw3] at HO ER ⊢
      clear hw3
      have X3 := Lib.hid (X2.out.trans ER.out)
      have R1 := Lib.hid (H1.out.ext X3.out)
      have R2 := Lib.hid (H2.out.ext X3.out)
      have R3 := Lib.hid (H3.out.ext X3.out)
      have RP := Lib.hid (PR2.out.ext ER.out)
      have RQ := Lib.hid (QR.out.ext ER.out)
      have RU : Hid (Is w3 A0 c0 (upI i)) := Lib.hid (by have := HO.out.sl; unfold Is; rw [upI_len]; exact this)
      have m11 : True := trivial
      go_wp2_with (first
        | (have z := m11; clear z m11; go_at_call 27; go_loud (refine (hash_lit v A1 C c1 cc n1 i l cs _ HV E1 E3 R1 R3 T1 Z1).mono ?_; rintro e w4 ⟨rfl, x4⟩; have X4 := Lib.hid x4; have m12 : True := trivial))
        | (have z := m12; clear z m12; go_at_call 27; go_loud (refine (hash_lit v pA A0 pc c0 i i (pickL l cs) (upI i) _ HP EP EU (Lib.hid (RP.out.ext x4)) (Lib.hid (RU.out.ext x4)) TP ZP).mono ?_; rintro e w5 ⟨rfl, x5⟩; have X5 := Lib.hid (X4.out.trans x5); have m13 : True := trivial))
        | (have z := m13; clear z m13; go_at_call 13; go_loud (refine (known_true _ (G.ext (X3.out.trans X5.out))).mono ?_; rintro e w6 ⟨rfl, x6⟩; have X6 := Lib.hid (X5.out.trans x6); have m14 : True := trivial))
        | (have z := m14; clear z m14; go_at_call 14; go_loud (refine (rowCmp_lit (v := u) pA qA pc qc i i (pickL l cs) (pickL m cs) _ HU EP EQ (Lib.hid (RP.out.ext X6.out)) (Lib.hid (RQ.out.ext X6.out))).mono ?_; rintro e w7 ⟨rfl, x7⟩; have X7 := Lib.hid (X6.out.trans x7); have m15 : True := trivial))
        | fail)
      go_ret
      exact ⟨rfl, X3.out.trans X7.out⟩
include E1 E2 E3 H1 H2 H3 G T1 Z1 T2 Z2 in
set_option maxRecDepth 100000 in
set_option maxHeartbeats 8000000 in
theorem hashes_y0 (h200 : n1 + n2 + nc ≤ 200) (K1 : Hid (pickOk l cs)) (K2 : Hid (pickOk m cs)) (HU : Hid (cmpR (pickL l cs) (pickL m cs) = 0)) : Calls Tryd.prog 8 #[.slice A1 n1 c1, .slice A2 n2 c2, .slice C nc cc] w fun e w' => e = .returned (.bool true) ∧ Ext w w' := by
  have b1 : n1 ≤ 200 := by omega
  have b2 : n2 ≤ 200 := by omega
  have b3 : nc ≤ 200 := by omega
  have hw1 : IntKind.i64.wrap ((n1 : Int) + (n2 : Int)) = (n1 : Int) + (n2 : Int) := IntWalk.i64_in _ (by omega)
  have hw2 : IntKind.i64.wrap ((n1 : Int) + (n2 : Int) + (nc : Int)) = (n1 : Int) + (n2 : Int) + (nc : Int) := IntWalk.i64_in _ (by omega)
  have hle : (n1 : Int) + (n2 : Int) + (nc : Int) ≤ 200 := by omega
  have m1 : True := trivial
  obtain ⟨v, hv⟩ : ∃ v, hashV l cs = v := ⟨_, rfl⟩
  have HV := Lib.hid hv
  have HP : Hid (hashV (pickL l cs) (upI nc) = v) := Lib.hid (by rw [E3.out, hash_pick K1.out]; exact hv)
  have EP : Hid (nc = (pickL l cs).length) := Lib.hid (by rw [pickL_len]; exact E3.out)
  have EU : Hid (nc = (upI nc).length) := Lib.hid (upI_len nc).symm
  have TP : Hid (RwInt (pickL l cs)) := Lib.hid (fun d hd => T1.out d (pickL_mem K1.out hd))
  have ZP : Hid (TxtUp (pickL l cs)) := Lib.hid (fun d hd => Z1.out d (pickL_mem K1.out hd))
  have EQ : Hid (nc = (pickL m cs).length) := Lib.hid (by rw [pickL_len]; exact E3.out)
  have HW : Hid (hashV m cs = v) := Lib.hid (by rw [← hash_same K1.out K2.out HU.out]; exact hv)
  clear hv
  go_enter Tryd.func8, Tryd.ntmps8
  go_wp2_with (first
    | (have z := m1; clear z m1; go_at_call 26; go_loud (refine (pick_yes A1 C c1 cc n1 nc l cs _ E1 E3 H1 H3 K1).mono ?_; rintro e w1 ⟨x1, pA, pc, rfl, pr⟩; have X1 := Lib.hid x1; have PR := Lib.hid pr; clear x1 pr; have m2 : True := trivial))
    | (have z := m2; clear z m2; go_at_call 26; go_loud (refine (pick_yes A2 C c2 cc n2 nc m cs _ E2 E3 (Lib.hid (H2.out.ext X1.out)) (Lib.hid (H3.out.ext X1.out)) K2).mono ?_; rintro e w2 ⟨x2, qA, qc, rfl, qr⟩; have X2 := Lib.hid (X1.out.trans x2); have QR := Lib.hid qr; have PR2 := Lib.hid (PR.out.ext x2); clear x2 qr; have m3 : True := trivial))
    | fail)
  go_loopg [11, 12] nc (fun z u v wr => ∃ (i c0 : Nat) (A0 : Option Addr), z = nc - i ∧ i ≤ nc ∧ v = .int .i64 i ∧ u = .slice A0 i c0 ∧ Hid (Own wr w2.heap.size 3 1 A0 i c0 (ints (upI i))) ∧ Ext w2 wr)
  case atStart => exact ⟨0, 0, none, by omega, Nat.zero_le _, rfl, rfl, Lib.hid (by exact Own.nil _ _ _ _), Ext.refl w2⟩
  case round =>
    obtain ⟨i, c0, A0, rfl, hi1, rfl, rfl, HO, er⟩ := hrel
    have ER := Lib.hid er
    clear er
    by_cases hlt : i < nc
    · go_wp2_with (at_builtin; go_loud (refine wpList_append_two _ elem_int w2.heap.size _ _ rfl rfl A0 i c0 (ints (upI i)) rfl (HO.out.alloc _) _ 1 1 [.int .i64 i] rfl (Sl.one _ _ _ 1 rfl) (by intro u hu; rw [List.mem_singleton] at hu; subst hu; rfl) (by omega) (by decide) (by have := ER.out.size; simp; omega) ?_; intro A3 k3 w3 o3 g3 x3; clear x3; have O3 := Lib.hid o3; have X3 : Hid (Ext w2 w3) := Lib.hid ((ER.out.alloc _).grown g3 (fun k e => (HO.out.lt k e).1)); clear o3 g3))
      go_roundg (nc - (i + 1))
      case measure => omega
      case rel => exact ⟨i + 1, k3, A3, rfl, by omega, by go_num, rfl, Lib.hid (by have := O3.out; rw [upI_succ]; unfold ints at this ⊢; rw [List.map_append]; exact this), X3.out⟩
    · obtain rfl : i = nc := by omega
      obtain ⟨w3, hw3⟩ : ∃ w3 : World, w3 = wr := ⟨_, rfl⟩
      rw [← hw3] at HO ER ⊢
      clear hw3
      have X3 := Lib.hid (X2.out.trans ER.out)
      have R1 := Lib.hid (H1.out.ext X3.out)
      have R2 := Lib.hid (H2.out.ext X3.out)
      have R3 := Lib.hid (H3.out.ext X3.out)
      have RP := Lib.hid (PR2.out.ext ER.out)
      have RQ := Lib.hid (QR.out.ext ER.out)
      have RU : Hid (Is w3 A0 c0 (upI i)) := Lib.hid (by have := HO.out.sl; unfold Is; rw [upI_len]; exact this)
      have m11 : True := trivial
      go_wp2_with (first
        | (have z := m11; clear z m11; go_at_call 27; go_loud (refine (hash_lit v A1 C c1 cc n1 i l cs _ HV E1 E3 R1 R3 T1 Z1).mono ?_; rintro e w4 ⟨rfl, x4⟩; have X4 := Lib.hid x4; have m12 : True := trivial))
        | (have z := m12; clear z m12; go_at_call 27; go_loud (refine (hash_lit v pA A0 pc c0 i i (pickL l cs) (upI i) _ HP EP EU (Lib.hid (RP.out.ext x4)) (Lib.hid (RU.out.ext x4)) TP ZP).mono ?_; rintro e w5 ⟨rfl, x5⟩; have X5 := Lib.hid (X4.out.trans x5); have m13 : True := trivial))
        | (have z := m13; clear z m13; go_at_call 13; go_loud (refine (known_true _ (G.ext (X3.out.trans X5.out))).mono ?_; rintro e w6 ⟨rfl, x6⟩; have X6 := Lib.hid (X5.out.trans x6); have m14 : True := trivial))
        | (have z := m14; clear z m14; go_at_call 14; go_loud (refine (rowCmp_lit (v := 0) pA qA pc qc i i (pickL l cs) (pickL m cs) _ HU EP EQ (Lib.hid (RP.out.ext X6.out)) (Lib.hid (RQ.out.ext X6.out))).mono ?_; rintro e w7 ⟨rfl, x7⟩; have X7 := Lib.hid (X6.out.trans x7); have m15 : True := trivial))
        | (have z := m15; clear z m15; go_at_call 27; go_loud (refine (hash_lit v A1 C c1 cc n1 i l cs _ HV E1 E3 (Lib.hid (R1.out.ext X7.out)) (Lib.hid (R3.out.ext X7.out)) T1 Z1).mono ?_; rintro e w8 ⟨rfl, x8⟩; have X8 := Lib.hid (X7.out.trans x8); have m16 : True := trivial))
        | (have z := m16; clear z m16; go_at_call 27; go_loud (refine (hash_lit v A2 C c2 cc n2 i m cs _ HW E2 E3 (Lib.hid (R2.out.ext X8.out)) (Lib.hid (R3.out.ext X8.out)) T2 Z2).mono ?_; rintro e w9 ⟨rfl, x9⟩; have X9 := Lib.hid (X8.out.trans x9); have m17 : True := trivial))
        | fail)
      go_ret
      exact ⟨rfl, X3.out.trans X9.out⟩
end
theorem rowhash_any (A1 A2 C : Option Addr) (c1 c2 cc : Nat) (l m : List Dat) (cs : List Int) (w : World) (h1 : Rw w A1 c1 l) (h2 : Rw w A2 c2 m) (h3 : Is w C cc cs) (t1 : RwInt l) (t2 : RwInt m) (z1 : TxtUp l) (z2 : TxtUp m) (b1 : l.length ≤ 2000000) (b2 : m.length ≤ 2000000) (b3 : cs.length ≤ 2000000) (G : Good w) :
    Calls Tryd.prog 8 #[.slice A1 l.length c1, .slice A2 m.length c2, .slice C cs.length cc] w fun e w' => e = .returned (.bool true) ∧ Ext w w' := by
  have E1 : Hid (l.length = l.length) := Lib.hid rfl
  have E2 : Hid (m.length = m.length) := Lib.hid rfl
  have E3 : Hid (cs.length = cs.length) := Lib.hid rfl
  have H1 := Lib.hid h1
  have H2 := Lib.hid h2
  have H3 := Lib.hid h3
  by_cases h : l.length + m.length + cs.length ≤ 200
  · by_cases k1 : pickOk l cs
    · by_cases k2 : pickOk m cs
      · by_cases hz : cmpR (pickL l cs) (pickL m cs) = 0
        · exact hashes_y0 A1 A2 C c1 c2 cc _ _ _ l m cs w E1 E2 E3 H1 H2 H3 (Lib.hid t1) (Lib.hid t2) (Lib.hid z1) (Lib.hid z2) G h (Lib.hid k1) (Lib.hid k2) (Lib.hid hz)
        · exact hashes_yv A1 A2 C c1 c2 cc _ _ _ l m cs w E1 E2 E3 H1 H2 H3 (Lib.hid t1) (Lib.hid z1) G h (Lib.hid k1) (Lib.hid k2) _ (by simpa using hz) (Lib.hid rfl)
      · exact hashes_yn A1 A2 C c1 c2 cc _ _ _ l m cs w E1 E2 E3 H1 H2 H3 (Lib.hid t1) (Lib.hid z1) G h (Lib.hid k1) (Lib.hid k2)
    · by_cases k2 : pickOk m cs
      · exact hashes_ny A1 A2 C c1 c2 cc _ _ _ l m cs w E1 E2 E3 H1 H2 H3 G h (Lib.hid k1) (Lib.hid k2)
      · exact hashes_nn A1 A2 C c1 c2 cc _ _ _ l m cs w E1 E2 E3 H1 H2 H3 G h (Lib.hid k1) (Lib.hid k2)
  · exact hashes_a A1 A2 C c1 c2 cc _ _ _ w b1 b2 b3 G (by omega)
end Go.Proofs.YtngeioghihbkeaaDoor
