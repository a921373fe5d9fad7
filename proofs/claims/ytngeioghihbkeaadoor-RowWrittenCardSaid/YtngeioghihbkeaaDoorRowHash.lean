/- row.Hash: any row, any columns, texts of a length that fits. Conditions: the row is as readings give it. -/
import Derived.Test.YtngeioghihbkeaaDoorRowKey
import Derived.Test.YtngeioghihbkeaaDoorRowEnc
import Derived.Deep.LoopGhost
namespace Go.Proofs.YtngeioghihbkeaaDoor
open Go.RowKit

def ints (l : List Int) : List Value := l.map (Value.int .i64)
theorem ints_one (l : List Int) : ∀ u ∈ ints l, u.oneCell' = true := by
  intro u hu
  obtain ⟨x, _, rfl⟩ := List.mem_map.1 hu
  rfl
/-- the slice '.slice A l.length c' reads as the ints l -/
def Is (w : World) (A : Option Addr) (c : Nat) (l : List Int) : Prop := Sl w 1 A l.length c (ints l)
theorem Is.ext {w w' : World} {A : Option Addr} {c : Nat} {l : List Int} (h : Is w A c l) (x : Ext w w') : Is w' A c l := Sl.ext h x
theorem Is.at {w : World} {A : Option Addr} {c : Nat} {l : List Int} (h : Is w A c l) {k : Nat} (hk : k < l.length) : ∃ ad, A = some ad ∧ w.cell? (ad.add k) = some (.int .i64 (l.getD k 0)) := by
  obtain ⟨ad, h1, h2⟩ := h.2.2.2.2 (by omega)
  refine ⟨ad, h1, h2 k _ ?_⟩
  unfold ints
  rw [List.getElem?_map, List.getElem?_eq_getElem hk, List.getD_eq_getElem?_getD, List.getElem?_eq_getElem hk]
  rfl
/-- one byte more -/
def hashB (h : Int) (c : UInt8) : Int := IntKind.u64.wrap (bits .xor .u64 h (c.toNat : Int) * 1099511628211)
def hashL (h : Int) (xs : List UInt8) : Int := xs.foldl hashB h
def hashD (l : List Dat) (h c : Int) : Int := if c < 0 ∨ (l.length : Int) ≤ c then h else hashL h (putT (l.getD c.toNat Dat.zero))
def hashV (l : List Dat) (cs : List Int) : Int := cs.foldl (hashD l) 14695981039346656037
theorem hashL_snoc (h : Int) (xs : List UInt8) {i : Nat} (hi : i < xs.length) : hashL h (xs.take (i + 1)) = hashB (hashL h (xs.take i)) (xs.getD i 0) := by
  unfold hashL
  rw [List.take_succ_eq_append_getElem hi, List.foldl_append, List.getD_eq_getElem?_getD, List.getElem?_eq_getElem hi]
  rfl
theorem hashV_snoc (l : List Dat) (cs : List Int) (h : Int) {i : Nat} (hi : i < cs.length) : (cs.take (i + 1)).foldl (hashD l) h = hashD l ((cs.take i).foldl (hashD l) h) (cs.getD i 0) := by
  rw [List.take_succ_eq_append_getElem hi, List.foldl_append, List.getD_eq_getElem?_getD, List.getElem?_eq_getElem hi]
  rfl
theorem hashD_out {l : List Dat} {h c : Int} (q : c < 0 ∨ (l.length : Int) ≤ c) : hashD l h c = h := if_pos q
theorem hashD_in {l : List Dat} {h : Int} {c : Nat} (q : c < l.length) : hashD l h (c : Int) = hashL h (putT (l.getD c Dat.zero)) := by
  unfold hashD
  rw [if_neg (by omega)]
  rfl
theorem u8_wrap (c : UInt8) : IntKind.u64.wrap (c.toNat : Int) = (c.toNat : Int) := by
  have := c.toNat_lt
  rw [IntKind.wrap_u64]
  omega
theorem putb (k n : Int) (b : Bool) (s : ByteArray) (B : Nat) (w : World) (hB : B ≤ w.heap.size) (r : List UInt8) (hr : Hid (putT ⟨k, b, n, s⟩ = r)) (hn : -9223372036854775808 ≤ n ∧ n ≤ 9223372036854775807) (hs : s.size ≤ 10000000000000) :
    Calls Tryd.prog 64 #[.slice none 0 0, .agg #[.int .u8 k, .bool b, .int .i64 n, .string s]] w (PutOut w B r) := hr.out ▸ (put_any none 0 0 B [] w ⟨k, b, n, s⟩ hn hs (OwnB.nil w hB) (by decide))
set_option maxRecDepth 100000 in
set_option maxHeartbeats 4000000 in
theorem hash_any (A C : Option Addr) (c cc n nc : Nat) (l : List Dat) (cs : List Int) (w : World) (e1 : Hid (n = l.length)) (e2 : Hid (nc = cs.length)) (h1 : Hid (Rw w A c l)) (h2 : Hid (Is w C cc cs)) (hi : Hid (RwInt l)) (hz : Hid (∀ d ∈ l, d.s.size ≤ 10000000000000)) :
    Calls Tryd.prog 27 #[.slice A n c, .slice C nc cc] w fun e w' => e = .returned (.int .u64 (hashV l cs)) ∧ Ext w w' := by
  have hn9 : n ≤ 9223372036854775807 := by have := h1.out.le; rw [← e1.out] at this; exact this
  have hc9 : nc ≤ 9223372036854775807 := by have := Sl.le h2.out; rw [← e2.out] at this; exact this
  go_enter Tryd.func27, Tryd.ntmps27
  go_wp2
  go_loopg [5, 12] nc (fun z u v wr => ∃ (i : Nat) (h : Int), z = nc - i ∧ i ≤ nc ∧ v = .int .i64 i ∧ u = .int .u64 h ∧ Hid (h = (cs.take i).foldl (hashD l) 14695981039346656037) ∧ Ext w wr)
  case atStart => exact ⟨0, _, by omega, Nat.zero_le _, rfl, rfl, Lib.hid rfl, Ext.refl w⟩
  case round =>
    obtain ⟨i, h, rfl, hi1, rfl, rfl, HH, er⟩ := hrel
    obtain ⟨wo, hwo⟩ : ∃ wo : World, wo = wr := ⟨_, rfl⟩
    rw [← hwo] at er ⊢
    clear hwo
    have ER := Lib.hid er
    clear er
    by_cases hlt : i < nc
    · have hil : i < cs.length := by rw [← e2.out]; exact hlt
      obtain ⟨a1, rfl, p0⟩ := (h2.out.ext ER.out).at hil
      have HS := Lib.hid (hashV_snoc l cs 14695981039346656037 hil)
      obtain ⟨q, hq⟩ : ∃ q, cs.getD i 0 = q := ⟨_, rfl⟩
      rw [hq] at p0 HS
      by_cases hin : 0 ≤ q ∧ q < (n : Int)
      · obtain ⟨j, rfl⟩ := Int.eq_ofNat_of_zero_le hin.1
        have hjn : j < n := by omega
        have hj : j < l.length := by rw [← e1.out]; exact hjn
        obtain ⟨a2, rfl, d0, d1, d2, d3⟩ := (h1.out.ext ER.out).at hj
        have HIN := Lib.hid (hi.out.at hj)
        have HZ : Hid ((l.getD j Dat.zero).s.size ≤ 10000000000000) := Lib.hid (by
          rw [List.getD_eq_getElem?_getD, List.getElem?_eq_getElem hj]
          exact hz.out _ (List.getElem_mem hj))
        have HD := Lib.hid (hashD_in (h := h) hj)
        obtain ⟨d, hd⟩ : ∃ d, l.getD j Dat.zero = d := ⟨_, rfl⟩
        rw [hd] at d0 d1 d2 d3 HIN HZ HD
        clear hd
        obtain ⟨ka, ba, na, sa⟩ := d
        simp only at d0 d1 d2 d3
        obtain ⟨xs, hxs⟩ : ∃ xs, putT ⟨ka, ba, na, sa⟩ = xs := ⟨_, rfl⟩
        have HX := Lib.hid hxs
        rw [hxs] at HD
        clear hxs
        go_wp2_with (go_at_call 64; go_loud (refine (putb _ _ _ _ w.heap.size _ ER.out.size xs HX HIN.out HZ.out).mono ?_; rintro e w1 ⟨pA, pn, pc, rfl, o1, b1⟩; have PB := Lib.hid o1.bs; have PN := Lib.hid o1.len; have X1 : Hid (Ext w w1) := Lib.hid (Below.trans ER.out b1); have hp9 := o1.le; clear o1 b1))
        go_loopg [5, 30] pn (fun z u v wi => ∃ (k : Nat) (g : Int), z = pn - k ∧ k ≤ pn ∧ v = .int .i64 k ∧ u = .int .u64 g ∧ Hid (g = hashL h (xs.take k)) ∧ Ext w1 wi)
        case atStart => exact ⟨0, h, by omega, Nat.zero_le _, rfl, rfl, Lib.hid rfl, Ext.refl w1⟩
        case round =>
          obtain ⟨k, g, rfl, hk, rfl, rfl, HG, ei⟩ := hrel
          have EI := Lib.hid ei
          clear ei
          by_cases hkl : k < pn
          · have hkx : k < xs.length := by rw [← PN.out]; exact hkl
            obtain ⟨a3, rfl, y0⟩ := (PB.out.ext EI.out).at hkx
            have HT := Lib.hid (hashL_snoc h xs hkx)
            obtain ⟨y, hy⟩ : ∃ y, xs.getD k 0 = y := ⟨_, rfl⟩
            rw [hy] at y0 HT
            have hw := u8_wrap y
            go_wp2
            go_roundg (pn - (k + 1))
            case measure => omega
            case rel => exact ⟨k + 1, _, rfl, by omega, by go_num, rfl, Lib.hid (by rw [HT.out, ← HG.out]; rfl), by exact EI.out⟩
          · obtain rfl : k = pn := by omega
            have HT : Hid (g = hashL h xs) := Lib.hid (by rw [HG.out, List.take_of_length_le (by rw [← PN.out]; exact Nat.le_refl _)])
            go_wp2
            go_roundg (nc - (i + 1))
            case measure => omega
            case rel => exact ⟨i + 1, g, rfl, by omega, by go_num, rfl, Lib.hid (by rw [HS.out, ← HH.out, HD.out]; exact HT.out), (X1.out.trans EI.out)⟩
      · have hout : hashD l h q = h := hashD_out (by rw [← e1.out]; omega)
        have HO := Lib.hid hout
        clear hout
        rcases Int.lt_or_le q 0 with q1 | q1
        · go_wp2
          go_roundg (nc - (i + 1))
          case measure => omega
          case rel => exact ⟨i + 1, h, rfl, by omega, by go_num, rfl, Lib.hid (by rw [HS.out, ← HH.out, HO.out]), ER.out⟩
        · have q2 : (n : Int) ≤ q := by omega
          go_wp2
          go_roundg (nc - (i + 1))
          case measure => omega
          case rel => exact ⟨i + 1, h, rfl, by omega, by go_num, rfl, Lib.hid (by rw [HS.out, ← HH.out, HO.out]), ER.out⟩
    · obtain rfl : i = nc := by omega
      have HT : Hid (h = hashV l cs) := Lib.hid (by rw [HH.out, List.take_of_length_le (by rw [← e2.out]; exact Nat.le_refl _)]; rfl)
      go_wp2
      go_ret
      exact ⟨by rw [HT.out]; rfl, ER.out⟩
end Go.Proofs.YtngeioghihbkeaaDoor
