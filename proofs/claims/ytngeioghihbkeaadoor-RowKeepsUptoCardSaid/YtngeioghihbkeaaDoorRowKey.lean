/- row.key, Encode: the bytes of rows that may be. Conditions: the row is as readings give it. -/
import Derived.Test.YtngeioghihbkeaaDoorRowPut
import Derived.Test.YtngeioghihbkeaaDoorRowCheck
namespace Go.Proofs.YtngeioghihbkeaaDoor
open Go.RowKit

/-- the numbers of a row are of 64 bits -/
def RwInt (l : List Dat) : Prop := ∀ d ∈ l, -9223372036854775808 ≤ d.n ∧ d.n ≤ 9223372036854775807
theorem RwInt.at {l : List Dat} (h : RwInt l) {i : Nat} (hi : i < l.length) : -9223372036854775808 ≤ (l.getD i Dat.zero).n ∧ (l.getD i Dat.zero).n ≤ 9223372036854775807 := by
  rw [List.getD_eq_getElem?_getD, List.getElem?_eq_getElem hi]
  exact h _ (List.getElem_mem hi)
theorem size_of_check' {d : Dat} (h : d.check = 0) : d.s.size ≤ 1000 := by
  unfold Dat.check checkT at h
  repeat' split at h
  all_goals first | omega | exact absurd h (by decide)
theorem putT_len {d : Dat} (h : d.s.size ≤ 1000) : (putT d).length ≤ 2100 := by
  unfold putT
  repeat' split
  all_goals first | (simp [be8]; done) | skip
  have h1 := escZ_flat_len d.s.data.toList
  have h2 : d.s.data.toList.length = d.s.size := by simp
  rw [List.length_cons, List.length_append]
  simp only [List.length_cons, List.length_nil]
  omega
theorem keyT_len : ∀ l : List Dat, (∀ d ∈ l, d.s.size ≤ 1000) → (keyT l).length ≤ 2100 * l.length
  | [], _ => Nat.le_refl _
  | d :: l, h => by
    have h1 := putT_len (h d (List.mem_cons_self ..))
    have h2 := keyT_len l (fun x hx => h x (List.mem_cons_of_mem _ hx))
    unfold keyT at h2 ⊢
    rw [List.flatMap_cons, List.length_append, List.length_cons]
    omega
theorem keyT_take {l : List Dat} {i : Nat} (h : i < l.length) : keyT (l.take (i + 1)) = keyT (l.take i) ++ putT (l.getD i Dat.zero) := by
  unfold keyT
  rw [List.take_succ_eq_append_getElem h, List.flatMap_append, List.getD_eq_getElem?_getD, List.getElem?_eq_getElem h]
  simp
theorem put_lit (k n : Int) (b : Bool) (s : ByteArray) (A : Option Addr) (m c B : Nat) (xs r : List UInt8) (w : World) (hr : Hid (xs ++ putT ⟨k, b, n, s⟩ = r)) (hn : -9223372036854775808 ≤ n ∧ n ≤ 9223372036854775807) (hs : s.size ≤ 1000) (h : OwnB w B A m c xs) (hm : m ≤ 100000000000000) :
    Calls Tryd.prog 64 #[.slice A m c, .agg #[.int .u8 k, .bool b, .int .i64 n, .string s]] w (PutOut w B r) := hr.out ▸ put_any A m c B xs w ⟨k, b, n, s⟩ hn (by show s.size ≤ _; omega) h hm
set_option maxRecDepth 100000 in
set_option maxHeartbeats 2000000 in
theorem key_any (A : Option Addr) (c n : Nat) (l : List Dat) (w : World) (e1 : n = l.length) (h1 : Rw w A c l) (hi : RwInt l) (hk : checkR l = 0) :
    Calls Tryd.prog 56 #[.slice A n c] w (PutOut w w.heap.size (keyT l)) := by
  obtain ⟨h32, hck⟩ := (checkR_ok l).1 hk
  have hsz : ∀ d ∈ l, d.s.size ≤ 1000 := fun d hd => size_of_check' (hck d hd)
  have E1 := Lib.hid e1
  have hn32 : n ≤ 32 := by omega
  have H1 := Lib.hid h1
  have HI := Lib.hid hi
  have HZ := Lib.hid hsz
  clear e1 h1 hi hk h32 hck hsz
  go_enter Tryd.func56, Tryd.ntmps56
  go_wp2
  go_loopw [3, 8] (fun u v wr => ∃ (i n0 c0 : Nat) (A0 : Option Addr), i ≤ n ∧ v = .int .i64 i ∧ u = .slice A0 n0 c0 ∧ Hid (OwnB wr w.heap.size A0 n0 c0 (keyT (l.take i))) ∧ Ext w wr) (fun _ v _ => n - (intOf v).toNat)
  case atStart => exact ⟨0, 0, 0, none, Nat.zero_le _, rfl, rfl, Lib.hid (OwnB.nil w (Nat.le_refl _)), Ext.refl w⟩
  case round =>
    obtain ⟨i, n0, c0, A0, hi, rfl, rfl, O0, er⟩ := hrel
    have hsz := er.size
    by_cases hlt : i < n
    · have hil : i < l.length := by rw [← E1.out]; exact hlt
      have L0 : n0 ≤ 70000 := by
        have a1 := O0.out.len
        have a2 := keyT_len (l.take i) (fun d hd => HZ.out d (List.mem_of_mem_take hd))
        have a3 : (l.take i).length ≤ i := List.length_take_le _ _
        omega
      obtain ⟨a1, rfl, p0, p1, p2, p3⟩ := (H1.out.ext er).at hil
      have hin := HI.out.at hil
      have hss : (l.getD i Dat.zero).s.size ≤ 1000 := by
        rw [List.getD_eq_getElem?_getD, List.getElem?_eq_getElem hil]
        exact HZ.out _ (List.getElem_mem hil)
      have HS0 := Lib.hid (keyT_take hil)
      obtain ⟨d, hd⟩ : ∃ d, l.getD i Dat.zero = d := ⟨_, rfl⟩
      rw [hd] at p0 p1 p2 p3 hin hss HS0
      clear hil hd
      obtain ⟨ka, ba, na, sa⟩ := d
      simp only at p0 p1 p2 p3 hin hss
      have HIN := Lib.hid hin
      clear hin
      go_wp2_with (go_at_call 64; refine (put_lit _ _ _ _ A0 n0 c0 w.heap.size _ _ _ (Lib.hid HS0.out.symm) HIN.out hss (O0.out.alloc _) (by omega)).mono ?_; rintro e w1 ⟨A1, n1, c1, rfl, o1, b1⟩; have O1 := Lib.hid o1; clear o1)
      go_roundw
      case rel => exact ⟨i + 1, n1, c1, A1, by omega, by go_num, rfl, O1, Below.trans (er.alloc _) b1⟩
      case measure => simp [intOf]; omega
    · obtain rfl : i = n := by omega
      have HT : Hid (l.take i = l) := Lib.hid (List.take_of_length_le (by rw [← E1.out]; exact Nat.le_refl _))
      go_wp2
      go_ret
      exact ⟨A0, n0, c0, rfl, by have := O0.out; rw [HT.out] at this; exact this, er⟩
end Go.Proofs.YtngeioghihbkeaaDoor
