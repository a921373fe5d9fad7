/- chain.Of: the antichain of any times, in memory of its own. Conditions: the list is as readings give it, and not too long. -/
import Derived.Test.YtmdakaflmheidaaGreatDoorChBey
import Derived.Test.YtmdakaflmheidaaGreatDoorChCopy
import Derived.Test.YtmdakaflmheidaaGreatDoorSortT
import Derived.Deep.LoopGhost
namespace Go.Proofs.YtmdakaflmheidaaGreatDoor
open Go.RowKit

/-- what the sort leaves, of any list -/
def SortAny (L : List Tm) (B : Nat) (A : Option Addr) (c m : Nat) (w : World) (e : Ending) (w' : World) : Prop :=
  e = .returned (.tuple #[]) ∧ ∃ L' : List Tm, L'.Perm L ∧ (L'.Pairwise fun x y => tcmp x.v y.v ≤ 0) ∧ Own w' B 26 2 A m c (tmsC L') ∧ Upd (fun k => B ≤ k) w w'
theorem sort_any (L : List Tm) (B : Nat) (A : Option Addr) (c m : Nat) (w0 w : World) (hm : Hid (m = L.length)) (o : Hid (Own w B 26 2 A m c (tmsC L))) (ls : Hid (∀ x ∈ L, Sl w0 1 x.A x.l.length x.c (wds x.l))) (x0 : Hid (Ext w0 w)) (hb : Hid (w0.heap.size ≤ B)) (h9 : m ≤ 1000000) :
    Calls Tryz.prog 61 #[.slice A m c, .func (.func 40) #[] #[]] w (SortAny L B A c m w) := by
  rcases Nat.eq_zero_or_pos m with h | h
  · subst h
    have hl : L = [] := List.eq_nil_of_length_eq_zero hm.out.symm
    subst hl
    refine (sortT_nil A c _ w).mono ?_
    rintro e w' ⟨rfl, rfl⟩
    exact ⟨rfl, [], List.Perm.nil, List.Pairwise.nil, o.out, Upd.refl _ _⟩
  · obtain ⟨g, rfl, hg, hB, _⟩ := o.out.form h
    refine (sort_times L B g c m w0 w hm.out h o.out ls.out x0.out (Nat.le_trans hb.out hB) h9).mono ?_
    rintro e w' ⟨rfl, L', h1, h2, h3, h4⟩
    exact ⟨rfl, L', h1, h2, h3, h4.mono (fun k _ hk => by omega)⟩
/-- what Of answers: V in memory of its own -/
def OfOut (V : List TV) (w : World) (e : Ending) (w' : World) : Prop := ∃ A c n M, e = .returned (.slice A n c) ∧ n = List.length M ∧ Tout w' w.heap.size A c M ∧ M.map Tm.v = V ∧ Ext w w'
theorem OfOut.back {V : List TV} {w w3 : World} {e : Ending} {w' : World} (h : OfOut V w3 e w') (x : Ext w w3) : OfOut V w e w' := by
  obtain ⟨A, c, n, M, rfl, hn, hT, hV, x2⟩ := h
  exact ⟨A, c, n, M, rfl, hn, hT.mono x.size, hV, x.trans x2⟩
theorem map_at {S : List Tm} {k : Nat} (h : k < S.length) : ∃ h2 : k < (S.map Tm.v).length, (S.map Tm.v)[k] = (S.getD k Tm.zero).v := ⟨by rw [List.length_map]; exact h, getT_v h⟩
set_option maxRecDepth 100000 in
set_option maxHeartbeats 4000000 in
theorem of_any (AL : Option Addr) (cL m : Nat) (L : List Tm) (w : World) (hm : Hid (m = L.length)) (hL : Hid (Tin w AL cL L)) (hi : Hid (∀ x ∈ L, x.l.length ≤ 1000000)) (h9 : m ≤ 1000000) :
    Calls Tryz.prog 19 #[.slice AL m cL] w (OfOut (ofV (L.map Tm.v)) w) := by
  go_enter Tryz.func19, Tryz.ntmps19
  go_wp2_with (first
    | (go_at_call 60; refine (clone_times AL m cL L _ hm hL h9).mono ?_; rintro r w1 ⟨A', c', rfl, o1, x1⟩; have HO := Lib.hid o1; have HX1 := Lib.hid x1; clear o1 x1)
    | (go_at_call 61; refine (sort_any L w.heap.size A' c' m w _ hm HO (Lib.hid hL.out.ls) HX1 (Lib.hid (Nat.le_refl _)) h9).mono ?_; rintro r w2 ⟨rfl, S, hp, hs, o2, u2⟩; have HP := Lib.hid hp; have HS := Lib.hid hs; have HO2 := Lib.hid o2; have X2 : Hid (Ext w w2) := Lib.hid (ext_upd HX1.out u2 (fun k hk => hk)); clear hp hs o2 u2))
  have HM : Hid (m = S.length) := Lib.hid (by rw [HP.out.length_eq]; exact hm.out)
  have HTi : Hid (Tin w2 A' c' S) := Lib.hid ⟨by rw [← HM.out]; exact HO2.out.sl, fun x hx => (hL.out.ls x (HP.out.mem_iff.1 hx)).ext X2.out⟩
  have HMem : Hid (∀ v, v ∈ S.map Tm.v ↔ v ∈ L.map Tm.v) := Lib.hid (fun v => (HP.out.map Tm.v).mem_iff)
  have HSo : Hid ((S.map Tm.v).Pairwise fun x y => tcmp x y ≤ 0) := Lib.hid (by rw [List.pairwise_map]; exact HS.out)
  go_loopg [4, 13] m (fun z v4 v13 wr => ∃ (k : Nat) (A : Option Addr) (c n : Nat) (M : List Tm), z = m - k ∧ k ≤ m ∧ v13 = .int .i64 k ∧ v4 = .slice A n c ∧ Hid (n = M.length) ∧ Hid (Tout wr w2.heap.size A c M) ∧ Hid (OfUpto (L.map Tm.v) (S.map Tm.v) k (M.map Tm.v)) ∧ Hid (Ext w2 wr) ∧ n ≤ k)
  case atStart => exact ⟨0, none, 0, 0, [], rfl, Nat.zero_le _, rfl, rfl, Lib.hid rfl, Lib.hid (Tout.nil _ _), Lib.hid (OfUpto.zero _ _), Lib.hid (Ext.refl _), Nat.le_refl _⟩
  case round =>
    obtain ⟨k, A, c, n, M, rfl, hk, rfl, rfl, HN, HT, HU, HE, hnk⟩ := hrel
    by_cases hlt : k < m
    · have hkS : k < S.length := by rw [← HM.out]; exact hlt
      obtain ⟨ad, rfl, q0, q1⟩ := (HTi.out.ext HE.out).at (i := k) hkS
      have HXS : Hid (Sl wr 1 (S.getD k Tm.zero).A (S.getD k Tm.zero).l.length (S.getD k Tm.zero).c (wds (S.getD k Tm.zero).l)) := Lib.hid ((HTi.out.ext HE.out).ls _ (getT_mem hkS))
      have hlen : (S.getD k Tm.zero).l.length ≤ 1000000 := hi.out _ (HP.out.mem_iff.1 (getT_mem hkS))
      have hkv := map_at hkS
      obtain ⟨x, hx⟩ : ∃ x, S.getD k Tm.zero = x := ⟨_, rfl⟩
      rw [hx] at q0 q1 HXS hlen hkv
      have HKV := Lib.hid hkv
      clear hx hkv hkS
      obtain ⟨e, Ax, cx, l⟩ := x
      obtain ⟨nx, hnx⟩ : ∃ nx, l.length = nx := ⟨_, rfl⟩
      have HNX := Lib.hid hnx
      replace q0 : wr.cell? (ad.add (k * 2)) = some (.int .u64 e) := q0
      replace q1 : wr.cell? ⟨(ad.add (k * 2)).block, (ad.add (k * 2)).off + 1, none⟩ = some (.slice Ax l.length cx) := q1
      replace HXS : Hid (Sl wr 1 Ax l.length cx (wds l)) := HXS
      replace hlen : l.length ≤ 1000000 := hlen
      rw [hnx] at q1 HXS hlen
      clear hnx
      have X0 : Hid (Ext wr (wr.alloc (.cells #[.int .u64 e, .slice Ax nx cx] 26))) := Lib.hid ((Ext.refl _).alloc _)
      cases hq : beyondV (M.map Tm.v) (e, l) with
      | true =>
        have HQ := Lib.hid hq
        clear hq
        go_wp2_with (first
          | (go_at_call 24; go_loud (refine (beyond_at A c n M e Ax nx cx l _ HQ HN (Lib.hid (HT.out.ext X0.out).tin) (Lib.hid (HXS.out.ext X0.out))).mono ?_); rintro r w3 ⟨rfl, x3⟩))
        go_roundg (m - (k + 1))
        case measure => omega
        case rel =>
          obtain ⟨hk2, hkv⟩ := HKV.out
          exact ⟨k + 1, A, c, n, M, by omega, by omega, by go_num, rfl, HN, Lib.hid ((HT.out.ext X0.out).ext x3), Lib.hid (HU.out.skip hk2 (by rw [hkv]; exact HQ.out)), Lib.hid ((HE.out.trans X0.out).trans x3), by omega⟩
      | false =>
        have HQ := Lib.hid hq
        clear hq
        have hb0 := HE.out.size
        go_wp2_with (first
          | (go_at_call 24; go_loud (refine (beyond_at A c n M e Ax nx cx l _ HQ HN (Lib.hid (HT.out.ext X0.out).tin) (Lib.hid (HXS.out.ext X0.out))).mono ?_); rintro r w3 ⟨rfl, x3⟩; have X3 : Hid (Ext wr w3) := Lib.hid (X0.out.trans x3); have B3 : Bk w3 wr.heap.size 26 #[.int .u64 e, .slice Ax nx cx] := (Bk.new wr _ _).ext x3; have q30 : w3.cell? ⟨wr.heap.size, 0, none⟩ = some (.int .u64 e) := B3.cell 0; have q31 : w3.cell? ⟨wr.heap.size, 1, none⟩ = some (.slice Ax nx cx) := B3.cell 1; clear x3 B3)
          | (go_at_call 36; go_loud (refine (copied_any e Ax nx cx l _ (Lib.hid (HXS.out.ext X3.out)) hlen).mono ?_); rintro r w4 ⟨A4, c4, rfl, o4, x4⟩; have HO4 := Lib.hid o4; have X4 := Lib.hid x4; clear o4 x4)
          | (at_builtin; go_loud (refine wpList_append_two _ elemTimes w2.heap.size _ _ rfl rfl A n c (tmsC M) rfl (by rw [HN.out]; exact ((HT.out.ext X3.out).ext X4.out).own.alloc _) (some ⟨w4.heap.size, 0, none⟩) 1 1 (tmC ⟨e, A4, c4, l⟩) rfl (by rw [show tmC ⟨e, A4, c4, l⟩ = [.int .u64 e, .slice A4 nx c4] by rw [← HNX.out]; rfl]; exact Sl.one w4 #[.int .u64 e, .slice A4 nx c4] 26 2 rfl) (tmsC_one [⟨e, A4, c4, l⟩] |> fun h => by simpa [tmsC] using h) (by omega) (by decide) (by have := X3.out.size; have := X4.out.size; simp; omega) ?_); intro A5 c5 w5 o5 g5 x5; have HO5 := Lib.hid o5; have HG5 := Lib.hid g5; have HX5 := Lib.hid x5; clear o5 g5 x5))
        go_roundg (m - (k + 1))
        case measure => omega
        case rel =>
          obtain ⟨hk2, hkv⟩ := HKV.out
          have hT3 := HT.out.ext X3.out
          have hnx := HNX.out
          have hpush := Tout.push hT3 X4.out (x := ⟨e, A4, c4, l⟩) (by show Own w4 w3.heap.size _ 1 A4 l.length c4 (wds l); rw [hnx]; exact HO4.out) (by have := X3.out.size; omega) _ (by rw [← HN.out]; exact HO5.out) HG5.out HX5.out
          have e5 : Ext w2 w5 := by
            have e4 := (((HE.out.trans X3.out).trans X4.out).alloc (.cells #[.int .u64 e, .slice A4 nx c4] 26))
            exact e4.grown HG5.out (fun k hk => (hT3.own.lt k hk).1)
          refine ⟨k + 1, A5, c5, n + 1, M ++ [⟨e, A4, c4, l⟩], by omega, by omega, by go_num, rfl, Lib.hid (by rw [List.length_append, HN.out]; rfl), Lib.hid hpush, Lib.hid ?_, Lib.hid e5, by omega⟩
          rw [List.map_append]
          have := HU.out.put hk2 HSo.out HMem.out (by rw [hkv]; exact HQ.out)
          rw [hkv] at this
          exact this
    · obtain rfl : k = m := by omega
      go_wp2
      go_ret
      refine ⟨A, c, n, M, rfl, HN.out, (HT.out.mono X2.out.size), ?_, X2.out.trans HE.out⟩
      have hU := HU.out
      rw [show k = (S.map Tm.v).length by rw [List.length_map]; exact HM.out] at hU
      exact (hU.done HMem.out).eq
end Go.Proofs.YtmdakaflmheidaaGreatDoor
