/- (*chain.Counts).Frontier: the antichain of all times whose count is above 0. Conditions: the map holds the changes L; not too many. -/
import Derived.Test.YtmdakaflmheidaaGreatDoorChOf
import Derived.Test.YtmdakaflmheidaaGreatDoorChg
namespace Go.Proofs.YtmdakaflmheidaaGreatDoor
open Go.RowKit

/-- what has been collected, when the entries 'left' are still to come -/
structure FrontI (L : List Cg) (left : Lit → Bool) (M : List Tm) : Prop where
  from_ : ∀ y ∈ M, ∃ x ∈ L, x.t = y ∧ 0 < x.d ∧ left (keyT y.v) = false
  all : ∀ x ∈ L, 0 < x.d → left (keyT x.t.v) = false → x.t ∈ M
theorem FrontI.done {L : List Cg} {left : Lit → Bool} {M : List Tm} (h : FrontI L left M) (hl : ∀ k, left k = false) (hk : KeysC (L.map Cg.cv)) : ∀ v, v ∈ M.map Tm.v ↔ v ∈ liveV (L.map Cg.cv) := by
  intro v
  rw [List.mem_map]
  unfold liveV
  rw [List.mem_map]
  constructor
  · rintro ⟨y, hy, rfl⟩
    obtain ⟨x, hx, rfl, hd, _⟩ := h.from_ y hy
    exact ⟨x.cv, List.mem_filter.2 ⟨List.mem_map.2 ⟨x, hx, rfl⟩, decide_eq_true hd⟩, rfl⟩
  · rintro ⟨q, hq, rfl⟩
    obtain ⟨h1, h2⟩ := List.mem_filter.1 hq
    obtain ⟨x, hx, rfl⟩ := List.mem_map.1 h1
    exact ⟨x.t, h.all x hx (of_decide_eq_true h2) (hl _), rfl⟩
/-- the entry of x has come -/
theorem FrontI.skip {L : List Cg} {left : Lit → Bool} {M : List Tm} (h : FrontI L left M) (hinv : ∀ x ∈ L, InV x.t.v) (hk : KeysC (L.map Cg.cv)) {x : Cg} (hx : x ∈ L) (hd : ¬ 0 < x.d) : FrontI L (fun z => left z && !z.sameKey (keyT x.t.v)) M := by
  refine ⟨fun y hy => ?_, fun u hu hud hl => ?_⟩
  · obtain ⟨u, hu, e, h1, h2⟩ := h.from_ y hy
    exact ⟨u, hu, e, h1, by rw [h2]; rfl⟩
  · by_cases e : keyT u.t.v = keyT x.t.v
    · have e1 := keyT_inj (hinv u hu) (hinv x hx) e
      have e2 : u.d = x.d := by
        have a := getC_mem hk (List.mem_map.2 ⟨u, hu, rfl⟩)
        have b := getC_mem hk (List.mem_map.2 ⟨x, hx, rfl⟩)
        replace a : getC (L.map Cg.cv) u.t.v = u.d := a
        replace b : getC (L.map Cg.cv) x.t.v = x.d := b
        rw [← a, ← b, e1]
      omega
    · refine h.all u hu hud ?_
      rw [Maps.sameKey_ne e] at hl
      simpa using hl
theorem FrontI.put {L : List Cg} {left : Lit → Bool} {M : List Tm} (h : FrontI L left M) (hinv : ∀ x ∈ L, InV x.t.v) (hk : KeysC (L.map Cg.cv)) {x : Cg} (hx : x ∈ L) (hd : 0 < x.d) : FrontI L (fun z => left z && !z.sameKey (keyT x.t.v)) (M ++ [x.t]) := by
  refine ⟨fun y hy => ?_, fun u hu hud hl => ?_⟩
  · rcases List.mem_append.1 hy with hy | hy
    · obtain ⟨u, hu, e, h1, h2⟩ := h.from_ y hy
      exact ⟨u, hu, e, h1, by rw [h2]; rfl⟩
    · rw [List.mem_singleton] at hy
      subst hy
      refine ⟨x, hx, rfl, hd, ?_⟩
      have : (keyT x.t.v).sameKey (keyT x.t.v) = true := by unfold keyT Lit.sameKey; simp
      rw [this]; simp
  · by_cases e : keyT u.t.v = keyT x.t.v
    · have e1 := keyT_inj (hinv u hu) (hinv x hx) e
      have hne := hk
      have e3 : u = x ∨ u ≠ x := by by_cases q : u.t = x.t ∧ u.d = x.d
                                    · left; obtain ⟨ut, ud⟩ := u; obtain ⟨xt, xd⟩ := x; simp only at q; rw [q.1, q.2]
                                    · right; rintro rfl; exact q ⟨rfl, rfl⟩
      rcases e3 with rfl | e3
      · exact List.mem_append_right _ (by simp)
      · exfalso
        unfold KeysC at hne
        rw [List.pairwise_map] at hne
        obtain ⟨i, hi, rfl⟩ := List.getElem_of_mem hu
        obtain ⟨j, hj, rfl⟩ := List.getElem_of_mem hx
        rcases Nat.lt_trichotomy i j with q | q | q
        · exact List.pairwise_iff_getElem.1 hne i j hi hj q e1
        · subst q; exact e3 rfl
        · exact List.pairwise_iff_getElem.1 hne j i hj hi q e1.symm
    · refine List.mem_append_left _ (h.all u hu hud ?_)
      rw [Maps.sameKey_ne e] at hl
      simpa using hl
theorem keyOf_string_inv {key : Value} {kl : Lit} (h : keyOf Tryz.prog 9 key = some kl) : ∃ x, key = .string x := by
  have hu : Tryz.prog.underlying 9 = some .string := Tryz.underlying9
  cases key <;> simp [keyOf, hu, mapKey] at h
  exact ⟨_, rfl⟩
set_option maxRecDepth 100000 in
set_option maxHeartbeats 8000000 in
theorem frontier_any (gc bm n : Nat) (D : DataW Value) (L : List Cg) (w : World) (hc : Hid (Bk w gc 72 #[.map (some bm)])) (hM : Hid (MapC w bm n D L)) (hn : n ≤ 1000000) :
    Calls Tryz.prog 9 #[.pointer (some ⟨gc, 0, none⟩)] w (OfOut (ofV (liveV (L.map Cg.cv))) w) := by
  have c0 : w.cell? ⟨gc, 0, none⟩ = some (.map (some bm)) := hc.out.cell 0
  have HSZ : Hid (Maps.size D ≤ n) := Lib.hid hM.out.own.size_le
  have HF0 : Hid (FrontI L (Maps.has D) []) := Lib.hid ⟨fun y hy => (nomatch hy), fun x hx _ hl => by have := (hM.out.has _).2 ⟨x, hx, rfl⟩; rw [hl] at this; exact absurd this (by decide)⟩
  have HB : Hid (bm < w.heap.size) := Lib.hid hM.out.own.lt
  go_enter Tryz.func9, Tryz.ntmps9
  go_wp2_with (first
    | (at_range; refine wpList_range_own _ rfl _ 70 rfl 9 29 keyedS Tryz.underlying70 tok bm n D rfl hM.out.own ?_; intro w0 hrg0 hg0 hs0))
  go_frame
  have HR0 := Lib.hid hrg0
  have X0 : Hid (Ext w w0) := Lib.hid ((Ext.refl w).grown hg0 (fun k hk => by cases hk))
  clear hrg0 hg0 hs0
  go_loopg [3] (Maps.size D) (fun z v3 wr => ∃ (left : Lit → Bool) (cnt : Nat) (A : Option Addr) (c q : Nat) (M : List Tm), z = cnt ∧ v3 = .slice A q c ∧ Hid (q = M.length) ∧ Hid (wr.ranges Tryz.prog 9 tok bm w.heap.size n D left cnt) ∧ Hid (FrontI L left M) ∧ Hid (∀ kl, left kl = true → Maps.has D kl = true) ∧ Hid (Own wr (w.heap.size + 1) 26 2 A q c (tmsC M)) ∧ Hid (Ext w wr) ∧ q + cnt ≤ Maps.size D)
  case atStart => exact ⟨_, _, none, 0, 0, [], rfl, rfl, Lib.hid rfl, HR0, HF0, Lib.hid (fun _ h => h), Lib.hid (Own.nil _ _ _ _), X0, by omega⟩
  case round =>
    clear HR0 HF0
    obtain ⟨left, cnt, A, c, q, M, rfl, rfl, HQ, HR, HF, HL, HO, HE, hq⟩ := hrel
    have hsz := HSZ.out
    go_wp2_with (first
      | (at_next; go_loud (refine wpList_next_ranges _ rfl _ rfl 9 keyedS tok Value.string (fun v : Value => v) (fun key kl h => keyOf_string_inv h) (fun v y _ => ⟨v, rfl⟩) bm w.heap.size n D left _ rfl HR.out ?_ ?_)))
    · intro hc0 hl0
      have HL0 := Lib.hid hl0
      clear hl0 hc0
      have HTi : Hid (Tin wr A c M) := Lib.hid ⟨by rw [← HQ.out]; exact HO.out.sl, fun y hy => by obtain ⟨u, hu, e, _⟩ := HF.out.from_ y hy; rw [← e]; exact (hM.out.ls u hu).ext HE.out⟩
      have HLn : Hid (∀ x ∈ M, x.l.length ≤ 1000000) := Lib.hid (fun y hy => by obtain ⟨u, hu, e, _⟩ := HF.out.from_ y hy; rw [← e]; have := (hM.out.inv u hu).n; exact Nat.le_trans this (by omega))
      go_wp2_with (first
        | (go_at_call 19; go_loud (refine (of_any A c q M _ HQ HTi HLn (by omega)).mono ?_); rintro r w4 ⟨A4, c4, n4, M4, rfl, h4, t4, v4, x4⟩; have HO4 : Hid (OfOut (ofV (M.map Tm.v)) wr (.returned (.slice A4 n4 c4)) w4) := Lib.hid ⟨A4, c4, n4, M4, rfl, h4, t4, v4, x4⟩; clear h4 t4 v4 x4))
      go_ret
      have hb := HO4.out.back HE.out
      rw [ofV_congr (HF.out.done HL0.out hM.out.keys)] at hb
      exact hb
    · intro s v kl y ps w1 cnt1 hks hlx hy hat hrg1 hlt hg1 hs1 hen
      obtain ⟨x, hx, hkx⟩ := (hM.out.has kl).1 (HL.out kl hlx)
      subst hkx
      have hv : v = cgV x := by
        have h1 := hat .nil
        rw [hM.out.atk x hx] at h1
        unfold tok at hy
        injection hy with hy
        rw [← (Prod.mk.inj hy).1] at h1
        injection h1 with h1
        exact h1.symm
      subst hv
      have HX := Lib.hid hx
      have HRG := Lib.hid hrg1
      have E1 : Hid (Ext w w1) := Lib.hid (HE.out.grown hg1 (fun k hk => by injection hk with hk; omega))
      have HLx := Lib.hid hlx
      have HOw : Hid (Own w1 (w.heap.size + 1) 26 2 A q c (tmsC M)) := Lib.hid (HO.out.kept hg1 (by
        cases hb : blk A c with
        | none => exact .inl rfl
        | some k => exact .inr (fun e => by injection e with e; have := (HO.out.lt k hb).1; omega)))
      have HS1 := Lib.hid hs1
      have HLeft : Hid (∀ kl, (left kl && !kl.sameKey (keyT x.t.v)) = true → Maps.has D kl = true) := Lib.hid (fun k hk => HL.out k (by cases h : left k with | true => rfl | false => rw [h] at hk; simp at hk))
      clear hx hrg1 hg1 hlx hat hy hks hs1
      have hlen := (hM.out.inv x HX.out).n
      have hdd : 0 < x.d ∨ ¬ 0 < x.d := Int.lt_or_le 0 x.d |>.imp id (fun h => by omega)
      obtain ⟨xt, d⟩ := x
      obtain ⟨e, Ax, cx, l⟩ := xt
      obtain ⟨nx, hnx⟩ : ∃ nx, l.length = nx := ⟨_, rfl⟩
      have HNX := Lib.hid hnx
      replace hen : (Instr.entry (Value.pointer (some ⟨w.heap.size, 0, none⟩))).run Tryz.prog w1 = .ok (.tuple #[.string s, .agg #[.int .u64 e, .slice Ax l.length cx, .int .i64 d]]) w1 := hen
      show wpList _ _ _ _ (_ : Act) _
      unfold cgV
      simp only [hnx] at hen ⊢
      clear hnx
      have hwt := E1.out.size
      rcases hdd with hd | hd
      · replace hd : 0 < d := hd
        have HD := Lib.hid hd
        go_wp2_with (first
          | (at_builtin; go_loud (refine wpList_append_gen _ elemTimes (w.heap.size + 1) _ _ rfl rfl A q c (tmsC M) rfl ((HOw.out.alloc _).alloc _) (some ⟨w1.heap.size + 1, 0, none⟩) 1 1 (tmC ⟨e, Ax, cx, l⟩) rfl (by rw [show tmC ⟨e, Ax, cx, l⟩ = [.int .u64 e, .slice Ax nx cx] by rw [← HNX.out]; rfl]; have qq := Sl.one (w1.alloc (.cells #[.int .u64 e, .slice Ax nx cx, .int .i64 d] 29)) #[.int .u64 e, .slice Ax nx cx] 26 2 rfl; simpa using qq) (by rw [show tmC ⟨e, Ax, cx, l⟩ = [.int .u64 e, .slice Ax nx cx] by rw [← HNX.out]; rfl]; exact fun u hu => by simp at hu; rcases hu with rfl | rfl <;> rfl) (by omega) (by decide) (by have := HS1.out; have := HB.out; simp; omega) ?_); intro A5 c5 w5 o5 g5 k5; have HO5 := Lib.hid o5; have HG5 := Lib.hid g5; have HK5 := Lib.hid k5; clear o5 g5 k5))
        go_roundg cnt1
        case measure => omega
        case rel =>
          have hrow : ∀ k, blk A c = some k → w.heap.size + 1 ≤ k := fun k hk => (HOw.out.lt k hk).1
          refine ⟨_, cnt1, A5, c5, q + 1, M ++ [⟨e, Ax, cx, l⟩], rfl, rfl, Lib.hid (by rw [List.length_append, HQ.out]; rfl), Lib.hid (((HRG.out.alloc _).alloc _).kept HG5.out (fun h => ?_) (fun h => ?_)), Lib.hid (HF.out.put hM.out.inv hM.out.keys HX.out HD.out), HLeft, Lib.hid ?_, Lib.hid (((E1.out.alloc _).alloc _).grown HG5.out (fun k hk => by have := hrow k hk; omega)), by omega⟩
          · have := hrow bm h.symm; have := HB.out; omega
          · have := hrow w.heap.size h.symm; omega
          · rw [tmsC_append, show tmsC [(⟨e, Ax, cx, l⟩ : Tm)] = tmC ⟨e, Ax, cx, l⟩ by simp [tmsC]]; exact HO5.out
      · replace hd : ¬ 0 < d := hd
        have HD := Lib.hid hd
        go_wp2
        go_roundg cnt1
        case measure => omega
        case rel =>
          exact ⟨_, cnt1, A, c, q, M, rfl, rfl, HQ, Lib.hid (HRG.out.alloc _), Lib.hid (HF.out.skip hM.out.inv hM.out.keys HX.out (by have := HD.out; show ¬ 0 < d; omega)), HLeft, Lib.hid (HOw.out.alloc _), Lib.hid (E1.out.alloc _), by omega⟩
end Go.Proofs.YtmdakaflmheidaaGreatDoor
