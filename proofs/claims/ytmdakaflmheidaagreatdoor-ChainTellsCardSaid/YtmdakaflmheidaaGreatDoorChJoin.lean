/- chain.Join: the antichain beyond which lies what is beyond both. Conditions: the lists are as readings give them, and not too long. -/
import Derived.Test.YtmdakaflmheidaaGreatDoorChOf
import Derived.Test.YtmdakaflmheidaaGreatDoorJoin
namespace Go.Proofs.YtmdakaflmheidaaGreatDoor
open Go.RowKit

/-! ### plain -/
def pairK (V W : List TV) (x : TV) (k j : Nat) : List TV := pairsV (V.take k) W ++ ((W.take j).filter (same x)).map (maxT x)
theorem pairK_zero (V W : List TV) (x : TV) (k : Nat) : pairK V W x k 0 = pairsV (V.take k) W := by unfold pairK; simp
theorem pairs_snoc (V W : List TV) (x : TV) : pairsV (V ++ [x]) W = pairsV V W ++ (W.filter (same x)).map (maxT x) := by unfold pairsV; simp
theorem pairK_end {V W : List TV} {k : Nat} (h : k < V.length) : pairK V W V[k] k W.length = pairsV (V.take (k + 1)) W := by
  rw [List.take_succ_eq_append_getElem h, pairs_snoc]
  unfold pairK
  rw [List.take_length]
theorem pairK_yes {V W : List TV} {x : TV} {k j : Nat} (h : j < W.length) (hs : same x W[j] = true) : pairK V W x k (j + 1) = pairK V W x k j ++ [maxT x W[j]] := by
  unfold pairK
  rw [List.take_succ_eq_append_getElem h, List.filter_append, List.map_append, List.append_assoc]
  simp [hs]
theorem pairK_no {V W : List TV} {x : TV} {k j : Nat} (h : j < W.length) (hs : same x W[j] = false) : pairK V W x k (j + 1) = pairK V W x k j := by
  unfold pairK
  rw [List.take_succ_eq_append_getElem h, List.filter_append, List.map_append]
  simp [hs]
/-- counters of 32 bits, not too many -/
def Fine (L : List Tm) : Prop := ∀ x ∈ L, U32 x.l ∧ x.l.length ≤ 100000
theorem join_ok {mx : Int} {zl : List Int} (e1 e2 : Int) (A1 A2 : Option Addr) (n c1 c2 : Nat) (l1 l2 : List Int) (w : World) (hm : Hid (max e1 e2 = mx)) (hz : Hid (List.zipWith max l1 l2 = zl)) (h1 : Sl w 1 A1 n c1 (wds l1)) (h2 : Sl w 1 A2 n c2 (wds l2)) (u1 : U32 l1) (u2 : U32 l2) (hn : n ≤ 100000) :
    Calls Tryz.prog 62 #[.agg #[.int .u64 e1, .slice A1 n c1], .agg #[.int .u64 e2, .slice A2 n c2]] w fun e w' =>
      ∃ A c, e = .returned (.tuple #[.agg #[.int .u64 mx, .slice A n c], .int .u16 0]) ∧ Own w' w.heap.size 74 1 A n c (wds zl) ∧ Ext w w' := by
  rw [← hm.out, ← hz.out]
  exact join_same e1 e2 A1 A2 n c1 c2 l1 l2 w h1 h2 u1 u2 (by omega)
/-- what stands within the loops -/
structure JoinI (w wr : World) (A : Option Addr) (c : Nat) (M : List Tm) (V : List TV) : Prop where
  out : Tout wr w.heap.size A c M
  is : M.map Tm.v = V
  len : ∀ x ∈ M, x.l.length ≤ 1000000
  ext : Ext w wr
theorem JoinI.grow {w wr w2 : World} {A : Option Addr} {c : Nat} {M : List Tm} {V : List TV} (h : JoinI w wr A c M V) (x : Ext wr w2) : JoinI w w2 A c M V := ⟨h.out.ext x, h.is, h.len, h.ext.trans x⟩
theorem JoinI.push {w wr w2 w3 : World} {A A3 : Option Addr} {c c3 : Nat} {M : List Tm} {V : List TV} (h : JoinI w wr A c M V) (e2 : Ext wr w2) {e : Int} {Ax : Option Addr} {cx nx : Nat} {l : List Int} (hn : nx = l.length) (hl : nx ≤ 100000) (ox : Own w2 wr.heap.size 74 1 Ax nx cx (wds l))
    (o3 : Own w3 w.heap.size 26 2 A3 (M.length + 1) c3 (tmsC M ++ tmC ⟨e, Ax, cx, l⟩)) (ob : Obj) (g3 : (w2.alloc ob).grownBy w3 (blk A c)) (x3 : (A3 = A ∧ c3 = c) ∨ (blk A3 c3 = some (w2.alloc ob).heap.size ∧ Ext (w2.alloc ob) w3)) : JoinI w w3 A3 c3 (M ++ [⟨e, Ax, cx, l⟩]) (V ++ [(e, l)]) := by
  subst hn
  refine ⟨h.out.push e2 ox h.ext.size ob o3 g3 x3, by rw [List.map_append, h.is]; rfl, fun y hy => ?_, ((h.ext.trans e2).alloc ob).grown g3 (fun k hk => (h.out.own.lt k hk).1)⟩
  rcases List.mem_append.1 hy with hy | hy
  · exact h.len y hy
  · rw [List.mem_singleton] at hy; subst hy; show l.length ≤ _; omega
set_option maxRecDepth 100000 in
set_option maxHeartbeats 8000000 in
theorem chjoin_any (AL AM : Option Addr) (cL cM m n : Nat) (L M : List Tm) (w : World) (hm : Hid (m = L.length)) (hn : Hid (n = M.length)) (hL : Hid (Tin w AL cL L)) (hM : Hid (Tin w AM cM M)) (fL : Hid (Fine L)) (fM : Hid (Fine M)) (hm9 : m ≤ 1000) (hn9 : n ≤ 1000) :
    Calls Tryz.prog 20 #[.slice AL m cL, .slice AM n cM] w (OfOut (joinV (L.map Tm.v) (M.map Tm.v)) w) := by
  have HJ0 : Hid (JoinI w w none 0 [] (pairsV ((L.map Tm.v).take 0) (M.map Tm.v))) := Lib.hid ⟨Tout.nil _ _, rfl, fun x hx => (nomatch hx), Ext.refl _⟩
  go_enter Tryz.func20, Tryz.ntmps20
  go_wp2
  go_loopg [5, 14] m (fun z v5 v14 wr => ∃ (k : Nat) (A : Option Addr) (c q : Nat) (R : List Tm), z = m - k ∧ k ≤ m ∧ v14 = .int .i64 k ∧ v5 = .slice A q c ∧ Hid (q = R.length) ∧ Hid (JoinI w wr A c R (pairsV ((L.map Tm.v).take k) (M.map Tm.v))) ∧ q ≤ k * 1000)
  case atStart => exact ⟨0, none, 0, 0, [], rfl, Nat.zero_le _, rfl, rfl, Lib.hid rfl, HJ0, Nat.zero_le _⟩
  case round =>
    clear HJ0
    obtain ⟨k, A, c, q, R, rfl, hk, rfl, rfl, HQ, HJ, hq⟩ := hrel
    by_cases hlt : k < m
    · have hkL : k < L.length := by rw [← hm.out]; exact hlt
      obtain ⟨ad, rfl, q0, q1⟩ := (hL.out.ext HJ.out.ext).at (i := k) hkL
      have HXS : Hid (Sl w 1 (L.getD k Tm.zero).A (L.getD k Tm.zero).l.length (L.getD k Tm.zero).c (wds (L.getD k Tm.zero).l)) := Lib.hid (hL.out.ls _ (getT_mem hkL))
      have hf := fL.out _ (getT_mem hkL)
      have hkv := map_at hkL
      obtain ⟨x, hx⟩ : ∃ x, L.getD k Tm.zero = x := ⟨_, rfl⟩
      rw [hx] at q0 q1 HXS hf hkv
      have HKV := Lib.hid hkv
      have HF := Lib.hid hf
      clear hx hkv hkL hf
      obtain ⟨e, Ax, cx, l⟩ := x
      obtain ⟨nx, hnx⟩ : ∃ nx, l.length = nx := ⟨_, rfl⟩
      have HNX := Lib.hid hnx
      replace q0 : wr.cell? (ad.add (k * 2)) = some (.int .u64 e) := q0
      replace q1 : wr.cell? ⟨(ad.add (k * 2)).block, (ad.add (k * 2)).off + 1, none⟩ = some (.slice Ax l.length cx) := q1
      replace HXS : Hid (Sl w 1 Ax l.length cx (wds l)) := HXS
      replace HF : Hid (U32 l ∧ l.length ≤ 100000) := HF
      have hnx9 := HF.out.2
      rw [hnx] at q1 HXS hnx9
      clear hnx
      have HB0 : Hid (Bk (wr.alloc (.cells #[.int .u64 e, .slice Ax nx cx] 26)) wr.heap.size 26 #[.int .u64 e, .slice Ax nx cx]) := Lib.hid (Bk.new wr _ _)
      have HJ1 : Hid (JoinI w (wr.alloc (.cells #[.int .u64 e, .slice Ax nx cx] 26)) A c R (pairK (L.map Tm.v) (M.map Tm.v) (e, l) k 0)) := Lib.hid (by rw [pairK_zero]; exact HJ.out.grow ((Ext.refl wr).alloc _))
      have HA0 : Hid (blk A c ≠ some wr.heap.size) := Lib.hid (fun h => by have := (HJ.out.out.own.lt _ h).2; omega)
      clear HJ
      go_wp2
      obtain ⟨gx, hgx⟩ : ∃ gx, wr.heap.size = gx := ⟨_, rfl⟩
      rw [hgx] at HB0 HA0 ⊢
      obtain ⟨wo, hwo⟩ : ∃ wo : World, wo = wr.alloc (.cells #[.int .u64 e, .slice Ax nx cx] 26) := ⟨_, rfl⟩
      rw [← hwo] at HB0 HJ1 ⊢
      clear hwo hgx q0 q1
      go_loopg [5, 20] n (fun z v5 v20 wi => ∃ (j : Nat) (A : Option Addr) (c q : Nat) (R : List Tm), z = n - j ∧ j ≤ n ∧ v20 = .int .i64 j ∧ v5 = .slice A q c ∧ Hid (q = R.length) ∧ Hid (JoinI w wi A c R (pairK (L.map Tm.v) (M.map Tm.v) (e, l) k j)) ∧ Hid (Bk wi gx 26 #[.int .u64 e, .slice Ax nx cx]) ∧ Hid (blk A c ≠ some gx) ∧ q ≤ k * 1000 + j)
      case atStart => exact ⟨0, A, c, q, R, rfl, Nat.zero_le _, rfl, rfl, HQ, HJ1, HB0, HA0, by omega⟩
      case round =>
        clear HJ1 HB0 HA0 HQ
        obtain ⟨j, A, c, q, R, rfl, hj, rfl, rfl, HQ, HJ, HB, HA, hq⟩ := hrel
        by_cases hjt : j < n
        · have hjM : j < M.length := by rw [← hn.out]; exact hjt
          obtain ⟨am, rfl, p0, p1⟩ := (hM.out.ext HJ.out.ext).at (i := j) hjM
          have HYS : Hid (Sl w 1 (M.getD j Tm.zero).A (M.getD j Tm.zero).l.length (M.getD j Tm.zero).c (wds (M.getD j Tm.zero).l)) := Lib.hid (hM.out.ls _ (getT_mem hjM))
          have hf := fM.out _ (getT_mem hjM)
          have hkv := map_at hjM
          obtain ⟨y, hy⟩ : ∃ y, M.getD j Tm.zero = y := ⟨_, rfl⟩
          rw [hy] at p0 p1 HYS hf hkv
          have HJV := Lib.hid hkv
          have HG := Lib.hid hf
          clear hy hkv hjM hf
          obtain ⟨f, Ay, cy, ly⟩ := y
          obtain ⟨ny, hny⟩ : ∃ ny, ly.length = ny := ⟨_, rfl⟩
          have HNY := Lib.hid hny
          replace p0 : wr.cell? (am.add (j * 2)) = some (.int .u64 f) := p0
          replace p1 : wr.cell? ⟨(am.add (j * 2)).block, (am.add (j * 2)).off + 1, none⟩ = some (.slice Ay ly.length cy) := p1
          replace HYS : Hid (Sl w 1 Ay ly.length cy (wds ly)) := HYS
          replace HG : Hid (U32 ly ∧ ly.length ≤ 100000) := HG
          rw [hny] at p1 HYS
          clear hny
          have XY : Hid (Ext wr (wr.alloc (.cells #[.int .u64 f, .slice Ay ny cy] 26))) := Lib.hid ((Ext.refl _).alloc _)
          have c0 : (wr.alloc (.cells #[.int .u64 f, .slice Ay ny cy] 26)).cell? ⟨gx, 0, none⟩ = some (.int .u64 e) := (HB.out.ext XY.out).cell 0
          have c1 : (wr.alloc (.cells #[.int .u64 f, .slice Ay ny cy] 26)).cell? ⟨gx, 1, none⟩ = some (.slice Ax nx cx) := (HB.out.ext XY.out).cell 1
          by_cases hs : nx = ny
          · subst hs
            obtain ⟨mx, hmx⟩ : ∃ mx, max e f = mx := ⟨_, rfl⟩
            obtain ⟨zl, hzl⟩ : ∃ zl, List.zipWith max l ly = zl := ⟨_, rfl⟩
            have HMX := Lib.hid hmx
            have HZL := Lib.hid hzl
            clear hmx hzl
            have HZN : Hid (nx = zl.length) := Lib.hid (by have a := HNX.out; have b := HNY.out; rw [← HZL.out, List.length_zipWith, a, b]; simp)
            go_wp2_with (first
              | (go_at_call 62; go_loud (refine (join_ok e f Ax Ay nx cx cy l ly _ HMX HZL ((HXS.out.ext HJ.out.ext).ext XY.out) ((HYS.out.ext HJ.out.ext).ext XY.out) HF.out.1 HG.out.1 hnx9).mono ?_); rintro r w3 ⟨A3, c3, rfl, o3, x3⟩; have HO3 := Lib.hid o3; have X3 := Lib.hid x3; clear o3 x3)
              | (at_builtin; go_loud (refine wpList_append_two _ elemTimes w.heap.size _ _ rfl rfl A q c (tmsC R) rfl (by rw [HQ.out]; exact ((((HJ.out.out.ext XY.out).ext X3.out).own.alloc _).alloc _)) (some ⟨w3.heap.size + 1, 0, none⟩) 1 1 (tmC ⟨mx, A3, c3, zl⟩) rfl (by rw [show tmC ⟨mx, A3, c3, zl⟩ = [.int .u64 mx, .slice A3 nx c3] by rw [HZN.out]; rfl]; have qq := Sl.one (w3.alloc (.cells #[.int .u64 mx, .slice A3 nx c3] 26)) #[.int .u64 mx, .slice A3 nx c3] 26 2 rfl; simpa using qq) (by rw [show tmC ⟨mx, A3, c3, zl⟩ = [.int .u64 mx, .slice A3 nx c3] by rw [HZN.out]; rfl]; exact fun u hu => by simp at hu; rcases hu with rfl | rfl <;> rfl) (by omega) (by decide) (Nat.le_trans HJ.out.ext.size (Nat.le_trans XY.out.size (Nat.le_trans X3.out.size (Ext.size (((Ext.refl w3).alloc _).alloc _))))) ?_); intro A5 c5 w5 o5 g5 x5; have HO5 := Lib.hid o5; have HG5 := Lib.hid g5; have HX5 := Lib.hid x5; clear o5 g5 x5))
            go_roundg (n - (j + 1))
            case measure => omega
            case rel =>
              have hJ1 := HJ.out.grow XY.out
              have hp := hJ1.push (X3.out.alloc (.cells #[.int .u64 mx, .slice A3 nx c3] 26)) HZN.out hnx9 (HO3.out.alloc _) (by rw [← HQ.out]; exact HO5.out) _ HG5.out HX5.out
              have hgl := HB.out.lt
              have hs1 := XY.out.size
              have hs2 := X3.out.size
              have hs3 := (Ext.refl w3).alloc (.cells #[.int .u64 mx, .slice A3 nx c3] 26) |>.size
              refine ⟨j + 1, A5, c5, q + 1, R ++ [⟨mx, A3, c3, zl⟩], by omega, by omega, by go_num, rfl, Lib.hid (by rw [List.length_append, HQ.out]; rfl), Lib.hid ?_, Lib.hid ?_, Lib.hid (fun h => ?_), by omega⟩
              · obtain ⟨h1, h2⟩ := HJV.out
                rw [pairK_yes h1 (by rw [h2]; exact decide_eq_true (by have a := HNX.out; have b := HNY.out; show l.length = ly.length; omega)), h2]
                have e9 : maxT (e, l) (⟨f, Ay, cy, ly⟩ : Tm).v = (mx, zl) := by show (max e f, List.zipWith max l ly) = _; rw [HMX.out, HZL.out]
                rw [e9]
                exact hp
              · exact ((((HB.out.ext XY.out).ext X3.out).alloc _).alloc _).grown HG5.out HA.out
              · rcases HX5.out with ⟨rfl, rfl⟩ | ⟨h1, _⟩
                · exact HA.out h
                · rw [h1] at h
                  injection h with h
                  have := ((Ext.refl (w3.alloc (.cells #[.int .u64 mx, .slice A3 nx c3] 26))).alloc (.cells #[.int .u64 mx, .slice A3 nx c3] 26)).size
                  omega
          · have hne : ((nx : Int) != (ny : Int)) = true := by simp; omega
            have HS := Lib.hid hs
            clear hs
            go_wp2_with (first
              | (go_at_call 62; go_loud (refine (join_diff e f Ax Ay nx ny cx cy _ hne).mono ?_); rintro r w3 ⟨rfl, x3⟩; have X3 := Lib.hid x3; clear x3))
            go_roundg (n - (j + 1))
            case measure => omega
            case rel =>
              have XX := (XY.out.trans X3.out).alloc (.cells #[.int .u64 0, .slice none 0 0] 26)
              refine ⟨j + 1, A, c, q, R, by omega, by omega, by go_num, rfl, HQ, Lib.hid ?_, Lib.hid (HB.out.ext XX), HA, by omega⟩
              obtain ⟨h1, h2⟩ := HJV.out
              rw [pairK_no h1 (by rw [h2]; exact decide_eq_false (by have a := HNX.out; have b := HNY.out; have := HS.out; show ¬ l.length = ly.length; omega))]
              exact HJ.out.grow XX
        · obtain rfl : j = n := by omega
          go_wp2
          go_roundg (m - (k + 1))
          case measure => omega
          case rel =>
            refine ⟨k + 1, A, c, q, R, by omega, by omega, by go_num, rfl, HQ, Lib.hid ?_, by omega⟩
            obtain ⟨h1, h2⟩ := HKV.out
            have hJ := HJ.out
            rw [show j = (M.map Tm.v).length by rw [List.length_map]; exact hn.out, show ((e, l) : TV) = (L.map Tm.v)[k] from h2.symm, pairK_end h1] at hJ
            exact hJ
    · obtain rfl : k = m := by omega
      go_wp2_with (first
        | (go_at_call 19; go_loud (refine (of_any A c q R _ HQ (Lib.hid HJ.out.out.tin) (Lib.hid HJ.out.len) (by omega)).mono ?_); rintro r w4 ⟨A4, c4, n4, M4, rfl, h4, t4, v4, x4⟩; have HO : Hid (OfOut (ofV (R.map Tm.v)) wr (.returned (.slice A4 n4 c4)) w4) := Lib.hid ⟨A4, c4, n4, M4, rfl, h4, t4, v4, x4⟩; clear h4 t4 v4 x4))
      go_ret
      have hb := HO.out.back HJ.out.ext
      rw [HJ.out.is, show k = (L.map Tm.v).length by rw [List.length_map]; exact hm.out, List.take_length] at hb
      exact hb
end Go.Proofs.YtmdakaflmheidaaGreatDoor
