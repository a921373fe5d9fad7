/- SpineSame: the walk. Conditions: each theorem states its own. -/
import Derived.Test.YtdgbkpoickbidaaGreatDoorSs13
import Derived.Test.YtdgbkpoickbidaaGreatDoorSs15
import Derived.Deep.CutBlock
import Derived.Test.YtdgbkpoickbidaaGreatDoorSs11
namespace Go.Proofs.YtdgbkpoickbidaaGreatDoor
open Go.RowKit

/-- where the law's loop stands -/
structure SameI (w0 wr : World) (M : List Sop) (i ga gb n c : Nat) (A : Option Addr) (ma mb : SpM) (Ra Rb : Nat → Prop) (L : List Ud) : Prop where
  d : Duo w0 wr ga gb ma mb Ra Rb A n c L
  t : Twins ma.v mb.v (L.map Ud.uv) (opsLen M i)
  u : ∀ x ∈ L, InU x
  n : L.length ≤ opsLen M i
section
variable {w0 wr w' : World} {M : List Sop} {i ga gb n c : Nat} {A : Option Addr} {ma mb m' : SpM} {Ra Rb : Nat → Prop} {L : List Ud}
theorem SameI.start {w w1 w2 : World} (x0 : Ext w0 w) (ha : SpR w1 (fun k => w.heap.size ≤ k ∧ k < w1.heap.size) ga ma) (va : ma.v = newV) (x1 : Ext w w1) (hb : SpR w2 (fun k => w1.heap.size ≤ k ∧ k < w2.heap.size) gb mb) (vb : mb.v = newV) (x2 : Ext w1 w2) :
    SameI w0 w2 M 0 ga gb 0 0 none ma mb (fun k => w.heap.size ≤ k ∧ k < w1.heap.size) (fun k => w1.heap.size ≤ k ∧ k < w2.heap.size) [] :=
  ⟨Duo.start x0 ha x1 hb x2, by rw [va, vb, opsLen_zero]; exact twins_new, fun x hx => (nomatch hx), Nat.zero_le _⟩
theorem SameI.grow (h : SameI w0 wr M i ga gb n c A ma mb Ra Rb L) (x : Ext wr w') : SameI w0 w' M i ga gb n c A ma mb Ra Rb L := ⟨h.d.grow x, h.t, h.u, h.n⟩
theorem SameI.next (h : SameI w0 wr M i ga gb n c A ma mb Ra Rb L) (hi : i < M.length) : SameI w0 wr M (i + 1) ga gb n c A ma mb Ra Rb L := by
  have e := opsLen_succ hi
  exact ⟨h.d, ⟨h.t.ta.up (by omega), h.t.tb.up (by omega), h.t.S, h.t.U⟩, h.u, by have := h.n; omega⟩
theorem SameI.work {z : Int} {e : Ending} (h : SameI w0 wr M i ga gb n c A ma mb Ra Rb L) (k : SpWorkG wr Rb gb mb.v z e w') : ∃ m' r, e = .returned (.int .i64 (r : Nat)) ∧ SameI w0 w' M i ga gb n c A ma m' Ra (Rg Rb wr w') L := by
  obtain ⟨m1, r, he, s, v, o, u⟩ := k
  refine ⟨m1, r, he, h.d.stepB u s, ?_, h.u, h.n⟩
  rcases v with ⟨v, _⟩ | ⟨n, _, _, v⟩
  · rw [v]; exact h.t
  · exact h.t.work v
/-- both spines have taken the same calls, and nothing has come of it -/
theorem SameI.keep {w1 : World} {m1 m2 : SpM} (h : SameI w0 wr M i ga gb n c A ma mb Ra Rb L) (hi : i < M.length) (u1 : Upd Ra wr w1) (s1 : SpR w1 (Rg Ra wr w1) ga m1) (v1 : m1.v = ma.v) (u2 : Upd Rb w1 w') (s2 : SpR w' (Rg Rb w1 w') gb m2) (v2 : m2.v = mb.v) :
    SameI w0 w' M (i + 1) ga gb n c A m1 m2 (Rg Ra wr w1) (Rg Rb w1 w') L := by
  have k := h.next hi
  exact ⟨(h.d.stepA u1 s1).stepB u2 s2, by rw [v1, v2]; exact k.t, k.u, k.n⟩
theorem SameI.mid {w1 : World} {m1 : SpM} (h : SameI w0 wr M i ga gb n c A ma mb Ra Rb L) (u1 : Upd Ra wr w1) (s1 : SpR w1 (Rg Ra wr w1) ga m1) : Duo w0 w1 ga gb m1 mb (Rg Ra wr w1) Rb A n c L := h.d.stepA u1 s1
/-- both have taken updates in -/
theorem SameI.ins {w1 : World} {m1 m2 : SpM} {x : Sop} (h : SameI w0 wr M i ga gb n c A ma mb Ra Rb L) (hi : i < M.length) (hx : M.getD i Sop.zero = x) (hr : ∀ y ∈ x.L, UdR w0 y ∧ InU y) {s1' s2' : SV} (u1 : Upd Ra wr w1) (s1 : SpR w1 (Rg Ra wr w1) ga m1) (v1 : m1.v = s1') (u2 : Upd Rb w1 w') (s2 : SpR w' (Rg Rb w1 w') gb m2) (v2 : m2.v = s2')
    (t : Twins s1' s2' (L.map Ud.uv ++ x.L.map Ud.uv) (opsLen M i + (x.L.map Ud.uv).length + 1)) {w3 : World} {A3 : Option Addr} {c3 k : Nat} (hk : k = x.L.length) (o : Own w3 w0.heap.size 95 4 A3 (n + k) c3 (udsC L ++ udsC x.L)) (g : w'.grownBy w3 (blk A c)) (q : (A3 = A ∧ c3 = c) ∨ (blk A3 c3 = some w'.heap.size ∧ Ext w' w3)) :
    SameI w0 w3 M (i + 1) ga gb (n + k) c3 A3 m1 m2 (Rg Ra wr w1) (Rg Rb w1 w') (L ++ x.L) := by
  have e := opsLen_succ hi
  rw [hx] at e
  rw [List.length_map] at t
  refine ⟨((h.d.stepA u1 s1).stepB u2 s2).app hk (fun y hy => (hr y hy).1) o g q, ?_, fun y hy => (List.mem_append.1 hy).elim (h.u y) fun hy => (hr y hy).2, by rw [List.length_append]; have := h.n; omega⟩
  rw [v1, v2, List.map_append, e, ← Nat.add_assoc]
  exact t
theorem SameI.compact {w1 : World} {m1 m2 : SpM} {X : List TV} (h : SameI w0 wr M i ga gb n c A ma mb Ra Rb L) (hi : i < M.length) (hX : ∀ t ∈ X, 0 ≤ t.1 ∧ t.1 ≤ 18446744073709551615) (u1 : Upd Ra wr w1) (s1 : SpR w1 (Rg Ra wr w1) ga m1) (v1 : m1.v = (compactV ma.v X).2) (u2 : Upd Rb w1 w') (s2 : SpR w' (Rg Rb w1 w') gb m2) (v2 : m2.v = (compactV mb.v X).2) :
    SameI w0 w' M (i + 1) ga gb n c A m1 m2 (Rg Ra wr w1) (Rg Rb w1 w') L := by
  have k := h.next hi
  refine ⟨(h.d.stepA u1 s1).stepB u2 s2, ?_, k.u, k.n⟩
  rw [v1, v2]
  exact (k.t.compact hX).2
end
theorem tms_in {X : List Tm} (h : ∀ y ∈ X, TmIn y) : ∀ t ∈ X.map Tm.v, 0 ≤ t.1 ∧ t.1 ≤ 18446744073709551615 := fun t ht => by
  obtain ⟨y, hy, rfl⟩ := List.mem_map.1 ht
  exact (h y hy).e
theorem uds_in {L : List Ud} (h : ∀ y ∈ L, InU y) : ∀ u ∈ L.map Ud.uv, InUV u := fun u hu => by
  obtain ⟨y, hy, rfl⟩ := List.mem_map.1 hu
  exact (h y hy).uv
theorem at_ctin {w w' : World} {U : List V} {A : Option Addr} {n c : Nat} (h : DAtRes w U (.returned (.slice A n c)) w') : ∃ R : List Ct, n = R.length ∧ Ctin w' A c R ∧ R.map valC = U ∧ Ext w w' := by
  obtain ⟨A', m, c', R, e, hm, o, r, _, v, x⟩ := h
  injection e with e
  injection e with e1 e2 e3
  subst e1 e2 e3
  exact ⟨R, hm, ⟨by have := o.sl; rwa [hm] at this, fun y hy => (r y hy).1.rw⟩, v, x⟩
/-- what a round has to go on with -/
def SameK (w0 : World) (M : List Sop) (i ga gb : Nat) (v : Value) (w : World) : Prop := ∃ (n c : Nat) (A : Option Addr) (ma mb : SpM) (Ra Rb : Nat → Prop) (L : List Ud), v = .slice A n c ∧ SameI w0 w M i ga gb n c A ma mb Ra Rb L
set_option maxRecDepth 100000 in
set_option maxHeartbeats 64000000 in
theorem same_much (A : Option Addr) (c n : Nat) (M : List Sop) (Af : Option Addr) (cf nf : Nat) (w : World) (G : Good w) (hn : Hid (n = M.length)) (hM : Hid (Oin w A c M)) (hb : Hid (∀ x ∈ M, x.L.length ≤ 1048576 ∧ x.T.length ≤ 1048576)) (h1 : Hid (muchO M = true)) :
    Calls Tryz.prog 5 #[.slice A n c, .slice Af nf cf] w fun e w' => e = .returned (.bool true) ∧ Ext w w' := by
  have m1 : True := trivial
  go_enter Tryz.func5, Tryz.ntmps5
  go_wp2_with (first
    | (go_at_call 41; have mk := m1; clear m1 mk; go_loud (refine (much11_at A c n M _ h1 hn hM hb).mono ?_); rintro r w1 ⟨rfl, x1⟩; have X1 := Lib.hid x1; clear x1; have m2 : True := trivial)
    | (go_at_call 42; have mk := m2; clear m2 mk; go_loud (refine (known11_any _ (G.ext X1.out)).mono ?_); rintro r w2 ⟨rfl, x2⟩)
    | fail)
  go_ret
  exact ⟨rfl, X1.out.trans x2⟩
set_option maxRecDepth 100000 in
set_option maxHeartbeats 64000000 in
theorem same_any (A : Option Addr) (c n : Nat) (M : List Sop) (Af : Option Addr) (cf nf : Nat) (F : List Int) (w : World) (G : Good w) (hn : Hid (n = M.length)) (hM : Hid (Oin w A c M)) (hI : Hid (∀ x ∈ M, SopIn x)) (hb : Hid (∀ x ∈ M, x.L.length ≤ 1048576 ∧ x.T.length ≤ 1048576)) (h1 : Hid (muchO M = false)) (hnf : Hid (nf = F.length)) (hF : Hid (Is w Af cf F)) (hFi : Hid (∀ z ∈ F, -9223372036854775808 ≤ z ∧ z ≤ 9223372036854775807)) :
    Calls Tryz.prog 5 #[.slice A n c, .slice Af nf cf] w fun e w' => e = .returned (.bool true) ∧ Ext w w' := by
  have HO := Lib.hid (ops_of h1.out)
  have hmax : n ≤ 9223372036854775807 := by rw [hn.out]; exact hM.out.sl.le
  have hmaxf : nf ≤ 9223372036854775807 := by rw [hnf.out]; exact hF.out.le
  have m1 : True := trivial
  go_enter Tryz.func5, Tryz.ntmps5
  go_wp2_with (first
    | (go_at_call 41; have mk := m1; clear m1 mk; go_loud (refine (much11_at A c n M _ h1 hn hM hb).mono ?_); rintro r w1 ⟨rfl, x1⟩; have X1 := Lib.hid x1; clear x1; have m2 : True := trivial)
    | (go_at_call 42; have mk := m2; clear m2 mk; go_loud (refine (known11_any _ (G.ext X1.out)).mono ?_); rintro r w2 ⟨rfl, x2⟩; have X2 := Lib.hid (X1.out.trans x2); clear x2; have m3 : True := trivial)
    | (go_at_call 43; have mk := m3; clear m3 mk; go_loud (refine (spNew_any _).mono ?_); rintro r w3 ⟨ga, ma0, rfl, s3, v3, x3⟩; have S3 := Lib.hid s3; have V3 := Lib.hid v3; have X3 := Lib.hid x3; clear s3 v3 x3; have m4 : True := trivial)
    | (go_at_call 43; have mk := m4; clear m4 mk; go_loud (refine (spNew_any _).mono ?_); rintro r w4 ⟨gb, mb0, rfl, s4, v4, x4⟩; have HI0 : Hid (SameI w w4 M 0 ga gb 0 0 none ma0 mb0 _ _ []) := Lib.hid (SameI.start X2.out S3.out V3.out X3.out s4 v4 x4); clear s4 v4 x4)
    | fail)
  clear S3 V3 X1 X2 X3
  go_loopg [7, 8] n (fun z v7 v8 wr => ∃ (i n7 c7 : Nat) (A7 : Option Addr) (ma mb : SpM) (Ra Rb : Nat → Prop) (L : List Ud), z = n - i ∧ i ≤ n ∧ v8 = .int .i64 i ∧ v7 = .slice A7 n7 c7 ∧ Hid (SameI w wr M i ga gb n7 c7 A7 ma mb Ra Rb L))
  case atStart => exact ⟨0, 0, 0, none, ma0, mb0, _, _, [], rfl, Nat.zero_le _, rfl, rfl, HI0⟩
  case round =>
    clear HI0
    obtain ⟨i, n7, c7, A7, ma, mb, Ra, Rb, L, rfl, hi, rfl, rfl, HI⟩ := hrel
    by_cases hlt : i < n
    · have hiM : i < M.length := by rw [← hn.out]; exact hlt
      have HIM := Lib.hid hiM
      obtain ⟨x, hx⟩ : ∃ x, M.getD i Sop.zero = x := ⟨_, rfl⟩
      have hxm : x ∈ M := hx ▸ getO_mem hiM
      obtain ⟨ad, eA, q0, q1, q2, q3, q4, q5, q6⟩ := (hM.out.ext HI.out.d.ext).at hiM hx
      subst eA
      have HXR : Hid (SopR w x) := Lib.hid (hM.out.ls x hxm)
      have HXI : Hid (SopIn x) := Lib.hid (hI.out x hxm)
      have HXM := Lib.hid hxm
      have HX := Lib.hid hx
      have hk := HXI.out.k
      have hle := opsLen_le M (i + 1)
      rw [opsLen_succ hiM, hx] at hle
      have hlen := HO.out.len
      have hn7 : n7 ≤ 300 := by have a := HI.out.n; have b := HI.out.d.len; omega
      have hL3 : x.L.length ≤ 300 := by omega
      have hT3 : x.T.length ≤ 300 := (HO.out.few x hxm).n
      have HIN : Hid (∀ y ∈ x.L, InU y) := Lib.hid (HO.out.inU hxm HXI.out)
      have HF1 : Hid (Few1 x.T) := Lib.hid (HO.out.few1 hxm)
      have hcap := HXR.out.e.cap
      obtain ⟨xk, hxk⟩ : ∃ k, x.k = k := ⟨_, rfl⟩
      obtain ⟨nL, hnL⟩ : ∃ k, k = x.L.length := ⟨_, rfl⟩
      obtain ⟨nT, hnT⟩ : ∃ k, k = x.T.length := ⟨_, rfl⟩
      obtain ⟨nR, hnR⟩ : ∃ k, k = x.r.length := ⟨_, rfl⟩
      obtain ⟨nE, hnE⟩ : ∃ k, k = x.t.l.length := ⟨_, rfl⟩
      obtain ⟨xA, hxA⟩ : ∃ k, x.A = k := ⟨_, rfl⟩
      obtain ⟨xc, hxc⟩ : ∃ k, x.c = k := ⟨_, rfl⟩
      obtain ⟨tA, htA⟩ : ∃ k, x.tA = k := ⟨_, rfl⟩
      obtain ⟨tc, htc⟩ : ∃ k, x.tc = k := ⟨_, rfl⟩
      obtain ⟨ee, hee⟩ : ∃ k, x.t.e = k := ⟨_, rfl⟩
      obtain ⟨eA, heA⟩ : ∃ k, x.t.A = k := ⟨_, rfl⟩
      obtain ⟨ec, hec⟩ : ∃ k, x.t.c = k := ⟨_, rfl⟩
      rw [hxk] at q0 hk
      rw [hxA, hxc, ← hnL] at q1
      rw [htA, htc, ← hnT] at q2
      rw [hee] at q4
      rw [heA, hec, ← hnE] at q5
      rw [← hnR] at q6
      rw [← hnL] at hL3
      rw [← hnT] at hT3
      rw [hec, ← hnE] at hcap
      have HU : Hid (Uin w xA xc x.L) := Lib.hid (by rw [← hxA, ← hxc]; exact HXR.out.u)
      have HTT : Hid (Tin w tA tc x.T) := Lib.hid (by rw [← htA, ← htc]; exact HXR.out.t)
      have HE : Hid (Sl w 1 eA nE ec (wds x.t.l)) := Lib.hid (by rw [← heA, ← hec, hnE]; exact HXR.out.e)
      have HNL := Lib.hid hnL
      have HNT := Lib.hid hnT
      have HNE := Lib.hid hnE
      clear hxA hxc htA htc hee heA hec hnL hnT hnR hnE hx hxm hiM hle hxk
      go_upto_block 2 with fail
      obtain ⟨wo, hwo⟩ : ∃ wo, wo = wr.alloc (.cells #[.int .u8 xk, .slice xA nL xc, .slice tA nT tc, .int .i64 x.n, .int .u64 ee, .slice eA nE ec, .slice x.rA nR x.rc] 81) := ⟨_, rfl⟩
      obtain ⟨go, hgo⟩ : ∃ g, g = wr.heap.size := ⟨_, rfl⟩
      have BO : Hid (Bk wo go 81 #[.int .u8 xk, .slice xA nL xc, .slice tA nT tc, .int .i64 x.n, .int .u64 ee, .slice eA nE ec, .slice x.rA nR x.rc]) := Lib.hid (by rw [hwo, hgo]; exact Bk.new _ _ _)
      have XO : Hid (Ext wr wo) := Lib.hid (by rw [hwo]; exact (Ext.refl _).alloc _)
      have HI2 := Lib.hid (HI.out.grow XO.out)
      have HNA : Hid (¬ Ra go) := Lib.hid (fun q => by have := (HI.out.d.la go q).2; omega)
      have HNB : Hid (¬ Rb go) := Lib.hid (fun q => by have := (HI.out.d.lb go q).2; omega)
      obtain ⟨xq, hxq⟩ : ∃ q, xk % 6 = q := ⟨_, rfl⟩
      have hq6 : 0 ≤ xq ∧ xq ≤ 5 := by omega
      rw [hxq, ← hwo, ← hgo]
      have hL9 : (x.L.map Ud.uv).length = nL := by rw [List.length_map]; exact HNL.out.symm
      have HTI := HI.out.t.ins (l := x.L.map Ud.uv) (X := x.T.map Tm.v) (uds_in HIN.out) (tms_in HXI.out.t) (by rw [hL9]; have a := opsLen_le M i; have b := HO.out.len; omega)
      have HTC := HI.out.t.compact (X := x.T.map Tm.v) (tms_in HXI.out.t)
      have HTA := HI.out.t.at (ee, x.t.l)
      have HTB := tells_at HI.out.t.ta (ee, x.t.l)
      obtain ⟨ia, hia⟩ : ∃ v, insV ma.v (x.L.map Ud.uv) (x.T.map Tm.v) = v := ⟨_, rfl⟩
      obtain ⟨ib, hib⟩ : ∃ v, insV mb.v (x.L.map Ud.uv) (x.T.map Tm.v) = v := ⟨_, rfl⟩
      rw [hia, hib] at HTI
      have HIA := Lib.hid hia
      have HIB := Lib.hid hib
      obtain ⟨ca, hca⟩ : ∃ v, compactV ma.v (x.T.map Tm.v) = v := ⟨_, rfl⟩
      obtain ⟨cb, hcb⟩ : ∃ v, compactV mb.v (x.T.map Tm.v) = v := ⟨_, rfl⟩
      have HCA := Lib.hid hca
      have HCB := Lib.hid hcb
      obtain ⟨ta, hta⟩ : ∃ v, atS ma.v (ee, x.t.l) = v := ⟨_, rfl⟩
      rw [hta] at HTA HTB
      have HAA := Lib.hid hta
      have HAB := Lib.hid HTA.symm
      have HAU := Lib.hid HTB
      have HCE : Hid (ca.1 = cb.1) := Lib.hid (by rw [← hca, ← hcb]; exact HTC.1)
      have HTI2 := Lib.hid HTI
      clear hwo hgo hxq hia hib hca hcb hta HTI HTC HTA HTB hk q0 q1 q2 q3 q4 q5 q6
      go_cut [7] (fun s wx => SameK w M (i + 1) ga gb s wx)
      case first =>
        have hq : xq = 0 ∨ xq = 1 ∨ xq = 2 ∨ xq = 3 ∨ (¬ xq = 0 ∧ ¬ xq = 1 ∧ ¬ xq = 2 ∧ ¬ xq = 3) := by omega
        rcases hq with hq | hq | hq | hq | ⟨h0, h1', h2, h3⟩
        · subst hq
          have c1 : wo.cell? ⟨go, 1, none⟩ = some (.slice xA nL xc) := BO.out.cell 1
          have c2 : wo.cell? ⟨go, 2, none⟩ = some (.slice tA nT tc) := BO.out.cell 2
          obtain ⟨ra, sa⟩ := ia
          obtain ⟨rb, sb⟩ := ib
          have m1 : True := trivial
          rcases HTI2.out with ⟨e1, e2, e3, e4⟩ | ⟨e1, e2, e3⟩
          · simp only at e1 e2 e3 e4
            subst e1 e3 e4
            have hne : (ra == 0) = false := by simp [e2]
            clear e2
            go_wp2_with (first
              | (go_at_call 44; have mk := m1; clear m1 mk; go_loud (refine (spIns_any (q := (ra, ma.v)) ga ma Ra xA xc nL x.L tA tc nT x.T _ HIA (Lib.hid HI2.out.d.a) HNL (Lib.hid (HU.out.ext HI2.out.d.ext)) (by omega) HIN HNT (Lib.hid (fun W q => HTT.out.ext (ext_updS HI2.out.d.ext q fun k hk => (HI2.out.d.la k hk).1))) HF1 HI.out.t.ta.ok.sp.nb (Lib.hid (G.ext HI2.out.d.ext))).mono ?_); rintro r w1 ⟨ma1, rfl, s1, v1, u1⟩; have D1 := Lib.hid (HI2.out.mid u1 s1); have S1 := Lib.hid s1; have V1 := Lib.hid v1; have U1 := Lib.hid u1; have BO1 := Lib.hid (BO.out.upd u1 HNA.out); clear s1 v1 u1; have c11 : w1.cell? ⟨go, 1, none⟩ = some (.slice xA nL xc) := BO1.out.cell 1; have c12 : w1.cell? ⟨go, 2, none⟩ = some (.slice tA nT tc) := BO1.out.cell 2; have m2 : True := trivial)
              | (go_at_call 44; have mk := m2; clear m2 mk; go_loud (refine (spIns_any (q := (ra, mb.v)) gb mb Rb xA xc nL x.L tA tc nT x.T _ HIB (Lib.hid D1.out.b) HNL (Lib.hid (HU.out.ext D1.out.ext)) (by omega) HIN HNT (Lib.hid (fun W q => HTT.out.ext (ext_updS D1.out.ext q fun k hk => (D1.out.lb k hk).1))) HF1 HI.out.t.tb.ok.sp.nb (Lib.hid (G.ext D1.out.ext))).mono ?_); rintro r w2 ⟨mb1, rfl, s2, v2, u2⟩; have D2 := Lib.hid (D1.out.stepB u2 s2); have S2 := Lib.hid s2; have V2 := Lib.hid v2; have U2 := Lib.hid u2; have BO2 := Lib.hid (BO1.out.upd u2 HNB.out); clear s2 v2 u2; have c21 : w2.cell? ⟨go, 1, none⟩ = some (.slice xA nL xc) := BO2.out.cell 1; have m3 : True := trivial)
              | fail)
            go_meet
            case rel => exact ⟨n7, c7, A7, _, _, _, _, _, rfl, HI2.out.keep HIM.out U1.out S1.out V1.out U2.out S2.out V2.out⟩
          · simp only at e1 e2 e3
            subst e1 e2
            have HT3 := Lib.hid e3
            clear e3
            go_wp2_with (first
              | (go_at_call 44; have mk := m1; clear m1 mk; go_loud (refine (spIns_any (q := (0, sa)) ga ma Ra xA xc nL x.L tA tc nT x.T _ HIA (Lib.hid HI2.out.d.a) HNL (Lib.hid (HU.out.ext HI2.out.d.ext)) (by omega) HIN HNT (Lib.hid (fun W q => HTT.out.ext (ext_updS HI2.out.d.ext q fun k hk => (HI2.out.d.la k hk).1))) HF1 HI.out.t.ta.ok.sp.nb (Lib.hid (G.ext HI2.out.d.ext))).mono ?_); rintro r w1 ⟨ma1, rfl, s1, v1, u1⟩; have D1 := Lib.hid (HI2.out.mid u1 s1); have S1 := Lib.hid s1; have V1 := Lib.hid v1; have U1 := Lib.hid u1; have BO1 := Lib.hid (BO.out.upd u1 HNA.out); clear s1 v1 u1; have c11 : w1.cell? ⟨go, 1, none⟩ = some (.slice xA nL xc) := BO1.out.cell 1; have c12 : w1.cell? ⟨go, 2, none⟩ = some (.slice tA nT tc) := BO1.out.cell 2; have m2 : True := trivial)
              | (go_at_call 44; have mk := m2; clear m2 mk; go_loud (refine (spIns_any (q := (0, sb)) gb mb Rb xA xc nL x.L tA tc nT x.T _ HIB (Lib.hid D1.out.b) HNL (Lib.hid (HU.out.ext D1.out.ext)) (by omega) HIN HNT (Lib.hid (fun W q => HTT.out.ext (ext_updS D1.out.ext q fun k hk => (D1.out.lb k hk).1))) HF1 HI.out.t.tb.ok.sp.nb (Lib.hid (G.ext D1.out.ext))).mono ?_); rintro r w2 ⟨mb1, rfl, s2, v2, u2⟩; have D2 := Lib.hid (D1.out.stepB u2 s2); have S2 := Lib.hid s2; have V2 := Lib.hid v2; have U2 := Lib.hid u2; have BO2 := Lib.hid (BO1.out.upd u2 HNB.out); clear s2 v2 u2; have c21 : w2.cell? ⟨go, 1, none⟩ = some (.slice xA nL xc) := BO2.out.cell 1; have m3 : True := trivial)
              | (at_builtin; have mk := m3; clear m3 mk; go_loud (refine wpList_append_two _ elem_ud w.heap.size _ _ rfl rfl A7 n7 c7 (udsC L) rfl (D2.out.own) xA nL xc (udsC x.L) rfl (by have q := (HU.out.ext D2.out.ext).sl; rwa [← HNL.out] at q) (udsC_one _) (by omega) (by decide) D2.out.ext.size ?_); intro A6 c6 w6 o6 g6 h6; have O6 := Lib.hid o6; have G6 := Lib.hid g6; have H6 := Lib.hid h6; clear o6 g6 h6)
              | fail)
            go_meet
            case rel => exact ⟨_, c6, A6, _, _, _, _, _, rfl, HI2.out.ins HIM.out HX.out (fun y hy => ⟨HU.out.ls y hy, HIN.out y hy⟩) U1.out S1.out V1.out U2.out S2.out V2.out HT3.out HNL.out O6.out G6.out H6.out⟩
        · subst hq
          have c1 : wo.cell? ⟨go, 1, none⟩ = some (.slice xA nL xc) := BO.out.cell 1
          have c2 : wo.cell? ⟨go, 2, none⟩ = some (.slice tA nT tc) := BO.out.cell 2
          obtain ⟨ra, sa⟩ := ia
          obtain ⟨rb, sb⟩ := ib
          have m1 : True := trivial
          rcases HTI2.out with ⟨e1, e2, e3, e4⟩ | ⟨e1, e2, e3⟩
          · simp only at e1 e2 e3 e4
            subst e1 e3 e4
            have hne : (ra == 0) = false := by simp [e2]
            clear e2
            go_wp2_with (first
              | (go_at_call 44; have mk := m1; clear m1 mk; go_loud (refine (spIns_any (q := (ra, ma.v)) ga ma Ra xA xc nL x.L tA tc nT x.T _ HIA (Lib.hid HI2.out.d.a) HNL (Lib.hid (HU.out.ext HI2.out.d.ext)) (by omega) HIN HNT (Lib.hid (fun W q => HTT.out.ext (ext_updS HI2.out.d.ext q fun k hk => (HI2.out.d.la k hk).1))) HF1 HI.out.t.ta.ok.sp.nb (Lib.hid (G.ext HI2.out.d.ext))).mono ?_); rintro r w1 ⟨ma1, rfl, s1, v1, u1⟩; have D1 := Lib.hid (HI2.out.mid u1 s1); have S1 := Lib.hid s1; have V1 := Lib.hid v1; have U1 := Lib.hid u1; have BO1 := Lib.hid (BO.out.upd u1 HNA.out); clear s1 v1 u1; have c11 : w1.cell? ⟨go, 1, none⟩ = some (.slice xA nL xc) := BO1.out.cell 1; have c12 : w1.cell? ⟨go, 2, none⟩ = some (.slice tA nT tc) := BO1.out.cell 2; have m2 : True := trivial)
              | (go_at_call 44; have mk := m2; clear m2 mk; go_loud (refine (spIns_any (q := (ra, mb.v)) gb mb Rb xA xc nL x.L tA tc nT x.T _ HIB (Lib.hid D1.out.b) HNL (Lib.hid (HU.out.ext D1.out.ext)) (by omega) HIN HNT (Lib.hid (fun W q => HTT.out.ext (ext_updS D1.out.ext q fun k hk => (D1.out.lb k hk).1))) HF1 HI.out.t.tb.ok.sp.nb (Lib.hid (G.ext D1.out.ext))).mono ?_); rintro r w2 ⟨mb1, rfl, s2, v2, u2⟩; have D2 := Lib.hid (D1.out.stepB u2 s2); have S2 := Lib.hid s2; have V2 := Lib.hid v2; have U2 := Lib.hid u2; have BO2 := Lib.hid (BO1.out.upd u2 HNB.out); clear s2 v2 u2; have c21 : w2.cell? ⟨go, 1, none⟩ = some (.slice xA nL xc) := BO2.out.cell 1; have m3 : True := trivial)
              | fail)
            go_meet
            case rel => exact ⟨n7, c7, A7, _, _, _, _, _, rfl, HI2.out.keep HIM.out U1.out S1.out V1.out U2.out S2.out V2.out⟩
          · simp only at e1 e2 e3
            subst e1 e2
            have HT3 := Lib.hid e3
            clear e3
            go_wp2_with (first
              | (go_at_call 44; have mk := m1; clear m1 mk; go_loud (refine (spIns_any (q := (0, sa)) ga ma Ra xA xc nL x.L tA tc nT x.T _ HIA (Lib.hid HI2.out.d.a) HNL (Lib.hid (HU.out.ext HI2.out.d.ext)) (by omega) HIN HNT (Lib.hid (fun W q => HTT.out.ext (ext_updS HI2.out.d.ext q fun k hk => (HI2.out.d.la k hk).1))) HF1 HI.out.t.ta.ok.sp.nb (Lib.hid (G.ext HI2.out.d.ext))).mono ?_); rintro r w1 ⟨ma1, rfl, s1, v1, u1⟩; have D1 := Lib.hid (HI2.out.mid u1 s1); have S1 := Lib.hid s1; have V1 := Lib.hid v1; have U1 := Lib.hid u1; have BO1 := Lib.hid (BO.out.upd u1 HNA.out); clear s1 v1 u1; have c11 : w1.cell? ⟨go, 1, none⟩ = some (.slice xA nL xc) := BO1.out.cell 1; have c12 : w1.cell? ⟨go, 2, none⟩ = some (.slice tA nT tc) := BO1.out.cell 2; have m2 : True := trivial)
              | (go_at_call 44; have mk := m2; clear m2 mk; go_loud (refine (spIns_any (q := (0, sb)) gb mb Rb xA xc nL x.L tA tc nT x.T _ HIB (Lib.hid D1.out.b) HNL (Lib.hid (HU.out.ext D1.out.ext)) (by omega) HIN HNT (Lib.hid (fun W q => HTT.out.ext (ext_updS D1.out.ext q fun k hk => (D1.out.lb k hk).1))) HF1 HI.out.t.tb.ok.sp.nb (Lib.hid (G.ext D1.out.ext))).mono ?_); rintro r w2 ⟨mb1, rfl, s2, v2, u2⟩; have D2 := Lib.hid (D1.out.stepB u2 s2); have S2 := Lib.hid s2; have V2 := Lib.hid v2; have U2 := Lib.hid u2; have BO2 := Lib.hid (BO1.out.upd u2 HNB.out); clear s2 v2 u2; have c21 : w2.cell? ⟨go, 1, none⟩ = some (.slice xA nL xc) := BO2.out.cell 1; have m3 : True := trivial)
              | (at_builtin; have mk := m3; clear m3 mk; go_loud (refine wpList_append_two _ elem_ud w.heap.size _ _ rfl rfl A7 n7 c7 (udsC L) rfl (D2.out.own) xA nL xc (udsC x.L) rfl (by have q := (HU.out.ext D2.out.ext).sl; rwa [← HNL.out] at q) (udsC_one _) (by omega) (by decide) D2.out.ext.size ?_); intro A6 c6 w6 o6 g6 h6; have O6 := Lib.hid o6; have G6 := Lib.hid g6; have H6 := Lib.hid h6; clear o6 g6 h6)
              | fail)
            go_meet
            case rel => exact ⟨_, c6, A6, _, _, _, _, _, rfl, HI2.out.ins HIM.out HX.out (fun y hy => ⟨HU.out.ls y hy, HIN.out y hy⟩) U1.out S1.out V1.out U2.out S2.out V2.out HT3.out HNL.out O6.out G6.out H6.out⟩
        · subst hq
          have c1 : wo.cell? ⟨go, 1, none⟩ = some (.slice xA nL xc) := BO.out.cell 1
          have c2 : wo.cell? ⟨go, 2, none⟩ = some (.slice tA nT tc) := BO.out.cell 2
          obtain ⟨ra, sa⟩ := ia
          obtain ⟨rb, sb⟩ := ib
          have m1 : True := trivial
          rcases HTI2.out with ⟨e1, e2, e3, e4⟩ | ⟨e1, e2, e3⟩
          · simp only at e1 e2 e3 e4
            subst e1 e3 e4
            have hne : (ra == 0) = false := by simp [e2]
            clear e2
            go_wp2_with (first
              | (go_at_call 44; have mk := m1; clear m1 mk; go_loud (refine (spIns_any (q := (ra, ma.v)) ga ma Ra xA xc nL x.L tA tc nT x.T _ HIA (Lib.hid HI2.out.d.a) HNL (Lib.hid (HU.out.ext HI2.out.d.ext)) (by omega) HIN HNT (Lib.hid (fun W q => HTT.out.ext (ext_updS HI2.out.d.ext q fun k hk => (HI2.out.d.la k hk).1))) HF1 HI.out.t.ta.ok.sp.nb (Lib.hid (G.ext HI2.out.d.ext))).mono ?_); rintro r w1 ⟨ma1, rfl, s1, v1, u1⟩; have D1 := Lib.hid (HI2.out.mid u1 s1); have S1 := Lib.hid s1; have V1 := Lib.hid v1; have U1 := Lib.hid u1; have BO1 := Lib.hid (BO.out.upd u1 HNA.out); clear s1 v1 u1; have c11 : w1.cell? ⟨go, 1, none⟩ = some (.slice xA nL xc) := BO1.out.cell 1; have c12 : w1.cell? ⟨go, 2, none⟩ = some (.slice tA nT tc) := BO1.out.cell 2; have m2 : True := trivial)
              | (go_at_call 44; have mk := m2; clear m2 mk; go_loud (refine (spIns_any (q := (ra, mb.v)) gb mb Rb xA xc nL x.L tA tc nT x.T _ HIB (Lib.hid D1.out.b) HNL (Lib.hid (HU.out.ext D1.out.ext)) (by omega) HIN HNT (Lib.hid (fun W q => HTT.out.ext (ext_updS D1.out.ext q fun k hk => (D1.out.lb k hk).1))) HF1 HI.out.t.tb.ok.sp.nb (Lib.hid (G.ext D1.out.ext))).mono ?_); rintro r w2 ⟨mb1, rfl, s2, v2, u2⟩; have D2 := Lib.hid (D1.out.stepB u2 s2); have S2 := Lib.hid s2; have V2 := Lib.hid v2; have U2 := Lib.hid u2; have BO2 := Lib.hid (BO1.out.upd u2 HNB.out); clear s2 v2 u2; have c21 : w2.cell? ⟨go, 1, none⟩ = some (.slice xA nL xc) := BO2.out.cell 1; have m3 : True := trivial)
              | fail)
            go_meet
            case rel => exact ⟨n7, c7, A7, _, _, _, _, _, rfl, HI2.out.keep HIM.out U1.out S1.out V1.out U2.out S2.out V2.out⟩
          · simp only at e1 e2 e3
            subst e1 e2
            have HT3 := Lib.hid e3
            clear e3
            go_wp2_with (first
              | (go_at_call 44; have mk := m1; clear m1 mk; go_loud (refine (spIns_any (q := (0, sa)) ga ma Ra xA xc nL x.L tA tc nT x.T _ HIA (Lib.hid HI2.out.d.a) HNL (Lib.hid (HU.out.ext HI2.out.d.ext)) (by omega) HIN HNT (Lib.hid (fun W q => HTT.out.ext (ext_updS HI2.out.d.ext q fun k hk => (HI2.out.d.la k hk).1))) HF1 HI.out.t.ta.ok.sp.nb (Lib.hid (G.ext HI2.out.d.ext))).mono ?_); rintro r w1 ⟨ma1, rfl, s1, v1, u1⟩; have D1 := Lib.hid (HI2.out.mid u1 s1); have S1 := Lib.hid s1; have V1 := Lib.hid v1; have U1 := Lib.hid u1; have BO1 := Lib.hid (BO.out.upd u1 HNA.out); clear s1 v1 u1; have c11 : w1.cell? ⟨go, 1, none⟩ = some (.slice xA nL xc) := BO1.out.cell 1; have c12 : w1.cell? ⟨go, 2, none⟩ = some (.slice tA nT tc) := BO1.out.cell 2; have m2 : True := trivial)
              | (go_at_call 44; have mk := m2; clear m2 mk; go_loud (refine (spIns_any (q := (0, sb)) gb mb Rb xA xc nL x.L tA tc nT x.T _ HIB (Lib.hid D1.out.b) HNL (Lib.hid (HU.out.ext D1.out.ext)) (by omega) HIN HNT (Lib.hid (fun W q => HTT.out.ext (ext_updS D1.out.ext q fun k hk => (D1.out.lb k hk).1))) HF1 HI.out.t.tb.ok.sp.nb (Lib.hid (G.ext D1.out.ext))).mono ?_); rintro r w2 ⟨mb1, rfl, s2, v2, u2⟩; have D2 := Lib.hid (D1.out.stepB u2 s2); have S2 := Lib.hid s2; have V2 := Lib.hid v2; have U2 := Lib.hid u2; have BO2 := Lib.hid (BO1.out.upd u2 HNB.out); clear s2 v2 u2; have c21 : w2.cell? ⟨go, 1, none⟩ = some (.slice xA nL xc) := BO2.out.cell 1; have m3 : True := trivial)
              | (at_builtin; have mk := m3; clear m3 mk; go_loud (refine wpList_append_two _ elem_ud w.heap.size _ _ rfl rfl A7 n7 c7 (udsC L) rfl (D2.out.own) xA nL xc (udsC x.L) rfl (by have q := (HU.out.ext D2.out.ext).sl; rwa [← HNL.out] at q) (udsC_one _) (by omega) (by decide) D2.out.ext.size ?_); intro A6 c6 w6 o6 g6 h6; have O6 := Lib.hid o6; have G6 := Lib.hid g6; have H6 := Lib.hid h6; clear o6 g6 h6)
              | fail)
            go_meet
            case rel => exact ⟨_, c6, A6, _, _, _, _, _, rfl, HI2.out.ins HIM.out HX.out (fun y hy => ⟨HU.out.ls y hy, HIN.out y hy⟩) U1.out S1.out V1.out U2.out S2.out V2.out HT3.out HNL.out O6.out G6.out H6.out⟩
        · subst hq
          obtain ⟨ra, sa⟩ := ca
          obtain ⟨rb, sb⟩ := cb
          have hre : ra = rb := HCE.out
          subst hre
          go_wp2
          have XD : Ext wo wo.drew := (Ext.refl wo).drew
          have Q2 : ∀ y : Yt (fun k => Ra k ∨ Rb k) wo.drew, y.W.cell? ⟨go, 2, none⟩ = some (.slice tA nT tc) := fun y => ((BO.out.ext XD).upd y.x (fun q => q.elim HNA.out HNB.out)).cell 2
          have HI3 := Lib.hid (HI2.out.grow XD)
          clear XD
          refine wp_region_ordU (S := (fun k => Ra k ∨ Rb k)) [0,0,2,7,0,0,32,127,255] (.flo [0,1,2,4,5,6] (.ext 3 (.one 7 (.flo [8] (.fin))))) (by kernel_rfl) (by kernel_rfl) (by intro _ _ d _ _ h; cases d <;> exact h) ?_
          (refine ord_floU (pick_cons rfl (pick_cons rfl (pick_cons rfl (pick_cons rfl (pick_cons rfl (pick_cons rfl pick_nil)))))) ?_; (repeat (go_big_quiet_step (fail))); refine wpQuiet_nil ?_; show ordWalkU _ _ _ _ _ _ _ _)
          refine ord_extU (pick_cons rfl pick_nil) ?_; intro K_ hK_
          go_wp2_with (go_at_call 45; go_loud (refine (compact_any (q := (ra, sa)) ga ma Ra tA tc nT x.T _ HCA (Lib.hid HI3.out.d.a) HNT (Lib.hid (HTT.out.ext HI3.out.d.ext)) HF1).mono ?_); rintro r w1 ⟨ma1, rfl, s1, v1, u1⟩; have D1 := Lib.hid (HI3.out.mid u1 s1); have S1 := Lib.hid s1; have V1 := Lib.hid v1; have U1 := Lib.hid u1; clear s1 v1 u1)
          refine ordNextU.mk (U1.out.mono fun k _ hk => .inl hk) ?_
          refine ord_oneU (pick_cons rfl pick_nil) ?_; intro K_ hK_
          go_wp2_with (go_at_call 45; go_loud (refine (compact_any (q := (ra, sb)) gb mb Rb tA tc nT x.T _ HCB (Lib.hid D1.out.b) HNT (Lib.hid (HTT.out.ext D1.out.ext)) HF1).mono ?_); rintro r w2 ⟨mb1, rfl, s2, v2, u2⟩; have D2 := Lib.hid (D1.out.stepB u2 s2); have S2 := Lib.hid s2; have V2 := Lib.hid v2; have U2 := Lib.hid u2; clear s2 v2 u2)
          clear Q2
          (refine ord_floU (pick_cons rfl pick_nil) ?_; (repeat (go_big_quiet_step (fail))); refine wpQuiet_nil ?_; show ordWalkU _ _ _ _ _ _ _ _)
          refine ord_finU ?_
          go_wp2
          go_meet
          case rel => exact ⟨n7, c7, A7, _, _, _, _, _, rfl, HI3.out.compact HIM.out (tms_in HXI.out.t) U1.out S1.out (V1.out.trans (by rw [HCA.out])) U2.out S2.out (V2.out.trans (by rw [HCB.out]))⟩
        · have b0 : (xq == 0) = false := by simp [h0]
          have b1 : (xq == 1) = false := by simp [h1']
          have b2 : (xq == 2) = false := by simp [h2]
          have b3 : (xq == 3) = false := by simp [h3]
          obtain ⟨ra, ba⟩ := ta
          have c4 : wo.cell? ⟨go, 4, none⟩ = some (.int .u64 ee) := BO.out.cell 4
          have c5 : wo.cell? ⟨go, 5, none⟩ = some (.slice eA nE ec) := BO.out.cell 5
          have m1 : True := trivial
          by_cases hra : ra = 0
          · subst hra
            have HBA : Hid (sumV (atV (L.map Ud.uv) (ee, x.t.l)) = ba) := Lib.hid (HAU.out rfl).symm
            go_wp2_with (first
              | (go_at_call 46; have mk := m1; clear m1 mk; go_loud (refine (spAt_any (q := (0, ba)) ga ma Ra ee eA nE ec x.t.l _ HAA (Lib.hid HI2.out.d.a) (Lib.hid HI2.out.t.ta.ok.sp) HNE (Lib.hid (HE.out.ext HI2.out.d.ext)) (G.ext HI2.out.d.ext)).mono ?_); rintro r w1 ⟨A1, n1, c1_, rfl, d1⟩; obtain ⟨R1, h1_, i1, e1, x1⟩ := at_ctin d1; have HN1 := Lib.hid h1_; have HR1 := Lib.hid i1; have HE1 := Lib.hid e1; have HI3 := Lib.hid (HI2.out.grow x1); have BO1 := Lib.hid (BO.out.ext x1); clear h1_ i1 e1 x1 d1; have c14 : w1.cell? ⟨go, 4, none⟩ = some (.int .u64 ee) := BO1.out.cell 4; have c15 : w1.cell? ⟨go, 5, none⟩ = some (.slice eA nE ec) := BO1.out.cell 5; have m2 : True := trivial)
              | (go_at_call 46; have mk := m2; clear m2 mk; go_loud (refine (spAt_any (q := (0, ba)) gb mb Rb ee eA nE ec x.t.l _ HAB (Lib.hid HI3.out.d.b) (Lib.hid HI3.out.t.tb.ok.sp) HNE (Lib.hid (HE.out.ext HI3.out.d.ext)) (G.ext HI3.out.d.ext)).mono ?_); rintro r w2 ⟨A2, n2, c2_, rfl, d2⟩; obtain ⟨R2, h2_, i2, e2, x2⟩ := at_ctin d2; have HN2 := Lib.hid h2_; have HR2 := Lib.hid i2; have HE2 := Lib.hid e2; have X2 := Lib.hid x2; have HI4 := Lib.hid (HI3.out.grow x2); have BO2 := Lib.hid (BO1.out.ext x2); clear h2_ i2 e2 x2 d2; have m3 : True := trivial)
              | (go_at_call 25; have mk := m3; clear m3 mk; go_loud (refine (sameCts_any A1 A2 c1_ c2_ n1 n2 R1 R2 _ HN1.out HN2.out (HR1.out.ext X2.out) HR2.out (HE1.out.trans HE2.out.symm)).mono ?_); rintro r w3 ⟨rfl, x3⟩; have X3 := Lib.hid x3; have HI5 := Lib.hid (HI4.out.grow x3); have c34 : w3.cell? ⟨go, 4, none⟩ = some (.int .u64 ee) := (BO2.out.ext x3).cell 4; have c35 : w3.cell? ⟨go, 5, none⟩ = some (.slice eA nE ec) := (BO2.out.ext x3).cell 5; clear x3; have m4 : True := trivial)
              | (go_at_call 26; have mk := m4; clear m4 mk; go_loud (refine (refAt10_any (U := ba) A7 c7 n7 L ee eA nE ec x.t.l _ HBA (Lib.hid HI5.out.d.len) (Lib.hid HI5.out.d.uin) (by omega) (Lib.hid (HE.out.ext HI5.out.d.ext))).mono ?_); rintro r w4 ⟨A4, n4, c4_, R4, rfl, h4, i4, e4, x4⟩; have HN4 := Lib.hid h4; have HR4 := Lib.hid i4; have HE4 := Lib.hid e4; have X4 := Lib.hid x4; have HI6 := Lib.hid (HI5.out.grow x4); clear h4 i4 e4 x4; have m5 : True := trivial)
              | (go_at_call 25; have mk := m5; clear m5 mk; go_loud (refine (sameCts_any A1 A4 c1_ c4_ n1 n4 R1 R4 _ HN1.out HN4.out (HR1.out.ext ((X2.out.trans X3.out).trans X4.out)) HR4.out (HE1.out.trans HE4.out.symm)).mono ?_); rintro r w5 ⟨rfl, x5⟩; have HI7 := Lib.hid (HI6.out.grow x5); clear x5)
              | fail)
            go_meet
            case rel => exact ⟨n7, c7, A7, ma, mb, Ra, Rb, L, rfl, HI7.out.next HIM.out⟩
          · have hrz : (ra == 0) = false := by simp [hra]
            clear hra
            go_wp2_with (first
              | (go_at_call 46; have mk := m1; clear m1 mk; go_loud (refine (spAt_any (q := (ra, ba)) ga ma Ra ee eA nE ec x.t.l _ HAA (Lib.hid HI2.out.d.a) (Lib.hid HI2.out.t.ta.ok.sp) HNE (Lib.hid (HE.out.ext HI2.out.d.ext)) (G.ext HI2.out.d.ext)).mono ?_); rintro r w1 ⟨A1, n1, c1_, rfl, d1⟩; obtain ⟨R1, h1_, i1, e1, x1⟩ := at_ctin d1; have HN1 := Lib.hid h1_; have HR1 := Lib.hid i1; have HE1 := Lib.hid e1; have HI3 := Lib.hid (HI2.out.grow x1); have BO1 := Lib.hid (BO.out.ext x1); clear h1_ i1 e1 x1 d1; have c14 : w1.cell? ⟨go, 4, none⟩ = some (.int .u64 ee) := BO1.out.cell 4; have c15 : w1.cell? ⟨go, 5, none⟩ = some (.slice eA nE ec) := BO1.out.cell 5; have m2 : True := trivial)
              | (go_at_call 46; have mk := m2; clear m2 mk; go_loud (refine (spAt_any (q := (ra, ba)) gb mb Rb ee eA nE ec x.t.l _ HAB (Lib.hid HI3.out.d.b) (Lib.hid HI3.out.t.tb.ok.sp) HNE (Lib.hid (HE.out.ext HI3.out.d.ext)) (G.ext HI3.out.d.ext)).mono ?_); rintro r w2 ⟨A2, n2, c2_, rfl, d2⟩; obtain ⟨R2, h2_, i2, e2, x2⟩ := at_ctin d2; have HN2 := Lib.hid h2_; have HR2 := Lib.hid i2; have HE2 := Lib.hid e2; have X2 := Lib.hid x2; have HI4 := Lib.hid (HI3.out.grow x2); have BO2 := Lib.hid (BO1.out.ext x2); clear h2_ i2 e2 x2 d2; have m3 : True := trivial)
              | (go_at_call 25; have mk := m3; clear m3 mk; go_loud (refine (sameCts_any A1 A2 c1_ c2_ n1 n2 R1 R2 _ HN1.out HN2.out (HR1.out.ext X2.out) HR2.out (HE1.out.trans HE2.out.symm)).mono ?_); rintro r w3 ⟨rfl, x3⟩; have HI5 := Lib.hid (HI4.out.grow x3); clear x3)
              | fail)
            go_meet
            case rel => exact ⟨n7, c7, A7, ma, mb, Ra, Rb, L, rfl, HI5.out.next HIM.out⟩
      case rest =>
        clear HIA HIB HCA HCB HAA HAB HAU HCE HTI2 BO XO HI2 HNA HNB HIN HF1 HU HTT HE HNL HNT HNE HXR HXI HXM HX HI hcap hq6 hL9 hL3 hT3 hn7
        obtain ⟨n8, c8, A8, mc, md, Rc, Rd, L8, rfl, HJ0⟩ := hcut
        have HJ := Lib.hid HJ0
        clear HJ0
        have m1 : True := trivial
        by_cases hif : i < nf
        · have hiF : i < F.length := by rw [← hnf.out]; exact hif
          obtain ⟨af, eF, qf⟩ := (hF.out.ext HJ.out.d.ext).at hiF
          subst eF
          have hzm : F.getD i 0 ∈ F := by rw [List.getD_eq_getElem?_getD, List.getElem?_eq_getElem hiF]; exact List.getElem_mem _
          have hz := (hFi.out _ hzm).2
          obtain ⟨z, hzz⟩ : ∃ z, F.getD i 0 = z := ⟨_, rfl⟩
          rw [hzz] at qf hz
          clear hzz hzm hiF
          have HIF : Hid (i < nf) := Lib.hid hif
          go_wp2_with (first
            | (go_at_call 47; have mk := m1; clear m1 mk; go_loud (refine (work_gen gb z md Rd _ (Lib.hid HJ.out.d.b) (Lib.hid HJ.out.t.tb.ok) hz (Lib.hid (fun k hk => (HJ.out.d.lb k hk).2))).mono ?_); rintro r w1 hres; obtain ⟨me, rr, rfl, HJ2_⟩ := HJ.out.work hres; have HJ2 := Lib.hid HJ2_; clear hres HJ2_; have m2 : True := trivial)
            | (go_at_call 48; have mk := m2; clear m2 mk; go_loud (refine (spAll_any (V := allV mc.v) ga mc _ _ (Lib.hid rfl) (Lib.hid HJ2.out.d.a) (Lib.hid HJ2.out.t.ta.ok.sp)).mono ?_); rintro r w3 ⟨A3, n3, R3, rfl, h3, u3, e3, x3⟩; have HN3 := Lib.hid h3; have HU3 := Lib.hid u3.uin; have HE3 := Lib.hid e3; have HJ3 := Lib.hid (HJ2.out.grow x3); clear h3 u3 e3 x3; have m3 : True := trivial)
            | (go_at_call 48; have mk := m3; clear m3 mk; go_loud (refine (spAll_any (V := allV mc.v) gb me _ _ (Lib.hid HJ3.out.t.all.symm) (Lib.hid HJ3.out.d.b) (Lib.hid HJ3.out.t.tb.ok.sp)).mono ?_); rintro r w4 ⟨A4, n4, R4, rfl, h4, u4, e4, x4⟩; have HN4 := Lib.hid h4; have HU4 := Lib.hid u4.uin; have HE4 := Lib.hid e4; have X4 := Lib.hid x4; have HJ4 := Lib.hid (HJ3.out.grow x4); clear h4 u4 e4 x4; have m4 : True := trivial)
            | (go_at_call 23; have mk := m4; clear m4 mk; go_loud (refine (sameUps_any A3 A4 n3 n4 n3 n4 R3 R4 _ HN3 HN4 (Lib.hid (HU3.out.ext X4.out)) HU4 (Lib.hid (HE3.out.trans HE4.out.symm))).mono ?_); rintro r w5 ⟨rfl, x5⟩; have X5 := Lib.hid x5; clear x5)
            | fail)
          go_roundg (n - (i + 1))
          case measure => omega
          case rel => exact ⟨i + 1, n8, c8, A8, mc, me, _, _, L8, by omega, by omega, by go_num, rfl, Lib.hid (HJ4.out.grow X5.out)⟩
        · have HJ2 := HJ
          have m2 : True := trivial
          go_wp2_with (first
            | (go_at_call 48; have mk := m2; clear m2 mk; go_loud (refine (spAll_any (V := allV mc.v) ga mc _ _ (Lib.hid rfl) (Lib.hid HJ2.out.d.a) (Lib.hid HJ2.out.t.ta.ok.sp)).mono ?_); rintro r w3 ⟨A3, n3, R3, rfl, h3, u3, e3, x3⟩; have HN3 := Lib.hid h3; have HU3 := Lib.hid u3.uin; have HE3 := Lib.hid e3; have HJ3 := Lib.hid (HJ2.out.grow x3); clear h3 u3 e3 x3; have m3 : True := trivial)
            | (go_at_call 48; have mk := m3; clear m3 mk; go_loud (refine (spAll_any (V := allV mc.v) gb md _ _ (Lib.hid HJ3.out.t.all.symm) (Lib.hid HJ3.out.d.b) (Lib.hid HJ3.out.t.tb.ok.sp)).mono ?_); rintro r w4 ⟨A4, n4, R4, rfl, h4, u4, e4, x4⟩; have HN4 := Lib.hid h4; have HU4 := Lib.hid u4.uin; have HE4 := Lib.hid e4; have X4 := Lib.hid x4; have HJ4 := Lib.hid (HJ3.out.grow x4); clear h4 u4 e4 x4; have m4 : True := trivial)
            | (go_at_call 23; have mk := m4; clear m4 mk; go_loud (refine (sameUps_any A3 A4 n3 n4 n3 n4 R3 R4 _ HN3 HN4 (Lib.hid (HU3.out.ext X4.out)) HU4 (Lib.hid (HE3.out.trans HE4.out.symm))).mono ?_); rintro r w5 ⟨rfl, x5⟩; have X5 := Lib.hid x5; clear x5)
            | fail)
          go_roundg (n - (i + 1))
          case measure => omega
          case rel => exact ⟨i + 1, n8, c8, A8, mc, md, _, _, L8, by omega, by omega, by go_num, rfl, Lib.hid (HJ4.out.grow X5.out)⟩
    · obtain rfl : i = n := by omega
      have m1 : True := trivial
      have HBN : Hid (mb.v.bs.length ≤ 1000000) := Lib.hid (by have := HI.out.t.tb.ok.nb; omega)
      go_wp2_with (first
        | (go_at_call 47; have mk := m1; clear m1 mk; go_loud (refine (work_any gb 1099511627776 mb Rb _ (Lib.hid HI.out.d.b) (Lib.hid HI.out.t.tb.ok) (by decide) (by decide) (Lib.hid (fun k hk => (HI.out.d.lb k hk).2))).mono ?_); rintro r w1 hres; have HW := Lib.hid hres; obtain ⟨me, rr, rfl, s1, k1, o1, u1⟩ := hres; have HD : Hid (Duo w w1 ga gb ma me Ra (Rg Rb wr w1) A7 n7 c7 L) := Lib.hid (HI.out.d.stepB u1 s1); have HT := Lib.hid (HI.out.t.work k1); have HWA := Lib.hid (work_all k1 HI.out.t.tb.ok); clear s1 k1 o1 u1 HW; have m2 : True := trivial)
        | (go_at_call 49; have mk := m2; clear m2 mk; go_loud (refine (sizes_any gb me _ _ (Lib.hid HD.out.b) HT.out.tb.ok.sp.nb).mono ?_); rintro r w2 ⟨As, ns, cs, rfl, hns, os, xs⟩; have HNS := Lib.hid hns; have HOS := Lib.hid os.sl; have HD2 := Lib.hid (HD.out.grow xs); clear hns os xs)
        | fail)
      have hns : ns = me.bs.length := by rw [HNS.out]; unfold sizesB; rw [List.length_map]
      have hns9 : ns ≤ 1000000 := by rw [hns]; exact HT.out.tb.ok.sp.nb
      have HSZ : Hid (∀ j, j + 1 < ns → ∃ ad x y, As = some ad ∧ (∀ W, Ext w2 W → W.cell? (ad.add j) = some (.int .i64 (x : Nat)) ∧ W.cell? (ad.add (j + 1)) = some (.int .i64 (y : Nat))) ∧ 2 * y < x ∧ x ≤ 1000000) := Lib.hid (fun j hj => by
        rw [hns] at hj
        obtain ⟨ad, h1, h2⟩ := HOS.out.2.2.2.2 (by omega)
        have hv : me.v.bs.length = me.bs.length := List.length_map ..
        have h3 := HWA.out.2 j (by rw [hv]; exact hj)
        have g : ∀ q, q < me.bs.length → (ints (sizesB me.bs))[q]? = some (.int .i64 ((getB me.bs q).l.length : Nat)) := fun q hq => by
          unfold ints sizesB
          rw [List.map_map, List.getElem?_map, List.getElem?_eq_getElem hq]
          unfold getB
          rw [List.getD_eq_getElem?_getD, List.getElem?_eq_getElem hq]
          rfl
        have e1 : (me.v.bs.getD j []).length = (getB me.bs j).l.length := getB_v (by omega)
        have e2 : (me.v.bs.getD (j + 1) []).length = (getB me.bs (j + 1)).l.length := getB_v hj
        rw [e1, e2] at h3
        refine ⟨ad, _, _, h1, fun W q => ⟨q.cell (h2 j _ (g j (by omega))), q.cell (h2 (j + 1) _ (g (j + 1) hj))⟩, h3, ?_⟩
        have h4 := flat_le (getB_mem (l := me.bs) (i := j) (by omega))
        exact Nat.le_trans h4 HT.out.tb.ok.sp.na)
      have hrr := HWA.out.1
      have HRR := Lib.hid hrr
      clear HOS HWA hns hrr
      go_wp2
      go_loopg [17] ns (fun z v17 wq => ∃ (j : Nat), z = ns - j ∧ j ≤ ns ∧ v17 = .int .i64 j ∧ Hid (Ext w2 wq))
      case atStart => exact ⟨0, rfl, Nat.zero_le _, rfl, Lib.hid (Ext.refl _)⟩
      case round =>
        obtain ⟨j, rfl, hj, rfl, HQ⟩ := hrel
        by_cases hjn : j + 1 < ns
        · have hjz : (j : Int) + 1 < (ns : Int) := by omega
          obtain ⟨ad, sx, sy, rfl, hc, hlt2, hx9⟩ := HSZ.out j hjn
          have X : Ext wr wr.drew := (Ext.refl wr).drew
          have Q0 : ∀ y : Xt wr.drew, y.W.cell? (ad.add j) = some (.int .i64 sx) := fun y => (hc _ ((HQ.out.trans X).trans y.x)).1
          have Q1 : ∀ y : Xt wr.drew, y.W.cell? (ad.add (j + 1)) = some (.int .i64 sy) := fun y => (hc _ ((HQ.out.trans X).trans y.x)).2
          have Q2 : ∀ y : Xt wr.drew, y.W.cell? ⟨ad.block, ad.off + (j + 1), none⟩ = some (.int .i64 sy) := fun y => by rw [show (⟨ad.block, ad.off + (j + 1), none⟩ : Addr) = ad.add (j + 1) by unfold Addr.add; simp]; exact Q1 y
          have hle : ¬ ((sx : Int) ≤ 2 * (sy : Int)) := by omega
          clear hc
          go_upto_region 37 with fail
          refine wp_region_ord [0,0,3,7,0,0,32,112,240,496,1023] (.flo [0,1,2,3,4,5,6,7,8,9,10] (.fin)) (by kernel_rfl) (by kernel_rfl) (by intro _ _ d _ _ h; cases d <;> exact h) ?_
          (refine ord_flo (pick_cons rfl (pick_cons rfl (pick_cons rfl (pick_cons rfl (pick_cons rfl (pick_cons rfl (pick_cons rfl (pick_cons rfl (pick_cons rfl (pick_cons rfl (pick_cons rfl pick_nil))))))))))) ?_; (repeat (go_big_quiet_step (fail))); refine wpQuiet_nil ?_; show ordWalk _ _ _ _ _ _ _)
          refine ord_fin ?_
          clear Q0 Q1 Q2
          go_wp2
          go_roundg (ns - (j + 1))
          case measure => omega
          case rel => exact ⟨j + 1, by omega, by omega, by go_num, Lib.hid (HQ.out.trans X)⟩
        · have hjz : ¬ ((j : Int) + 1 < (ns : Int)) := by omega
          have HJ2 := Lib.hid (HD2.out.grow HQ.out)
          have hrz : (0 : Int) < (rr : Int) := by have := HRR.out; omega
          have m2 : True := trivial
          go_wp2_with (first
            | (go_at_call 48; have mk := m2; clear m2 mk; go_loud (refine (spAll_any (V := allV ma.v) ga ma _ _ (Lib.hid rfl) (Lib.hid HJ2.out.a) (Lib.hid HT.out.ta.ok.sp)).mono ?_); rintro r w3 ⟨A3, n3, R3, rfl, h3, u3, e3, x3⟩; have HN3 := Lib.hid h3; have HU3 := Lib.hid u3.uin; have HE3 := Lib.hid e3; have HJ3 := Lib.hid (HJ2.out.grow x3); clear h3 u3 e3 x3; have m3 : True := trivial)
            | (go_at_call 48; have mk := m3; clear m3 mk; go_loud (refine (spAll_any (V := allV ma.v) gb me _ _ (Lib.hid HT.out.all.symm) (Lib.hid HJ3.out.b) (Lib.hid HT.out.tb.ok.sp)).mono ?_); rintro r w4 ⟨A4, n4, R4, rfl, h4, u4, e4, x4⟩; have HN4 := Lib.hid h4; have HU4 := Lib.hid u4.uin; have HE4 := Lib.hid e4; have X4 := Lib.hid x4; have HJ4 := Lib.hid (HJ3.out.grow x4); clear h4 u4 e4 x4; have m4 : True := trivial)
            | (go_at_call 23; have mk := m4; clear m4 mk; go_loud (refine (sameUps_any A3 A4 n3 n4 n3 n4 R3 R4 _ HN3 HN4 (Lib.hid (HU3.out.ext X4.out)) HU4 (Lib.hid (HE3.out.trans HE4.out.symm))).mono ?_); rintro r w5 ⟨rfl, x5⟩; have X5 := Lib.hid x5; clear x5)
            | fail)
          go_ret
          exact ⟨rfl, HJ4.out.ext.trans X5.out⟩
theorem spineSame_any (A : Option Addr) (n c : Nat) (M : List Sop) (Af : Option Addr) (cf nf : Nat) (F : List Int) (w : World) (G : Good w) (hn : Hid (n = M.length)) (hM : Hid (Oin w A c M)) (hI : Hid (∀ x ∈ M, SopIn x)) (hb : Hid (∀ x ∈ M, x.L.length ≤ 1048576 ∧ x.T.length ≤ 1048576)) (hnf : Hid (nf = F.length)) (hF : Hid (Is w Af cf F)) (hFi : Hid (∀ z ∈ F, -9223372036854775808 ≤ z ∧ z ≤ 9223372036854775807)) :
    Calls Tryz.prog 5 #[.slice A n c, .slice Af nf cf] w fun e w' => e = .returned (.bool true) ∧ Ext w w' := by
  cases h1 : muchO M with
  | true => exact same_much A c n M Af cf nf w G hn hM hb (Lib.hid h1)
  | false => exact same_any A c n M Af cf nf F w G hn hM hI hb (Lib.hid h1) hnf hF hFi
end Go.Proofs.YtdgbkpoickbidaaGreatDoor
