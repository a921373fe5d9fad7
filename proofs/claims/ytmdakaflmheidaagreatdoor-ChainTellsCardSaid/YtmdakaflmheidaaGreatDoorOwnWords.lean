/- penstock/penstockref00.ownWords: it says so of lists that have memory of their own. Conditions: each list lies in a block of its own; they are not too many, nor too long. -/
import Derived.Test.YtmdakaflmheidaaGreatDoorOwnLaw
import Derived.Test.YtmdakaflmheidaaGreatDoorEach
import Derived.Deep.LoopGhost
namespace Go.Proofs.YtmdakaflmheidaaGreatDoor
open Go.RowKit

def mkOwnWords (i : Int) (k : Nat) : List Value := [.int .u32 (IntKind.u32.wrap (i * 1000 + (k : Int)))]
theorem mkOwnWords_len (i : Int) (k : Nat) : (mkOwnWords i k).length = 1 := rfl
theorem mkOwnWords_one (i : Int) (k : Nat) : ∀ u ∈ mkOwnWords i k, u.oneCell' = true := by intro u hu; simp [mkOwnWords] at hu; rcases hu with rfl <;> rfl
theorem elemL_OwnWords : Elem Tryz.prog 40 24 1 24 (.slice none 0 0) := ⟨by kernel_rfl, by kernel_rfl, rfl, by decide⟩
set_option maxRecDepth 100000 in
set_option maxHeartbeats 8000000 in
theorem ownWords_any (OA : Option Addr) (oc m B : Nat) (L : List En) (f : Nat → List Value) (w : World) (hm : Hid (m = L.length)) (hs : Hid (Sl w 1 OA m oc (ensC L))) (hl : Hid (Lists w B 74 1 L f)) (hf : Hid (∀ k, blk OA oc = some k → ¬ Foot L k ∧ k < w.heap.size)) (hm9 : m ≤ 10000) (hn : Hid (∀ i, i < L.length → (ena L i).n ≤ 1000000)) (hBw : Hid (B ≤ w.heap.size)) :
    Calls Tryz.prog 48 #[.slice OA m oc] w fun e w' => e = .returned (.bool true) ∧ Upd (Foot L) w w' := by
  have HP0 : Hid (Ph1 mkOwnWords w w B 74 1 L 0 f) := Lib.hid ⟨hl.out, fun j hj => by omega, Upd.refl _ _⟩
  have hcell : Hid (∀ (wr : World) (i : Nat), Upd (Foot L) w wr → i < m → ∃ ad, OA = some ad ∧ wr.cell? (ad.add i) = some (ena L i).v) := Lib.hid (fun wr i hu hi => ens_cell (hs.out.upd hu (fun k hk => (hf.out k hk).1)) hi)
  go_enter Tryz.func48, Tryz.ntmps48
  go_wp2
  go_loopg [3] m (fun z v wr => ∃ (i : Nat) (f : Nat → List Value), z = m - i ∧ i ≤ m ∧ v = .int .i64 i ∧ Hid (Ph1 mkOwnWords w wr B 74 1 L i f))
  case atStart => exact ⟨0, f, rfl, Nat.zero_le _, rfl, HP0⟩
  case round =>
    clear HP0
    obtain ⟨i, f, rfl, hi, rfl, HP⟩ := hrel
    obtain ⟨wo, hwo⟩ : ∃ wo : World, wo = wr := ⟨_, rfl⟩
    rw [← hwo] at HP ⊢
    clear hwo
    by_cases hlt : i < m
    · have hil : i < L.length := by rw [← hm.out]; exact hlt
      obtain ⟨ad, rfl, p0⟩ := hcell.out wo i HP.out.upd hlt
      have hn9 := hn.out i hil
      have HIL := Lib.hid hil
      obtain ⟨x, hx⟩ : ∃ x, ena L i = x := ⟨_, rfl⟩
      rw [hx] at p0 hn9
      obtain ⟨A, n, c⟩ := x
      have HXN : Hid ((ena L i).n = n) := Lib.hid (by rw [hx])
      have HX := Lib.hid hx
      clear hil hx
      replace p0 : wo.cell? (ad.add i) = some (.slice A n c) := p0
      replace hn9 : n ≤ 1000000 := hn9
      have HI := Lib.hid HP.out.enter
      go_wp2
      go_loopg [4] n (fun z v wi => ∃ (k : Nat) (f : Nat → List Value), z = n - k ∧ k ≤ n ∧ v = .int .i64 k ∧ Hid (Ph1I mkOwnWords w wi B 74 1 L i k f))
      case atStart => exact ⟨0, f, rfl, Nat.zero_le _, rfl, HI⟩
      case round =>
        clear HI
        obtain ⟨k, f, rfl, hk, rfl, HI⟩ := hrel
        obtain ⟨wi, hwi⟩ : ∃ wi : World, wi = wr := ⟨_, rfl⟩
        rw [← hwi] at HI ⊢
        clear hwi
        obtain ⟨ad2, e2, p1⟩ := hcell.out wi i HI.out.ph.upd hlt
        cases e2
        rw [HX.out] at p1
        replace p1 : wi.cell? (ad.add i) = some (.slice A n c) := p1
        by_cases hkn : k < n
        · have o1 := HI.out.ph.ls.own i HIL.out
          rw [HX.out] at o1
          obtain ⟨g, eA, hb, _, _, hc, hfz⟩ := o1.form (show 0 < n by omega)
          have hA : (ena L i).A = some ⟨g, 0, none⟩ := by rw [HX.out]; exact eA
          have hbm : (ena L i).b = some g := by unfold En.b; rw [HX.out]; exact hb
          have hfl : (f i).length = n * 1 := o1.1
          subst eA
          have q0 : wi.cell? ⟨g, k, none⟩ = some ((f i)[k]'(by omega)) := hc _ _ (List.getElem?_eq_getElem (by omega))
          have z0 := hfz (k)
          obtain ⟨f', hf'⟩ := HI.out.put1 HIL.out (by rw [HXN.out]; exact hkn) hA hbm (show mkOwnWords i k = [.int .u32 ((i : Int) * 1000 + (k : Int))] from by show [Value.int .u32 (IntKind.u32.wrap ((i : Int) * 1000 + (k : Int)))] = _; rw [show IntKind.u32.wrap ((i : Int) * 1000 + (k : Int)) = ((i : Int) * 1000 + (k : Int)) from by rw [IntKind.wrap_u32]; omega])
          have wz0 : IntKind.i64.wrap ((i : Int) * 1000) = (i : Int) * 1000 := by rw [IntKind.wrap_i64]; omega
          have wz1 : IntKind.i64.wrap ((i : Int) * 1000 + (k : Int)) = (i : Int) * 1000 + (k : Int) := by rw [IntKind.wrap_i64]; omega
          have HF := Lib.hid hf'
          clear hf' o1 hc hfz hb hA hbm
          go_wp2
          go_roundg (n - (k + 1))
          case measure => omega
          case rel => exact ⟨k + 1, f', rfl, by omega, by go_num, HF⟩
        · obtain rfl : k = n := by omega
          go_wp2
          go_roundg (m - (i + 1))
          case measure => omega
          case rel => exact ⟨i + 1, f, rfl, by omega, by go_num, Lib.hid ((show Ph1I mkOwnWords w wi B 74 1 L i (ena L i).n f from HXN.out ▸ HI.out).leave HIL.out)⟩
    · obtain rfl : i = m := by omega
      have HU1 := Lib.hid HP.out.upd
      have HQ0 : Hid (Ph2 mkOwnWords wo wo B 74 24 1 L 0 [] none 0) := Lib.hid (Ph2.start 24 (show Ph1 mkOwnWords w wo B 74 1 L L.length f from hm.out ▸ HP.out))
      have hcell2 : Hid (∀ (wr : World) (j : Nat), Upd (Foot L) wo wr → j < i → ∃ ad, OA = some ad ∧ wr.cell? (ad.add j) = some (ena L j).v) := Lib.hid (fun wr j hu hj => hcell.out wr j (HU1.out.trans hu) hj)
      clear HP
      go_wp2
      go_loopg [5, 6] i (fun z u v wr => ∃ (j : Nat) (G : List En) (LA : Option Addr) (lc : Nat), z = i - j ∧ j ≤ i ∧ v = .int .i64 j ∧ u = .slice LA j lc ∧ Hid (Ph2 mkOwnWords wo wr B 74 24 1 L j G LA lc))
      case atStart => exact ⟨0, [], none, 0, rfl, Nat.zero_le _, rfl, rfl, HQ0⟩
      case round =>
        clear HQ0
        obtain ⟨j, G, LA, lc, rfl, hj, rfl, rfl, HP⟩ := hrel
        obtain ⟨w2, hw2⟩ : ∃ w2 : World, w2 = wr := ⟨_, rfl⟩
        rw [← hw2] at HP ⊢
        clear hw2
        by_cases hlt2 : j < i
        · have hjl : j < L.length := by rw [← hm.out]; exact hlt2
          obtain ⟨ad, rfl, p0⟩ := hcell2.out w2 j HP.out.upd hlt2
          have hn9 := hn.out j hjl
          have HJL := Lib.hid hjl
          obtain ⟨x, hx⟩ : ∃ x, ena L j = x := ⟨_, rfl⟩
          rw [hx] at p0 hn9
          obtain ⟨A, n, c⟩ := x
          have HXN : Hid ((ena L j).n = n) := Lib.hid (by rw [hx])
          have HXA : Hid ((ena L j).A = A ∧ (ena L j).c = c) := Lib.hid (by rw [hx]; exact ⟨rfl, rfl⟩)
          clear hjl hx
          replace p0 : w2.cell? (ad.add j) = some (.slice A n c) := p0
          replace hn9 : n ≤ 1000000 := hn9
          have HI : Hid (Ph2I mkOwnWords w2 w2 B 74 1 L j 0 A c) := Lib.hid (by have := HP.out.enter HJL.out; rwa [HXA.out.1, HXA.out.2] at this)
          go_wp2
          go_loopg [7, 8] 8 (fun z u v wi => ∃ (k : Nat) (A' : Option Addr) (c' : Nat), z = 8 - k ∧ k ≤ 8 ∧ v = .int .i64 k ∧ u = .slice A' (n + k) c' ∧ Hid (Ph2I mkOwnWords w2 wi B 74 1 L j k A' c'))
          case atStart => exact ⟨0, A, c, rfl, Nat.zero_le _, rfl, rfl, HI⟩
          case round =>
            clear HI
            obtain ⟨k, A', c', rfl, hk, rfl, rfl, HI⟩ := hrel
            by_cases hk8 : k < 8
            · have wy : IntKind.i64.wrap (-1 - (j : Int)) = -1 - (j : Int) := by rw [IntKind.wrap_i64]; omega
              have wz0 : IntKind.i64.wrap ((-1 - (j : Int)) * 1000) = (-1 - (j : Int)) * 1000 := by rw [IntKind.wrap_i64]; omega
              have wz1 : IntKind.i64.wrap ((-1 - (j : Int)) * 1000 + (k : Int)) = (-1 - (j : Int)) * 1000 + (k : Int) := by rw [IntKind.wrap_i64]; omega
              have HO : Hid (Own wr B 74 1 A' (n + k) c' (marks_ mkOwnWords j (ena L j).n ++ marks_ mkOwnWords (-1 - j) k)) := Lib.hid (by have := HI.out.own; rwa [HXN.out] at this ⊢)
              have hB : B ≤ (wr.alloc (.cells (#[.int .u32 (IntKind.u32.wrap ((-1 - (j : Int)) * 1000 + (k : Int)))] : Array Value) 74)).heap.size := by
                have h1 := HI.out.upd.size
                have h2 := ((Ext.refl wr).alloc (.cells (#[.int .u32 (IntKind.u32.wrap ((-1 - (j : Int)) * 1000 + (k : Int)))] : Array Value) 74)).size
                have h3 := HP.out.upd.size
                have h4 := HU1.out.size
                have h5 := hBw.out
                omega
              go_wp2_with (at_builtin; go_loud (refine wpList_append_two _ elemWords B _ _ rfl rfl A' (n + k) c' _ rfl (HO.out.alloc _) (some ⟨wr.heap.size, 0, none⟩) 1 1 (mkOwnWords (-1 - (j : Int)) k) rfl (Sl.one wr #[.int .u32 (IntKind.u32.wrap ((-1 - (j : Int)) * 1000 + (k : Int)))] 74 1 rfl) (mkOwnWords_one _ _) (by omega) (by decide) hB ?_); intro A3 c3 w3 o3 g3 x3; have HN3 : Hid (Ph2I mkOwnWords w2 w3 B 74 1 L j (k + 1) A3 c3) := Lib.hid (HI.out.step mkOwnWords_len _ (by have := o3; rwa [← HXN.out] at this) g3 x3); clear o3 g3 x3)
              go_roundg (8 - (k + 1))
              case measure => omega
              case rel => exact ⟨k + 1, A3, c3, rfl, by omega, by go_num, rfl, HN3⟩
            · obtain rfl : k = 8 := by omega
              have hlst : ∀ wr : World, Ph2I mkOwnWords w2 wr B 74 1 L j 8 A' c' → Own wr wo.heap.size 24 1 LA j lc (ensC G) := fun wr h => HP.out.lst.upd h.upd (fun q hq e => by
                have h1 := HP.out.foot q ⟨j, HJL.out, e⟩
                have h2 := (HP.out.lst.lt q hq).1
                omega)
              go_wp2_with (at_builtin; go_loud (refine wpList_append_two _ elemL_OwnWords wo.heap.size _ _ rfl rfl LA j lc (ensC G) rfl ((hlst wr HI.out).alloc _) (some ⟨wr.heap.size, 0, none⟩) 1 1 [.slice A' (n + 8) c'] rfl (Sl.one wr #[.slice A' (n + 8) c'] 24 1 rfl) (ensC_one [⟨A', n + 8, c'⟩]) (by omega) (by decide) (by have h1 := HI.out.upd.size; have h2 := HP.out.upd.size; have h3 := ((Ext.refl wr).alloc (.cells (#[.slice A' (n + 8) c'] : Array Value) 24)).size; omega) ?_); intro LA4 lc4 w4 o4 g4 x4; have HN4 : Hid (Ph2 mkOwnWords wo w4 B 74 24 1 L (j + 1) (G ++ [⟨A', (ena L j).n + 8, c'⟩]) LA4 lc4) := Lib.hid (HP.out.next HJL.out HI.out _ (by have := o4; rwa [← HXN.out] at this) g4 x4); clear o4 g4 x4)
              go_roundg (i - (j + 1))
              case measure => omega
              case rel => exact ⟨j + 1, _, LA4, lc4, rfl, by omega, by go_num, rfl, HN4⟩
        · obtain rfl : j = i := by omega
          have hjm : j = L.length := hm.out
          have hG : ∀ t, t < j → ∃ ad, LA = some ad ∧ w2.cell? (ad.add t) = some (ena G t).v := fun t ht => ens_cell HP.out.lst.sl ht
          have HG := Lib.hid hG
          clear hG hjm
          go_wp2
          go_loopg [9] j (fun z v wr => ∃ t : Nat, z = j - t ∧ t ≤ j ∧ v = .int .i64 t ∧ Hid (wr = w2))
          case atStart => exact ⟨0, rfl, Nat.zero_le _, rfl, Lib.hid rfl⟩
          case round =>
            obtain ⟨t, rfl, ht, rfl, HW⟩ := hrel
            have hW := HW.out
            subst hW
            by_cases htj : t < j
            · have htl : t < L.length := by rw [← hm.out]; exact htj
              obtain ⟨ad, rfl, p0⟩ := hcell2.out wr t HP.out.upd htj
              obtain ⟨ad2, rfl, p1⟩ := HG.out t htj
              have hn9 := hn.out t htl
              have hrd := HP.out.read t htj
              obtain ⟨hln, hlo⟩ := HP.out.long t htj
              obtain ⟨x, hx⟩ : ∃ x, ena L t = x := ⟨_, rfl⟩
              obtain ⟨y, hy⟩ : ∃ y, ena G t = y := ⟨_, rfl⟩
              rw [hx] at p0 hn9 hrd hln hlo
              rw [hy] at p1 hln hlo
              obtain ⟨A, n, c⟩ := x
              obtain ⟨A2, n2, c2⟩ := y
              replace p0 : wr.cell? (ad.add t) = some (.slice A n c) := p0
              replace p1 : wr.cell? (ad2.add t) = some (.slice A2 n2 c2) := p1
              replace hn9 : n ≤ 1000000 := hn9
              obtain rfl : n2 = n + 8 := hln
              have HR : Hid (Sl wr 1 A n c (marks_ mkOwnWords t n)) := Lib.hid hrd
              have HLo : Hid (Sl wr 1 A2 (n + 8) c2 (marks_ mkOwnWords t n ++ marks_ mkOwnWords (-1 - t) 8)) := Lib.hid hlo.sl
              clear hrd hlo hx hy htl
              go_wp2
              go_loopg [11] n (fun z v wq => ∃ k : Nat, z = n - k ∧ k ≤ n ∧ v = .int .i64 k ∧ Hid (wq = wr))
              case atStart => exact ⟨0, rfl, Nat.zero_le _, rfl, Lib.hid rfl⟩
              case round =>
                obtain ⟨k, rfl, hk, rfl, HW2⟩ := hrel
                have hW2 := HW2.out
                subst hW2
                by_cases hkn : k < n
                · obtain ⟨ad3, rfl, r0⟩ := own_at1 HR.out hkn (show mkOwnWords t k = [.int .u32 ((t : Int) * 1000 + (k : Int))] from by show [Value.int .u32 (IntKind.u32.wrap ((t : Int) * 1000 + (k : Int)))] = _; rw [show IntKind.u32.wrap ((t : Int) * 1000 + (k : Int)) = ((t : Int) * 1000 + (k : Int)) from by rw [IntKind.wrap_u32]; omega]) (fun q hq => marks_at' mkOwnWords_len t hq n k hkn)
                  obtain ⟨ad4, rfl, l0⟩ := own_at1 HLo.out (show k < n + 8 by omega) (show mkOwnWords t k = [.int .u32 ((t : Int) * 1000 + (k : Int))] from by show [Value.int .u32 (IntKind.u32.wrap ((t : Int) * 1000 + (k : Int)))] = _; rw [show IntKind.u32.wrap ((t : Int) * 1000 + (k : Int)) = ((t : Int) * 1000 + (k : Int)) from by rw [IntKind.wrap_u32]; omega]) (fun q hq => by rw [List.getElem?_append_left (by rw [marks_len mkOwnWords_len]; have : (k + 1) * 1 ≤ n * 1 := Nat.mul_le_mul_right _ hkn; omega)]; exact marks_at' mkOwnWords_len t hq n k hkn)
                  have wz0 : IntKind.i64.wrap ((t : Int) * 1000) = (t : Int) * 1000 := by rw [IntKind.wrap_i64]; omega
                  have wz1 : IntKind.i64.wrap ((t : Int) * 1000 + (k : Int)) = (t : Int) * 1000 + (k : Int) := by rw [IntKind.wrap_i64]; omega
                  go_wp2
                  go_roundg (n - (k + 1))
                  case measure => omega
                  case rel => exact ⟨k + 1, rfl, by omega, by go_num, Lib.hid rfl⟩
                · obtain rfl : k = n := by omega
                  go_wp2
                  go_loopg [12] 8 (fun z v wq => ∃ q : Nat, z = 8 - q ∧ q ≤ 8 ∧ v = .int .i64 q ∧ Hid (wq = wr))
                  case atStart => exact ⟨0, rfl, Nat.zero_le _, rfl, Lib.hid rfl⟩
                  case round =>
                    obtain ⟨q, rfl, hq, rfl, HW3⟩ := hrel
                    have hW3 := HW3.out
                    subst hW3
                    by_cases hq8 : q < 8
                    · obtain ⟨ad4, rfl, l0⟩ := own_at1 HLo.out (show k + q < k + 8 by omega) (show mkOwnWords (-1 - (t : Int)) q = [.int .u32 (IntKind.u32.wrap ((-1 - (t : Int)) * 1000 + (q : Int)))] from rfl) (fun z hz => by rw [show (k + q) * 1 + z = (marks_ mkOwnWords (t : Int) k).length + (q * 1 + z) by rw [marks_len mkOwnWords_len, Nat.add_mul]; omega, List.getElem?_append_right (Nat.le_add_right _ _), Nat.add_sub_cancel_left]; exact marks_at' mkOwnWords_len _ hz 8 q hq8)
                      have wy : IntKind.i64.wrap (-1 - (t : Int)) = -1 - (t : Int) := by rw [IntKind.wrap_i64]; omega
                      have wz0 : IntKind.i64.wrap ((-1 - (t : Int)) * 1000) = (-1 - (t : Int)) * 1000 := by rw [IntKind.wrap_i64]; omega
                      have wz1 : IntKind.i64.wrap ((-1 - (t : Int)) * 1000 + (q : Int)) = (-1 - (t : Int)) * 1000 + (q : Int) := by rw [IntKind.wrap_i64]; omega
                      go_wp2
                      go_roundg (8 - (q + 1))
                      case measure => omega
                      case rel => exact ⟨q + 1, rfl, by omega, by go_num, Lib.hid rfl⟩
                    · obtain rfl : q = 8 := by omega
                      go_wp2
                      go_roundg (j - (t + 1))
                      case measure => omega
                      case rel => exact ⟨t + 1, rfl, by omega, by go_num, Lib.hid rfl⟩
            · obtain rfl : t = j := by omega
              go_wp2
              go_ret
              exact ⟨rfl, HU1.out.trans HP.out.upd⟩
end Go.Proofs.YtmdakaflmheidaaGreatDoor
