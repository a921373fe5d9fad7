/- penstock/penstockref00.ownWords: it says so of lists that have memory of their own. penstock/penstockref00.ownTimes: it says so of lists that have memory of their own. penstockref00.Book: Words, Own. penstockref00.Book: Times. ChainCounts: what stands in memory between two calls; each call's step. penstockref00.SameTime, SameTimes: what they answer. penstockref00.SameTimes: what it answers. penstocklaw05.changes: it says so of two lists of the same changes. chain.Join: the antichain beyond which lies what is beyond both. Conditions: each theorem states its own. -/
import Derived.Test.YtdgbkpoickbidaaGreatDoorCc2
import Derived.Test.YtdgbkpoickbidaaGreatDoorCc1
import Derived.Deep.LoopGhost
import Derived.Test.YtdgbkpoickbidaaGreatDoorCc4
import Derived.Test.YtdgbkpoickbidaaGreatDoorCc6
import Derived.Test.YtdgbkpoickbidaaGreatDoorCc5
namespace Go.Proofs.YtdgbkpoickbidaaGreatDoor
open Go.RowKit

def mkOwnWords (i : Int) (k : Nat) : List Value := [.int .u32 (IntKind.u32.wrap (i * 1000 + (k : Int)))]
theorem mkOwnWords_len (i : Int) (k : Nat) : (mkOwnWords i k).length = 1 := rfl
theorem mkOwnWords_one (i : Int) (k : Nat) : ∀ u ∈ mkOwnWords i k, u.oneCell' = true := by intro u hu; simp [mkOwnWords] at hu; rcases hu with rfl <;> rfl
theorem elemL_OwnWords : Elem Tryz.prog 40 24 1 24 (.slice none 0 0) := ⟨by kernel_rfl, by kernel_rfl, rfl, by decide⟩
set_option maxRecDepth 100000 in
set_option maxHeartbeats 8000000 in
theorem ownWords_any (OA : Option Addr) (oc m B : Nat) (L : List En) (f : Nat → List Value) (w : World) (hm : Hid (m = L.length)) (hs : Hid (Sl w 1 OA m oc (ensC L))) (hl : Hid (Lists w B 180 1 L f)) (hf : Hid (∀ k, blk OA oc = some k → ¬ Foot L k ∧ k < w.heap.size)) (hm9 : m ≤ 10000) (hn : Hid (∀ i, i < L.length → (ena L i).n ≤ 1000000)) (hBw : Hid (B ≤ w.heap.size)) :
    Calls Tryz.prog 126 #[.slice OA m oc] w fun e w' => e = .returned (.bool true) ∧ Upd (Foot L) w w' := by
  have HP0 : Hid (Ph1 mkOwnWords w w B 180 1 L 0 f) := Lib.hid ⟨hl.out, fun j hj => by omega, Upd.refl _ _⟩
  have hcell : Hid (∀ (wr : World) (i : Nat), Upd (Foot L) w wr → i < m → ∃ ad, OA = some ad ∧ wr.cell? (ad.add i) = some (ena L i).v) := Lib.hid (fun wr i hu hi => ens_cell (hs.out.upd hu (fun k hk => (hf.out k hk).1)) hi)
  go_enter Tryz.func126, Tryz.ntmps126
  go_wp2
  go_loopg [3] m (fun z v wr => ∃ (i : Nat) (f : Nat → List Value), z = m - i ∧ i ≤ m ∧ v = .int .i64 i ∧ Hid (Ph1 mkOwnWords w wr B 180 1 L i f))
  case atStart => exact ⟨0, f, rfl, Nat.zero_le _, rfl, HP0⟩
  case round =>
    clear HP0
    obtain ⟨i, f, rfl, hi, rfl, HP⟩ := hrel
    obtain ⟨wo, hwo⟩ : ∃ wo : World, wo = wr := ⟨_, rfl⟩
    rw [← hwo] at HP ⊢
    clear hwo
    by_cases hlt : i < m
    · have hil : i < L.length := by rw [← hm.out]; exact hlt
      obtain ⟨ad, rfl, p0⟩ := hcell.out wo i HP.out.upd hlt
      have hn9 := hn.out i hil
      have HIL := Lib.hid hil
      obtain ⟨x, hx⟩ : ∃ x, ena L i = x := ⟨_, rfl⟩
      rw [hx] at p0 hn9
      obtain ⟨A, n, c⟩ := x
      have HXN : Hid ((ena L i).n = n) := Lib.hid (by rw [hx])
      have HX := Lib.hid hx
      clear hil hx
      replace p0 : wo.cell? (ad.add i) = some (.slice A n c) := p0
      replace hn9 : n ≤ 1000000 := hn9
      have HI := Lib.hid HP.out.enter
      go_wp2
      go_loopg [4] n (fun z v wi => ∃ (k : Nat) (f : Nat → List Value), z = n - k ∧ k ≤ n ∧ v = .int .i64 k ∧ Hid (Ph1I mkOwnWords w wi B 180 1 L i k f))
      case atStart => exact ⟨0, f, rfl, Nat.zero_le _, rfl, HI⟩
      case round =>
        clear HI
        obtain ⟨k, f, rfl, hk, rfl, HI⟩ := hrel
        obtain ⟨wi, hwi⟩ : ∃ wi : World, wi = wr := ⟨_, rfl⟩
        rw [← hwi] at HI ⊢
        clear hwi
        obtain ⟨ad2, e2, p1⟩ := hcell.out wi i HI.out.ph.upd hlt
        cases e2
        rw [HX.out] at p1
        replace p1 : wi.cell? (ad.add i) = some (.slice A n c) := p1
        by_cases hkn : k < n
        · have o1 := HI.out.ph.ls.own i HIL.out
          rw [HX.out] at o1
          obtain ⟨g, eA, hb, _, _, hc, hfz⟩ := o1.form (show 0 < n by omega)
          have hA : (ena L i).A = some ⟨g, 0, none⟩ := by rw [HX.out]; exact eA
          have hbm : (ena L i).b = some g := by unfold En.b; rw [HX.out]; exact hb
          have hfl : (f i).length = n * 1 := o1.1
          subst eA
          have q0 : wi.cell? ⟨g, k, none⟩ = some ((f i)[k]'(by omega)) := hc _ _ (List.getElem?_eq_getElem (by omega))
          have z0 := hfz (k)
          obtain ⟨f', hf'⟩ := HI.out.put1 HIL.out (by rw [HXN.out]; exact hkn) hA hbm (show mkOwnWords i k = [.int .u32 ((i : Int) * 1000 + (k : Int))] from by show [Value.int .u32 (IntKind.u32.wrap ((i : Int) * 1000 + (k : Int)))] = _; rw [show IntKind.u32.wrap ((i : Int) * 1000 + (k : Int)) = ((i : Int) * 1000 + (k : Int)) from by rw [IntKind.wrap_u32]; omega])
          have wz0 : IntKind.i64.wrap ((i : Int) * 1000) = (i : Int) * 1000 := by rw [IntKind.wrap_i64]; omega
          have wz1 : IntKind.i64.wrap ((i : Int) * 1000 + (k : Int)) = (i : Int) * 1000 + (k : Int) := by rw [IntKind.wrap_i64]; omega
          have HF := Lib.hid hf'
          clear hf' o1 hc hfz hb hA hbm
          go_wp2
          go_roundg (n - (k + 1))
          case measure => omega
          case rel => exact ⟨k + 1, f', rfl, by omega, by go_num, HF⟩
        · obtain rfl : k = n := by omega
          go_wp2
          go_roundg (m - (i + 1))
          case measure => omega
          case rel => exact ⟨i + 1, f, rfl, by omega, by go_num, Lib.hid ((show Ph1I mkOwnWords w wi B 180 1 L i (ena L i).n f from HXN.out ▸ HI.out).leave HIL.out)⟩
    · obtain rfl : i = m := by omega
      have HU1 := Lib.hid HP.out.upd
      have HQ0 : Hid (Ph2 mkOwnWords wo wo B 180 24 1 L 0 [] none 0) := Lib.hid (Ph2.start 24 (show Ph1 mkOwnWords w wo B 180 1 L L.length f from hm.out ▸ HP.out))
      have hcell2 : Hid (∀ (wr : World) (j : Nat), Upd (Foot L) wo wr → j < i → ∃ ad, OA = some ad ∧ wr.cell? (ad.add j) = some (ena L j).v) := Lib.hid (fun wr j hu hj => hcell.out wr j (HU1.out.trans hu) hj)
      clear HP
      go_wp2
      go_loopg [5, 6] i (fun z u v wr => ∃ (j : Nat) (G : List En) (LA : Option Addr) (lc : Nat), z = i - j ∧ j ≤ i ∧ v = .int .i64 j ∧ u = .slice LA j lc ∧ Hid (Ph2 mkOwnWords wo wr B 180 24 1 L j G LA lc))
      case atStart => exact ⟨0, [], none, 0, rfl, Nat.zero_le _, rfl, rfl, HQ0⟩
      case round =>
        clear HQ0
        obtain ⟨j, G, LA, lc, rfl, hj, rfl, rfl, HP⟩ := hrel
        obtain ⟨w2, hw2⟩ : ∃ w2 : World, w2 = wr := ⟨_, rfl⟩
        rw [← hw2] at HP ⊢
        clear hw2
        by_cases hlt2 : j < i
        · have hjl : j < L.length := by rw [← hm.out]; exact hlt2
          obtain ⟨ad, rfl, p0⟩ := hcell2.out w2 j HP.out.upd hlt2
          have hn9 := hn.out j hjl
          have HJL := Lib.hid hjl
          obtain ⟨x, hx⟩ : ∃ x, ena L j = x := ⟨_, rfl⟩
          rw [hx] at p0 hn9
          obtain ⟨A, n, c⟩ := x
          have HXN : Hid ((ena L j).n = n) := Lib.hid (by rw [hx])
          have HXA : Hid ((ena L j).A = A ∧ (ena L j).c = c) := Lib.hid (by rw [hx]; exact ⟨rfl, rfl⟩)
          clear hjl hx
          replace p0 : w2.cell? (ad.add j) = some (.slice A n c) := p0
          replace hn9 : n ≤ 1000000 := hn9
          have HI : Hid (Ph2I mkOwnWords w2 w2 B 180 1 L j 0 A c) := Lib.hid (by have := HP.out.enter HJL.out; rwa [HXA.out.1, HXA.out.2] at this)
          go_wp2
          go_loopg [7, 8] 8 (fun z u v wi => ∃ (k : Nat) (A' : Option Addr) (c' : Nat), z = 8 - k ∧ k ≤ 8 ∧ v = .int .i64 k ∧ u = .slice A' (n + k) c' ∧ Hid (Ph2I mkOwnWords w2 wi B 180 1 L j k A' c'))
          case atStart => exact ⟨0, A, c, rfl, Nat.zero_le _, rfl, rfl, HI⟩
          case round =>
            clear HI
            obtain ⟨k, A', c', rfl, hk, rfl, rfl, HI⟩ := hrel
            by_cases hk8 : k < 8
            · have wy : IntKind.i64.wrap (-1 - (j : Int)) = -1 - (j : Int) := by rw [IntKind.wrap_i64]; omega
              have wz0 : IntKind.i64.wrap ((-1 - (j : Int)) * 1000) = (-1 - (j : Int)) * 1000 := by rw [IntKind.wrap_i64]; omega
              have wz1 : IntKind.i64.wrap ((-1 - (j : Int)) * 1000 + (k : Int)) = (-1 - (j : Int)) * 1000 + (k : Int) := by rw [IntKind.wrap_i64]; omega
              have HO : Hid (Own wr B 180 1 A' (n + k) c' (marks_ mkOwnWords j (ena L j).n ++ marks_ mkOwnWords (-1 - j) k)) := Lib.hid (by have := HI.out.own; rwa [HXN.out] at this ⊢)
              have hB : B ≤ (wr.alloc (.cells (#[.int .u32 (IntKind.u32.wrap ((-1 - (j : Int)) * 1000 + (k : Int)))] : Array Value) 180)).heap.size := by
                have h1 := HI.out.upd.size
                have h2 := ((Ext.refl wr).alloc (.cells (#[.int .u32 (IntKind.u32.wrap ((-1 - (j : Int)) * 1000 + (k : Int)))] : Array Value) 180)).size
                have h3 := HP.out.upd.size
                have h4 := HU1.out.size
                have h5 := hBw.out
                omega
              go_wp2_with (at_builtin; go_loud (refine wpList_append_two _ elemWords B _ _ rfl rfl A' (n + k) c' _ rfl (HO.out.alloc _) (some ⟨wr.heap.size, 0, none⟩) 1 1 (mkOwnWords (-1 - (j : Int)) k) rfl (Sl.one wr #[.int .u32 (IntKind.u32.wrap ((-1 - (j : Int)) * 1000 + (k : Int)))] 180 1 rfl) (mkOwnWords_one _ _) (by omega) (by decide) hB ?_); intro A3 c3 w3 o3 g3 x3; have HN3 : Hid (Ph2I mkOwnWords w2 w3 B 180 1 L j (k + 1) A3 c3) := Lib.hid (HI.out.step mkOwnWords_len _ (by have := o3; rwa [← HXN.out] at this) g3 x3); clear o3 g3 x3)
              go_roundg (8 - (k + 1))
              case measure => omega
              case rel => exact ⟨k + 1, A3, c3, rfl, by omega, by go_num, rfl, HN3⟩
            · obtain rfl : k = 8 := by omega
              have hlst : ∀ wr : World, Ph2I mkOwnWords w2 wr B 180 1 L j 8 A' c' → Own wr wo.heap.size 24 1 LA j lc (ensC G) := fun wr h => HP.out.lst.upd h.upd (fun q hq e => by
                have h1 := HP.out.foot q ⟨j, HJL.out, e⟩
                have h2 := (HP.out.lst.lt q hq).1
                omega)
              go_wp2_with (at_builtin; go_loud (refine wpList_append_two _ elemL_OwnWords wo.heap.size _ _ rfl rfl LA j lc (ensC G) rfl ((hlst wr HI.out).alloc _) (some ⟨wr.heap.size, 0, none⟩) 1 1 [.slice A' (n + 8) c'] rfl (Sl.one wr #[.slice A' (n + 8) c'] 24 1 rfl) (ensC_one [⟨A', n + 8, c'⟩]) (by omega) (by decide) (by have h1 := HI.out.upd.size; have h2 := HP.out.upd.size; have h3 := ((Ext.refl wr).alloc (.cells (#[.slice A' (n + 8) c'] : Array Value) 24)).size; omega) ?_); intro LA4 lc4 w4 o4 g4 x4; have HN4 : Hid (Ph2 mkOwnWords wo w4 B 180 24 1 L (j + 1) (G ++ [⟨A', (ena L j).n + 8, c'⟩]) LA4 lc4) := Lib.hid (HP.out.next HJL.out HI.out _ (by have := o4; rwa [← HXN.out] at this) g4 x4); clear o4 g4 x4)
              go_roundg (i - (j + 1))
              case measure => omega
              case rel => exact ⟨j + 1, _, LA4, lc4, rfl, by omega, by go_num, rfl, HN4⟩
        · obtain rfl : j = i := by omega
          have hjm : j = L.length := hm.out
          have hG : ∀ t, t < j → ∃ ad, LA = some ad ∧ w2.cell? (ad.add t) = some (ena G t).v := fun t ht => ens_cell HP.out.lst.sl ht
          have HG := Lib.hid hG
          clear hG hjm
          go_wp2
          go_loopg [9] j (fun z v wr => ∃ t : Nat, z = j - t ∧ t ≤ j ∧ v = .int .i64 t ∧ Hid (wr = w2))
          case atStart => exact ⟨0, rfl, Nat.zero_le _, rfl, Lib.hid rfl⟩
          case round =>
            obtain ⟨t, rfl, ht, rfl, HW⟩ := hrel
            have hW := HW.out
            subst hW
            by_cases htj : t < j
            · have htl : t < L.length := by rw [← hm.out]; exact htj
              obtain ⟨ad, rfl, p0⟩ := hcell2.out wr t HP.out.upd htj
              obtain ⟨ad2, rfl, p1⟩ := HG.out t htj
              have hn9 := hn.out t htl
              have hrd := HP.out.read t htj
              obtain ⟨hln, hlo⟩ := HP.out.long t htj
              obtain ⟨x, hx⟩ : ∃ x, ena L t = x := ⟨_, rfl⟩
              obtain ⟨y, hy⟩ : ∃ y, ena G t = y := ⟨_, rfl⟩
              rw [hx] at p0 hn9 hrd hln hlo
              rw [hy] at p1 hln hlo
              obtain ⟨A, n, c⟩ := x
              obtain ⟨A2, n2, c2⟩ := y
              replace p0 : wr.cell? (ad.add t) = some (.slice A n c) := p0
              replace p1 : wr.cell? (ad2.add t) = some (.slice A2 n2 c2) := p1
              replace hn9 : n ≤ 1000000 := hn9
              obtain rfl : n2 = n + 8 := hln
              have HR : Hid (Sl wr 1 A n c (marks_ mkOwnWords t n)) := Lib.hid hrd
              have HLo : Hid (Sl wr 1 A2 (n + 8) c2 (marks_ mkOwnWords t n ++ marks_ mkOwnWords (-1 - t) 8)) := Lib.hid hlo.sl
              clear hrd hlo hx hy htl
              go_wp2
              go_loopg [11] n (fun z v wq => ∃ k : Nat, z = n - k ∧ k ≤ n ∧ v = .int .i64 k ∧ Hid (wq = wr))
              case atStart => exact ⟨0, rfl, Nat.zero_le _, rfl, Lib.hid rfl⟩
              case round =>
                obtain ⟨k, rfl, hk, rfl, HW2⟩ := hrel
                have hW2 := HW2.out
                subst hW2
                by_cases hkn : k < n
                · obtain ⟨ad3, rfl, r0⟩ := own_at1 HR.out hkn (show mkOwnWords t k = [.int .u32 ((t : Int) * 1000 + (k : Int))] from by show [Value.int .u32 (IntKind.u32.wrap ((t : Int) * 1000 + (k : Int)))] = _; rw [show IntKind.u32.wrap ((t : Int) * 1000 + (k : Int)) = ((t : Int) * 1000 + (k : Int)) from by rw [IntKind.wrap_u32]; omega]) (fun q hq => marks_at' mkOwnWords_len t hq n k hkn)
                  obtain ⟨ad4, rfl, l0⟩ := own_at1 HLo.out (show k < n + 8 by omega) (show mkOwnWords t k = [.int .u32 ((t : Int) * 1000 + (k : Int))] from by show [Value.int .u32 (IntKind.u32.wrap ((t : Int) * 1000 + (k : Int)))] = _; rw [show IntKind.u32.wrap ((t : Int) * 1000 + (k : Int)) = ((t : Int) * 1000 + (k : Int)) from by rw [IntKind.wrap_u32]; omega]) (fun q hq => by rw [List.getElem?_append_left (by rw [marks_len mkOwnWords_len]; have : (k + 1) * 1 ≤ n * 1 := Nat.mul_le_mul_right _ hkn; omega)]; exact marks_at' mkOwnWords_len t hq n k hkn)
                  have wz0 : IntKind.i64.wrap ((t : Int) * 1000) = (t : Int) * 1000 := by rw [IntKind.wrap_i64]; omega
                  have wz1 : IntKind.i64.wrap ((t : Int) * 1000 + (k : Int)) = (t : Int) * 1000 + (k : Int) := by rw [IntKind.wrap_i64]; omega
                  go_wp2
                  go_roundg (n - (k + 1))
                  case measure => omega
                  case rel => exact ⟨k + 1, rfl, by omega, by go_num, Lib.hid rfl⟩
                · obtain rfl : k = n := by omega
                  go_wp2
                  go_loopg [12] 8 (fun z v wq => ∃ q : Nat, z = 8 - q ∧ q ≤ 8 ∧ v = .int .i64 q ∧ Hid (wq = wr))
                  case atStart => exact ⟨0, rfl, Nat.zero_le _, rfl, Lib.hid rfl⟩
                  case round =>
                    obtain ⟨q, rfl, hq, rfl, HW3⟩ := hrel
                    have hW3 := HW3.out
                    subst hW3
                    by_cases hq8 : q < 8
                    · obtain ⟨ad4, rfl, l0⟩ := own_at1 HLo.out (show k + q < k + 8 by omega) (show mkOwnWords (-1 - (t : Int)) q = [.int .u32 (IntKind.u32.wrap ((-1 - (t : Int)) * 1000 + (q : Int)))] from rfl) (fun z hz => by rw [show (k + q) * 1 + z = (marks_ mkOwnWords (t : Int) k).length + (q * 1 + z) by rw [marks_len mkOwnWords_len, Nat.add_mul]; omega, List.getElem?_append_right (Nat.le_add_right _ _), Nat.add_sub_cancel_left]; exact marks_at' mkOwnWords_len _ hz 8 q hq8)
                      have wy : IntKind.i64.wrap (-1 - (t : Int)) = -1 - (t : Int) := by rw [IntKind.wrap_i64]; omega
                      have wz0 : IntKind.i64.wrap ((-1 - (t : Int)) * 1000) = (-1 - (t : Int)) * 1000 := by rw [IntKind.wrap_i64]; omega
                      have wz1 : IntKind.i64.wrap ((-1 - (t : Int)) * 1000 + (q : Int)) = (-1 - (t : Int)) * 1000 + (q : Int) := by rw [IntKind.wrap_i64]; omega
                      go_wp2
                      go_roundg (8 - (q + 1))
                      case measure => omega
                      case rel => exact ⟨q + 1, rfl, by omega, by go_num, Lib.hid rfl⟩
                    · obtain rfl : q = 8 := by omega
                      go_wp2
                      go_roundg (j - (t + 1))
                      case measure => omega
                      case rel => exact ⟨t + 1, rfl, by omega, by go_num, Lib.hid rfl⟩
            · obtain rfl : t = j := by omega
              go_wp2
              go_ret
              exact ⟨rfl, HU1.out.trans HP.out.upd⟩
end Go.Proofs.YtdgbkpoickbidaaGreatDoor
namespace Go.Proofs.YtdgbkpoickbidaaGreatDoor
open Go.RowKit

def mkOwnTimes (i : Int) (k : Nat) : List Value := [.int .u64 (1099511627776 + i * 1000 + (k : Int)), .slice none 0 0]
theorem mkOwnTimes_len (i : Int) (k : Nat) : (mkOwnTimes i k).length = 2 := rfl
theorem mkOwnTimes_one (i : Int) (k : Nat) : ∀ u ∈ mkOwnTimes i k, u.oneCell' = true := by intro u hu; simp [mkOwnTimes] at hu; rcases hu with rfl | rfl <;> rfl
theorem elemL_OwnTimes : Elem Tryz.prog 48 27 1 24 (.slice none 0 0) := ⟨by kernel_rfl, by kernel_rfl, rfl, by decide⟩
set_option maxRecDepth 100000 in
set_option maxHeartbeats 8000000 in
theorem ownTimes_any (OA : Option Addr) (oc m B : Nat) (L : List En) (f : Nat → List Value) (w : World) (hm : Hid (m = L.length)) (hs : Hid (Sl w 1 OA m oc (ensC L))) (hl : Hid (Lists w B 26 2 L f)) (hf : Hid (∀ k, blk OA oc = some k → ¬ Foot L k ∧ k < w.heap.size)) (hm9 : m ≤ 10000) (hn : Hid (∀ i, i < L.length → (ena L i).n ≤ 1000000)) (hBw : Hid (B ≤ w.heap.size)) :
    Calls Tryz.prog 134 #[.slice OA m oc] w fun e w' => e = .returned (.bool true) ∧ Upd (Foot L) w w' := by
  have HP0 : Hid (Ph1 mkOwnTimes w w B 26 2 L 0 f) := Lib.hid ⟨hl.out, fun j hj => by omega, Upd.refl _ _⟩
  have hcell : Hid (∀ (wr : World) (i : Nat), Upd (Foot L) w wr → i < m → ∃ ad, OA = some ad ∧ wr.cell? (ad.add i) = some (ena L i).v) := Lib.hid (fun wr i hu hi => ens_cell (hs.out.upd hu (fun k hk => (hf.out k hk).1)) hi)
  go_enter Tryz.func134, Tryz.ntmps134
  go_wp2
  go_loopg [3] m (fun z v wr => ∃ (i : Nat) (f : Nat → List Value), z = m - i ∧ i ≤ m ∧ v = .int .i64 i ∧ Hid (Ph1 mkOwnTimes w wr B 26 2 L i f))
  case atStart => exact ⟨0, f, rfl, Nat.zero_le _, rfl, HP0⟩
  case round =>
    clear HP0
    obtain ⟨i, f, rfl, hi, rfl, HP⟩ := hrel
    obtain ⟨wo, hwo⟩ : ∃ wo : World, wo = wr := ⟨_, rfl⟩
    rw [← hwo] at HP ⊢
    clear hwo
    by_cases hlt : i < m
    · have hil : i < L.length := by rw [← hm.out]; exact hlt
      obtain ⟨ad, rfl, p0⟩ := hcell.out wo i HP.out.upd hlt
      have hn9 := hn.out i hil
      have HIL := Lib.hid hil
      obtain ⟨x, hx⟩ : ∃ x, ena L i = x := ⟨_, rfl⟩
      rw [hx] at p0 hn9
      obtain ⟨A, n, c⟩ := x
      have HXN : Hid ((ena L i).n = n) := Lib.hid (by rw [hx])
      have HX := Lib.hid hx
      clear hil hx
      replace p0 : wo.cell? (ad.add i) = some (.slice A n c) := p0
      replace hn9 : n ≤ 1000000 := hn9
      have HI := Lib.hid HP.out.enter
      go_wp2
      go_loopg [4] n (fun z v wi => ∃ (k : Nat) (f : Nat → List Value), z = n - k ∧ k ≤ n ∧ v = .int .i64 k ∧ Hid (Ph1I mkOwnTimes w wi B 26 2 L i k f))
      case atStart => exact ⟨0, f, rfl, Nat.zero_le _, rfl, HI⟩
      case round =>
        clear HI
        obtain ⟨k, f, rfl, hk, rfl, HI⟩ := hrel
        obtain ⟨wi, hwi⟩ : ∃ wi : World, wi = wr := ⟨_, rfl⟩
        rw [← hwi] at HI ⊢
        clear hwi
        obtain ⟨ad2, e2, p1⟩ := hcell.out wi i HI.out.ph.upd hlt
        cases e2
        rw [HX.out] at p1
        replace p1 : wi.cell? (ad.add i) = some (.slice A n c) := p1
        by_cases hkn : k < n
        · have o1 := HI.out.ph.ls.own i HIL.out
          rw [HX.out] at o1
          obtain ⟨g, eA, hb, _, _, hc, hfz⟩ := o1.form (show 0 < n by omega)
          have hA : (ena L i).A = some ⟨g, 0, none⟩ := by rw [HX.out]; exact eA
          have hbm : (ena L i).b = some g := by unfold En.b; rw [HX.out]; exact hb
          have hfl : (f i).length = n * 2 := o1.1
          subst eA
          have q0 : wi.cell? ⟨g, k * 2, none⟩ = some ((f i)[k * 2]'(by omega)) := hc _ _ (List.getElem?_eq_getElem (by omega))
          have z0 := hfz (k * 2)
          have q1 : wi.cell? ⟨g, k * 2 + 1, none⟩ = some ((f i)[k * 2 + 1]'(by omega)) := hc _ _ (List.getElem?_eq_getElem (by omega))
          have z1 := hfz (k * 2 + 1)
          obtain ⟨f', hf'⟩ := HI.out.put2 HIL.out (by rw [HXN.out]; exact hkn) hA hbm (show mkOwnTimes i k = [.int .u64 (1099511627776 + (i : Int) * 1000 + (k : Int)), .slice none 0 0] from rfl)
          have wz0 : IntKind.i64.wrap ((i : Int) * 1000) = (i : Int) * 1000 := by rw [IntKind.wrap_i64]; omega
          have wz1 : IntKind.i64.wrap (1099511627776 + (i : Int) * 1000) = 1099511627776 + (i : Int) * 1000 := by rw [IntKind.wrap_i64]; omega
          have wz2 : IntKind.i64.wrap (1099511627776 + (i : Int) * 1000 + (k : Int)) = 1099511627776 + (i : Int) * 1000 + (k : Int) := by rw [IntKind.wrap_i64]; omega
          have wz3 : IntKind.u64.wrap (1099511627776 + (i : Int) * 1000 + (k : Int)) = 1099511627776 + (i : Int) * 1000 + (k : Int) := by rw [IntKind.wrap_u64]; omega
          have HF := Lib.hid hf'
          clear hf' o1 hc hfz hb hA hbm
          go_wp2
          go_roundg (n - (k + 1))
          case measure => omega
          case rel => exact ⟨k + 1, f', rfl, by omega, by go_num, HF⟩
        · obtain rfl : k = n := by omega
          go_wp2
          go_roundg (m - (i + 1))
          case measure => omega
          case rel => exact ⟨i + 1, f, rfl, by omega, by go_num, Lib.hid ((show Ph1I mkOwnTimes w wi B 26 2 L i (ena L i).n f from HXN.out ▸ HI.out).leave HIL.out)⟩
    · obtain rfl : i = m := by omega
      have HU1 := Lib.hid HP.out.upd
      have HQ0 : Hid (Ph2 mkOwnTimes wo wo B 26 27 2 L 0 [] none 0) := Lib.hid (Ph2.start 27 (show Ph1 mkOwnTimes w wo B 26 2 L L.length f from hm.out ▸ HP.out))
      have hcell2 : Hid (∀ (wr : World) (j : Nat), Upd (Foot L) wo wr → j < i → ∃ ad, OA = some ad ∧ wr.cell? (ad.add j) = some (ena L j).v) := Lib.hid (fun wr j hu hj => hcell.out wr j (HU1.out.trans hu) hj)
      clear HP
      go_wp2
      go_loopg [5, 6] i (fun z u v wr => ∃ (j : Nat) (G : List En) (LA : Option Addr) (lc : Nat), z = i - j ∧ j ≤ i ∧ v = .int .i64 j ∧ u = .slice LA j lc ∧ Hid (Ph2 mkOwnTimes wo wr B 26 27 2 L j G LA lc))
      case atStart => exact ⟨0, [], none, 0, rfl, Nat.zero_le _, rfl, rfl, HQ0⟩
      case round =>
        clear HQ0
        obtain ⟨j, G, LA, lc, rfl, hj, rfl, rfl, HP⟩ := hrel
        obtain ⟨w2, hw2⟩ : ∃ w2 : World, w2 = wr := ⟨_, rfl⟩
        rw [← hw2] at HP ⊢
        clear hw2
        by_cases hlt2 : j < i
        · have hjl : j < L.length := by rw [← hm.out]; exact hlt2
          obtain ⟨ad, rfl, p0⟩ := hcell2.out w2 j HP.out.upd hlt2
          have hn9 := hn.out j hjl
          have HJL := Lib.hid hjl
          obtain ⟨x, hx⟩ : ∃ x, ena L j = x := ⟨_, rfl⟩
          rw [hx] at p0 hn9
          obtain ⟨A, n, c⟩ := x
          have HXN : Hid ((ena L j).n = n) := Lib.hid (by rw [hx])
          have HXA : Hid ((ena L j).A = A ∧ (ena L j).c = c) := Lib.hid (by rw [hx]; exact ⟨rfl, rfl⟩)
          clear hjl hx
          replace p0 : w2.cell? (ad.add j) = some (.slice A n c) := p0
          replace hn9 : n ≤ 1000000 := hn9
          have HI : Hid (Ph2I mkOwnTimes w2 w2 B 26 2 L j 0 A c) := Lib.hid (by have := HP.out.enter HJL.out; rwa [HXA.out.1, HXA.out.2] at this)
          go_wp2
          go_loopg [7, 8] 8 (fun z u v wi => ∃ (k : Nat) (A' : Option Addr) (c' : Nat), z = 8 - k ∧ k ≤ 8 ∧ v = .int .i64 k ∧ u = .slice A' (n + k) c' ∧ Hid (Ph2I mkOwnTimes w2 wi B 26 2 L j k A' c'))
          case atStart => exact ⟨0, A, c, rfl, Nat.zero_le _, rfl, rfl, HI⟩
          case round =>
            clear HI
            obtain ⟨k, A', c', rfl, hk, rfl, rfl, HI⟩ := hrel
            by_cases hk8 : k < 8
            · have wy : IntKind.i64.wrap (-1 - (j : Int)) = -1 - (j : Int) := by rw [IntKind.wrap_i64]; omega
              have wz0 : IntKind.i64.wrap ((-1 - (j : Int)) * 1000) = (-1 - (j : Int)) * 1000 := by rw [IntKind.wrap_i64]; omega
              have wz1 : IntKind.i64.wrap (1099511627776 + (-1 - (j : Int)) * 1000) = 1099511627776 + (-1 - (j : Int)) * 1000 := by rw [IntKind.wrap_i64]; omega
              have wz2 : IntKind.i64.wrap (1099511627776 + (-1 - (j : Int)) * 1000 + (k : Int)) = 1099511627776 + (-1 - (j : Int)) * 1000 + (k : Int) := by rw [IntKind.wrap_i64]; omega
              have wz3 : IntKind.u64.wrap (1099511627776 + (-1 - (j : Int)) * 1000 + (k : Int)) = 1099511627776 + (-1 - (j : Int)) * 1000 + (k : Int) := by rw [IntKind.wrap_u64]; omega
              have HO : Hid (Own wr B 26 2 A' (n + k) c' (marks_ mkOwnTimes j (ena L j).n ++ marks_ mkOwnTimes (-1 - j) k)) := Lib.hid (by have := HI.out.own; rwa [HXN.out] at this ⊢)
              have hB : B ≤ (wr.alloc (.cells (#[.int .u64 (1099511627776 + (-1 - (j : Int)) * 1000 + (k : Int)), .slice none 0 0] : Array Value) 26)).heap.size := by
                have h1 := HI.out.upd.size
                have h2 := ((Ext.refl wr).alloc (.cells (#[.int .u64 (1099511627776 + (-1 - (j : Int)) * 1000 + (k : Int)), .slice none 0 0] : Array Value) 26)).size
                have h3 := HP.out.upd.size
                have h4 := HU1.out.size
                have h5 := hBw.out
                omega
              go_wp2_with (at_builtin; go_loud (refine wpList_append_two _ elemTimes B _ _ rfl rfl A' (n + k) c' _ rfl (HO.out.alloc _) (some ⟨wr.heap.size, 0, none⟩) 1 1 (mkOwnTimes (-1 - (j : Int)) k) rfl (Sl.one wr #[.int .u64 (1099511627776 + (-1 - (j : Int)) * 1000 + (k : Int)), .slice none 0 0] 26 2 rfl) (mkOwnTimes_one _ _) (by omega) (by decide) hB ?_); intro A3 c3 w3 o3 g3 x3; have HN3 : Hid (Ph2I mkOwnTimes w2 w3 B 26 2 L j (k + 1) A3 c3) := Lib.hid (HI.out.step mkOwnTimes_len _ (by have := o3; rwa [← HXN.out] at this) g3 x3); clear o3 g3 x3)
              go_roundg (8 - (k + 1))
              case measure => omega
              case rel => exact ⟨k + 1, A3, c3, rfl, by omega, by go_num, rfl, HN3⟩
            · obtain rfl : k = 8 := by omega
              have hlst : ∀ wr : World, Ph2I mkOwnTimes w2 wr B 26 2 L j 8 A' c' → Own wr wo.heap.size 27 1 LA j lc (ensC G) := fun wr h => HP.out.lst.upd h.upd (fun q hq e => by
                have h1 := HP.out.foot q ⟨j, HJL.out, e⟩
                have h2 := (HP.out.lst.lt q hq).1
                omega)
              go_wp2_with (at_builtin; go_loud (refine wpList_append_two _ elemL_OwnTimes wo.heap.size _ _ rfl rfl LA j lc (ensC G) rfl ((hlst wr HI.out).alloc _) (some ⟨wr.heap.size, 0, none⟩) 1 1 [.slice A' (n + 8) c'] rfl (Sl.one wr #[.slice A' (n + 8) c'] 27 1 rfl) (ensC_one [⟨A', n + 8, c'⟩]) (by omega) (by decide) (by have h1 := HI.out.upd.size; have h2 := HP.out.upd.size; have h3 := ((Ext.refl wr).alloc (.cells (#[.slice A' (n + 8) c'] : Array Value) 27)).size; omega) ?_); intro LA4 lc4 w4 o4 g4 x4; have HN4 : Hid (Ph2 mkOwnTimes wo w4 B 26 27 2 L (j + 1) (G ++ [⟨A', (ena L j).n + 8, c'⟩]) LA4 lc4) := Lib.hid (HP.out.next HJL.out HI.out _ (by have := o4; rwa [← HXN.out] at this) g4 x4); clear o4 g4 x4)
              go_roundg (i - (j + 1))
              case measure => omega
              case rel => exact ⟨j + 1, _, LA4, lc4, rfl, by omega, by go_num, rfl, HN4⟩
        · obtain rfl : j = i := by omega
          have hjm : j = L.length := hm.out
          have hG : ∀ t, t < j → ∃ ad, LA = some ad ∧ w2.cell? (ad.add t) = some (ena G t).v := fun t ht => ens_cell HP.out.lst.sl ht
          have HG := Lib.hid hG
          clear hG hjm
          go_wp2
          go_loopg [9] j (fun z v wr => ∃ t : Nat, z = j - t ∧ t ≤ j ∧ v = .int .i64 t ∧ Hid (wr = w2))
          case atStart => exact ⟨0, rfl, Nat.zero_le _, rfl, Lib.hid rfl⟩
          case round =>
            obtain ⟨t, rfl, ht, rfl, HW⟩ := hrel
            have hW := HW.out
            subst hW
            by_cases htj : t < j
            · have htl : t < L.length := by rw [← hm.out]; exact htj
              obtain ⟨ad, rfl, p0⟩ := hcell2.out wr t HP.out.upd htj
              obtain ⟨ad2, rfl, p1⟩ := HG.out t htj
              have hn9 := hn.out t htl
              have hrd := HP.out.read t htj
              obtain ⟨hln, hlo⟩ := HP.out.long t htj
              obtain ⟨x, hx⟩ : ∃ x, ena L t = x := ⟨_, rfl⟩
              obtain ⟨y, hy⟩ : ∃ y, ena G t = y := ⟨_, rfl⟩
              rw [hx] at p0 hn9 hrd hln hlo
              rw [hy] at p1 hln hlo
              obtain ⟨A, n, c⟩ := x
              obtain ⟨A2, n2, c2⟩ := y
              replace p0 : wr.cell? (ad.add t) = some (.slice A n c) := p0
              replace p1 : wr.cell? (ad2.add t) = some (.slice A2 n2 c2) := p1
              replace hn9 : n ≤ 1000000 := hn9
              obtain rfl : n2 = n + 8 := hln
              have HR : Hid (Sl wr 2 A n c (marks_ mkOwnTimes t n)) := Lib.hid hrd
              have HLo : Hid (Sl wr 2 A2 (n + 8) c2 (marks_ mkOwnTimes t n ++ marks_ mkOwnTimes (-1 - t) 8)) := Lib.hid hlo.sl
              clear hrd hlo hx hy htl
              go_wp2
              go_loopg [11] n (fun z v wq => ∃ k : Nat, z = n - k ∧ k ≤ n ∧ v = .int .i64 k ∧ Hid (wq = wr))
              case atStart => exact ⟨0, rfl, Nat.zero_le _, rfl, Lib.hid rfl⟩
              case round =>
                obtain ⟨k, rfl, hk, rfl, HW2⟩ := hrel
                have hW2 := HW2.out
                subst hW2
                by_cases hkn : k < n
                · obtain ⟨ad3, rfl, r0, r1⟩ := own_at2 HR.out hkn (show mkOwnTimes t k = [.int .u64 (1099511627776 + (t : Int) * 1000 + (k : Int)), .slice none 0 0] from rfl) (fun q hq => marks_at' mkOwnTimes_len t hq n k hkn)
                  obtain ⟨ad4, rfl, l0, l1⟩ := own_at2 HLo.out (show k < n + 8 by omega) (show mkOwnTimes t k = [.int .u64 (1099511627776 + (t : Int) * 1000 + (k : Int)), .slice none 0 0] from rfl) (fun q hq => by rw [List.getElem?_append_left (by rw [marks_len mkOwnTimes_len]; have : (k + 1) * 2 ≤ n * 2 := Nat.mul_le_mul_right _ hkn; omega)]; exact marks_at' mkOwnTimes_len t hq n k hkn)
                  have wz0 : IntKind.i64.wrap ((t : Int) * 1000) = (t : Int) * 1000 := by rw [IntKind.wrap_i64]; omega
                  have wz1 : IntKind.i64.wrap (1099511627776 + (t : Int) * 1000) = 1099511627776 + (t : Int) * 1000 := by rw [IntKind.wrap_i64]; omega
                  have wz2 : IntKind.i64.wrap (1099511627776 + (t : Int) * 1000 + (k : Int)) = 1099511627776 + (t : Int) * 1000 + (k : Int) := by rw [IntKind.wrap_i64]; omega
                  have wz3 : IntKind.u64.wrap (1099511627776 + (t : Int) * 1000 + (k : Int)) = 1099511627776 + (t : Int) * 1000 + (k : Int) := by rw [IntKind.wrap_u64]; omega
                  go_wp2
                  go_roundg (n - (k + 1))
                  case measure => omega
                  case rel => exact ⟨k + 1, rfl, by omega, by go_num, Lib.hid rfl⟩
                · obtain rfl : k = n := by omega
                  go_wp2
                  go_loopg [12] 8 (fun z v wq => ∃ q : Nat, z = 8 - q ∧ q ≤ 8 ∧ v = .int .i64 q ∧ Hid (wq = wr))
                  case atStart => exact ⟨0, rfl, Nat.zero_le _, rfl, Lib.hid rfl⟩
                  case round =>
                    obtain ⟨q, rfl, hq, rfl, HW3⟩ := hrel
                    have hW3 := HW3.out
                    subst hW3
                    by_cases hq8 : q < 8
                    · obtain ⟨ad4, rfl, l0, l1⟩ := own_at2 HLo.out (show k + q < k + 8 by omega) (show mkOwnTimes (-1 - (t : Int)) q = [.int .u64 (1099511627776 + (-1 - (t : Int)) * 1000 + (q : Int)), .slice none 0 0] from rfl) (fun z hz => by rw [show (k + q) * 2 + z = (marks_ mkOwnTimes (t : Int) k).length + (q * 2 + z) by rw [marks_len mkOwnTimes_len, Nat.add_mul]; omega, List.getElem?_append_right (Nat.le_add_right _ _), Nat.add_sub_cancel_left]; exact marks_at' mkOwnTimes_len _ hz 8 q hq8)
                      have wy : IntKind.i64.wrap (-1 - (t : Int)) = -1 - (t : Int) := by rw [IntKind.wrap_i64]; omega
                      have wz0 : IntKind.i64.wrap ((-1 - (t : Int)) * 1000) = (-1 - (t : Int)) * 1000 := by rw [IntKind.wrap_i64]; omega
                      have wz1 : IntKind.i64.wrap (1099511627776 + (-1 - (t : Int)) * 1000) = 1099511627776 + (-1 - (t : Int)) * 1000 := by rw [IntKind.wrap_i64]; omega
                      have wz2 : IntKind.i64.wrap (1099511627776 + (-1 - (t : Int)) * 1000 + (q : Int)) = 1099511627776 + (-1 - (t : Int)) * 1000 + (q : Int) := by rw [IntKind.wrap_i64]; omega
                      have wz3 : IntKind.u64.wrap (1099511627776 + (-1 - (t : Int)) * 1000 + (q : Int)) = 1099511627776 + (-1 - (t : Int)) * 1000 + (q : Int) := by rw [IntKind.wrap_u64]; omega
                      go_wp2
                      go_roundg (8 - (q + 1))
                      case measure => omega
                      case rel => exact ⟨q + 1, rfl, by omega, by go_num, Lib.hid rfl⟩
                    · obtain rfl : q = 8 := by omega
                      go_wp2
                      go_roundg (j - (t + 1))
                      case measure => omega
                      case rel => exact ⟨t + 1, rfl, by omega, by go_num, Lib.hid rfl⟩
            · obtain rfl : t = j := by omega
              go_wp2
              go_ret
              exact ⟨rfl, HU1.out.trans HP.out.upd⟩
end Go.Proofs.YtdgbkpoickbidaaGreatDoor
namespace Go.Proofs.YtdgbkpoickbidaaGreatDoor
open Go.RowKit

set_option maxRecDepth 100000 in
set_option maxHeartbeats 400000 in
theorem ownBytes_nil (w : World) : Calls Tryz.prog 123 #[.slice none 0 0] w fun e w' => e = .returned (.bool true) ∧ w = w' := by
  go_enter Tryz.func123, Tryz.ntmps123
  go_wp2
  refine wp_loop_rounds 1 ?_
  rw [rounds_succ]
  go_wp2
  refine wp_loop_rounds 1 ?_
  rw [rounds_succ]
  go_wp2
  refine wp_loop_rounds 1 ?_
  rw [rounds_succ]
  go_wp2
  go_ret
  exact ⟨rfl, rfl⟩
set_option maxRecDepth 100000 in
set_option maxHeartbeats 400000 in
theorem ownTexts_nil (w : World) : Calls Tryz.prog 124 #[.slice none 0 0] w fun e w' => e = .returned (.bool true) ∧ w = w' := by
  go_enter Tryz.func124, Tryz.ntmps124
  go_wp2
  refine wp_loop_rounds 1 ?_
  rw [rounds_succ]
  go_wp2
  refine wp_loop_rounds 1 ?_
  rw [rounds_succ]
  go_wp2
  refine wp_loop_rounds 1 ?_
  rw [rounds_succ]
  go_wp2
  go_ret
  exact ⟨rfl, rfl⟩
set_option maxRecDepth 100000 in
set_option maxHeartbeats 400000 in
theorem ownInts_nil (w : World) : Calls Tryz.prog 125 #[.slice none 0 0] w fun e w' => e = .returned (.bool true) ∧ w = w' := by
  go_enter Tryz.func125, Tryz.ntmps125
  go_wp2
  refine wp_loop_rounds 1 ?_
  rw [rounds_succ]
  go_wp2
  refine wp_loop_rounds 1 ?_
  rw [rounds_succ]
  go_wp2
  refine wp_loop_rounds 1 ?_
  rw [rounds_succ]
  go_wp2
  go_ret
  exact ⟨rfl, rfl⟩
set_option maxRecDepth 100000 in
set_option maxHeartbeats 400000 in
theorem ownRow_nil (w : World) : Calls Tryz.prog 127 #[.slice none 0 0] w fun e w' => e = .returned (.bool true) ∧ w = w' := by
  go_enter Tryz.func127, Tryz.ntmps127
  go_wp2
  refine wp_loop_rounds 1 ?_
  rw [rounds_succ]
  go_wp2
  refine wp_loop_rounds 1 ?_
  rw [rounds_succ]
  go_wp2
  refine wp_loop_rounds 1 ?_
  rw [rounds_succ]
  go_wp2
  go_ret
  exact ⟨rfl, rfl⟩
set_option maxRecDepth 100000 in
set_option maxHeartbeats 400000 in
theorem ownSorts_nil (w : World) : Calls Tryz.prog 128 #[.slice none 0 0] w fun e w' => e = .returned (.bool true) ∧ w = w' := by
  go_enter Tryz.func128, Tryz.ntmps128
  go_wp2
  refine wp_loop_rounds 1 ?_
  rw [rounds_succ]
  go_wp2
  refine wp_loop_rounds 1 ?_
  rw [rounds_succ]
  go_wp2
  refine wp_loop_rounds 1 ?_
  rw [rounds_succ]
  go_wp2
  go_ret
  exact ⟨rfl, rfl⟩
set_option maxRecDepth 100000 in
set_option maxHeartbeats 400000 in
theorem ownPairs_nil (w : World) : Calls Tryz.prog 129 #[.slice none 0 0] w fun e w' => e = .returned (.bool true) ∧ w = w' := by
  go_enter Tryz.func129, Tryz.ntmps129
  go_wp2
  refine wp_loop_rounds 1 ?_
  rw [rounds_succ]
  go_wp2
  refine wp_loop_rounds 1 ?_
  rw [rounds_succ]
  go_wp2
  refine wp_loop_rounds 1 ?_
  rw [rounds_succ]
  go_wp2
  go_ret
  exact ⟨rfl, rfl⟩
set_option maxRecDepth 100000 in
set_option maxHeartbeats 400000 in
theorem ownFaults_nil (w : World) : Calls Tryz.prog 130 #[.slice none 0 0] w fun e w' => e = .returned (.bool true) ∧ w = w' := by
  go_enter Tryz.func130, Tryz.ntmps130
  go_wp2
  refine wp_loop_rounds 1 ?_
  rw [rounds_succ]
  go_wp2
  refine wp_loop_rounds 1 ?_
  rw [rounds_succ]
  go_wp2
  refine wp_loop_rounds 1 ?_
  rw [rounds_succ]
  go_wp2
  go_ret
  exact ⟨rfl, rfl⟩
set_option maxRecDepth 100000 in
set_option maxHeartbeats 400000 in
theorem ownColumns_nil (w : World) : Calls Tryz.prog 131 #[.slice none 0 0] w fun e w' => e = .returned (.bool true) ∧ w = w' := by
  go_enter Tryz.func131, Tryz.ntmps131
  go_wp2
  refine wp_loop_rounds 1 ?_
  rw [rounds_succ]
  go_wp2
  refine wp_loop_rounds 1 ?_
  rw [rounds_succ]
  go_wp2
  refine wp_loop_rounds 1 ?_
  rw [rounds_succ]
  go_wp2
  go_ret
  exact ⟨rfl, rfl⟩
set_option maxRecDepth 100000 in
set_option maxHeartbeats 400000 in
theorem ownCounteds_nil (w : World) : Calls Tryz.prog 132 #[.slice none 0 0] w fun e w' => e = .returned (.bool true) ∧ w = w' := by
  go_enter Tryz.func132, Tryz.ntmps132
  go_wp2
  refine wp_loop_rounds 1 ?_
  rw [rounds_succ]
  go_wp2
  refine wp_loop_rounds 1 ?_
  rw [rounds_succ]
  go_wp2
  refine wp_loop_rounds 1 ?_
  rw [rounds_succ]
  go_wp2
  go_ret
  exact ⟨rfl, rfl⟩
set_option maxRecDepth 100000 in
set_option maxHeartbeats 400000 in
theorem ownUpdates_nil (w : World) : Calls Tryz.prog 133 #[.slice none 0 0] w fun e w' => e = .returned (.bool true) ∧ w = w' := by
  go_enter Tryz.func133, Tryz.ntmps133
  go_wp2
  refine wp_loop_rounds 1 ?_
  rw [rounds_succ]
  go_wp2
  refine wp_loop_rounds 1 ?_
  rw [rounds_succ]
  go_wp2
  refine wp_loop_rounds 1 ?_
  rw [rounds_succ]
  go_wp2
  go_ret
  exact ⟨rfl, rfl⟩
set_option maxRecDepth 100000 in
set_option maxHeartbeats 400000 in
theorem ownExprs_nil (w : World) : Calls Tryz.prog 135 #[.slice none 0 0] w fun e w' => e = .returned (.bool true) ∧ w = w' := by
  go_enter Tryz.func135, Tryz.ntmps135
  go_wp2
  refine wp_loop_rounds 1 ?_
  rw [rounds_succ]
  go_wp2
  refine wp_loop_rounds 1 ?_
  rw [rounds_succ]
  go_wp2
  refine wp_loop_rounds 1 ?_
  rw [rounds_succ]
  go_wp2
  go_ret
  exact ⟨rfl, rfl⟩
set_option maxRecDepth 100000 in
set_option maxHeartbeats 400000 in
theorem ownRels_nil (w : World) : Calls Tryz.prog 136 #[.slice none 0 0] w fun e w' => e = .returned (.bool true) ∧ w = w' := by
  go_enter Tryz.func136, Tryz.ntmps136
  go_wp2
  refine wp_loop_rounds 1 ?_
  rw [rounds_succ]
  go_wp2
  refine wp_loop_rounds 1 ?_
  rw [rounds_succ]
  go_wp2
  refine wp_loop_rounds 1 ?_
  rw [rounds_succ]
  go_wp2
  go_ret
  exact ⟨rfl, rfl⟩
def bookC (w_ t_ : Value) : Array Value := #[.slice none 0 0, .slice none 0 0, .slice none 0 0, w_, .slice none 0 0, .slice none 0 0, .slice none 0 0, .slice none 0 0, .slice none 0 0, .slice none 0 0, .slice none 0 0, t_, .slice none 0 0, .slice none 0 0]
/-- the Book at gb, its lists in blocks of R -/
structure BookR (w : World) (gb : Nat) (R : Nat → Prop) (Lw Lt : List En) (w_ t_ : En) : Prop where
  bk : Bk w gb 52 (bookC w_.v t_.v)
  rg : R gb
  ow : Own w 0 24 1 w_.A w_.n w_.c (ensC Lw)
  ot : Own w 0 27 1 t_.A t_.n t_.c (ensC Lt)
  rw : ∀ k, w_.b = some k → R k ∧ k ≠ gb
  rt : ∀ k, t_.b = some k → R k ∧ k ≠ gb
  nw : w_.n = Lw.length
  nt : t_.n = Lt.length
  swt : ∀ k, w_.b = some k → t_.b ≠ some k
theorem BookR.ext {w w' : World} {gb : Nat} {R : Nat → Prop} {Lw Lt : List En} {w_ t_ : En} (h : BookR w gb R Lw Lt w_ t_) (x : Ext w w') : BookR w' gb R Lw Lt w_ t_ :=
  ⟨h.bk.ext x, h.rg, h.ow.ext x, h.ot.ext x, h.rw, h.rt, h.nw, h.nt, h.swt⟩
theorem BookR.upd {S : Nat → Prop} {w w' : World} {gb : Nat} {R : Nat → Prop} {Lw Lt : List En} {w_ t_ : En} (h : BookR w gb R Lw Lt w_ t_) (x : Upd S w w') (hS : ∀ k, R k → ¬ S k) : BookR w' gb R Lw Lt w_ t_ :=
  ⟨(x.block gb (Array.getElem?_eq_some_iff.1 h.bk).1 (hS _ h.rg)).trans h.bk, h.rg, h.ow.upd x (fun k hk => hS k (h.rw k hk).1), h.ot.upd x (fun k hk => hS k (h.rt k hk).1), h.rw, h.rt, h.nw, h.nt, h.swt⟩
theorem BookR.wide {R' : Nat → Prop} {w : World} {gb : Nat} {R : Nat → Prop} {Lw Lt : List En} {w_ t_ : En} (h : BookR w gb R Lw Lt w_ t_) (hR : ∀ k, k < w.heap.size → R k → R' k) : BookR w gb R' Lw Lt w_ t_ :=
  ⟨h.bk, hR _ h.bk.lt h.rg, h.ow, h.ot, fun k hk => ⟨hR k (h.ow.lt k hk).2 (h.rw k hk).1, (h.rw k hk).2⟩, fun k hk => ⟨hR k (h.ot.lt k hk).2 (h.rt k hk).1, (h.rt k hk).2⟩, h.nw, h.nt, h.swt⟩
theorem bookR_new {w : World} {gb : Nat} {R : Nat → Prop} (h : Bk w gb 52 #[.slice none 0 0, .slice none 0 0, .slice none 0 0, .slice none 0 0, .slice none 0 0, .slice none 0 0, .slice none 0 0, .slice none 0 0, .slice none 0 0, .slice none 0 0, .slice none 0 0, .slice none 0 0, .slice none 0 0, .slice none 0 0]) (hR : R gb) : BookR w gb R [] [] En.zero En.zero :=
  ⟨h, hR, Own.nil _ _ _ _, Own.nil _ _ _ _, (fun k hk => nomatch hk), (fun k hk => nomatch hk), rfl, rfl, (fun k hk => nomatch hk)⟩
/-- the region, and what is new -/
def RN (R : Nat → Prop) (w w' : World) (k : Nat) : Prop := R k ∨ (w.heap.size ≤ k ∧ k < w'.heap.size)
theorem RN.step {R : Nat → Prop} {a b c : World} (h : a.heap.size ≤ b.heap.size) (h2 : b.heap.size ≤ c.heap.size) : ∀ k, RN (RN R a b) b c k → RN R a c k := fun k hk => by
  rcases hk with (hk | ⟨h3, h4⟩) | ⟨h3, h4⟩
  · exact .inl hk
  · exact .inr ⟨h3, by omega⟩
  · exact .inr ⟨by omega, h4⟩
theorem upd_rn {R : Nat → Prop} {a b c : World} (h : Upd R a b) (k : Upd (RN R a b) b c) : Upd R a c :=
  ⟨k.os.trans h.os, k.tape.trans h.tape, k.output.trans h.output, Nat.le_trans h.size k.size, fun q hq hn => (k.block q (Nat.lt_of_lt_of_le hq h.size) (fun e => by
    rcases e with e | e
    · exact hn e
    · omega)).trans (h.block q hq hn)⟩
theorem BookR.put_w {w w3 : World} {gb : Nat} {R : Nat → Prop} {Lw Lt : List En} {w_ t_ : En} {x : En} (h : BookR w gb R Lw Lt w_ t_) (ob : Obj) {A3 : Option Addr} {c3 : Nat}
    (o3 : Own w3 0 24 1 A3 (w_.n + 1) c3 (ensC Lw ++ [x.v])) (g3 : (w.alloc ob).grownBy w3 (blk w_.A w_.c)) (x3 : (A3 = w_.A ∧ c3 = w_.c) ∨ (blk A3 c3 = some (w.alloc ob).heap.size ∧ Ext (w.alloc ob) w3)) :
    BookR (w3.setCell ⟨gb, 3, none⟩ (.slice A3 (w_.n + 1) c3)) gb (RN R w (w3.setCell ⟨gb, 3, none⟩ (.slice A3 (w_.n + 1) c3))) (Lw ++ [x]) Lt ⟨A3, w_.n + 1, c3⟩ t_ ∧ Upd R w (w3.setCell ⟨gb, 3, none⟩ (.slice A3 (w_.n + 1) c3)) := by
  have hsz := ((Ext.refl w).alloc ob).size
  have hgb := (Array.getElem?_eq_some_iff.1 h.bk).1
  have u3 : Upd (fun k => blk w_.A w_.c = some k) w w3 := ((Upd.refl _ w).alloc ob).grown g3 (fun k hk => .inl hk)
  have hnew : ∀ k, blk A3 c3 = some k → blk w_.A w_.c = some k ∨ (w.heap.size ≤ k ∧ k < w3.heap.size) := fun k hk => by
    rcases x3 with ⟨rfl, rfl⟩ | ⟨h1, _⟩
    · exact .inl hk
    · have h2 := (o3.lt k hk).2
      rw [h1] at hk; injection hk with hk; exact .inr ⟨by omega, h2⟩
  have ngb : blk A3 c3 ≠ some gb := fun e => by
    rcases hnew gb e with q | q
    · exact (h.rw gb q).2 rfl
    · omega
  have hR : ∀ k, R k → RN R w (w3.setCell ⟨gb, 3, none⟩ (.slice A3 (w_.n + 1) c3)) k := fun k hk => .inl hk
  have kt : Own w3 0 _ 1 t_.A t_.n t_.c _ := h.ot.upd u3 (fun k hk e => h.swt k e hk)
  have bk3 : Bk w3 gb 52 (bookC w_.v t_.v) := (u3.block gb hgb (fun e => (h.rw gb e).2 rfl)).trans h.bk
  refine ⟨⟨bk3.set 3 _, hR _ h.rg, ?_, ?_, ?_, ?_, ?_, ?_, ?_⟩, ?_⟩
  · rw [ensC_append]; exact o3.far ngb _
  · exact kt.far (show blk t_.A t_.c ≠ some gb from fun e => (h.rt gb e).2 rfl) _
  · intro k hk
    rcases hnew k hk with q | q
    · exact ⟨hR k (h.rw k q).1, (h.rw k q).2⟩
    · exact ⟨.inr ⟨q.1, by simpa using q.2⟩, by omega⟩
  · exact fun k hk => ⟨hR k (h.rt k hk).1, (h.rt k hk).2⟩
  · show w_.n + 1 = _; rw [List.length_append, h.nw]; rfl
  · exact h.nt
  · intro k hk e
    rcases hnew k hk with q | q
    · exact h.swt k q e
    · have := (h.ot.lt k e).2; omega
  · exact (u3.mono (fun k _ hk => (h.rw k hk).1)).setCell (.inl h.rg) _
set_option maxRecDepth 100000 in
set_option maxHeartbeats 2000000 in
theorem bookWords_any (gb n cc : Nat) (R : Nat → Prop) (A : Option Addr) (Lw Lt : List En) (w_ t_ : En) (w : World) (h : Hid (BookR w gb R Lw Lt w_ t_)) (hl : Lw.length ≤ 100000) :
    Calls Tryz.prog 116 #[.pointer (some ⟨gb, 0, none⟩), .slice A n cc] w fun e w' => e = .returned (.tuple #[]) ∧ ∃ x, BookR w' gb (RN R w w') (Lw ++ [⟨A, n, cc⟩]) Lt x t_ ∧ Upd R w w' := by
  obtain ⟨wA, wn, wc⟩ := w_
  obtain ⟨tA, tn, tc⟩ := t_
  have hn : wn ≤ 100000 := by have : wn = Lw.length := h.out.nw; omega
  have q := h.out.bk.cell 3
  have z := h.out.bk.free 3
  replace q : w.cell? ⟨gb, 3, none⟩ = some (.slice wA wn wc) := q
  go_enter Tryz.func116, Tryz.ntmps116
  go_wp2_with (at_builtin; go_loud (refine wpList_append_two _ elemL_OwnWords 0 _ _ rfl rfl wA wn wc (ensC Lw) rfl (h.out.ow.alloc _) (some ⟨w.heap.size, 0, none⟩) 1 1 [.slice A n cc] rfl (Sl.one w #[.slice A n cc] 24 1 rfl) (ensC_one [⟨A, n, cc⟩]) (by omega) (by decide) (Nat.zero_le _) ?_); intro A3 c3 w3 o3 g3 x3; have HP := Lib.hid (h.out.put_w (x := ⟨A, n, cc⟩) _ o3 g3 x3); have b3 : Bk w3 gb 52 (bookC (.slice wA wn wc) (.slice tA tn tc)) := (((Upd.refl (fun k => blk wA wc = some k) w).alloc _).grown g3 (fun k hk => .inl hk)).block gb (Array.getElem?_eq_some_iff.1 h.out.bk).1 (fun e => (h.out.rw gb e).2 rfl) |>.trans h.out.bk; have q3 := b3.cell 3; have z3 := b3.free 3; clear b3 o3 g3 x3)
  go_returns
  exact ⟨rfl, _, HP.out.1, HP.out.2⟩
theorem BookR.put_t {w w3 : World} {gb : Nat} {R : Nat → Prop} {Lw Lt : List En} {w_ t_ : En} {x : En} (h : BookR w gb R Lw Lt w_ t_) (ob : Obj) {A3 : Option Addr} {c3 : Nat}
    (o3 : Own w3 0 27 1 A3 (t_.n + 1) c3 (ensC Lt ++ [x.v])) (g3 : (w.alloc ob).grownBy w3 (blk t_.A t_.c)) (x3 : (A3 = t_.A ∧ c3 = t_.c) ∨ (blk A3 c3 = some (w.alloc ob).heap.size ∧ Ext (w.alloc ob) w3)) :
    BookR (w3.setCell ⟨gb, 11, none⟩ (.slice A3 (t_.n + 1) c3)) gb (RN R w (w3.setCell ⟨gb, 11, none⟩ (.slice A3 (t_.n + 1) c3))) Lw (Lt ++ [x]) w_ ⟨A3, t_.n + 1, c3⟩ ∧ Upd R w (w3.setCell ⟨gb, 11, none⟩ (.slice A3 (t_.n + 1) c3)) := by
  have hsz := ((Ext.refl w).alloc ob).size
  have hgb := (Array.getElem?_eq_some_iff.1 h.bk).1
  have u3 : Upd (fun k => blk t_.A t_.c = some k) w w3 := ((Upd.refl _ w).alloc ob).grown g3 (fun k hk => .inl hk)
  have hnew : ∀ k, blk A3 c3 = some k → blk t_.A t_.c = some k ∨ (w.heap.size ≤ k ∧ k < w3.heap.size) := fun k hk => by
    rcases x3 with ⟨rfl, rfl⟩ | ⟨h1, _⟩
    · exact .inl hk
    · have h2 := (o3.lt k hk).2
      rw [h1] at hk; injection hk with hk; exact .inr ⟨by omega, h2⟩
  have ngb : blk A3 c3 ≠ some gb := fun e => by
    rcases hnew gb e with q | q
    · exact (h.rt gb q).2 rfl
    · omega
  have hR : ∀ k, R k → RN R w (w3.setCell ⟨gb, 11, none⟩ (.slice A3 (t_.n + 1) c3)) k := fun k hk => .inl hk
  have kw : Own w3 0 _ 1 w_.A w_.n w_.c _ := h.ow.upd u3 (fun k hk e => h.swt k hk e)
  have bk3 : Bk w3 gb 52 (bookC w_.v t_.v) := (u3.block gb hgb (fun e => (h.rt gb e).2 rfl)).trans h.bk
  refine ⟨⟨bk3.set 11 _, hR _ h.rg, ?_, ?_, ?_, ?_, ?_, ?_, ?_⟩, ?_⟩
  · exact kw.far (show blk w_.A w_.c ≠ some gb from fun e => (h.rw gb e).2 rfl) _
  · rw [ensC_append]; exact o3.far ngb _
  · exact fun k hk => ⟨hR k (h.rw k hk).1, (h.rw k hk).2⟩
  · intro k hk
    rcases hnew k hk with q | q
    · exact ⟨hR k (h.rt k q).1, (h.rt k q).2⟩
    · exact ⟨.inr ⟨q.1, by simpa using q.2⟩, by omega⟩
  · exact h.nw
  · show t_.n + 1 = _; rw [List.length_append, h.nt]; rfl
  · intro k hk e
    rcases hnew k e with q | q
    · exact h.swt k hk q
    · have := (h.ow.lt k hk).2; omega
  · exact (u3.mono (fun k _ hk => (h.rt k hk).1)).setCell (.inl h.rg) _
/-- the blocks that Own writes into -/
def OwnS (Lw Lt : List En) (k : Nat) : Prop := Foot Lw k ∨ Foot Lt k
def Few (L : List En) : Prop := L.length ≤ 10000 ∧ ∀ i, i < L.length → (ena L i).n ≤ 1000000
set_option maxRecDepth 100000 in
set_option maxHeartbeats 8000000 in
theorem bookOwn_any (gb B : Nat) (R : Nat → Prop) (Lw Lt : List En) (w_ t_ : En) (fw ft : Nat → List Value) (w : World) (h : Hid (BookR w gb R Lw Lt w_ t_)) (lsw : Hid (Lists w B 180 1 Lw fw)) (lst : Hid (Lists w B 26 2 Lt ft))
    (dwt : Hid (∀ k, Foot Lw k → ¬ Foot Lt k)) (hlt : Hid (∀ k, OwnS Lw Lt k → ¬ R k)) (feww : Hid (Few Lw)) (fewt : Hid (Few Lt)) (hw : Hid (B ≤ w.heap.size)) :
    Calls Tryz.prog 29 #[.pointer (some ⟨gb, 0, none⟩)] w fun e w' => e = .returned (.bool true) ∧ Upd (OwnS Lw Lt) w w' := by
  have hnw : w_.n ≤ 10000 := by rw [h.out.nw]; exact feww.out.1
  have hnt : t_.n ≤ 10000 := by rw [h.out.nt]; exact fewt.out.1
  have U0 : Hid (Upd (OwnS Lw Lt) w w) := Lib.hid (Upd.refl _ _)
  have h0 := h
  have hw0 := hw
  have HBk := Lib.hid h.out.bk
  have q0 : w.cell? ⟨gb, 0, none⟩ = some (.slice none 0 0) := HBk.out.cell 0
  have q1 : w.cell? ⟨gb, 1, none⟩ = some (.slice none 0 0) := HBk.out.cell 1
  have q2 : w.cell? ⟨gb, 2, none⟩ = some (.slice none 0 0) := HBk.out.cell 2
  have q3 : w.cell? ⟨gb, 3, none⟩ = some (.slice w_.A w_.n w_.c) := HBk.out.cell 3
  have q4 : w.cell? ⟨gb, 4, none⟩ = some (.slice none 0 0) := HBk.out.cell 4
  have q5 : w.cell? ⟨gb, 5, none⟩ = some (.slice none 0 0) := HBk.out.cell 5
  have q6 : w.cell? ⟨gb, 6, none⟩ = some (.slice none 0 0) := HBk.out.cell 6
  have q7 : w.cell? ⟨gb, 7, none⟩ = some (.slice none 0 0) := HBk.out.cell 7
  have q8 : w.cell? ⟨gb, 8, none⟩ = some (.slice none 0 0) := HBk.out.cell 8
  have q9 : w.cell? ⟨gb, 9, none⟩ = some (.slice none 0 0) := HBk.out.cell 9
  have q10 : w.cell? ⟨gb, 10, none⟩ = some (.slice none 0 0) := HBk.out.cell 10
  have q11 : w.cell? ⟨gb, 11, none⟩ = some (.slice t_.A t_.n t_.c) := HBk.out.cell 11
  have q12 : w.cell? ⟨gb, 12, none⟩ = some (.slice none 0 0) := HBk.out.cell 12
  have q13 : w.cell? ⟨gb, 13, none⟩ = some (.slice none 0 0) := HBk.out.cell 13
  go_enter Tryz.func29, Tryz.ntmps29
  go_wp2_with (first
    | (go_at_call 126; go_loud (refine (ownWords_any w_.A w_.c w_.n B Lw _ _ (Lib.hid h0.out.nw) (Lib.hid h0.out.ow.sl) lsw (Lib.hid (fun k hk => ⟨fun q => hlt.out k (.inl q) (h0.out.rw k hk).1, (h0.out.ow.lt k hk).2⟩)) hnw (Lib.hid feww.out.2) hw0).mono ?_); rintro e w1 ⟨rfl, u_⟩; have U1 : Hid (Upd (OwnS Lw Lt) w w1) := Lib.hid (U0.out.trans (u_.mono (fun k _ hk => (.inl hk)))); have h1 : Hid (BookR w1 gb R Lw Lt w_ t_) := Lib.hid (h0.out.upd u_ (fun k hk q => hlt.out k (.inl q) hk)); replace lst := Lib.hid (lst.out.upd u_ (fun k hk q => dwt.out k q hk)); have HBk1 := Lib.hid h1.out.bk; have q4 : w1.cell? ⟨gb, 4, none⟩ = some (.slice none 0 0) := HBk1.out.cell 4; have q5 : w1.cell? ⟨gb, 5, none⟩ = some (.slice none 0 0) := HBk1.out.cell 5; have q6 : w1.cell? ⟨gb, 6, none⟩ = some (.slice none 0 0) := HBk1.out.cell 6; have q7 : w1.cell? ⟨gb, 7, none⟩ = some (.slice none 0 0) := HBk1.out.cell 7; have q8 : w1.cell? ⟨gb, 8, none⟩ = some (.slice none 0 0) := HBk1.out.cell 8; have q9 : w1.cell? ⟨gb, 9, none⟩ = some (.slice none 0 0) := HBk1.out.cell 9; have q10 : w1.cell? ⟨gb, 10, none⟩ = some (.slice none 0 0) := HBk1.out.cell 10; have q11 : w1.cell? ⟨gb, 11, none⟩ = some (.slice t_.A t_.n t_.c) := HBk1.out.cell 11; have q12 : w1.cell? ⟨gb, 12, none⟩ = some (.slice none 0 0) := HBk1.out.cell 12; have q13 : w1.cell? ⟨gb, 13, none⟩ = some (.slice none 0 0) := HBk1.out.cell 13; have hw1 : Hid (B ≤ w1.heap.size) := Lib.hid (Nat.le_trans hw0.out u_.size); clear u_)
    | (go_at_call 134; go_loud (refine (ownTimes_any t_.A t_.c t_.n B Lt _ _ (Lib.hid h1.out.nt) (Lib.hid h1.out.ot.sl) lst (Lib.hid (fun k hk => ⟨fun q => hlt.out k (.inr q) (h1.out.rt k hk).1, (h1.out.ot.lt k hk).2⟩)) hnt (Lib.hid fewt.out.2) hw1).mono ?_); rintro e w2 ⟨rfl, u_⟩; have U2 : Hid (Upd (OwnS Lw Lt) w w2) := Lib.hid (U1.out.trans (u_.mono (fun k _ hk => (.inr hk)))); have h2 : Hid (BookR w2 gb R Lw Lt w_ t_) := Lib.hid (h1.out.upd u_ (fun k hk q => hlt.out k (.inr q) hk)); have HBk2 := Lib.hid h2.out.bk; have q12 : w2.cell? ⟨gb, 12, none⟩ = some (.slice none 0 0) := HBk2.out.cell 12; have q13 : w2.cell? ⟨gb, 13, none⟩ = some (.slice none 0 0) := HBk2.out.cell 13; have hw2 : Hid (B ≤ w2.heap.size) := Lib.hid (Nat.le_trans hw1.out u_.size); clear u_)
    | (go_at_call 123; go_loud (refine (ownBytes_nil _).mono ?_); rintro e w_ ⟨rfl, rfl⟩)
    | (go_at_call 124; go_loud (refine (ownTexts_nil _).mono ?_); rintro e w_ ⟨rfl, rfl⟩)
    | (go_at_call 125; go_loud (refine (ownInts_nil _).mono ?_); rintro e w_ ⟨rfl, rfl⟩)
    | (go_at_call 127; go_loud (refine (ownRow_nil _).mono ?_); rintro e w_ ⟨rfl, rfl⟩)
    | (go_at_call 128; go_loud (refine (ownSorts_nil _).mono ?_); rintro e w_ ⟨rfl, rfl⟩)
    | (go_at_call 129; go_loud (refine (ownPairs_nil _).mono ?_); rintro e w_ ⟨rfl, rfl⟩)
    | (go_at_call 130; go_loud (refine (ownFaults_nil _).mono ?_); rintro e w_ ⟨rfl, rfl⟩)
    | (go_at_call 131; go_loud (refine (ownColumns_nil _).mono ?_); rintro e w_ ⟨rfl, rfl⟩)
    | (go_at_call 132; go_loud (refine (ownCounteds_nil _).mono ?_); rintro e w_ ⟨rfl, rfl⟩)
    | (go_at_call 133; go_loud (refine (ownUpdates_nil _).mono ?_); rintro e w_ ⟨rfl, rfl⟩)
    | (go_at_call 135; go_loud (refine (ownExprs_nil _).mono ?_); rintro e w_ ⟨rfl, rfl⟩)
    | (go_at_call 136; go_loud (refine (ownRels_nil _).mono ?_); rintro e w_ ⟨rfl, rfl⟩)
    | fail)
  go_ret
  exact ⟨rfl, U2.out⟩
end Go.Proofs.YtdgbkpoickbidaaGreatDoor
namespace Go.Proofs.YtdgbkpoickbidaaGreatDoor
open Go.RowKit

def enT (x : Tm) : En := ⟨x.A, x.l.length, x.c⟩
theorem bookWords_litTimes (gb n cc : Nat) (R : Nat → Prop) (A : Option Addr) (Lw Lt : List En) (w_ t_ : En) (w : World) (h : Hid (BookR w gb R Lw Lt w_ t_)) (hl : Lw.length ≤ 100000) :
    Calls Tryz.prog 116 #[.pointer (some ⟨gb, 0, none⟩), .slice A n cc] w fun e w' => e = .returned (.tuple #[]) ∧ ∃ x, BookR w' gb (RN R w w') (Lw ++ [⟨A, n, cc⟩]) Lt x t_ ∧ Upd R w w' := bookWords_any gb n cc R A Lw Lt w_ t_ w h hl
set_option maxRecDepth 100000 in
set_option maxHeartbeats 4000000 in
theorem bookTimes_any (gb m cc : Nat) (R : Nat → Prop) (A : Option Addr) (Q : List Tm) (Lw Lt : List En) (w_ t_ : En) (w : World) (h : Hid (BookR w gb R Lw Lt w_ t_)) (hrw : Lw.length + m ≤ 100000) (hl : Lt.length ≤ 100000) (hm : Hid (m = Q.length)) (hs : Hid (Sl w 2 A m cc (tmsC Q))) (hsep : Hid (∀ k, blk A cc = some k → ¬ R k)) :
    Calls Tryz.prog 35 #[.pointer (some ⟨gb, 0, none⟩), .slice A m cc] w fun e w' => e = .returned (.tuple #[]) ∧ ∃ vw vt, BookR w' gb (RN R w w') (Lw ++ Q.map enT) (Lt ++ [⟨A, m, cc⟩]) vw vt ∧ Upd R w w' := by
  have HP0 : Hid (BookR w gb (RN R w w) (Lw ++ (Q.take 0).map enT) Lt w_ t_ ∧ Upd R w w) := Lib.hid ⟨by simp only [List.take_zero, List.map_nil, List.append_nil]; exact h.out.wide (fun k _ hk => .inl hk), Upd.refl _ _⟩
  go_enter Tryz.func35, Tryz.ntmps35
  go_wp2
  go_loopg [4] m (fun z v wr => ∃ (i : Nat) (vw : En), z = m - i ∧ i ≤ m ∧ v = .int .i64 i ∧ Hid (BookR wr gb (RN R w wr) (Lw ++ (Q.take i).map enT) Lt vw t_ ∧ Upd R w wr))
  case atStart => exact ⟨0, w_, rfl, Nat.zero_le _, rfl, HP0⟩
  case round =>
    clear HP0
    obtain ⟨i, vw, rfl, hi, rfl, HP⟩ := hrel
    by_cases hlt : i < m
    · have hil : i < Q.length := by rw [← hm.out]; exact hlt
      have hat : ∀ W, Upd R w W → ∃ ad, A = some ad ∧ W.cell? (ad.add (i * 2)) = some (.int .u64 (Q.getD i Tm.zero).e) ∧ W.cell? ⟨(ad.add (i * 2)).block, (ad.add (i * 2)).off + 1, none⟩ = some (.slice (Q.getD i Tm.zero).A (Q.getD i Tm.zero).l.length (Q.getD i Tm.zero).c) := fun W hW => own_at2 (hs.out.upd hW hsep.out) hlt (show tmC (Q.getD i Tm.zero) = [.int .u64 (Q.getD i Tm.zero).e, .slice (Q.getD i Tm.zero).A (Q.getD i Tm.zero).l.length (Q.getD i Tm.zero).c] from rfl) (fun q hq => tmsC_at Q i q hil hq)
      have HT : Hid (Q.take (i + 1) = Q.take i ++ [(Q.getD i Tm.zero)]) := Lib.hid (by rw [List.take_succ_eq_append_getElem hil, List.getD_eq_getElem?_getD, List.getElem?_eq_getElem hil]; rfl)
      obtain ⟨x, hx⟩ : ∃ x, (Q.getD i Tm.zero) = x := ⟨_, rfl⟩
      rw [hx] at hat HT
      obtain ⟨nw, hnw⟩ : ∃ nw, x.l.length = nw := ⟨_, rfl⟩
      simp only [hnw] at hat
      have HNw := Lib.hid hnw
      have HA := Lib.hid hat
      have HB := Lib.hid HP.out.1
      have HU := Lib.hid HP.out.2
      obtain ⟨ad, rfl, _, p0⟩ := hat wr HP.out.2
      have hlw : (Lw ++ (Q.take i).map enT).length ≤ 100000 := by rw [List.length_append, List.length_map, List.length_take]; omega
      clear hat hx hnw hil HP
      have p1 : True := trivial
      go_wp2_with (first
        | (go_at_call 116; have mk := p1; clear p1 mk; go_loud (refine (bookWords_litTimes gb nw x.c _ x.A (Lw ++ (Q.take i).map enT) Lt vw t_ _ HB hlw).mono ?_); rintro e w1 ⟨rfl, yw, b1, u1⟩; replace HB : Hid (BookR w1 gb (RN R w w1) ((Lw ++ (Q.take i).map enT) ++ [⟨x.A, nw, x.c⟩]) Lt yw t_) := Lib.hid (b1.wide (fun k _ hk => RN.step HU.out.size u1.size k hk)); replace HU : Hid (Upd R w w1) := Lib.hid (upd_rn HU.out u1); clear b1 u1; have p2 : True := trivial)
        | fail)
      go_roundg (m - (i + 1))
      case measure => omega
      case rel => exact ⟨i + 1, yw, rfl, by omega, by go_num, Lib.hid ⟨by have := HB.out; rw [HT.out]; simp only [List.map_append, ← List.append_assoc]; rw [← HNw.out] at this; exact this, HU.out⟩⟩
    · obtain rfl : i = m := by omega
      have hb := HP.out.1
      rw [show Q.take i = Q from List.take_of_length_le (by rw [← hm.out]; exact Nat.le_refl _)] at hb
      have hn : t_.n ≤ 100000 := by have := hb.nt; omega
      have HB := Lib.hid hb
      have HU := Lib.hid HP.out.2
      have hq := hb.bk.cell 11
      have hz := hb.bk.free 11
      obtain ⟨tA, tn, tc⟩ := t_
      replace hq : wr.cell? ⟨gb, 11, none⟩ = some (.slice tA tn tc) := hq
      replace hn : tn ≤ 100000 := hn
      clear hb HP
      go_wp2_with (at_builtin; go_loud (refine wpList_append_two _ elemL_OwnTimes 0 _ _ rfl rfl tA tn tc (ensC Lt) rfl (HB.out.ot.alloc _) (some ⟨wr.heap.size, 0, none⟩) 1 1 [.slice A i cc] rfl (Sl.one wr #[.slice A i cc] 27 1 rfl) (ensC_one [⟨A, i, cc⟩]) (by omega) (by decide) (Nat.zero_le _) ?_); intro A3 c3 w3 o3 g3 x3; have HP := Lib.hid (HB.out.put_t (x := ⟨A, i, cc⟩) _ o3 g3 x3); have b3 : Bk w3 gb 52 (bookC vw.v (.slice tA tn tc)) := (((Upd.refl (fun k => blk tA tc = some k) wr).alloc _).grown g3 (fun k hk => .inl hk)).block gb (Array.getElem?_eq_some_iff.1 HB.out.bk).1 (fun e => (HB.out.rt gb e).2 rfl) |>.trans HB.out.bk; have q3 := b3.cell 11; have z3 := b3.free 11; clear b3 o3 g3 x3)
      go_returns
      exact ⟨rfl, _, _, HP.out.1.wide (fun k _ hk => RN.step HU.out.size HP.out.2.size k hk), upd_rn HU.out HP.out.2⟩
end Go.Proofs.YtdgbkpoickbidaaGreatDoor
namespace Go.Proofs.YtdgbkpoickbidaaGreatDoor
open Go.RowKit

/-- the program's counts (gc, map bm), the document's (gr), the Book (gb), the lists told to it (words Pw, times Pt); tg tells whose a block is -/
structure CcM (w0 w : World) (gc bm n : Nat) (D : DataW Value) (L : List Cg) (gr : Nat) (A : Option Addr) (c m : Nat) (L' : List Cg) (gb : Nat) (tg : Nat → Nat) (Lw Lt : List En) (w_ t_ : En) (Pw Pt : List (En × List Value)) : Prop where
  ext : Ext w0 w
  lb : w0.heap.size ≤ bm
  lg : w0.heap.size ≤ gb
  bl : ∀ k, tg k = 4 → w0.heap.size ≤ k
  cb : Bk w gc 178 #[.map (some bm)]
  mp : MapC w bm n D L
  rc : RC w0 w gr A c m L'
  bo : BookR w gb (fun k => tg k = 4 ∧ k < w.heap.size) Lw Lt w_ t_
  hw : HoldAll w w0.heap.size 180 1 Pw
  ht : HoldAll w w0.heap.size 26 2 Pt
  fw : Far Pw
  ft : Far Pt
  wt : ∀ p ∈ Pw, ∀ q ∈ Pt, ∀ k, p.1.b = some k → q.1.b ≠ some k
  tb : tg bm = 1
  tc : tg gc = 6
  tr : ∀ k, RS gr A c k → tg k = 3
  tf : ∀ k, FootC L k → tg k = 2
  tw : ∀ p ∈ Pw, ∀ k, p.1.b = some k → tg k = 5
  tt : ∀ p ∈ Pt, ∀ k, p.1.b = some k → tg k = 5
theorem Sl.upd0 {S : Nat → Prop} {w w' : World} {size n c : Nat} {A : Option Addr} {xs : List Value} (h : Sl w size A n c xs) (x : Upd S w w') (hn : 0 < n → ∀ k, blk A c = some k → ¬ S k) : Sl w' size A n c xs := by
  rcases Nat.eq_zero_or_pos n with rfl | h0
  · exact ⟨h.1, h.2.1, h.2.2.1, h.2.2.2.1, fun q => absurd q (Nat.lt_irrefl _)⟩
  · exact h.upd x (hn h0)
theorem MapC.upd0 {S : Nat → Prop} {w w' : World} {b n : Nat} {D : DataW Value} {L : List Cg} (h : MapC w b n D L) (x : Upd S w w') (hb : ¬ S b) (hS : ∀ k, FootC L k → ¬ S k) : MapC w' b n D L := by
  refine ⟨?_, h.has, h.atk, h.keys, fun y hy => (h.ls y hy).upd0 x (fun h0 k hk => hS k ⟨y, hy, h0, hk⟩), h.inv, h.cnt⟩
  have hlt := h.own.lt
  obtain ⟨es, clock, hb2, r⟩ := h.own
  exact ⟨es, clock, (x.block b hlt hb).trans hb2, r⟩
theorem MapC.foot_lt {w : World} {b n : Nat} {D : DataW Value} {L : List Cg} (h : MapC w b n D L) {k : Nat} (hk : FootC L k) : k < w.heap.size := by
  obtain ⟨y, hy, h0, hb⟩ := hk
  have hs := h.ls y hy
  obtain ⟨ad, e, hc⟩ := hs.2.2.2.2 h0
  rw [e] at hb
  have hl : 0 < (wds y.t.l).length := by rw [wds_len]; exact h0
  have h1 := World.block_lt_of_cell? w _ (hc 0 _ (List.getElem?_eq_getElem hl))
  rw [block_add] at h1
  have : ad.block = k := by
    have := hs.2.1
    generalize y.t.c = cc at hb this
    cases cc with
    | zero => omega
    | succ cc => simpa [blk] using hb
  omega
/-- blocks from n on are t's -/
def tagN (tg : Nat → Nat) (n t : Nat) (k : Nat) : Nat := if k < n then tg k else t
theorem tagN_old {tg : Nat → Nat} {n t k : Nat} (h : k < n) : tagN tg n t k = tg k := by unfold tagN; rw [if_pos h]
theorem tagN_new {tg : Nat → Nat} {n t k : Nat} (h : n ≤ k) : tagN tg n t k = t := by unfold tagN; rw [if_neg (by omega)]
section
variable {w0 w w' : World} {gc bm n : Nat} {D : DataW Value} {L : List Cg} {gr : Nat} {A : Option Addr} {c m : Nat} {L' : List Cg} {gb : Nat} {tg : Nat → Nat} {Lw Lt : List En} {w_ t_ : En} {Pw Pt : List (En × List Value)}
theorem CcM.own_old (h : CcM w0 w gc bm n D L gr A c m L' gb tg Lw Lt w_ t_ Pw Pt) (t : Nat) : (∀ p ∈ Pw, ∀ k, p.1.b = some k → tagN tg w.heap.size t k = 5) ∧ (∀ p ∈ Pt, ∀ k, p.1.b = some k → tagN tg w.heap.size t k = 5) :=
  ⟨fun p hp k hk => by rw [tagN_old ((h.hw p hp).lt k hk).2]; exact h.tw p hp k hk, fun p hp k hk => by rw [tagN_old ((h.ht p hp).lt k hk).2]; exact h.tt p hp k hk⟩
theorem CcM.rs_old (h : CcM w0 w gc bm n D L gr A c m L' gb tg Lw Lt w_ t_ Pw Pt) (t : Nat) : ∀ k, RS gr A c k → tagN tg w.heap.size t k = 3 := fun k hk => by rw [tagN_old (h.rc.low k hk).2]; exact h.tr k hk
/-- the program's counts have changed -/
theorem CcM.cupd (h : CcM w0 w gc bm n D L gr A c m L' gb tg Lw Lt w_ t_ Pw Pt) {mC : Nat} {Ch : List Cg} {A1 : Option Addr} {c1 q1 : Nat} {R1 : List Cg} {D1 : DataW Value} {L1 : List Cg} (u : UpdOutI w bm n mC L Ch A1 c1 q1 R1 D1 L1 w') :
    CcM w0 w' gc bm (n + mC) D1 L1 gr A c m L' gb (tagN tg w.heap.size 2) Lw Lt w_ t_ Pw Pt := by
  have hb := h.mp.own.lt
  have ne : ∀ {k t : Nat}, tg k = t → t ≠ 1 → k ≠ bm := fun e ht q => ht (by rw [← e, q]; exact h.tb)
  obtain ⟨ow, ot⟩ := h.own_old 2
  refine ⟨ext_upd h.ext u.upd (fun k e => e ▸ h.lb), h.lb, h.lg, fun k e => ?_, bk_upd h.cb u.upd (fun e => ne h.tc (by decide) e), u.map, h.rc.upd u.upd (fun k hk e => ne (h.tr k hk) (by decide) e) (fun k e => e ▸ h.lb), (h.bo.upd u.upd (fun k hk e => ne hk.1 (by decide) e)).wide (fun k hk hr => ⟨by rw [tagN_old hr.2]; exact hr.1, hk⟩),
    fun p hp => (h.hw p hp).upd u.upd (fun k hk e => ne (h.tw p hp k hk) (by decide) e), fun p hp => (h.ht p hp).upd u.upd (fun k hk e => ne (h.tt p hp k hk) (by decide) e), h.fw, h.ft, h.wt, by rw [tagN_old hb]; exact h.tb, by rw [tagN_old h.cb.lt]; exact h.tc, h.rs_old 2, fun k hk => ?_, ow, ot⟩
  · unfold tagN at e
    split at e
    · exact h.bl k e
    · omega
  · rcases Nat.lt_or_ge k w.heap.size with q | q
    · rw [tagN_old q]
      rcases u.foot k hk with f | f
      · exact h.tf k f
      · omega
    · exact tagN_new q
/-- the document's counts have changed -/
theorem CcM.rupd (h : CcM w0 w gc bm n D L gr A c m L' gb tg Lw Lt w_ t_ Pw Pt) {Ch : List Cg} {A2 : Option Addr} {c2 q2 : Nat} {R2 : List Cg} {A' : Option Addr} {c' m' : Nat} {L2 : List Cg} (u : RUpdI w0 w gr A c L' Ch A2 c2 q2 R2 A' c' m' L2 w') :
    CcM w0 w' gc bm n D L gr A' c' m' L2 gb (tagN tg w.heap.size 3) Lw Lt w_ t_ Pw Pt := by
  have ne : ∀ {k t : Nat}, tg k = t → t ≠ 3 → ¬ RS gr A c k := fun e ht q => ht (by rw [← e]; exact h.tr _ q)
  have hb := h.mp.own.lt
  obtain ⟨ow, ot⟩ := h.own_old 3
  refine ⟨u.st.ext, h.lb, h.lg, fun k e => ?_, bk_upd h.cb u.upd (ne h.tc (by decide)), h.mp.upd0 u.upd (ne h.tb (by decide)) (fun k hk => ne (h.tf k hk) (by decide)), u.st, (h.bo.upd u.upd (fun k hk => ne hk.1 (by decide))).wide (fun k hk hr => ⟨by rw [tagN_old hr.2]; exact hr.1, hk⟩),
    fun p hp => (h.hw p hp).upd u.upd (fun k hk => ne (h.tw p hp k hk) (by decide)), fun p hp => (h.ht p hp).upd u.upd (fun k hk => ne (h.tt p hp k hk) (by decide)), h.fw, h.ft, h.wt, by rw [tagN_old hb]; exact h.tb, by rw [tagN_old h.cb.lt]; exact h.tc, fun k hk => ?_, fun k hk => by rw [tagN_old (h.mp.foot_lt hk)]; exact h.tf k hk, ow, ot⟩
  · unfold tagN at e
    split at e
    · exact h.bl k e
    · omega
  · rcases hk with rfl | hk
    · exact h.rs_old 3 _ (.inl rfl)
    · rcases u.new k hk with q | q
      · exact h.rs_old 3 _ (.inr q)
      · exact tagN_new q
/-- new memory -/
theorem CcM.grow (h : CcM w0 w gc bm n D L gr A c m L' gb tg Lw Lt w_ t_ Pw Pt) (x : Ext w w') {t : Nat} (ht : t ≠ 4) :
    CcM w0 w' gc bm n D L gr A c m L' gb (tagN tg w.heap.size t) Lw Lt w_ t_ Pw Pt := by
  obtain ⟨ow, ot⟩ := h.own_old t
  refine ⟨h.ext.trans x, h.lb, h.lg, fun k e => ?_, h.cb.ext x, h.mp.ext x, h.rc.grow x, (h.bo.ext x).wide (fun k hk hr => ⟨by rw [tagN_old hr.2]; exact hr.1, hk⟩), fun p hp => (h.hw p hp).ext x, fun p hp => (h.ht p hp).ext x, h.fw, h.ft, h.wt, by rw [tagN_old h.mp.own.lt]; exact h.tb, by rw [tagN_old h.cb.lt]; exact h.tc, h.rs_old t,
    fun k hk => by rw [tagN_old (h.mp.foot_lt hk)]; exact h.tf k hk, ow, ot⟩
  unfold tagN at e
  split at e
  · exact h.bl k e
  · omega
/-- a frontier has been told -/
theorem CcM.told (h : CcM w0 w gc bm n D L gr A c m L' gb tg Lw Lt w_ t_ Pw Pt) (x : Ext w w') {A3 : Option Addr} {c3 n3 : Nat} {M3 : List Tm} (hn : n3 = M3.length) (T : Tout w' w.heap.size A3 c3 M3) :
    CcM w0 w' gc bm n D L gr A c m L' gb (tagN tg w.heap.size 5) Lw Lt w_ t_ (Pw ++ M3.map fun x => (enT x, wds x.l)) (Pt ++ [(⟨A3, n3, c3⟩, tmsC M3)]) := by
  have g := h.grow x (t := 5) (by decide)
  have hs := h.ext.size
  have nw : ∀ {k}, w.heap.size ≤ k → tagN tg w.heap.size 5 k = 5 := fun q => tagN_new q
  have ow : ∀ p ∈ Pw, ∀ k, p.1.b = some k → k < w.heap.size := fun p hp k hk => ((h.hw p hp).lt k hk).2
  have ot : ∀ p ∈ Pt, ∀ k, p.1.b = some k → k < w.heap.size := fun p hp k hk => ((h.ht p hp).lt k hk).2
  have tw : ∀ x ∈ M3, ∀ k, (enT x).b = some k → w.heap.size ≤ k := fun x hx k hk => ((T.ls x hx).1.lt k hk).1
  subst hn
  have tt : ∀ k, blk A3 c3 = some k → w.heap.size ≤ k := fun k hk => (T.own.lt k hk).1
  refine ⟨g.ext, g.lb, g.lg, g.bl, g.cb, g.mp, g.rc, g.bo, fun p hp => ?_, fun p hp => ?_, ?_, ?_, fun p hp q hq k e1 e2 => ?_, g.tb, g.tc, g.tr, g.tf, fun p hp k hk => ?_, fun p hp k hk => ?_⟩
  · rcases List.mem_append.1 hp with hp | hp
    · exact g.hw p hp
    · obtain ⟨x, hx, rfl⟩ := List.mem_map.1 hp
      exact (T.ls x hx).1.mono hs
  · rcases List.mem_append.1 hp with hp | hp
    · exact g.ht p hp
    · rw [List.mem_singleton] at hp; subst hp; exact T.own.mono hs
  · refine List.pairwise_append.2 ⟨h.fw, List.pairwise_map.2 T.apart, fun a ha b hb k e1 e2 => ?_⟩
    obtain ⟨x, hx, rfl⟩ := List.mem_map.1 hb
    have := ow a ha k e1
    have := tw x hx k e2
    omega
  · refine List.pairwise_append.2 ⟨h.ft, List.pairwise_singleton _ _, fun a ha b hb k e1 e2 => ?_⟩
    rw [List.mem_singleton] at hb; subst hb
    have := ot a ha k e1
    have := tt k e2
    omega
  · rcases List.mem_append.1 hp with hp | hp <;> rcases List.mem_append.1 hq with hq | hq
    · exact h.wt p hp q hq k e1 e2
    · rw [List.mem_singleton] at hq; subst hq
      have := ow p hp k e1
      have := tt k e2
      omega
    · obtain ⟨x, hx, rfl⟩ := List.mem_map.1 hp
      have := tw x hx k e1
      have := ot q hq k e2
      omega
    · obtain ⟨x, hx, rfl⟩ := List.mem_map.1 hp
      rw [List.mem_singleton] at hq; subst hq
      exact (T.ls x hx).2 k e1 e2
  · rcases List.mem_append.1 hp with hp | hp
    · exact g.tw p hp k hk
    · obtain ⟨x, hx, rfl⟩ := List.mem_map.1 hp
      exact nw (tw x hx k hk)
  · rcases List.mem_append.1 hp with hp | hp
    · exact g.tt p hp k hk
    · rw [List.mem_singleton] at hp; subst hp; exact nw (tt k hk)
/-- the Book has been told -/
theorem CcM.book (h : CcM w0 w gc bm n D L gr A c m L' gb tg Lw Lt w_ t_ Pw Pt) {R : Nat → Prop} (hR : R = fun k => tg k = 4 ∧ k < w.heap.size) {Lw' Lt' : List En} {w1 t1 : En} (b : BookR w' gb (RN R w w') Lw' Lt' w1 t1) (u : Upd R w w') :
    CcM w0 w' gc bm n D L gr A c m L' gb (tagN tg w.heap.size 4) Lw' Lt' w1 t1 Pw Pt := by
  subst hR
  have ne : ∀ {k t : Nat}, tg k = t → t ≠ 4 → ¬ (tg k = 4 ∧ k < w.heap.size) := fun e ht q => ht (by rw [← e]; exact q.1)
  obtain ⟨ow, ot⟩ := h.own_old 4
  refine ⟨ext_upd h.ext u (fun k hk => h.bl k hk.1), h.lb, h.lg, fun k e => ?_, bk_upd h.cb u (ne h.tc (by decide)), h.mp.upd0 u (ne h.tb (by decide)) (fun k hk => ne (h.tf k hk) (by decide)), h.rc.upd u (fun k hk => ne (h.tr k hk) (by decide)) (fun k hk => h.bl k hk.1), b.wide (fun k hk hr => ?_),
    fun p hp => (h.hw p hp).upd u (fun k hk => ne (h.tw p hp k hk) (by decide)), fun p hp => (h.ht p hp).upd u (fun k hk => ne (h.tt p hp k hk) (by decide)), h.fw, h.ft, h.wt, by rw [tagN_old h.mp.own.lt]; exact h.tb, by rw [tagN_old h.cb.lt]; exact h.tc, h.rs_old 4, fun k hk => by rw [tagN_old (h.mp.foot_lt hk)]; exact h.tf k hk, ow, ot⟩
  · rcases Nat.lt_or_ge k w.heap.size with q | q
    · rw [tagN_old q] at e; exact h.bl k e
    · have := h.ext.size; omega
  · rcases hr with hr | hr
    · exact ⟨by rw [tagN_old hr.2]; exact hr.1, hk⟩
    · exact ⟨tagN_new hr.1, hk⟩
end
end Go.Proofs.YtdgbkpoickbidaaGreatDoor
namespace Go.Proofs.YtdgbkpoickbidaaGreatDoor
open Go.RowKit

theorem sameTime_any (e1 e2 : Int) (A1 A2 : Option Addr) (n1 n2 c1 c2 : Nat) (l1 l2 : List Int) (w : World) (h1 : Sl w 1 A1 n1 c1 (wds l1)) (h2 : Sl w 1 A2 n2 c2 (wds l2)) :
    Calls Tryz.prog 54 #[.agg #[.int .u64 e1, .slice A1 n1 c1], .agg #[.int .u64 e2, .slice A2 n2 c2]] w fun e w' => e = .returned (.bool (decide (e1 = e2 ∧ l1 = l2))) ∧ Ext w w' := by
  by_cases k1 : e1 = e2
  · have q1 : (e1 == e2) = true := by simpa using k1
    go_enter Tryz.func54, Tryz.ntmps54
    go_wp2_with (go_at_call 166; refine (sameWords_any A1 A2 n1 n2 c1 c2 l1 l2 _ (h1.ext (((Ext.refl w).alloc _).alloc _)) (h2.ext (((Ext.refl w).alloc _).alloc _))).mono ?_; rintro r w1 ⟨rfl, x1⟩)
    refine bodyPost_ret (v := .bool (decide (l1 = l2))) (by simp only [results, Tryz.results54]; go_simp) rfl ?_
    exact ⟨by simp [k1], (((Ext.refl w).alloc _).alloc _).trans x1⟩
  · have q1 : (e1 == e2) = false := by simpa using k1
    go_enter Tryz.func54, Tryz.ntmps54
    go_wp2
    refine bodyPost_ret (v := .bool false) (by simp only [results, Tryz.results54]; go_simp) rfl ?_
    exact ⟨by simp [k1], (((Ext.refl w).alloc _).alloc _)⟩
end Go.Proofs.YtdgbkpoickbidaaGreatDoor
namespace Go.Proofs.YtdgbkpoickbidaaGreatDoor
open Go.RowKit

def IfSame (b : Bool) (x y : TV) : Prop := x = y ↔ b = true
theorem tv_ext {L M : List Tm} (hl : L.length = M.length) : (∀ k, k < L.length → (L.getD k Tm.zero).v = (M.getD k Tm.zero).v) ↔ L.map Tm.v = M.map Tm.v := by
  constructor
  · intro h
    refine List.ext_getElem (by simpa using hl) fun k h1 h2 => ?_
    rw [List.length_map] at h1 h2
    have := h k h1
    rw [getT_v h1, getT_v h2, this]
  · intro h k hk
    rw [← getT_v hk, ← getT_v (hl ▸ hk)]
    simp only [h]
theorem sameTime_at {b : Bool} (e1 e2 : Int) (A1 A2 : Option Addr) (n1 n2 c1 c2 : Nat) (l1 l2 : List Int) (w : World) (hb : Hid (decide (e1 = e2 ∧ l1 = l2) = b)) (h1 : Hid (Sl w 1 A1 n1 c1 (wds l1))) (h2 : Hid (Sl w 1 A2 n2 c2 (wds l2))) :
    Calls Tryz.prog 54 #[.agg #[.int .u64 e1, .slice A1 n1 c1], .agg #[.int .u64 e2, .slice A2 n2 c2]] w fun e w' => e = .returned (.bool b) ∧ Ext w w' := hb.out ▸ sameTime_any e1 e2 A1 A2 n1 n2 c1 c2 l1 l2 w h1.out h2.out
set_option maxRecDepth 100000 in
set_option maxHeartbeats 400000 in
theorem sameTimes_diff (A1 A2 : Option Addr) (n1 n2 c1 c2 : Nat) (w : World) (hne : ((n1 : Int) != (n2 : Int)) = true) :
    Calls Tryz.prog 37 #[.slice A1 n1 c1, .slice A2 n2 c2] w fun e w' => e = .returned (.bool false) ∧ Ext w w' := by
  go_enter Tryz.func37, Tryz.ntmps37
  go_wp2
  go_ret
  exact ⟨rfl, Ext.refl _⟩
set_option maxRecDepth 100000 in
set_option maxHeartbeats 2000000 in
theorem sameTimes_same (A1 A2 : Option Addr) (n c1 c2 : Nat) (L M : List Tm) (w : World) (hn : Hid (n = L.length)) (hm : Hid (n = M.length)) (h1 : Hid (Tin w A1 c1 L)) (h2 : Hid (Tin w A2 c2 M)) :
    Calls Tryz.prog 37 #[.slice A1 n c1, .slice A2 n c2] w fun e w' => e = .returned (.bool (decide (L.map Tm.v = M.map Tm.v))) ∧ Ext w w' := by
  have hbig : n ≤ 9223372036854775807 := by rw [hn.out]; exact h1.out.sl.le
  have he : ((n : Int) != (n : Int)) = false := by simp
  go_enter Tryz.func37, Tryz.ntmps37
  go_wp2
  go_loopg [5] n (fun z v wr => ∃ k : Nat, z = n - k ∧ k ≤ n ∧ v = .int .i64 k ∧ Hid (∀ j, j < k → (L.getD j Tm.zero).v = (M.getD j Tm.zero).v) ∧ Hid (Ext w wr))
  case atStart => exact ⟨0, rfl, Nat.zero_le _, rfl, Lib.hid (fun j hj => absurd hj (by omega)), Lib.hid (Ext.refl _)⟩
  case round =>
    obtain ⟨k, rfl, hk, rfl, HA, HE⟩ := hrel
    by_cases hlt : k < n
    · have hkL : k < L.length := by rw [← hn.out]; exact hlt
      have hkM : k < M.length := by rw [← hm.out]; exact hlt
      obtain ⟨a1, rfl, p0, p1⟩ := (h1.out.ext HE.out).at (i := k) hkL
      obtain ⟨a2, rfl, q0, q1⟩ := (h2.out.ext HE.out).at (i := k) hkM
      have HX : Hid (Sl wr 1 (L.getD k Tm.zero).A (L.getD k Tm.zero).l.length (L.getD k Tm.zero).c (wds (L.getD k Tm.zero).l)) := Lib.hid ((h1.out.ext HE.out).ls _ (getT_mem hkL))
      have HY : Hid (Sl wr 1 (M.getD k Tm.zero).A (M.getD k Tm.zero).l.length (M.getD k Tm.zero).c (wds (M.getD k Tm.zero).l)) := Lib.hid ((h2.out.ext HE.out).ls _ (getT_mem hkM))
      obtain ⟨x, hx⟩ : ∃ x, L.getD k Tm.zero = x := ⟨_, rfl⟩
      obtain ⟨y, hy⟩ : ∃ y, M.getD k Tm.zero = y := ⟨_, rfl⟩
      rw [hx] at p0 p1 HX
      rw [hy] at q0 q1 HY
      obtain ⟨b, hb⟩ : ∃ b, decide (x.e = y.e ∧ x.l = y.l) = b := ⟨_, rfl⟩
      have HBb := Lib.hid hb
      have HXx := Lib.hid hx
      have HYy := Lib.hid hy
      have HV : Hid (IfSame b x.v y.v) := Lib.hid (by unfold IfSame; rw [← hb, decide_eq_true_iff]; exact ⟨fun h => ⟨congrArg Prod.fst h, congrArg Prod.snd h⟩, fun h => Prod.ext h.1 h.2⟩)
      clear hb hx hy hkL hkM
      obtain ⟨e, A, c, l⟩ := x
      obtain ⟨f, B, d, m⟩ := y
      go_wp2
      have X : Ext wr wr.drew := (Ext.refl wr).drew
      have y0 : ∀ y : Xt wr.drew, y.W.cell? (a1.add (k * 2)) = some (.int .u64 e) := fun y => y.x.cell (X.cell p0)
      have y1 : ∀ y : Xt wr.drew, y.W.cell? ⟨(a1.add (k * 2)).block, (a1.add (k * 2)).off + 1, none⟩ = some (.slice A l.length c) := fun y => y.x.cell (X.cell p1)
      have y2 : ∀ y : Xt wr.drew, y.W.cell? (a2.add (k * 2)) = some (.int .u64 f) := fun y => y.x.cell (X.cell q0)
      have y3 : ∀ y : Xt wr.drew, y.W.cell? ⟨(a2.add (k * 2)).block, (a2.add (k * 2)).off + 1, none⟩ = some (.slice B m.length d) := fun y => y.x.cell (X.cell q1)
      clear p0 p1 q0 q1
      refine wp_region_ord [0,0,3,7,0,0,48,112,255,511] (.flo [0,1,2,3,4,5,6,7] (.one 8 (.flo [9] (.fin)))) (by kernel_rfl) (by kernel_rfl) (by intro _ _ d _ _ h; cases d <;> exact h) ?_
      (refine ord_flo (pick_cons rfl (pick_cons rfl (pick_cons rfl (pick_cons rfl (pick_cons rfl (pick_cons rfl (pick_cons rfl (pick_cons rfl pick_nil)))))))) ?_; (repeat (go_big_quiet_step (fail))); refine wpQuiet_nil ?_; show ordWalk _ _ _ _ _ _ _)
      refine ord_one (pick_cons rfl pick_nil) ?_; intro K_ hK_
      go_wp2_with (go_at_call 54; go_loud (refine (sameTime_at e f A B l.length m.length c d l m _ HBb (Lib.hid (HX.out.ext X)) (Lib.hid (HY.out.ext X))).mono ?_); rintro r w1 ⟨rfl, x1⟩)
      (refine ord_flo (pick_cons rfl pick_nil) ?_; (repeat (go_big_quiet_step (fail))); refine wpQuiet_nil ?_; show ordWalk _ _ _ _ _ _ _)
      refine ord_fin ?_
      cases b with
      | true =>
        go_wp2
        go_roundg (n - (k + 1))
        case measure => omega
        case rel =>
          refine ⟨k + 1, by omega, by omega, by go_num, Lib.hid (fun j hj => ?_), Lib.hid ((HE.out.trans X).trans x1)⟩
          by_cases hjk : j < k
          · exact HA.out j hjk
          · obtain rfl : j = k := by omega
            rw [HXx.out, HYy.out]
            exact (show IfSame true _ _ from HV.out).2 rfl
      | false =>
        go_wp2
        go_ret
        refine ⟨ret_bool (Eq.symm (decide_eq_false fun h => ?_)), (HE.out.trans X).trans x1⟩
        have a := (tv_ext (by rw [← hn.out, ← hm.out])).2 h k (by rw [← hn.out]; exact hlt)
        rw [HXx.out, HYy.out] at a
        exact absurd ((show IfSame false _ _ from HV.out).1 a) (by decide)
    · obtain rfl : k = n := by omega
      go_wp2
      go_ret
      exact ⟨ret_bool (Eq.symm (decide_eq_true ((tv_ext (by rw [← hn.out, ← hm.out])).1 fun j hj => HA.out j (by rw [hn.out]; exact hj)))), HE.out⟩
theorem sameTimes_any (A1 A2 : Option Addr) (n m c1 c2 : Nat) (L M : List Tm) (w : World) (hn : Hid (n = L.length)) (hm : Hid (m = M.length)) (h1 : Hid (Tin w A1 c1 L)) (h2 : Hid (Tin w A2 c2 M)) :
    Calls Tryz.prog 37 #[.slice A1 n c1, .slice A2 m c2] w fun e w' => e = .returned (.bool (decide (L.map Tm.v = M.map Tm.v))) ∧ Ext w w' := by
  by_cases h : n = m
  · subst h
    exact sameTimes_same A1 A2 n c1 c2 L M w hn hm h1 h2
  · have hf : decide (L.map Tm.v = M.map Tm.v) = false := decide_eq_false fun e => h (by
      have := congrArg List.length e
      rw [List.length_map, List.length_map] at this
      rw [hn.out, hm.out, this])
    rw [hf]
    exact sameTimes_diff A1 A2 n m c1 c2 w (by simp; omega)
theorem sameTimes_yes (A1 A2 : Option Addr) (n m c1 c2 : Nat) (L M : List Tm) (w : World) (hn : Hid (n = L.length)) (hm : Hid (m = M.length)) (h1 : Hid (Tin w A1 c1 L)) (h2 : Hid (Tin w A2 c2 M)) (h : Hid (L.map Tm.v = M.map Tm.v)) :
    Calls Tryz.prog 37 #[.slice A1 n c1, .slice A2 m c2] w fun e w' => e = .returned (.bool true) ∧ Ext w w' := by
  have := sameTimes_any A1 A2 n m c1 c2 L M w hn hm h1 h2
  rwa [show decide (L.map Tm.v = M.map Tm.v) = true from decide_eq_true h.out] at this
end Go.Proofs.YtdgbkpoickbidaaGreatDoor
namespace Go.Proofs.YtdgbkpoickbidaaGreatDoor
open Go.RowKit

set_option maxRecDepth 100000 in
set_option maxHeartbeats 2000000 in
theorem changes_yes (AL AM : Option Addr) (cL cM n : Nat) (L M : List Cg) (w : World) (hn : Hid (n = L.length)) (hL : Hid (Cin w AL cL L)) (hM : Hid (Cin w AM cM M)) (he : Hid (L.map Cg.cv = M.map Cg.cv)) :
    Calls Tryz.prog 36 #[.slice AL n cL, .slice AM n cM] w fun r w' => r = .returned (.bool true) ∧ Ext w w' := by
  have hmax : n ≤ 9223372036854775807 := by rw [hn.out]; exact hL.out.sl.le
  have HLM : Hid (M.length = L.length) := Lib.hid (by have := congrArg List.length he.out; simpa using this.symm)
  go_enter Tryz.func36, Tryz.ntmps36
  go_wp2
  go_loopg [5] n (fun z v wr => ∃ k : Nat, z = n - k ∧ k ≤ n ∧ v = .int .i64 k ∧ Hid (Ext w wr))
  case atStart => exact ⟨0, rfl, Nat.zero_le _, rfl, Lib.hid (Ext.refl _)⟩
  case round =>
    obtain ⟨k, rfl, hk, rfl, HE⟩ := hrel
    by_cases hlt : k < n
    · have hkL : k < L.length := by rw [← hn.out]; exact hlt
      have hkM : k < M.length := by rw [HLM.out]; exact hkL
      obtain ⟨f, Ax, nx, cx, lx, d, ad, T, hx, hnx⟩ := (hL.out.ext HE.out).cgAt hkL
      obtain ⟨g, Ay, ny, cy, ly, d2, am, S, hy, hny⟩ := (hM.out.ext HE.out).cgAt hkM
      obtain ⟨a1, a2⟩ := getG_cv hkL
      obtain ⟨b1, b2⟩ := getG_cv hkM
      have e9 : (⟨⟨f, Ax, cx, lx⟩, d⟩ : Cg).cv = (⟨⟨g, Ay, cy, ly⟩, d2⟩ : Cg).cv := by
        rw [← hx, ← hy, ← a2, ← b2]
        simp only [he.out]
      have e10 : f = g := congrArg (fun p : CV => p.1.1) e9
      have e11 : lx = ly := congrArg (fun p : CV => p.1.2) e9
      have e12 : d = d2 := congrArg (fun p : CV => p.2) e9
      subst e10
      subst e11
      subst e12
      obtain ⟨rfl, q0, q1, q2, HXS⟩ := T
      obtain ⟨rfl, p0, p1, p2, HYS⟩ := S
      have hdd : (d != d) = false := by simp
      clear hx hy hnx hny a1 a2 b1 b2 e9 hkL hkM
      go_wp2
      (refine wp_region_ext (by kernel_rfl) (by kernel_rfl) ?_; (repeat (go_big_quiet_step ((go_at_call 54; with_reducible exact call_ext (sameTime_at (b := true) f f Ax Ay nx ny cx cy lx lx _ (Lib.hid (by simp)) (HXS _) (HYS _)))))); refine wpQuiet_nil ?_; rintro _ ⟨y, rfl⟩)
      go_wp2
      go_roundg (n - (k + 1))
      case measure => omega
      case rel => exact ⟨k + 1, by omega, by omega, by go_num, Lib.hid (HE.out.trans y.x)⟩
    · obtain rfl : n = k := by omega
      go_wp2
      go_ret
      exact ⟨rfl, HE.out⟩
end Go.Proofs.YtdgbkpoickbidaaGreatDoor
namespace Go.Proofs.YtdgbkpoickbidaaGreatDoor
open Go.RowKit

/-! ### plain -/
def pairK (V W : List TV) (x : TV) (k j : Nat) : List TV := pairsV (V.take k) W ++ ((W.take j).filter (same x)).map (maxT x)
theorem pairK_zero (V W : List TV) (x : TV) (k : Nat) : pairK V W x k 0 = pairsV (V.take k) W := by unfold pairK; simp
theorem pairs_snoc (V W : List TV) (x : TV) : pairsV (V ++ [x]) W = pairsV V W ++ (W.filter (same x)).map (maxT x) := by unfold pairsV; simp
theorem pairK_end {V W : List TV} {k : Nat} (h : k < V.length) : pairK V W V[k] k W.length = pairsV (V.take (k + 1)) W := by
  rw [List.take_succ_eq_append_getElem h, pairs_snoc]
  unfold pairK
  rw [List.take_length]
theorem pairK_yes {V W : List TV} {x : TV} {k j : Nat} (h : j < W.length) (hs : same x W[j] = true) : pairK V W x k (j + 1) = pairK V W x k j ++ [maxT x W[j]] := by
  unfold pairK
  rw [List.take_succ_eq_append_getElem h, List.filter_append, List.map_append, List.append_assoc]
  simp [hs]
theorem pairK_no {V W : List TV} {x : TV} {k j : Nat} (h : j < W.length) (hs : same x W[j] = false) : pairK V W x k (j + 1) = pairK V W x k j := by
  unfold pairK
  rw [List.take_succ_eq_append_getElem h, List.filter_append, List.map_append]
  simp [hs]
/-- counters of 32 bits, not too many -/
def Fine (L : List Tm) : Prop := ∀ x ∈ L, U32 x.l ∧ x.l.length ≤ 100000
theorem join_ok {mx : Int} {zl : List Int} (e1 e2 : Int) (A1 A2 : Option Addr) (n c1 c2 : Nat) (l1 l2 : List Int) (w : World) (hm : Hid (max e1 e2 = mx)) (hz : Hid (List.zipWith max l1 l2 = zl)) (h1 : Sl w 1 A1 n c1 (wds l1)) (h2 : Sl w 1 A2 n c2 (wds l2)) (u1 : U32 l1) (u2 : U32 l2) (hn : n ≤ 100000) :
    Calls Tryz.prog 191 #[.agg #[.int .u64 e1, .slice A1 n c1], .agg #[.int .u64 e2, .slice A2 n c2]] w fun e w' =>
      ∃ A c, e = .returned (.tuple #[.agg #[.int .u64 mx, .slice A n c], .int .u16 0]) ∧ Own w' w.heap.size 180 1 A n c (wds zl) ∧ Ext w w' := by
  rw [← hm.out, ← hz.out]
  exact join_same e1 e2 A1 A2 n c1 c2 l1 l2 w h1 h2 u1 u2 (by omega)
/-- what stands within the loops -/
structure JoinI (w wr : World) (A : Option Addr) (c : Nat) (M : List Tm) (V : List TV) : Prop where
  out : Tout wr w.heap.size A c M
  is : M.map Tm.v = V
  len : ∀ x ∈ M, x.l.length ≤ 1000000
  ext : Ext w wr
theorem JoinI.grow {w wr w2 : World} {A : Option Addr} {c : Nat} {M : List Tm} {V : List TV} (h : JoinI w wr A c M V) (x : Ext wr w2) : JoinI w w2 A c M V := ⟨h.out.ext x, h.is, h.len, h.ext.trans x⟩
theorem JoinI.push {w wr w2 w3 : World} {A A3 : Option Addr} {c c3 : Nat} {M : List Tm} {V : List TV} (h : JoinI w wr A c M V) (e2 : Ext wr w2) {e : Int} {Ax : Option Addr} {cx nx : Nat} {l : List Int} (hn : nx = l.length) (hl : nx ≤ 100000) (ox : Own w2 wr.heap.size 180 1 Ax nx cx (wds l))
    (o3 : Own w3 w.heap.size 26 2 A3 (M.length + 1) c3 (tmsC M ++ tmC ⟨e, Ax, cx, l⟩)) (ob : Obj) (g3 : (w2.alloc ob).grownBy w3 (blk A c)) (x3 : (A3 = A ∧ c3 = c) ∨ (blk A3 c3 = some (w2.alloc ob).heap.size ∧ Ext (w2.alloc ob) w3)) : JoinI w w3 A3 c3 (M ++ [⟨e, Ax, cx, l⟩]) (V ++ [(e, l)]) := by
  subst hn
  refine ⟨h.out.push e2 ox h.ext.size ob o3 g3 x3, by rw [List.map_append, h.is]; rfl, fun y hy => ?_, ((h.ext.trans e2).alloc ob).grown g3 (fun k hk => (h.out.own.lt k hk).1)⟩
  rcases List.mem_append.1 hy with hy | hy
  · exact h.len y hy
  · rw [List.mem_singleton] at hy; subst hy; show l.length ≤ _; omega
set_option maxRecDepth 100000 in
set_option maxHeartbeats 8000000 in
theorem chjoin_any (AL AM : Option Addr) (cL cM m n : Nat) (L M : List Tm) (w : World) (hm : Hid (m = L.length)) (hn : Hid (n = M.length)) (hL : Hid (Tin w AL cL L)) (hM : Hid (Tin w AM cM M)) (fL : Hid (Fine L)) (fM : Hid (Fine M)) (hm9 : m ≤ 1000) (hn9 : n ≤ 1000) :
    Calls Tryz.prog 139 #[.slice AL m cL, .slice AM n cM] w (OfOut (joinV (L.map Tm.v) (M.map Tm.v)) w) := by
  have HJ0 : Hid (JoinI w w none 0 [] (pairsV ((L.map Tm.v).take 0) (M.map Tm.v))) := Lib.hid ⟨Tout.nil _ _, rfl, fun x hx => (nomatch hx), Ext.refl _⟩
  go_enter Tryz.func139, Tryz.ntmps139
  go_wp2
  go_loopg [5, 14] m (fun z v5 v14 wr => ∃ (k : Nat) (A : Option Addr) (c q : Nat) (R : List Tm), z = m - k ∧ k ≤ m ∧ v14 = .int .i64 k ∧ v5 = .slice A q c ∧ Hid (q = R.length) ∧ Hid (JoinI w wr A c R (pairsV ((L.map Tm.v).take k) (M.map Tm.v))) ∧ q ≤ k * 1000)
  case atStart => exact ⟨0, none, 0, 0, [], rfl, Nat.zero_le _, rfl, rfl, Lib.hid rfl, HJ0, Nat.zero_le _⟩
  case round =>
    clear HJ0
    obtain ⟨k, A, c, q, R, rfl, hk, rfl, rfl, HQ, HJ, hq⟩ := hrel
    by_cases hlt : k < m
    · have hkL : k < L.length := by rw [← hm.out]; exact hlt
      obtain ⟨ad, rfl, q0, q1⟩ := (hL.out.ext HJ.out.ext).at (i := k) hkL
      have HXS : Hid (Sl w 1 (L.getD k Tm.zero).A (L.getD k Tm.zero).l.length (L.getD k Tm.zero).c (wds (L.getD k Tm.zero).l)) := Lib.hid (hL.out.ls _ (getT_mem hkL))
      have hf := fL.out _ (getT_mem hkL)
      have hkv := map_at hkL
      obtain ⟨x, hx⟩ : ∃ x, L.getD k Tm.zero = x := ⟨_, rfl⟩
      rw [hx] at q0 q1 HXS hf hkv
      have HKV := Lib.hid hkv
      have HF := Lib.hid hf
      clear hx hkv hkL hf
      obtain ⟨e, Ax, cx, l⟩ := x
      obtain ⟨nx, hnx⟩ : ∃ nx, l.length = nx := ⟨_, rfl⟩
      have HNX := Lib.hid hnx
      replace q0 : wr.cell? (ad.add (k * 2)) = some (.int .u64 e) := q0
      replace q1 : wr.cell? ⟨(ad.add (k * 2)).block, (ad.add (k * 2)).off + 1, none⟩ = some (.slice Ax l.length cx) := q1
      replace HXS : Hid (Sl w 1 Ax l.length cx (wds l)) := HXS
      replace HF : Hid (U32 l ∧ l.length ≤ 100000) := HF
      have hnx9 := HF.out.2
      rw [hnx] at q1 HXS hnx9
      clear hnx
      have HB0 : Hid (Bk (wr.alloc (.cells #[.int .u64 e, .slice Ax nx cx] 26)) wr.heap.size 26 #[.int .u64 e, .slice Ax nx cx]) := Lib.hid (Bk.new wr _ _)
      have HJ1 : Hid (JoinI w (wr.alloc (.cells #[.int .u64 e, .slice Ax nx cx] 26)) A c R (pairK (L.map Tm.v) (M.map Tm.v) (e, l) k 0)) := Lib.hid (by rw [pairK_zero]; exact HJ.out.grow ((Ext.refl wr).alloc _))
      have HA0 : Hid (blk A c ≠ some wr.heap.size) := Lib.hid (fun h => by have := (HJ.out.out.own.lt _ h).2; omega)
      clear HJ
      go_wp2
      obtain ⟨gx, hgx⟩ : ∃ gx, wr.heap.size = gx := ⟨_, rfl⟩
      rw [hgx] at HB0 HA0 ⊢
      obtain ⟨wo, hwo⟩ : ∃ wo : World, wo = wr.alloc (.cells #[.int .u64 e, .slice Ax nx cx] 26) := ⟨_, rfl⟩
      rw [← hwo] at HB0 HJ1 ⊢
      clear hwo hgx q0 q1
      go_loopg [5, 20] n (fun z v5 v20 wi => ∃ (j : Nat) (A : Option Addr) (c q : Nat) (R : List Tm), z = n - j ∧ j ≤ n ∧ v20 = .int .i64 j ∧ v5 = .slice A q c ∧ Hid (q = R.length) ∧ Hid (JoinI w wi A c R (pairK (L.map Tm.v) (M.map Tm.v) (e, l) k j)) ∧ Hid (Bk wi gx 26 #[.int .u64 e, .slice Ax nx cx]) ∧ Hid (blk A c ≠ some gx) ∧ q ≤ k * 1000 + j)
      case atStart => exact ⟨0, A, c, q, R, rfl, Nat.zero_le _, rfl, rfl, HQ, HJ1, HB0, HA0, by omega⟩
      case round =>
        clear HJ1 HB0 HA0 HQ
        obtain ⟨j, A, c, q, R, rfl, hj, rfl, rfl, HQ, HJ, HB, HA, hq⟩ := hrel
        by_cases hjt : j < n
        · have hjM : j < M.length := by rw [← hn.out]; exact hjt
          obtain ⟨am, rfl, p0, p1⟩ := (hM.out.ext HJ.out.ext).at (i := j) hjM
          have HYS : Hid (Sl w 1 (M.getD j Tm.zero).A (M.getD j Tm.zero).l.length (M.getD j Tm.zero).c (wds (M.getD j Tm.zero).l)) := Lib.hid (hM.out.ls _ (getT_mem hjM))
          have hf := fM.out _ (getT_mem hjM)
          have hkv := map_at hjM
          obtain ⟨y, hy⟩ : ∃ y, M.getD j Tm.zero = y := ⟨_, rfl⟩
          rw [hy] at p0 p1 HYS hf hkv
          have HJV := Lib.hid hkv
          have HG := Lib.hid hf
          clear hy hkv hjM hf
          obtain ⟨f, Ay, cy, ly⟩ := y
          obtain ⟨ny, hny⟩ : ∃ ny, ly.length = ny := ⟨_, rfl⟩
          have HNY := Lib.hid hny
          replace p0 : wr.cell? (am.add (j * 2)) = some (.int .u64 f) := p0
          replace p1 : wr.cell? ⟨(am.add (j * 2)).block, (am.add (j * 2)).off + 1, none⟩ = some (.slice Ay ly.length cy) := p1
          replace HYS : Hid (Sl w 1 Ay ly.length cy (wds ly)) := HYS
          replace HG : Hid (U32 ly ∧ ly.length ≤ 100000) := HG
          rw [hny] at p1 HYS
          clear hny
          have XY : Hid (Ext wr (wr.alloc (.cells #[.int .u64 f, .slice Ay ny cy] 26))) := Lib.hid ((Ext.refl _).alloc _)
          have c0 : (wr.alloc (.cells #[.int .u64 f, .slice Ay ny cy] 26)).cell? ⟨gx, 0, none⟩ = some (.int .u64 e) := (HB.out.ext XY.out).cell 0
          have c1 : (wr.alloc (.cells #[.int .u64 f, .slice Ay ny cy] 26)).cell? ⟨gx, 1, none⟩ = some (.slice Ax nx cx) := (HB.out.ext XY.out).cell 1
          by_cases hs : nx = ny
          · subst hs
            obtain ⟨mx, hmx⟩ : ∃ mx, max e f = mx := ⟨_, rfl⟩
            obtain ⟨zl, hzl⟩ : ∃ zl, List.zipWith max l ly = zl := ⟨_, rfl⟩
            have HMX := Lib.hid hmx
            have HZL := Lib.hid hzl
            clear hmx hzl
            have HZN : Hid (nx = zl.length) := Lib.hid (by have a := HNX.out; have b := HNY.out; rw [← HZL.out, List.length_zipWith, a, b]; simp)
            go_wp2_with (first
              | (go_at_call 191; go_loud (refine (join_ok e f Ax Ay nx cx cy l ly _ HMX HZL ((HXS.out.ext HJ.out.ext).ext XY.out) ((HYS.out.ext HJ.out.ext).ext XY.out) HF.out.1 HG.out.1 hnx9).mono ?_); rintro r w3 ⟨A3, c3, rfl, o3, x3⟩; have HO3 := Lib.hid o3; have X3 := Lib.hid x3; clear o3 x3)
              | (at_builtin; go_loud (refine wpList_append_two _ elemTimes w.heap.size _ _ rfl rfl A q c (tmsC R) rfl (by rw [HQ.out]; exact ((((HJ.out.out.ext XY.out).ext X3.out).own.alloc _).alloc _)) (some ⟨w3.heap.size + 1, 0, none⟩) 1 1 (tmC ⟨mx, A3, c3, zl⟩) rfl (by rw [show tmC ⟨mx, A3, c3, zl⟩ = [.int .u64 mx, .slice A3 nx c3] by rw [HZN.out]; rfl]; have qq := Sl.one (w3.alloc (.cells #[.int .u64 mx, .slice A3 nx c3] 26)) #[.int .u64 mx, .slice A3 nx c3] 26 2 rfl; simpa using qq) (by rw [show tmC ⟨mx, A3, c3, zl⟩ = [.int .u64 mx, .slice A3 nx c3] by rw [HZN.out]; rfl]; exact fun u hu => by simp at hu; rcases hu with rfl | rfl <;> rfl) (by omega) (by decide) (Nat.le_trans HJ.out.ext.size (Nat.le_trans XY.out.size (Nat.le_trans X3.out.size (Ext.size (((Ext.refl w3).alloc _).alloc _))))) ?_); intro A5 c5 w5 o5 g5 x5; have HO5 := Lib.hid o5; have HG5 := Lib.hid g5; have HX5 := Lib.hid x5; clear o5 g5 x5))
            go_roundg (n - (j + 1))
            case measure => omega
            case rel =>
              have hJ1 := HJ.out.grow XY.out
              have hp := hJ1.push (X3.out.alloc (.cells #[.int .u64 mx, .slice A3 nx c3] 26)) HZN.out hnx9 (HO3.out.alloc _) (by rw [← HQ.out]; exact HO5.out) _ HG5.out HX5.out
              have hgl := HB.out.lt
              have hs1 := XY.out.size
              have hs2 := X3.out.size
              have hs3 := (Ext.refl w3).alloc (.cells #[.int .u64 mx, .slice A3 nx c3] 26) |>.size
              refine ⟨j + 1, A5, c5, q + 1, R ++ [⟨mx, A3, c3, zl⟩], by omega, by omega, by go_num, rfl, Lib.hid (by rw [List.length_append, HQ.out]; rfl), Lib.hid ?_, Lib.hid ?_, Lib.hid (fun h => ?_), by omega⟩
              · obtain ⟨h1, h2⟩ := HJV.out
                rw [pairK_yes h1 (by rw [h2]; exact decide_eq_true (by have a := HNX.out; have b := HNY.out; show l.length = ly.length; omega)), h2]
                have e9 : maxT (e, l) (⟨f, Ay, cy, ly⟩ : Tm).v = (mx, zl) := by show (max e f, List.zipWith max l ly) = _; rw [HMX.out, HZL.out]
                rw [e9]
                exact hp
              · exact ((((HB.out.ext XY.out).ext X3.out).alloc _).alloc _).grown HG5.out HA.out
              · rcases HX5.out with ⟨rfl, rfl⟩ | ⟨h1, _⟩
                · exact HA.out h
                · rw [h1] at h
                  injection h with h
                  have := ((Ext.refl (w3.alloc (.cells #[.int .u64 mx, .slice A3 nx c3] 26))).alloc (.cells #[.int .u64 mx, .slice A3 nx c3] 26)).size
                  omega
          · have hne : ((nx : Int) != (ny : Int)) = true := by simp; omega
            have HS := Lib.hid hs
            clear hs
            go_wp2_with (first
              | (go_at_call 191; go_loud (refine (join_diff e f Ax Ay nx ny cx cy _ hne).mono ?_); rintro r w3 ⟨rfl, x3⟩; have X3 := Lib.hid x3; clear x3))
            go_roundg (n - (j + 1))
            case measure => omega
            case rel =>
              have XX := (XY.out.trans X3.out).alloc (.cells #[.int .u64 0, .slice none 0 0] 26)
              refine ⟨j + 1, A, c, q, R, by omega, by omega, by go_num, rfl, HQ, Lib.hid ?_, Lib.hid (HB.out.ext XX), HA, by omega⟩
              obtain ⟨h1, h2⟩ := HJV.out
              rw [pairK_no h1 (by rw [h2]; exact decide_eq_false (by have a := HNX.out; have b := HNY.out; have := HS.out; show ¬ l.length = ly.length; omega))]
              exact HJ.out.grow XX
        · obtain rfl : j = n := by omega
          go_wp2
          go_roundg (m - (k + 1))
          case measure => omega
          case rel =>
            refine ⟨k + 1, A, c, q, R, by omega, by omega, by go_num, rfl, HQ, Lib.hid ?_, by omega⟩
            obtain ⟨h1, h2⟩ := HKV.out
            have hJ := HJ.out
            rw [show j = (M.map Tm.v).length by rw [List.length_map]; exact hn.out, show ((e, l) : TV) = (L.map Tm.v)[k] from h2.symm, pairK_end h1] at hJ
            exact hJ
    · obtain rfl : k = m := by omega
      go_wp2_with (first
        | (go_at_call 137; go_loud (refine (of_any A c q R _ HQ (Lib.hid HJ.out.out.tin) (Lib.hid HJ.out.len) (by omega)).mono ?_); rintro r w4 ⟨A4, c4, n4, M4, rfl, h4, t4, v4, x4⟩; have HO : Hid (OfOut (ofV (R.map Tm.v)) wr (.returned (.slice A4 n4 c4)) w4) := Lib.hid ⟨A4, c4, n4, M4, rfl, h4, t4, v4, x4⟩; clear h4 t4 v4 x4))
      go_ret
      have hb := HO.out.back HJ.out.ext
      rw [HJ.out.is, show k = (L.map Tm.v).length by rw [List.length_map]; exact hm.out, List.take_length] at hb
      exact hb
end Go.Proofs.YtdgbkpoickbidaaGreatDoor
