/- What sums keep: their keys are among those summed; they are no longer. penstock/penstockref00.ownWords: it says so of lists that have memory of their own. penstock/penstockref00.ownRow: it says so of lists that have memory of their own. penstock/penstockref00.ownCounteds: it says so of lists that have memory of their own. penstock/penstockref00.ownUpdates: it says so of lists that have memory of their own. penstock/penstockref00.ownTimes: it says so of lists that have memory of their own. penstockref00.Book: Words, Row, Own. penstockref00.Book: Updates. penstockref00.Book: Counteds. penstockref00.Book: Times. The lists that calls have made and that the Book is told: each in memory of its own. Conditions: each theorem states its own. -/
import Derived.Test.YtdgbkpoickbidaaGreatDoorDt7
import Derived.Test.YtdgbkpoickbidaaGreatDoorDt2
import Derived.Deep.LoopGhost
import Derived.Test.YtdgbkpoickbidaaGreatDoorDt4
import Derived.Test.YtdgbkpoickbidaaGreatDoorDt3
namespace Go.Proofs.YtdgbkpoickbidaaGreatDoor
open Go.RowKit

namespace UdS
theorem fold_key : ∀ (U acc : List V) (y : V), y ∈ U.foldl addV acc → (∃ x ∈ U, x.1 = y.1) ∨ ∃ x ∈ acc, x.1 = y.1
  | [], acc, y, h => .inr ⟨y, h, rfl⟩
  | a :: U, acc, y, h => by
    rcases fold_key U (addV acc a) y h with ⟨x, hx, e⟩ | ⟨x, hx, e⟩
    · exact .inl ⟨x, List.mem_cons_of_mem _ hx, e⟩
    · rcases addV_key _ _ _ hx with q | ⟨z, hz, q⟩
      · exact .inl ⟨a, List.mem_cons_self .., q.symm.trans e⟩
      · exact .inr ⟨z, hz, q.trans e⟩
theorem sumV_key {U : List V} {y : V} (h : y ∈ sumV U) : ∃ x ∈ U, x.1 = y.1 := by
  rcases fold_key U [] y (List.mem_filter.1 h).1 with q | ⟨x, hx, _⟩
  · exact q
  · cases hx
theorem fold_len : ∀ (U acc : List V), (U.foldl addV acc).length ≤ acc.length + U.length
  | [], acc => Nat.le_refl _
  | a :: U, acc => by
    have h1 := fold_len U (addV acc a)
    have h2 := addV_len acc a
    show (U.foldl addV (addV acc a)).length ≤ acc.length + (U.length + 1)
    omega
theorem sumV_len (U : List V) : (sumV U).length ≤ U.length := by
  have h1 := List.length_filter_le (fun x : V => !(x.2 == 0)) (sumAll U)
  have h2 := fold_len U []
  unfold sumV
  have h3 : (sumAll U).length ≤ ([] : List V).length + U.length := h2
  simp only [List.length_nil] at h3
  omega
end UdS
theorem raddV_key : ∀ (R : List V) (x y : V), y ∈ addV R x → y.1 = x.1 ∨ ∃ z ∈ R, z.1 = y.1
  | [], x, y, h => .inl (by rw [List.mem_singleton.1 h])
  | a :: R, x, y, h => by
    unfold addV at h
    split at h
    · rcases List.mem_cons.1 h with rfl | h
      · exact .inr ⟨_, List.mem_cons_self .., rfl⟩
      · rcases raddV_key R x y h with q | ⟨z, hz, q⟩
        · exact .inl q
        · exact .inr ⟨z, List.mem_cons_of_mem _ hz, q⟩
    · split at h
      · rcases List.mem_cons.1 h with rfl | h
        · exact .inr ⟨_, List.mem_cons_self .., rfl⟩
        · exact .inr ⟨y, List.mem_cons_of_mem _ h, rfl⟩
      · rcases List.mem_cons.1 h with rfl | h
        · exact .inl rfl
        · exact .inr ⟨y, h, rfl⟩
theorem rfold_key : ∀ (U acc : List V) (y : V), y ∈ U.foldl addV acc → (∃ x ∈ U, x.1 = y.1) ∨ ∃ x ∈ acc, x.1 = y.1
  | [], acc, y, h => .inr ⟨y, h, rfl⟩
  | a :: U, acc, y, h => by
    rcases rfold_key U (addV acc a) y h with ⟨x, hx, e⟩ | ⟨x, hx, e⟩
    · exact .inl ⟨x, List.mem_cons_of_mem _ hx, e⟩
    · rcases raddV_key _ _ _ hx with q | ⟨z, hz, q⟩
      · exact .inl ⟨a, List.mem_cons_self .., q.symm.trans e⟩
      · exact .inr ⟨z, hz, q.trans e⟩
theorem rsumV_key {U : List V} {y : V} (h : y ∈ sumV U) : ∃ x ∈ U, x.1 = y.1 := by
  rcases rfold_key U [] y (List.mem_filter.1 h).1 with q | ⟨x, hx, _⟩
  · exact q
  · cases hx
theorem rfold_len : ∀ (U acc : List V), (U.foldl addV acc).length ≤ acc.length + U.length
  | [], acc => Nat.le_refl _
  | a :: U, acc => by
    have h1 := rfold_len U (addV acc a)
    have h2 := addV_len acc a
    show (U.foldl addV (addV acc a)).length ≤ acc.length + (U.length + 1)
    omega
theorem rsumV_len (U : List V) : (sumV U).length ≤ U.length := by
  have h1 := List.length_filter_le (fun x : V => !(x.2 == 0)) (sumAll U)
  have h2 := rfold_len U []
  unfold sumV
  have h3 : (sumAll U).length ≤ ([] : List V).length + U.length := h2
  simp only [List.length_nil] at h3
  omega
/-- an update's size -/
def SmallU (v : UV) : Prop := v.1.1.length ≤ 10000 ∧ v.1.2.2.length ≤ 10000
theorem small_sum {U : List UV} (h : ∀ v ∈ U, SmallU v) : ∀ v ∈ UdS.sumV U, SmallU v := fun v hv => by
  obtain ⟨x, hx, e⟩ := UdS.sumV_key hv
  have := h x hx
  unfold SmallU at this ⊢
  rwa [e] at this
theorem small_adv {U : List UV} {S : List TV} (h : ∀ v ∈ U, SmallU v) : ∀ v ∈ U.map (advK S), SmallU v := fun v hv => by
  obtain ⟨x, hx, rfl⟩ := List.mem_map.1 hv
  refine ⟨(h x hx).1, ?_⟩
  show (advV S x.1.2).2.length ≤ _
  rw [advV_len]
  exact (h x hx).2
theorem small_at {U : List UV} {t : TV} (h : ∀ v ∈ U, SmallU v) : ∀ v ∈ sumV (atV U t), v.1.length ≤ 10000 := fun v hv => by
  obtain ⟨x, hx, e⟩ := rsumV_key hv
  obtain ⟨y, hy, rfl⟩ := List.mem_map.1 hx
  rw [← e]
  exact (h y (List.mem_filter.1 hy).1).1
theorem atV_len (U : List UV) (t : TV) : (atV U t).length ≤ U.length := by
  unfold atV
  rw [List.length_map]
  exact List.length_filter_le _ _
theorem InU.of_uv {x y : Ud} (h : InU y) (e : x.uv = y.uv) : InU x := by
  have e1 : x.l = y.l := congrArg (fun q : UV => q.1.1) e
  have e2 : x.t.e = y.t.e := congrArg (fun q : UV => q.1.2.1) e
  have e3 : x.t.l = y.t.l := congrArg (fun q : UV => q.1.2.2) e
  have e4 : x.d = y.d := congrArg (fun q : UV => q.2) e
  refine ⟨⟨?_, ?_, ?_, ?_⟩, by rw [e3]; exact h.tu, by rw [e3]; exact h.tn, by rw [e2]; exact h.te⟩
  · show RwTxt x.l; rw [e1]; exact h.row.txt
  · show RwInt x.l; rw [e1]; exact h.row.int
  · show _ ≤ x.d ∧ x.d ≤ _; rw [e4]; exact h.row.num
  · show x.l.length ≤ _; rw [e1]; exact h.row.len
theorem inU_map {L M : List Ud} (h : ∀ x ∈ L, InU x) (e : M.map Ud.uv = L.map Ud.uv) : ∀ x ∈ M, InU x := fun x hx => by
  have : x.uv ∈ L.map Ud.uv := by rw [← e]; exact List.mem_map.2 ⟨x, hx, rfl⟩
  obtain ⟨y, hy, q⟩ := List.mem_map.1 this
  exact (h y hy).of_uv q.symm
end Go.Proofs.YtdgbkpoickbidaaGreatDoor
namespace Go.Proofs.YtdgbkpoickbidaaGreatDoor
open Go.RowKit

def mkOwnWords (i : Int) (k : Nat) : List Value := [.int .u32 (IntKind.u32.wrap (i * 1000 + (k : Int)))]
theorem mkOwnWords_len (i : Int) (k : Nat) : (mkOwnWords i k).length = 1 := rfl
theorem mkOwnWords_one (i : Int) (k : Nat) : ∀ u ∈ mkOwnWords i k, u.oneCell' = true := by intro u hu; simp [mkOwnWords] at hu; rcases hu with rfl <;> rfl
theorem elemL_OwnWords : Elem Tryz.prog 40 24 1 24 (.slice none 0 0) := ⟨by kernel_rfl, by kernel_rfl, rfl, by decide⟩
set_option maxRecDepth 100000 in
set_option maxHeartbeats 8000000 in
theorem ownWords_any (OA : Option Addr) (oc m B : Nat) (L : List En) (f : Nat → List Value) (w : World) (hm : Hid (m = L.length)) (hs : Hid (Sl w 1 OA m oc (ensC L))) (hl : Hid (Lists w B 180 1 L f)) (hf : Hid (∀ k, blk OA oc = some k → ¬ Foot L k ∧ k < w.heap.size)) (hm9 : m ≤ 10000) (hn : Hid (∀ i, i < L.length → (ena L i).n ≤ 1000000)) (hBw : Hid (B ≤ w.heap.size)) :
    Calls Tryz.prog 126 #[.slice OA m oc] w fun e w' => e = .returned (.bool true) ∧ Upd (Foot L) w w' := by
  have HP0 : Hid (Ph1 mkOwnWords w w B 180 1 L 0 f) := Lib.hid ⟨hl.out, fun j hj => by omega, Upd.refl _ _⟩
  have hcell : Hid (∀ (wr : World) (i : Nat), Upd (Foot L) w wr → i < m → ∃ ad, OA = some ad ∧ wr.cell? (ad.add i) = some (ena L i).v) := Lib.hid (fun wr i hu hi => ens_cell (hs.out.upd hu (fun k hk => (hf.out k hk).1)) hi)
  go_enter Tryz.func126, Tryz.ntmps126
  go_wp2
  go_loopg [3] m (fun z v wr => ∃ (i : Nat) (f : Nat → List Value), z = m - i ∧ i ≤ m ∧ v = .int .i64 i ∧ Hid (Ph1 mkOwnWords w wr B 180 1 L i f))
  case atStart => exact ⟨0, f, rfl, Nat.zero_le _, rfl, HP0⟩
  case round =>
    clear HP0
    obtain ⟨i, f, rfl, hi, rfl, HP⟩ := hrel
    obtain ⟨wo, hwo⟩ : ∃ wo : World, wo = wr := ⟨_, rfl⟩
    rw [← hwo] at HP ⊢
    clear hwo
    by_cases hlt : i < m
    · have hil : i < L.length := by rw [← hm.out]; exact hlt
      obtain ⟨ad, rfl, p0⟩ := hcell.out wo i HP.out.upd hlt
      have hn9 := hn.out i hil
      have HIL := Lib.hid hil
      obtain ⟨x, hx⟩ : ∃ x, ena L i = x := ⟨_, rfl⟩
      rw [hx] at p0 hn9
      obtain ⟨A, n, c⟩ := x
      have HXN : Hid ((ena L i).n = n) := Lib.hid (by rw [hx])
      have HX := Lib.hid hx
      clear hil hx
      replace p0 : wo.cell? (ad.add i) = some (.slice A n c) := p0
      replace hn9 : n ≤ 1000000 := hn9
      have HI := Lib.hid HP.out.enter
      go_wp2
      go_loopg [4] n (fun z v wi => ∃ (k : Nat) (f : Nat → List Value), z = n - k ∧ k ≤ n ∧ v = .int .i64 k ∧ Hid (Ph1I mkOwnWords w wi B 180 1 L i k f))
      case atStart => exact ⟨0, f, rfl, Nat.zero_le _, rfl, HI⟩
      case round =>
        clear HI
        obtain ⟨k, f, rfl, hk, rfl, HI⟩ := hrel
        obtain ⟨wi, hwi⟩ : ∃ wi : World, wi = wr := ⟨_, rfl⟩
        rw [← hwi] at HI ⊢
        clear hwi
        obtain ⟨ad2, e2, p1⟩ := hcell.out wi i HI.out.ph.upd hlt
        cases e2
        rw [HX.out] at p1
        replace p1 : wi.cell? (ad.add i) = some (.slice A n c) := p1
        by_cases hkn : k < n
        · have o1 := HI.out.ph.ls.own i HIL.out
          rw [HX.out] at o1
          obtain ⟨g, eA, hb, _, _, hc, hfz⟩ := o1.form (show 0 < n by omega)
          have hA : (ena L i).A = some ⟨g, 0, none⟩ := by rw [HX.out]; exact eA
          have hbm : (ena L i).b = some g := by unfold En.b; rw [HX.out]; exact hb
          have hfl : (f i).length = n * 1 := o1.1
          subst eA
          have q0 : wi.cell? ⟨g, k, none⟩ = some ((f i)[k]'(by omega)) := hc _ _ (List.getElem?_eq_getElem (by omega))
          have z0 := hfz (k)
          obtain ⟨f', hf'⟩ := HI.out.put1 HIL.out (by rw [HXN.out]; exact hkn) hA hbm (show mkOwnWords i k = [.int .u32 ((i : Int) * 1000 + (k : Int))] from by show [Value.int .u32 (IntKind.u32.wrap ((i : Int) * 1000 + (k : Int)))] = _; rw [show IntKind.u32.wrap ((i : Int) * 1000 + (k : Int)) = ((i : Int) * 1000 + (k : Int)) from by rw [IntKind.wrap_u32]; omega])
          have wz0 : IntKind.i64.wrap ((i : Int) * 1000) = (i : Int) * 1000 := by rw [IntKind.wrap_i64]; omega
          have wz1 : IntKind.i64.wrap ((i : Int) * 1000 + (k : Int)) = (i : Int) * 1000 + (k : Int) := by rw [IntKind.wrap_i64]; omega
          have HF := Lib.hid hf'
          clear hf' o1 hc hfz hb hA hbm
          go_wp2
          go_roundg (n - (k + 1))
          case measure => omega
          case rel => exact ⟨k + 1, f', rfl, by omega, by go_num, HF⟩
        · obtain rfl : k = n := by omega
          go_wp2
          go_roundg (m - (i + 1))
          case measure => omega
          case rel => exact ⟨i + 1, f, rfl, by omega, by go_num, Lib.hid ((show Ph1I mkOwnWords w wi B 180 1 L i (ena L i).n f from HXN.out ▸ HI.out).leave HIL.out)⟩
    · obtain rfl : i = m := by omega
      have HU1 := Lib.hid HP.out.upd
      have HQ0 : Hid (Ph2 mkOwnWords wo wo B 180 24 1 L 0 [] none 0) := Lib.hid (Ph2.start 24 (show Ph1 mkOwnWords w wo B 180 1 L L.length f from hm.out ▸ HP.out))
      have hcell2 : Hid (∀ (wr : World) (j : Nat), Upd (Foot L) wo wr → j < i → ∃ ad, OA = some ad ∧ wr.cell? (ad.add j) = some (ena L j).v) := Lib.hid (fun wr j hu hj => hcell.out wr j (HU1.out.trans hu) hj)
      clear HP
      go_wp2
      go_loopg [5, 6] i (fun z u v wr => ∃ (j : Nat) (G : List En) (LA : Option Addr) (lc : Nat), z = i - j ∧ j ≤ i ∧ v = .int .i64 j ∧ u = .slice LA j lc ∧ Hid (Ph2 mkOwnWords wo wr B 180 24 1 L j G LA lc))
      case atStart => exact ⟨0, [], none, 0, rfl, Nat.zero_le _, rfl, rfl, HQ0⟩
      case round =>
        clear HQ0
        obtain ⟨j, G, LA, lc, rfl, hj, rfl, rfl, HP⟩ := hrel
        obtain ⟨w2, hw2⟩ : ∃ w2 : World, w2 = wr := ⟨_, rfl⟩
        rw [← hw2] at HP ⊢
        clear hw2
        by_cases hlt2 : j < i
        · have hjl : j < L.length := by rw [← hm.out]; exact hlt2
          obtain ⟨ad, rfl, p0⟩ := hcell2.out w2 j HP.out.upd hlt2
          have hn9 := hn.out j hjl
          have HJL := Lib.hid hjl
          obtain ⟨x, hx⟩ : ∃ x, ena L j = x := ⟨_, rfl⟩
          rw [hx] at p0 hn9
          obtain ⟨A, n, c⟩ := x
          have HXN : Hid ((ena L j).n = n) := Lib.hid (by rw [hx])
          have HXA : Hid ((ena L j).A = A ∧ (ena L j).c = c) := Lib.hid (by rw [hx]; exact ⟨rfl, rfl⟩)
          clear hjl hx
          replace p0 : w2.cell? (ad.add j) = some (.slice A n c) := p0
          replace hn9 : n ≤ 1000000 := hn9
          have HI : Hid (Ph2I mkOwnWords w2 w2 B 180 1 L j 0 A c) := Lib.hid (by have := HP.out.enter HJL.out; rwa [HXA.out.1, HXA.out.2] at this)
          go_wp2
          go_loopg [7, 8] 8 (fun z u v wi => ∃ (k : Nat) (A' : Option Addr) (c' : Nat), z = 8 - k ∧ k ≤ 8 ∧ v = .int .i64 k ∧ u = .slice A' (n + k) c' ∧ Hid (Ph2I mkOwnWords w2 wi B 180 1 L j k A' c'))
          case atStart => exact ⟨0, A, c, rfl, Nat.zero_le _, rfl, rfl, HI⟩
          case round =>
            clear HI
            obtain ⟨k, A', c', rfl, hk, rfl, rfl, HI⟩ := hrel
            by_cases hk8 : k < 8
            · have wy : IntKind.i64.wrap (-1 - (j : Int)) = -1 - (j : Int) := by rw [IntKind.wrap_i64]; omega
              have wz0 : IntKind.i64.wrap ((-1 - (j : Int)) * 1000) = (-1 - (j : Int)) * 1000 := by rw [IntKind.wrap_i64]; omega
              have wz1 : IntKind.i64.wrap ((-1 - (j : Int)) * 1000 + (k : Int)) = (-1 - (j : Int)) * 1000 + (k : Int) := by rw [IntKind.wrap_i64]; omega
              have HO : Hid (Own wr B 180 1 A' (n + k) c' (marks_ mkOwnWords j (ena L j).n ++ marks_ mkOwnWords (-1 - j) k)) := Lib.hid (by have := HI.out.own; rwa [HXN.out] at this ⊢)
              have hB : B ≤ (wr.alloc (.cells (#[.int .u32 (IntKind.u32.wrap ((-1 - (j : Int)) * 1000 + (k : Int)))] : Array Value) 180)).heap.size := by
                have h1 := HI.out.upd.size
                have h2 := ((Ext.refl wr).alloc (.cells (#[.int .u32 (IntKind.u32.wrap ((-1 - (j : Int)) * 1000 + (k : Int)))] : Array Value) 180)).size
                have h3 := HP.out.upd.size
                have h4 := HU1.out.size
                have h5 := hBw.out
                omega
              go_wp2_with (at_builtin; go_loud (refine wpList_append_two _ elemWords B _ _ rfl rfl A' (n + k) c' _ rfl (HO.out.alloc _) (some ⟨wr.heap.size, 0, none⟩) 1 1 (mkOwnWords (-1 - (j : Int)) k) rfl (Sl.one wr #[.int .u32 (IntKind.u32.wrap ((-1 - (j : Int)) * 1000 + (k : Int)))] 180 1 rfl) (mkOwnWords_one _ _) (by omega) (by decide) hB ?_); intro A3 c3 w3 o3 g3 x3; have HN3 : Hid (Ph2I mkOwnWords w2 w3 B 180 1 L j (k + 1) A3 c3) := Lib.hid (HI.out.step mkOwnWords_len _ (by have := o3; rwa [← HXN.out] at this) g3 x3); clear o3 g3 x3)
              go_roundg (8 - (k + 1))
              case measure => omega
              case rel => exact ⟨k + 1, A3, c3, rfl, by omega, by go_num, rfl, HN3⟩
            · obtain rfl : k = 8 := by omega
              have hlst : ∀ wr : World, Ph2I mkOwnWords w2 wr B 180 1 L j 8 A' c' → Own wr wo.heap.size 24 1 LA j lc (ensC G) := fun wr h => HP.out.lst.upd h.upd (fun q hq e => by
                have h1 := HP.out.foot q ⟨j, HJL.out, e⟩
                have h2 := (HP.out.lst.lt q hq).1
                omega)
              go_wp2_with (at_builtin; go_loud (refine wpList_append_two _ elemL_OwnWords wo.heap.size _ _ rfl rfl LA j lc (ensC G) rfl ((hlst wr HI.out).alloc _) (some ⟨wr.heap.size, 0, none⟩) 1 1 [.slice A' (n + 8) c'] rfl (Sl.one wr #[.slice A' (n + 8) c'] 24 1 rfl) (ensC_one [⟨A', n + 8, c'⟩]) (by omega) (by decide) (by have h1 := HI.out.upd.size; have h2 := HP.out.upd.size; have h3 := ((Ext.refl wr).alloc (.cells (#[.slice A' (n + 8) c'] : Array Value) 24)).size; omega) ?_); intro LA4 lc4 w4 o4 g4 x4; have HN4 : Hid (Ph2 mkOwnWords wo w4 B 180 24 1 L (j + 1) (G ++ [⟨A', (ena L j).n + 8, c'⟩]) LA4 lc4) := Lib.hid (HP.out.next HJL.out HI.out _ (by have := o4; rwa [← HXN.out] at this) g4 x4); clear o4 g4 x4)
              go_roundg (i - (j + 1))
              case measure => omega
              case rel => exact ⟨j + 1, _, LA4, lc4, rfl, by omega, by go_num, rfl, HN4⟩
        · obtain rfl : j = i := by omega
          have hjm : j = L.length := hm.out
          have hG : ∀ t, t < j → ∃ ad, LA = some ad ∧ w2.cell? (ad.add t) = some (ena G t).v := fun t ht => ens_cell HP.out.lst.sl ht
          have HG := Lib.hid hG
          clear hG hjm
          go_wp2
          go_loopg [9] j (fun z v wr => ∃ t : Nat, z = j - t ∧ t ≤ j ∧ v = .int .i64 t ∧ Hid (wr = w2))
          case atStart => exact ⟨0, rfl, Nat.zero_le _, rfl, Lib.hid rfl⟩
          case round =>
            obtain ⟨t, rfl, ht, rfl, HW⟩ := hrel
            have hW := HW.out
            subst hW
            by_cases htj : t < j
            · have htl : t < L.length := by rw [← hm.out]; exact htj
              obtain ⟨ad, rfl, p0⟩ := hcell2.out wr t HP.out.upd htj
              obtain ⟨ad2, rfl, p1⟩ := HG.out t htj
              have hn9 := hn.out t htl
              have hrd := HP.out.read t htj
              obtain ⟨hln, hlo⟩ := HP.out.long t htj
              obtain ⟨x, hx⟩ : ∃ x, ena L t = x := ⟨_, rfl⟩
              obtain ⟨y, hy⟩ : ∃ y, ena G t = y := ⟨_, rfl⟩
              rw [hx] at p0 hn9 hrd hln hlo
              rw [hy] at p1 hln hlo
              obtain ⟨A, n, c⟩ := x
              obtain ⟨A2, n2, c2⟩ := y
              replace p0 : wr.cell? (ad.add t) = some (.slice A n c) := p0
              replace p1 : wr.cell? (ad2.add t) = some (.slice A2 n2 c2) := p1
              replace hn9 : n ≤ 1000000 := hn9
              obtain rfl : n2 = n + 8 := hln
              have HR : Hid (Sl wr 1 A n c (marks_ mkOwnWords t n)) := Lib.hid hrd
              have HLo : Hid (Sl wr 1 A2 (n + 8) c2 (marks_ mkOwnWords t n ++ marks_ mkOwnWords (-1 - t) 8)) := Lib.hid hlo.sl
              clear hrd hlo hx hy htl
              go_wp2
              go_loopg [11] n (fun z v wq => ∃ k : Nat, z = n - k ∧ k ≤ n ∧ v = .int .i64 k ∧ Hid (wq = wr))
              case atStart => exact ⟨0, rfl, Nat.zero_le _, rfl, Lib.hid rfl⟩
              case round =>
                obtain ⟨k, rfl, hk, rfl, HW2⟩ := hrel
                have hW2 := HW2.out
                subst hW2
                by_cases hkn : k < n
                · obtain ⟨ad3, rfl, r0⟩ := own_at1 HR.out hkn (show mkOwnWords t k = [.int .u32 ((t : Int) * 1000 + (k : Int))] from by show [Value.int .u32 (IntKind.u32.wrap ((t : Int) * 1000 + (k : Int)))] = _; rw [show IntKind.u32.wrap ((t : Int) * 1000 + (k : Int)) = ((t : Int) * 1000 + (k : Int)) from by rw [IntKind.wrap_u32]; omega]) (fun q hq => marks_at' mkOwnWords_len t hq n k hkn)
                  obtain ⟨ad4, rfl, l0⟩ := own_at1 HLo.out (show k < n + 8 by omega) (show mkOwnWords t k = [.int .u32 ((t : Int) * 1000 + (k : Int))] from by show [Value.int .u32 (IntKind.u32.wrap ((t : Int) * 1000 + (k : Int)))] = _; rw [show IntKind.u32.wrap ((t : Int) * 1000 + (k : Int)) = ((t : Int) * 1000 + (k : Int)) from by rw [IntKind.wrap_u32]; omega]) (fun q hq => by rw [List.getElem?_append_left (by rw [marks_len mkOwnWords_len]; have : (k + 1) * 1 ≤ n * 1 := Nat.mul_le_mul_right _ hkn; omega)]; exact marks_at' mkOwnWords_len t hq n k hkn)
                  have wz0 : IntKind.i64.wrap ((t : Int) * 1000) = (t : Int) * 1000 := by rw [IntKind.wrap_i64]; omega
                  have wz1 : IntKind.i64.wrap ((t : Int) * 1000 + (k : Int)) = (t : Int) * 1000 + (k : Int) := by rw [IntKind.wrap_i64]; omega
                  go_wp2
                  go_roundg (n - (k + 1))
                  case measure => omega
                  case rel => exact ⟨k + 1, rfl, by omega, by go_num, Lib.hid rfl⟩
                · obtain rfl : k = n := by omega
                  go_wp2
                  go_loopg [12] 8 (fun z v wq => ∃ q : Nat, z = 8 - q ∧ q ≤ 8 ∧ v = .int .i64 q ∧ Hid (wq = wr))
                  case atStart => exact ⟨0, rfl, Nat.zero_le _, rfl, Lib.hid rfl⟩
                  case round =>
                    obtain ⟨q, rfl, hq, rfl, HW3⟩ := hrel
                    have hW3 := HW3.out
                    subst hW3
                    by_cases hq8 : q < 8
                    · obtain ⟨ad4, rfl, l0⟩ := own_at1 HLo.out (show k + q < k + 8 by omega) (show mkOwnWords (-1 - (t : Int)) q = [.int .u32 (IntKind.u32.wrap ((-1 - (t : Int)) * 1000 + (q : Int)))] from rfl) (fun z hz => by rw [show (k + q) * 1 + z = (marks_ mkOwnWords (t : Int) k).length + (q * 1 + z) by rw [marks_len mkOwnWords_len, Nat.add_mul]; omega, List.getElem?_append_right (Nat.le_add_right _ _), Nat.add_sub_cancel_left]; exact marks_at' mkOwnWords_len _ hz 8 q hq8)
                      have wy : IntKind.i64.wrap (-1 - (t : Int)) = -1 - (t : Int) := by rw [IntKind.wrap_i64]; omega
                      have wz0 : IntKind.i64.wrap ((-1 - (t : Int)) * 1000) = (-1 - (t : Int)) * 1000 := by rw [IntKind.wrap_i64]; omega
                      have wz1 : IntKind.i64.wrap ((-1 - (t : Int)) * 1000 + (q : Int)) = (-1 - (t : Int)) * 1000 + (q : Int) := by rw [IntKind.wrap_i64]; omega
                      go_wp2
                      go_roundg (8 - (q + 1))
                      case measure => omega
                      case rel => exact ⟨q + 1, rfl, by omega, by go_num, Lib.hid rfl⟩
                    · obtain rfl : q = 8 := by omega
                      go_wp2
                      go_roundg (j - (t + 1))
                      case measure => omega
                      case rel => exact ⟨t + 1, rfl, by omega, by go_num, Lib.hid rfl⟩
            · obtain rfl : t = j := by omega
              go_wp2
              go_ret
              exact ⟨rfl, HU1.out.trans HP.out.upd⟩
end Go.Proofs.YtdgbkpoickbidaaGreatDoor
namespace Go.Proofs.YtdgbkpoickbidaaGreatDoor
open Go.RowKit

def mkOwnRow (i : Int) (k : Nat) : List Value := [.int .u8 0, .bool false, .int .i64 (i * 1000 + (k : Int)), .string ⟨#[]⟩]
theorem mkOwnRow_len (i : Int) (k : Nat) : (mkOwnRow i k).length = 4 := rfl
theorem mkOwnRow_one (i : Int) (k : Nat) : ∀ u ∈ mkOwnRow i k, u.oneCell' = true := by intro u hu; simp [mkOwnRow] at hu; rcases hu with rfl | rfl | rfl | rfl <;> rfl
theorem elemL_OwnRow : Elem Tryz.prog 41 78 1 24 (.slice none 0 0) := ⟨by kernel_rfl, by kernel_rfl, rfl, by decide⟩
set_option maxRecDepth 100000 in
set_option maxHeartbeats 8000000 in
theorem ownRow_any (OA : Option Addr) (oc m B : Nat) (L : List En) (f : Nat → List Value) (w : World) (hm : Hid (m = L.length)) (hs : Hid (Sl w 1 OA m oc (ensC L))) (hl : Hid (Lists w B 204 4 L f)) (hf : Hid (∀ k, blk OA oc = some k → ¬ Foot L k ∧ k < w.heap.size)) (hm9 : m ≤ 10000) (hn : Hid (∀ i, i < L.length → (ena L i).n ≤ 1000000)) (hBw : Hid (B ≤ w.heap.size)) :
    Calls Tryz.prog 127 #[.slice OA m oc] w fun e w' => e = .returned (.bool true) ∧ Upd (Foot L) w w' := by
  have HP0 : Hid (Ph1 mkOwnRow w w B 204 4 L 0 f) := Lib.hid ⟨hl.out, fun j hj => by omega, Upd.refl _ _⟩
  have hcell : Hid (∀ (wr : World) (i : Nat), Upd (Foot L) w wr → i < m → ∃ ad, OA = some ad ∧ wr.cell? (ad.add i) = some (ena L i).v) := Lib.hid (fun wr i hu hi => ens_cell (hs.out.upd hu (fun k hk => (hf.out k hk).1)) hi)
  go_enter Tryz.func127, Tryz.ntmps127
  go_wp2
  go_loopg [3] m (fun z v wr => ∃ (i : Nat) (f : Nat → List Value), z = m - i ∧ i ≤ m ∧ v = .int .i64 i ∧ Hid (Ph1 mkOwnRow w wr B 204 4 L i f))
  case atStart => exact ⟨0, f, rfl, Nat.zero_le _, rfl, HP0⟩
  case round =>
    clear HP0
    obtain ⟨i, f, rfl, hi, rfl, HP⟩ := hrel
    obtain ⟨wo, hwo⟩ : ∃ wo : World, wo = wr := ⟨_, rfl⟩
    rw [← hwo] at HP ⊢
    clear hwo
    by_cases hlt : i < m
    · have hil : i < L.length := by rw [← hm.out]; exact hlt
      obtain ⟨ad, rfl, p0⟩ := hcell.out wo i HP.out.upd hlt
      have hn9 := hn.out i hil
      have HIL := Lib.hid hil
      obtain ⟨x, hx⟩ : ∃ x, ena L i = x := ⟨_, rfl⟩
      rw [hx] at p0 hn9
      obtain ⟨A, n, c⟩ := x
      have HXN : Hid ((ena L i).n = n) := Lib.hid (by rw [hx])
      have HX := Lib.hid hx
      clear hil hx
      replace p0 : wo.cell? (ad.add i) = some (.slice A n c) := p0
      replace hn9 : n ≤ 1000000 := hn9
      have HI := Lib.hid HP.out.enter
      go_wp2
      go_loopg [4] n (fun z v wi => ∃ (k : Nat) (f : Nat → List Value), z = n - k ∧ k ≤ n ∧ v = .int .i64 k ∧ Hid (Ph1I mkOwnRow w wi B 204 4 L i k f))
      case atStart => exact ⟨0, f, rfl, Nat.zero_le _, rfl, HI⟩
      case round =>
        clear HI
        obtain ⟨k, f, rfl, hk, rfl, HI⟩ := hrel
        obtain ⟨wi, hwi⟩ : ∃ wi : World, wi = wr := ⟨_, rfl⟩
        rw [← hwi] at HI ⊢
        clear hwi
        obtain ⟨ad2, e2, p1⟩ := hcell.out wi i HI.out.ph.upd hlt
        cases e2
        rw [HX.out] at p1
        replace p1 : wi.cell? (ad.add i) = some (.slice A n c) := p1
        by_cases hkn : k < n
        · have o1 := HI.out.ph.ls.own i HIL.out
          rw [HX.out] at o1
          obtain ⟨g, eA, hb, _, _, hc, hfz⟩ := o1.form (show 0 < n by omega)
          have hA : (ena L i).A = some ⟨g, 0, none⟩ := by rw [HX.out]; exact eA
          have hbm : (ena L i).b = some g := by unfold En.b; rw [HX.out]; exact hb
          have hfl : (f i).length = n * 4 := o1.1
          subst eA
          have q0 : wi.cell? ⟨g, k * 4, none⟩ = some ((f i)[k * 4]'(by omega)) := hc _ _ (List.getElem?_eq_getElem (by omega))
          have z0 := hfz (k * 4)
          have q1 : wi.cell? ⟨g, k * 4 + 1, none⟩ = some ((f i)[k * 4 + 1]'(by omega)) := hc _ _ (List.getElem?_eq_getElem (by omega))
          have z1 := hfz (k * 4 + 1)
          have q2 : wi.cell? ⟨g, k * 4 + 2, none⟩ = some ((f i)[k * 4 + 2]'(by omega)) := hc _ _ (List.getElem?_eq_getElem (by omega))
          have z2 := hfz (k * 4 + 2)
          have q3 : wi.cell? ⟨g, k * 4 + 3, none⟩ = some ((f i)[k * 4 + 3]'(by omega)) := hc _ _ (List.getElem?_eq_getElem (by omega))
          have z3 := hfz (k * 4 + 3)
          obtain ⟨f', hf'⟩ := HI.out.put4 HIL.out (by rw [HXN.out]; exact hkn) hA hbm (show mkOwnRow i k = [.int .u8 0, .bool false, .int .i64 ((i : Int) * 1000 + (k : Int)), .string ⟨#[]⟩] from rfl)
          have wz0 : IntKind.i64.wrap ((i : Int) * 1000) = (i : Int) * 1000 := by rw [IntKind.wrap_i64]; omega
          have wz1 : IntKind.i64.wrap ((i : Int) * 1000 + (k : Int)) = (i : Int) * 1000 + (k : Int) := by rw [IntKind.wrap_i64]; omega
          have HF := Lib.hid hf'
          clear hf' o1 hc hfz hb hA hbm
          go_wp2
          go_roundg (n - (k + 1))
          case measure => omega
          case rel => exact ⟨k + 1, f', rfl, by omega, by go_num, HF⟩
        · obtain rfl : k = n := by omega
          go_wp2
          go_roundg (m - (i + 1))
          case measure => omega
          case rel => exact ⟨i + 1, f, rfl, by omega, by go_num, Lib.hid ((show Ph1I mkOwnRow w wi B 204 4 L i (ena L i).n f from HXN.out ▸ HI.out).leave HIL.out)⟩
    · obtain rfl : i = m := by omega
      have HU1 := Lib.hid HP.out.upd
      have HQ0 : Hid (Ph2 mkOwnRow wo wo B 204 78 4 L 0 [] none 0) := Lib.hid (Ph2.start 78 (show Ph1 mkOwnRow w wo B 204 4 L L.length f from hm.out ▸ HP.out))
      have hcell2 : Hid (∀ (wr : World) (j : Nat), Upd (Foot L) wo wr → j < i → ∃ ad, OA = some ad ∧ wr.cell? (ad.add j) = some (ena L j).v) := Lib.hid (fun wr j hu hj => hcell.out wr j (HU1.out.trans hu) hj)
      clear HP
      go_wp2
      go_loopg [5, 6] i (fun z u v wr => ∃ (j : Nat) (G : List En) (LA : Option Addr) (lc : Nat), z = i - j ∧ j ≤ i ∧ v = .int .i64 j ∧ u = .slice LA j lc ∧ Hid (Ph2 mkOwnRow wo wr B 204 78 4 L j G LA lc))
      case atStart => exact ⟨0, [], none, 0, rfl, Nat.zero_le _, rfl, rfl, HQ0⟩
      case round =>
        clear HQ0
        obtain ⟨j, G, LA, lc, rfl, hj, rfl, rfl, HP⟩ := hrel
        obtain ⟨w2, hw2⟩ : ∃ w2 : World, w2 = wr := ⟨_, rfl⟩
        rw [← hw2] at HP ⊢
        clear hw2
        by_cases hlt2 : j < i
        · have hjl : j < L.length := by rw [← hm.out]; exact hlt2
          obtain ⟨ad, rfl, p0⟩ := hcell2.out w2 j HP.out.upd hlt2
          have hn9 := hn.out j hjl
          have HJL := Lib.hid hjl
          obtain ⟨x, hx⟩ : ∃ x, ena L j = x := ⟨_, rfl⟩
          rw [hx] at p0 hn9
          obtain ⟨A, n, c⟩ := x
          have HXN : Hid ((ena L j).n = n) := Lib.hid (by rw [hx])
          have HXA : Hid ((ena L j).A = A ∧ (ena L j).c = c) := Lib.hid (by rw [hx]; exact ⟨rfl, rfl⟩)
          clear hjl hx
          replace p0 : w2.cell? (ad.add j) = some (.slice A n c) := p0
          replace hn9 : n ≤ 1000000 := hn9
          have HI : Hid (Ph2I mkOwnRow w2 w2 B 204 4 L j 0 A c) := Lib.hid (by have := HP.out.enter HJL.out; rwa [HXA.out.1, HXA.out.2] at this)
          go_wp2
          go_loopg [7, 8] 8 (fun z u v wi => ∃ (k : Nat) (A' : Option Addr) (c' : Nat), z = 8 - k ∧ k ≤ 8 ∧ v = .int .i64 k ∧ u = .slice A' (n + k) c' ∧ Hid (Ph2I mkOwnRow w2 wi B 204 4 L j k A' c'))
          case atStart => exact ⟨0, A, c, rfl, Nat.zero_le _, rfl, rfl, HI⟩
          case round =>
            clear HI
            obtain ⟨k, A', c', rfl, hk, rfl, rfl, HI⟩ := hrel
            by_cases hk8 : k < 8
            · have wy : IntKind.i64.wrap (-1 - (j : Int)) = -1 - (j : Int) := by rw [IntKind.wrap_i64]; omega
              have wz0 : IntKind.i64.wrap ((-1 - (j : Int)) * 1000) = (-1 - (j : Int)) * 1000 := by rw [IntKind.wrap_i64]; omega
              have wz1 : IntKind.i64.wrap ((-1 - (j : Int)) * 1000 + (k : Int)) = (-1 - (j : Int)) * 1000 + (k : Int) := by rw [IntKind.wrap_i64]; omega
              have HO : Hid (Own wr B 204 4 A' (n + k) c' (marks_ mkOwnRow j (ena L j).n ++ marks_ mkOwnRow (-1 - j) k)) := Lib.hid (by have := HI.out.own; rwa [HXN.out] at this ⊢)
              have hB : B ≤ (wr.alloc (.cells (#[.int .u8 0, .bool false, .int .i64 ((-1 - (j : Int)) * 1000 + (k : Int)), .string ⟨#[]⟩] : Array Value) 204)).heap.size := by
                have h1 := HI.out.upd.size
                have h2 := ((Ext.refl wr).alloc (.cells (#[.int .u8 0, .bool false, .int .i64 ((-1 - (j : Int)) * 1000 + (k : Int)), .string ⟨#[]⟩] : Array Value) 204)).size
                have h3 := HP.out.upd.size
                have h4 := HU1.out.size
                have h5 := hBw.out
                omega
              go_wp2_with (at_builtin; go_loud (refine wpList_append_two _ elem_datum B _ _ rfl rfl A' (n + k) c' _ rfl (HO.out.alloc _) (some ⟨wr.heap.size, 0, none⟩) 1 1 (mkOwnRow (-1 - (j : Int)) k) rfl (Sl.one wr #[.int .u8 0, .bool false, .int .i64 ((-1 - (j : Int)) * 1000 + (k : Int)), .string ⟨#[]⟩] 204 4 rfl) (mkOwnRow_one _ _) (by omega) (by decide) hB ?_); intro A3 c3 w3 o3 g3 x3; have HN3 : Hid (Ph2I mkOwnRow w2 w3 B 204 4 L j (k + 1) A3 c3) := Lib.hid (HI.out.step mkOwnRow_len _ (by have := o3; rwa [← HXN.out] at this) g3 x3); clear o3 g3 x3)
              go_roundg (8 - (k + 1))
              case measure => omega
              case rel => exact ⟨k + 1, A3, c3, rfl, by omega, by go_num, rfl, HN3⟩
            · obtain rfl : k = 8 := by omega
              have hlst : ∀ wr : World, Ph2I mkOwnRow w2 wr B 204 4 L j 8 A' c' → Own wr wo.heap.size 78 1 LA j lc (ensC G) := fun wr h => HP.out.lst.upd h.upd (fun q hq e => by
                have h1 := HP.out.foot q ⟨j, HJL.out, e⟩
                have h2 := (HP.out.lst.lt q hq).1
                omega)
              go_wp2_with (at_builtin; go_loud (refine wpList_append_two _ elemL_OwnRow wo.heap.size _ _ rfl rfl LA j lc (ensC G) rfl ((hlst wr HI.out).alloc _) (some ⟨wr.heap.size, 0, none⟩) 1 1 [.slice A' (n + 8) c'] rfl (Sl.one wr #[.slice A' (n + 8) c'] 78 1 rfl) (ensC_one [⟨A', n + 8, c'⟩]) (by omega) (by decide) (by have h1 := HI.out.upd.size; have h2 := HP.out.upd.size; have h3 := ((Ext.refl wr).alloc (.cells (#[.slice A' (n + 8) c'] : Array Value) 78)).size; omega) ?_); intro LA4 lc4 w4 o4 g4 x4; have HN4 : Hid (Ph2 mkOwnRow wo w4 B 204 78 4 L (j + 1) (G ++ [⟨A', (ena L j).n + 8, c'⟩]) LA4 lc4) := Lib.hid (HP.out.next HJL.out HI.out _ (by have := o4; rwa [← HXN.out] at this) g4 x4); clear o4 g4 x4)
              go_roundg (i - (j + 1))
              case measure => omega
              case rel => exact ⟨j + 1, _, LA4, lc4, rfl, by omega, by go_num, rfl, HN4⟩
        · obtain rfl : j = i := by omega
          have hjm : j = L.length := hm.out
          have hG : ∀ t, t < j → ∃ ad, LA = some ad ∧ w2.cell? (ad.add t) = some (ena G t).v := fun t ht => ens_cell HP.out.lst.sl ht
          have HG := Lib.hid hG
          clear hG hjm
          go_wp2
          go_loopg [9] j (fun z v wr => ∃ t : Nat, z = j - t ∧ t ≤ j ∧ v = .int .i64 t ∧ Hid (wr = w2))
          case atStart => exact ⟨0, rfl, Nat.zero_le _, rfl, Lib.hid rfl⟩
          case round =>
            obtain ⟨t, rfl, ht, rfl, HW⟩ := hrel
            have hW := HW.out
            subst hW
            by_cases htj : t < j
            · have htl : t < L.length := by rw [← hm.out]; exact htj
              obtain ⟨ad, rfl, p0⟩ := hcell2.out wr t HP.out.upd htj
              obtain ⟨ad2, rfl, p1⟩ := HG.out t htj
              have hn9 := hn.out t htl
              have hrd := HP.out.read t htj
              obtain ⟨hln, hlo⟩ := HP.out.long t htj
              obtain ⟨x, hx⟩ : ∃ x, ena L t = x := ⟨_, rfl⟩
              obtain ⟨y, hy⟩ : ∃ y, ena G t = y := ⟨_, rfl⟩
              rw [hx] at p0 hn9 hrd hln hlo
              rw [hy] at p1 hln hlo
              obtain ⟨A, n, c⟩ := x
              obtain ⟨A2, n2, c2⟩ := y
              replace p0 : wr.cell? (ad.add t) = some (.slice A n c) := p0
              replace p1 : wr.cell? (ad2.add t) = some (.slice A2 n2 c2) := p1
              replace hn9 : n ≤ 1000000 := hn9
              obtain rfl : n2 = n + 8 := hln
              have HR : Hid (Sl wr 4 A n c (marks_ mkOwnRow t n)) := Lib.hid hrd
              have HLo : Hid (Sl wr 4 A2 (n + 8) c2 (marks_ mkOwnRow t n ++ marks_ mkOwnRow (-1 - t) 8)) := Lib.hid hlo.sl
              clear hrd hlo hx hy htl
              go_wp2
              go_loopg [11] n (fun z v wq => ∃ k : Nat, z = n - k ∧ k ≤ n ∧ v = .int .i64 k ∧ Hid (wq = wr))
              case atStart => exact ⟨0, rfl, Nat.zero_le _, rfl, Lib.hid rfl⟩
              case round =>
                obtain ⟨k, rfl, hk, rfl, HW2⟩ := hrel
                have hW2 := HW2.out
                subst hW2
                by_cases hkn : k < n
                · obtain ⟨ad3, rfl, r0, r1, r2, r3⟩ := own_at4 HR.out hkn (show mkOwnRow t k = [.int .u8 0, .bool false, .int .i64 ((t : Int) * 1000 + (k : Int)), .string ⟨#[]⟩] from rfl) (fun q hq => marks_at' mkOwnRow_len t hq n k hkn)
                  obtain ⟨ad4, rfl, l0, l1, l2, l3⟩ := own_at4 HLo.out (show k < n + 8 by omega) (show mkOwnRow t k = [.int .u8 0, .bool false, .int .i64 ((t : Int) * 1000 + (k : Int)), .string ⟨#[]⟩] from rfl) (fun q hq => by rw [List.getElem?_append_left (by rw [marks_len mkOwnRow_len]; have : (k + 1) * 4 ≤ n * 4 := Nat.mul_le_mul_right _ hkn; omega)]; exact marks_at' mkOwnRow_len t hq n k hkn)
                  have wz0 : IntKind.i64.wrap ((t : Int) * 1000) = (t : Int) * 1000 := by rw [IntKind.wrap_i64]; omega
                  have wz1 : IntKind.i64.wrap ((t : Int) * 1000 + (k : Int)) = (t : Int) * 1000 + (k : Int) := by rw [IntKind.wrap_i64]; omega
                  go_wp2
                  go_roundg (n - (k + 1))
                  case measure => omega
                  case rel => exact ⟨k + 1, rfl, by omega, by go_num, Lib.hid rfl⟩
                · obtain rfl : k = n := by omega
                  go_wp2
                  go_loopg [12] 8 (fun z v wq => ∃ q : Nat, z = 8 - q ∧ q ≤ 8 ∧ v = .int .i64 q ∧ Hid (wq = wr))
                  case atStart => exact ⟨0, rfl, Nat.zero_le _, rfl, Lib.hid rfl⟩
                  case round =>
                    obtain ⟨q, rfl, hq, rfl, HW3⟩ := hrel
                    have hW3 := HW3.out
                    subst hW3
                    by_cases hq8 : q < 8
                    · obtain ⟨ad4, rfl, l0, l1, l2, l3⟩ := own_at4 HLo.out (show k + q < k + 8 by omega) (show mkOwnRow (-1 - (t : Int)) q = [.int .u8 0, .bool false, .int .i64 ((-1 - (t : Int)) * 1000 + (q : Int)), .string ⟨#[]⟩] from rfl) (fun z hz => by rw [show (k + q) * 4 + z = (marks_ mkOwnRow (t : Int) k).length + (q * 4 + z) by rw [marks_len mkOwnRow_len, Nat.add_mul]; omega, List.getElem?_append_right (Nat.le_add_right _ _), Nat.add_sub_cancel_left]; exact marks_at' mkOwnRow_len _ hz 8 q hq8)
                      have wy : IntKind.i64.wrap (-1 - (t : Int)) = -1 - (t : Int) := by rw [IntKind.wrap_i64]; omega
                      have wz0 : IntKind.i64.wrap ((-1 - (t : Int)) * 1000) = (-1 - (t : Int)) * 1000 := by rw [IntKind.wrap_i64]; omega
                      have wz1 : IntKind.i64.wrap ((-1 - (t : Int)) * 1000 + (q : Int)) = (-1 - (t : Int)) * 1000 + (q : Int) := by rw [IntKind.wrap_i64]; omega
                      go_wp2
                      go_roundg (8 - (q + 1))
                      case measure => omega
                      case rel => exact ⟨q + 1, rfl, by omega, by go_num, Lib.hid rfl⟩
                    · obtain rfl : q = 8 := by omega
                      go_wp2
                      go_roundg (j - (t + 1))
                      case measure => omega
                      case rel => exact ⟨t + 1, rfl, by omega, by go_num, Lib.hid rfl⟩
            · obtain rfl : t = j := by omega
              go_wp2
              go_ret
              exact ⟨rfl, HU1.out.trans HP.out.upd⟩
end Go.Proofs.YtdgbkpoickbidaaGreatDoor
namespace Go.Proofs.YtdgbkpoickbidaaGreatDoor
open Go.RowKit

def mkOwnCts (i : Int) (k : Nat) : List Value := [.slice none 0 0, .int .i64 (i * 1000 + (k : Int))]
theorem mkOwnCts_len (i : Int) (k : Nat) : (mkOwnCts i k).length = 2 := rfl
theorem mkOwnCts_one (i : Int) (k : Nat) : ∀ u ∈ mkOwnCts i k, u.oneCell' = true := by intro u hu; simp [mkOwnCts] at hu; rcases hu with rfl | rfl <;> rfl
theorem elemL_OwnCts : Elem Tryz.prog 46 31 1 24 (.slice none 0 0) := ⟨by kernel_rfl, by kernel_rfl, rfl, by decide⟩
set_option maxRecDepth 100000 in
set_option maxHeartbeats 8000000 in
theorem ownCts_any (OA : Option Addr) (oc m B : Nat) (L : List En) (f : Nat → List Value) (w : World) (hm : Hid (m = L.length)) (hs : Hid (Sl w 1 OA m oc (ensC L))) (hl : Hid (Lists w B 154 2 L f)) (hf : Hid (∀ k, blk OA oc = some k → ¬ Foot L k ∧ k < w.heap.size)) (hm9 : m ≤ 10000) (hn : Hid (∀ i, i < L.length → (ena L i).n ≤ 1000000)) (hBw : Hid (B ≤ w.heap.size)) :
    Calls Tryz.prog 132 #[.slice OA m oc] w fun e w' => e = .returned (.bool true) ∧ Upd (Foot L) w w' := by
  have HP0 : Hid (Ph1 mkOwnCts w w B 154 2 L 0 f) := Lib.hid ⟨hl.out, fun j hj => by omega, Upd.refl _ _⟩
  have hcell : Hid (∀ (wr : World) (i : Nat), Upd (Foot L) w wr → i < m → ∃ ad, OA = some ad ∧ wr.cell? (ad.add i) = some (ena L i).v) := Lib.hid (fun wr i hu hi => ens_cell (hs.out.upd hu (fun k hk => (hf.out k hk).1)) hi)
  go_enter Tryz.func132, Tryz.ntmps132
  go_wp2
  go_loopg [3] m (fun z v wr => ∃ (i : Nat) (f : Nat → List Value), z = m - i ∧ i ≤ m ∧ v = .int .i64 i ∧ Hid (Ph1 mkOwnCts w wr B 154 2 L i f))
  case atStart => exact ⟨0, f, rfl, Nat.zero_le _, rfl, HP0⟩
  case round =>
    clear HP0
    obtain ⟨i, f, rfl, hi, rfl, HP⟩ := hrel
    obtain ⟨wo, hwo⟩ : ∃ wo : World, wo = wr := ⟨_, rfl⟩
    rw [← hwo] at HP ⊢
    clear hwo
    by_cases hlt : i < m
    · have hil : i < L.length := by rw [← hm.out]; exact hlt
      obtain ⟨ad, rfl, p0⟩ := hcell.out wo i HP.out.upd hlt
      have hn9 := hn.out i hil
      have HIL := Lib.hid hil
      obtain ⟨x, hx⟩ : ∃ x, ena L i = x := ⟨_, rfl⟩
      rw [hx] at p0 hn9
      obtain ⟨A, n, c⟩ := x
      have HXN : Hid ((ena L i).n = n) := Lib.hid (by rw [hx])
      have HX := Lib.hid hx
      clear hil hx
      replace p0 : wo.cell? (ad.add i) = some (.slice A n c) := p0
      replace hn9 : n ≤ 1000000 := hn9
      have HI := Lib.hid HP.out.enter
      go_wp2
      go_loopg [4] n (fun z v wi => ∃ (k : Nat) (f : Nat → List Value), z = n - k ∧ k ≤ n ∧ v = .int .i64 k ∧ Hid (Ph1I mkOwnCts w wi B 154 2 L i k f))
      case atStart => exact ⟨0, f, rfl, Nat.zero_le _, rfl, HI⟩
      case round =>
        clear HI
        obtain ⟨k, f, rfl, hk, rfl, HI⟩ := hrel
        obtain ⟨wi, hwi⟩ : ∃ wi : World, wi = wr := ⟨_, rfl⟩
        rw [← hwi] at HI ⊢
        clear hwi
        obtain ⟨ad2, e2, p1⟩ := hcell.out wi i HI.out.ph.upd hlt
        cases e2
        rw [HX.out] at p1
        replace p1 : wi.cell? (ad.add i) = some (.slice A n c) := p1
        by_cases hkn : k < n
        · have o1 := HI.out.ph.ls.own i HIL.out
          rw [HX.out] at o1
          obtain ⟨g, eA, hb, _, _, hc, hfz⟩ := o1.form (show 0 < n by omega)
          have hA : (ena L i).A = some ⟨g, 0, none⟩ := by rw [HX.out]; exact eA
          have hbm : (ena L i).b = some g := by unfold En.b; rw [HX.out]; exact hb
          have hfl : (f i).length = n * 2 := o1.1
          subst eA
          have q0 : wi.cell? ⟨g, k * 2, none⟩ = some ((f i)[k * 2]'(by omega)) := hc _ _ (List.getElem?_eq_getElem (by omega))
          have z0 := hfz (k * 2)
          have q1 : wi.cell? ⟨g, k * 2 + 1, none⟩ = some ((f i)[k * 2 + 1]'(by omega)) := hc _ _ (List.getElem?_eq_getElem (by omega))
          have z1 := hfz (k * 2 + 1)
          obtain ⟨f', hf'⟩ := HI.out.put2 HIL.out (by rw [HXN.out]; exact hkn) hA hbm (show mkOwnCts i k = [.slice none 0 0, .int .i64 ((i : Int) * 1000 + (k : Int))] from rfl)
          have wz0 : IntKind.i64.wrap ((i : Int) * 1000) = (i : Int) * 1000 := by rw [IntKind.wrap_i64]; omega
          have wz1 : IntKind.i64.wrap ((i : Int) * 1000 + (k : Int)) = (i : Int) * 1000 + (k : Int) := by rw [IntKind.wrap_i64]; omega
          have HF := Lib.hid hf'
          clear hf' o1 hc hfz hb hA hbm
          go_wp2
          go_roundg (n - (k + 1))
          case measure => omega
          case rel => exact ⟨k + 1, f', rfl, by omega, by go_num, HF⟩
        · obtain rfl : k = n := by omega
          go_wp2
          go_roundg (m - (i + 1))
          case measure => omega
          case rel => exact ⟨i + 1, f, rfl, by omega, by go_num, Lib.hid ((show Ph1I mkOwnCts w wi B 154 2 L i (ena L i).n f from HXN.out ▸ HI.out).leave HIL.out)⟩
    · obtain rfl : i = m := by omega
      have HU1 := Lib.hid HP.out.upd
      have HQ0 : Hid (Ph2 mkOwnCts wo wo B 154 31 2 L 0 [] none 0) := Lib.hid (Ph2.start 31 (show Ph1 mkOwnCts w wo B 154 2 L L.length f from hm.out ▸ HP.out))
      have hcell2 : Hid (∀ (wr : World) (j : Nat), Upd (Foot L) wo wr → j < i → ∃ ad, OA = some ad ∧ wr.cell? (ad.add j) = some (ena L j).v) := Lib.hid (fun wr j hu hj => hcell.out wr j (HU1.out.trans hu) hj)
      clear HP
      go_wp2
      go_loopg [5, 6] i (fun z u v wr => ∃ (j : Nat) (G : List En) (LA : Option Addr) (lc : Nat), z = i - j ∧ j ≤ i ∧ v = .int .i64 j ∧ u = .slice LA j lc ∧ Hid (Ph2 mkOwnCts wo wr B 154 31 2 L j G LA lc))
      case atStart => exact ⟨0, [], none, 0, rfl, Nat.zero_le _, rfl, rfl, HQ0⟩
      case round =>
        clear HQ0
        obtain ⟨j, G, LA, lc, rfl, hj, rfl, rfl, HP⟩ := hrel
        obtain ⟨w2, hw2⟩ : ∃ w2 : World, w2 = wr := ⟨_, rfl⟩
        rw [← hw2] at HP ⊢
        clear hw2
        by_cases hlt2 : j < i
        · have hjl : j < L.length := by rw [← hm.out]; exact hlt2
          obtain ⟨ad, rfl, p0⟩ := hcell2.out w2 j HP.out.upd hlt2
          have hn9 := hn.out j hjl
          have HJL := Lib.hid hjl
          obtain ⟨x, hx⟩ : ∃ x, ena L j = x := ⟨_, rfl⟩
          rw [hx] at p0 hn9
          obtain ⟨A, n, c⟩ := x
          have HXN : Hid ((ena L j).n = n) := Lib.hid (by rw [hx])
          have HXA : Hid ((ena L j).A = A ∧ (ena L j).c = c) := Lib.hid (by rw [hx]; exact ⟨rfl, rfl⟩)
          clear hjl hx
          replace p0 : w2.cell? (ad.add j) = some (.slice A n c) := p0
          replace hn9 : n ≤ 1000000 := hn9
          have HI : Hid (Ph2I mkOwnCts w2 w2 B 154 2 L j 0 A c) := Lib.hid (by have := HP.out.enter HJL.out; rwa [HXA.out.1, HXA.out.2] at this)
          go_wp2
          go_loopg [7, 8] 8 (fun z u v wi => ∃ (k : Nat) (A' : Option Addr) (c' : Nat), z = 8 - k ∧ k ≤ 8 ∧ v = .int .i64 k ∧ u = .slice A' (n + k) c' ∧ Hid (Ph2I mkOwnCts w2 wi B 154 2 L j k A' c'))
          case atStart => exact ⟨0, A, c, rfl, Nat.zero_le _, rfl, rfl, HI⟩
          case round =>
            clear HI
            obtain ⟨k, A', c', rfl, hk, rfl, rfl, HI⟩ := hrel
            by_cases hk8 : k < 8
            · have wy : IntKind.i64.wrap (-1 - (j : Int)) = -1 - (j : Int) := by rw [IntKind.wrap_i64]; omega
              have wz0 : IntKind.i64.wrap ((-1 - (j : Int)) * 1000) = (-1 - (j : Int)) * 1000 := by rw [IntKind.wrap_i64]; omega
              have wz1 : IntKind.i64.wrap ((-1 - (j : Int)) * 1000 + (k : Int)) = (-1 - (j : Int)) * 1000 + (k : Int) := by rw [IntKind.wrap_i64]; omega
              have HO : Hid (Own wr B 154 2 A' (n + k) c' (marks_ mkOwnCts j (ena L j).n ++ marks_ mkOwnCts (-1 - j) k)) := Lib.hid (by have := HI.out.own; rwa [HXN.out] at this ⊢)
              have hB : B ≤ (wr.alloc (.cells (#[.slice none 0 0, .int .i64 ((-1 - (j : Int)) * 1000 + (k : Int))] : Array Value) 154)).heap.size := by
                have h1 := HI.out.upd.size
                have h2 := ((Ext.refl wr).alloc (.cells (#[.slice none 0 0, .int .i64 ((-1 - (j : Int)) * 1000 + (k : Int))] : Array Value) 154)).size
                have h3 := HP.out.upd.size
                have h4 := HU1.out.size
                have h5 := hBw.out
                omega
              go_wp2_with (at_builtin; go_loud (refine wpList_append_two _ elem_ct B _ _ rfl rfl A' (n + k) c' _ rfl (HO.out.alloc _) (some ⟨wr.heap.size, 0, none⟩) 1 1 (mkOwnCts (-1 - (j : Int)) k) rfl (Sl.one wr #[.slice none 0 0, .int .i64 ((-1 - (j : Int)) * 1000 + (k : Int))] 154 2 rfl) (mkOwnCts_one _ _) (by omega) (by decide) hB ?_); intro A3 c3 w3 o3 g3 x3; have HN3 : Hid (Ph2I mkOwnCts w2 w3 B 154 2 L j (k + 1) A3 c3) := Lib.hid (HI.out.step mkOwnCts_len _ (by have := o3; rwa [← HXN.out] at this) g3 x3); clear o3 g3 x3)
              go_roundg (8 - (k + 1))
              case measure => omega
              case rel => exact ⟨k + 1, A3, c3, rfl, by omega, by go_num, rfl, HN3⟩
            · obtain rfl : k = 8 := by omega
              have hlst : ∀ wr : World, Ph2I mkOwnCts w2 wr B 154 2 L j 8 A' c' → Own wr wo.heap.size 31 1 LA j lc (ensC G) := fun wr h => HP.out.lst.upd h.upd (fun q hq e => by
                have h1 := HP.out.foot q ⟨j, HJL.out, e⟩
                have h2 := (HP.out.lst.lt q hq).1
                omega)
              go_wp2_with (at_builtin; go_loud (refine wpList_append_two _ elemL_OwnCts wo.heap.size _ _ rfl rfl LA j lc (ensC G) rfl ((hlst wr HI.out).alloc _) (some ⟨wr.heap.size, 0, none⟩) 1 1 [.slice A' (n + 8) c'] rfl (Sl.one wr #[.slice A' (n + 8) c'] 31 1 rfl) (ensC_one [⟨A', n + 8, c'⟩]) (by omega) (by decide) (by have h1 := HI.out.upd.size; have h2 := HP.out.upd.size; have h3 := ((Ext.refl wr).alloc (.cells (#[.slice A' (n + 8) c'] : Array Value) 31)).size; omega) ?_); intro LA4 lc4 w4 o4 g4 x4; have HN4 : Hid (Ph2 mkOwnCts wo w4 B 154 31 2 L (j + 1) (G ++ [⟨A', (ena L j).n + 8, c'⟩]) LA4 lc4) := Lib.hid (HP.out.next HJL.out HI.out _ (by have := o4; rwa [← HXN.out] at this) g4 x4); clear o4 g4 x4)
              go_roundg (i - (j + 1))
              case measure => omega
              case rel => exact ⟨j + 1, _, LA4, lc4, rfl, by omega, by go_num, rfl, HN4⟩
        · obtain rfl : j = i := by omega
          have hjm : j = L.length := hm.out
          have hG : ∀ t, t < j → ∃ ad, LA = some ad ∧ w2.cell? (ad.add t) = some (ena G t).v := fun t ht => ens_cell HP.out.lst.sl ht
          have HG := Lib.hid hG
          clear hG hjm
          go_wp2
          go_loopg [9] j (fun z v wr => ∃ t : Nat, z = j - t ∧ t ≤ j ∧ v = .int .i64 t ∧ Hid (wr = w2))
          case atStart => exact ⟨0, rfl, Nat.zero_le _, rfl, Lib.hid rfl⟩
          case round =>
            obtain ⟨t, rfl, ht, rfl, HW⟩ := hrel
            have hW := HW.out
            subst hW
            by_cases htj : t < j
            · have htl : t < L.length := by rw [← hm.out]; exact htj
              obtain ⟨ad, rfl, p0⟩ := hcell2.out wr t HP.out.upd htj
              obtain ⟨ad2, rfl, p1⟩ := HG.out t htj
              have hn9 := hn.out t htl
              have hrd := HP.out.read t htj
              obtain ⟨hln, hlo⟩ := HP.out.long t htj
              obtain ⟨x, hx⟩ : ∃ x, ena L t = x := ⟨_, rfl⟩
              obtain ⟨y, hy⟩ : ∃ y, ena G t = y := ⟨_, rfl⟩
              rw [hx] at p0 hn9 hrd hln hlo
              rw [hy] at p1 hln hlo
              obtain ⟨A, n, c⟩ := x
              obtain ⟨A2, n2, c2⟩ := y
              replace p0 : wr.cell? (ad.add t) = some (.slice A n c) := p0
              replace p1 : wr.cell? (ad2.add t) = some (.slice A2 n2 c2) := p1
              replace hn9 : n ≤ 1000000 := hn9
              obtain rfl : n2 = n + 8 := hln
              have HR : Hid (Sl wr 2 A n c (marks_ mkOwnCts t n)) := Lib.hid hrd
              have HLo : Hid (Sl wr 2 A2 (n + 8) c2 (marks_ mkOwnCts t n ++ marks_ mkOwnCts (-1 - t) 8)) := Lib.hid hlo.sl
              clear hrd hlo hx hy htl
              go_wp2
              go_loopg [11] n (fun z v wq => ∃ k : Nat, z = n - k ∧ k ≤ n ∧ v = .int .i64 k ∧ Hid (wq = wr))
              case atStart => exact ⟨0, rfl, Nat.zero_le _, rfl, Lib.hid rfl⟩
              case round =>
                obtain ⟨k, rfl, hk, rfl, HW2⟩ := hrel
                have hW2 := HW2.out
                subst hW2
                by_cases hkn : k < n
                · obtain ⟨ad3, rfl, r0, r1⟩ := own_at2 HR.out hkn (show mkOwnCts t k = [.slice none 0 0, .int .i64 ((t : Int) * 1000 + (k : Int))] from rfl) (fun q hq => marks_at' mkOwnCts_len t hq n k hkn)
                  obtain ⟨ad4, rfl, l0, l1⟩ := own_at2 HLo.out (show k < n + 8 by omega) (show mkOwnCts t k = [.slice none 0 0, .int .i64 ((t : Int) * 1000 + (k : Int))] from rfl) (fun q hq => by rw [List.getElem?_append_left (by rw [marks_len mkOwnCts_len]; have : (k + 1) * 2 ≤ n * 2 := Nat.mul_le_mul_right _ hkn; omega)]; exact marks_at' mkOwnCts_len t hq n k hkn)
                  have wz0 : IntKind.i64.wrap ((t : Int) * 1000) = (t : Int) * 1000 := by rw [IntKind.wrap_i64]; omega
                  have wz1 : IntKind.i64.wrap ((t : Int) * 1000 + (k : Int)) = (t : Int) * 1000 + (k : Int) := by rw [IntKind.wrap_i64]; omega
                  go_wp2
                  go_roundg (n - (k + 1))
                  case measure => omega
                  case rel => exact ⟨k + 1, rfl, by omega, by go_num, Lib.hid rfl⟩
                · obtain rfl : k = n := by omega
                  go_wp2
                  go_loopg [12] 8 (fun z v wq => ∃ q : Nat, z = 8 - q ∧ q ≤ 8 ∧ v = .int .i64 q ∧ Hid (wq = wr))
                  case atStart => exact ⟨0, rfl, Nat.zero_le _, rfl, Lib.hid rfl⟩
                  case round =>
                    obtain ⟨q, rfl, hq, rfl, HW3⟩ := hrel
                    have hW3 := HW3.out
                    subst hW3
                    by_cases hq8 : q < 8
                    · obtain ⟨ad4, rfl, l0, l1⟩ := own_at2 HLo.out (show k + q < k + 8 by omega) (show mkOwnCts (-1 - (t : Int)) q = [.slice none 0 0, .int .i64 ((-1 - (t : Int)) * 1000 + (q : Int))] from rfl) (fun z hz => by rw [show (k + q) * 2 + z = (marks_ mkOwnCts (t : Int) k).length + (q * 2 + z) by rw [marks_len mkOwnCts_len, Nat.add_mul]; omega, List.getElem?_append_right (Nat.le_add_right _ _), Nat.add_sub_cancel_left]; exact marks_at' mkOwnCts_len _ hz 8 q hq8)
                      have wy : IntKind.i64.wrap (-1 - (t : Int)) = -1 - (t : Int) := by rw [IntKind.wrap_i64]; omega
                      have wz0 : IntKind.i64.wrap ((-1 - (t : Int)) * 1000) = (-1 - (t : Int)) * 1000 := by rw [IntKind.wrap_i64]; omega
                      have wz1 : IntKind.i64.wrap ((-1 - (t : Int)) * 1000 + (q : Int)) = (-1 - (t : Int)) * 1000 + (q : Int) := by rw [IntKind.wrap_i64]; omega
                      go_wp2
                      go_roundg (8 - (q + 1))
                      case measure => omega
                      case rel => exact ⟨q + 1, rfl, by omega, by go_num, Lib.hid rfl⟩
                    · obtain rfl : q = 8 := by omega
                      go_wp2
                      go_roundg (j - (t + 1))
                      case measure => omega
                      case rel => exact ⟨t + 1, rfl, by omega, by go_num, Lib.hid rfl⟩
            · obtain rfl : t = j := by omega
              go_wp2
              go_ret
              exact ⟨rfl, HU1.out.trans HP.out.upd⟩
end Go.Proofs.YtdgbkpoickbidaaGreatDoor
namespace Go.Proofs.YtdgbkpoickbidaaGreatDoor
open Go.RowKit

def mkOwnUpds (i : Int) (k : Nat) : List Value := [.slice none 0 0, .int .u64 0, .slice none 0 0, .int .i64 (i * 1000 + (k : Int))]
theorem mkOwnUpds_len (i : Int) (k : Nat) : (mkOwnUpds i k).length = 4 := rfl
theorem mkOwnUpds_one (i : Int) (k : Nat) : ∀ u ∈ mkOwnUpds i k, u.oneCell' = true := by intro u hu; simp [mkOwnUpds] at hu; rcases hu with rfl | rfl | rfl | rfl <;> rfl
theorem elemL_OwnUpds : Elem Tryz.prog 47 22 1 24 (.slice none 0 0) := ⟨by kernel_rfl, by kernel_rfl, rfl, by decide⟩
set_option maxRecDepth 100000 in
set_option maxHeartbeats 8000000 in
theorem ownUpds_any (OA : Option Addr) (oc m B : Nat) (L : List En) (f : Nat → List Value) (w : World) (hm : Hid (m = L.length)) (hs : Hid (Sl w 1 OA m oc (ensC L))) (hl : Hid (Lists w B 95 4 L f)) (hf : Hid (∀ k, blk OA oc = some k → ¬ Foot L k ∧ k < w.heap.size)) (hm9 : m ≤ 10000) (hn : Hid (∀ i, i < L.length → (ena L i).n ≤ 1000000)) (hBw : Hid (B ≤ w.heap.size)) :
    Calls Tryz.prog 133 #[.slice OA m oc] w fun e w' => e = .returned (.bool true) ∧ Upd (Foot L) w w' := by
  have HP0 : Hid (Ph1 mkOwnUpds w w B 95 4 L 0 f) := Lib.hid ⟨hl.out, fun j hj => by omega, Upd.refl _ _⟩
  have hcell : Hid (∀ (wr : World) (i : Nat), Upd (Foot L) w wr → i < m → ∃ ad, OA = some ad ∧ wr.cell? (ad.add i) = some (ena L i).v) := Lib.hid (fun wr i hu hi => ens_cell (hs.out.upd hu (fun k hk => (hf.out k hk).1)) hi)
  go_enter Tryz.func133, Tryz.ntmps133
  go_wp2
  go_loopg [3] m (fun z v wr => ∃ (i : Nat) (f : Nat → List Value), z = m - i ∧ i ≤ m ∧ v = .int .i64 i ∧ Hid (Ph1 mkOwnUpds w wr B 95 4 L i f))
  case atStart => exact ⟨0, f, rfl, Nat.zero_le _, rfl, HP0⟩
  case round =>
    clear HP0
    obtain ⟨i, f, rfl, hi, rfl, HP⟩ := hrel
    obtain ⟨wo, hwo⟩ : ∃ wo : World, wo = wr := ⟨_, rfl⟩
    rw [← hwo] at HP ⊢
    clear hwo
    by_cases hlt : i < m
    · have hil : i < L.length := by rw [← hm.out]; exact hlt
      obtain ⟨ad, rfl, p0⟩ := hcell.out wo i HP.out.upd hlt
      have hn9 := hn.out i hil
      have HIL := Lib.hid hil
      obtain ⟨x, hx⟩ : ∃ x, ena L i = x := ⟨_, rfl⟩
      rw [hx] at p0 hn9
      obtain ⟨A, n, c⟩ := x
      have HXN : Hid ((ena L i).n = n) := Lib.hid (by rw [hx])
      have HX := Lib.hid hx
      clear hil hx
      replace p0 : wo.cell? (ad.add i) = some (.slice A n c) := p0
      replace hn9 : n ≤ 1000000 := hn9
      have HI := Lib.hid HP.out.enter
      go_wp2
      go_loopg [4] n (fun z v wi => ∃ (k : Nat) (f : Nat → List Value), z = n - k ∧ k ≤ n ∧ v = .int .i64 k ∧ Hid (Ph1I mkOwnUpds w wi B 95 4 L i k f))
      case atStart => exact ⟨0, f, rfl, Nat.zero_le _, rfl, HI⟩
      case round =>
        clear HI
        obtain ⟨k, f, rfl, hk, rfl, HI⟩ := hrel
        obtain ⟨wi, hwi⟩ : ∃ wi : World, wi = wr := ⟨_, rfl⟩
        rw [← hwi] at HI ⊢
        clear hwi
        obtain ⟨ad2, e2, p1⟩ := hcell.out wi i HI.out.ph.upd hlt
        cases e2
        rw [HX.out] at p1
        replace p1 : wi.cell? (ad.add i) = some (.slice A n c) := p1
        by_cases hkn : k < n
        · have o1 := HI.out.ph.ls.own i HIL.out
          rw [HX.out] at o1
          obtain ⟨g, eA, hb, _, _, hc, hfz⟩ := o1.form (show 0 < n by omega)
          have hA : (ena L i).A = some ⟨g, 0, none⟩ := by rw [HX.out]; exact eA
          have hbm : (ena L i).b = some g := by unfold En.b; rw [HX.out]; exact hb
          have hfl : (f i).length = n * 4 := o1.1
          subst eA
          have q0 : wi.cell? ⟨g, k * 4, none⟩ = some ((f i)[k * 4]'(by omega)) := hc _ _ (List.getElem?_eq_getElem (by omega))
          have z0 := hfz (k * 4)
          have q1 : wi.cell? ⟨g, k * 4 + 1, none⟩ = some ((f i)[k * 4 + 1]'(by omega)) := hc _ _ (List.getElem?_eq_getElem (by omega))
          have z1 := hfz (k * 4 + 1)
          have q2 : wi.cell? ⟨g, k * 4 + 2, none⟩ = some ((f i)[k * 4 + 2]'(by omega)) := hc _ _ (List.getElem?_eq_getElem (by omega))
          have z2 := hfz (k * 4 + 2)
          have q3 : wi.cell? ⟨g, k * 4 + 3, none⟩ = some ((f i)[k * 4 + 3]'(by omega)) := hc _ _ (List.getElem?_eq_getElem (by omega))
          have z3 := hfz (k * 4 + 3)
          obtain ⟨f', hf'⟩ := HI.out.put4 HIL.out (by rw [HXN.out]; exact hkn) hA hbm (show mkOwnUpds i k = [.slice none 0 0, .int .u64 0, .slice none 0 0, .int .i64 ((i : Int) * 1000 + (k : Int))] from rfl)
          have wz0 : IntKind.i64.wrap ((i : Int) * 1000) = (i : Int) * 1000 := by rw [IntKind.wrap_i64]; omega
          have wz1 : IntKind.i64.wrap ((i : Int) * 1000 + (k : Int)) = (i : Int) * 1000 + (k : Int) := by rw [IntKind.wrap_i64]; omega
          have HF := Lib.hid hf'
          clear hf' o1 hc hfz hb hA hbm
          go_wp2
          go_roundg (n - (k + 1))
          case measure => omega
          case rel => exact ⟨k + 1, f', rfl, by omega, by go_num, HF⟩
        · obtain rfl : k = n := by omega
          go_wp2
          go_roundg (m - (i + 1))
          case measure => omega
          case rel => exact ⟨i + 1, f, rfl, by omega, by go_num, Lib.hid ((show Ph1I mkOwnUpds w wi B 95 4 L i (ena L i).n f from HXN.out ▸ HI.out).leave HIL.out)⟩
    · obtain rfl : i = m := by omega
      have HU1 := Lib.hid HP.out.upd
      have HQ0 : Hid (Ph2 mkOwnUpds wo wo B 95 22 4 L 0 [] none 0) := Lib.hid (Ph2.start 22 (show Ph1 mkOwnUpds w wo B 95 4 L L.length f from hm.out ▸ HP.out))
      have hcell2 : Hid (∀ (wr : World) (j : Nat), Upd (Foot L) wo wr → j < i → ∃ ad, OA = some ad ∧ wr.cell? (ad.add j) = some (ena L j).v) := Lib.hid (fun wr j hu hj => hcell.out wr j (HU1.out.trans hu) hj)
      clear HP
      go_wp2
      go_loopg [5, 6] i (fun z u v wr => ∃ (j : Nat) (G : List En) (LA : Option Addr) (lc : Nat), z = i - j ∧ j ≤ i ∧ v = .int .i64 j ∧ u = .slice LA j lc ∧ Hid (Ph2 mkOwnUpds wo wr B 95 22 4 L j G LA lc))
      case atStart => exact ⟨0, [], none, 0, rfl, Nat.zero_le _, rfl, rfl, HQ0⟩
      case round =>
        clear HQ0
        obtain ⟨j, G, LA, lc, rfl, hj, rfl, rfl, HP⟩ := hrel
        obtain ⟨w2, hw2⟩ : ∃ w2 : World, w2 = wr := ⟨_, rfl⟩
        rw [← hw2] at HP ⊢
        clear hw2
        by_cases hlt2 : j < i
        · have hjl : j < L.length := by rw [← hm.out]; exact hlt2
          obtain ⟨ad, rfl, p0⟩ := hcell2.out w2 j HP.out.upd hlt2
          have hn9 := hn.out j hjl
          have HJL := Lib.hid hjl
          obtain ⟨x, hx⟩ : ∃ x, ena L j = x := ⟨_, rfl⟩
          rw [hx] at p0 hn9
          obtain ⟨A, n, c⟩ := x
          have HXN : Hid ((ena L j).n = n) := Lib.hid (by rw [hx])
          have HXA : Hid ((ena L j).A = A ∧ (ena L j).c = c) := Lib.hid (by rw [hx]; exact ⟨rfl, rfl⟩)
          clear hjl hx
          replace p0 : w2.cell? (ad.add j) = some (.slice A n c) := p0
          replace hn9 : n ≤ 1000000 := hn9
          have HI : Hid (Ph2I mkOwnUpds w2 w2 B 95 4 L j 0 A c) := Lib.hid (by have := HP.out.enter HJL.out; rwa [HXA.out.1, HXA.out.2] at this)
          go_wp2
          go_loopg [7, 8] 8 (fun z u v wi => ∃ (k : Nat) (A' : Option Addr) (c' : Nat), z = 8 - k ∧ k ≤ 8 ∧ v = .int .i64 k ∧ u = .slice A' (n + k) c' ∧ Hid (Ph2I mkOwnUpds w2 wi B 95 4 L j k A' c'))
          case atStart => exact ⟨0, A, c, rfl, Nat.zero_le _, rfl, rfl, HI⟩
          case round =>
            clear HI
            obtain ⟨k, A', c', rfl, hk, rfl, rfl, HI⟩ := hrel
            by_cases hk8 : k < 8
            · have wy : IntKind.i64.wrap (-1 - (j : Int)) = -1 - (j : Int) := by rw [IntKind.wrap_i64]; omega
              have wz0 : IntKind.i64.wrap ((-1 - (j : Int)) * 1000) = (-1 - (j : Int)) * 1000 := by rw [IntKind.wrap_i64]; omega
              have wz1 : IntKind.i64.wrap ((-1 - (j : Int)) * 1000 + (k : Int)) = (-1 - (j : Int)) * 1000 + (k : Int) := by rw [IntKind.wrap_i64]; omega
              have HO : Hid (Own wr B 95 4 A' (n + k) c' (marks_ mkOwnUpds j (ena L j).n ++ marks_ mkOwnUpds (-1 - j) k)) := Lib.hid (by have := HI.out.own; rwa [HXN.out] at this ⊢)
              have hB : B ≤ (wr.alloc (.cells (#[.slice none 0 0, .int .u64 0, .slice none 0 0, .int .i64 ((-1 - (j : Int)) * 1000 + (k : Int))] : Array Value) 95)).heap.size := by
                have h1 := HI.out.upd.size
                have h2 := ((Ext.refl wr).alloc (.cells (#[.slice none 0 0, .int .u64 0, .slice none 0 0, .int .i64 ((-1 - (j : Int)) * 1000 + (k : Int))] : Array Value) 95)).size
                have h3 := HP.out.upd.size
                have h4 := HU1.out.size
                have h5 := hBw.out
                omega
              go_wp2_with (at_builtin; go_loud (refine wpList_append_two _ elem_ud B _ _ rfl rfl A' (n + k) c' _ rfl (HO.out.alloc _) (some ⟨wr.heap.size, 0, none⟩) 1 1 (mkOwnUpds (-1 - (j : Int)) k) rfl (Sl.one wr #[.slice none 0 0, .int .u64 0, .slice none 0 0, .int .i64 ((-1 - (j : Int)) * 1000 + (k : Int))] 95 4 rfl) (mkOwnUpds_one _ _) (by omega) (by decide) hB ?_); intro A3 c3 w3 o3 g3 x3; have HN3 : Hid (Ph2I mkOwnUpds w2 w3 B 95 4 L j (k + 1) A3 c3) := Lib.hid (HI.out.step mkOwnUpds_len _ (by have := o3; rwa [← HXN.out] at this) g3 x3); clear o3 g3 x3)
              go_roundg (8 - (k + 1))
              case measure => omega
              case rel => exact ⟨k + 1, A3, c3, rfl, by omega, by go_num, rfl, HN3⟩
            · obtain rfl : k = 8 := by omega
              have hlst : ∀ wr : World, Ph2I mkOwnUpds w2 wr B 95 4 L j 8 A' c' → Own wr wo.heap.size 22 1 LA j lc (ensC G) := fun wr h => HP.out.lst.upd h.upd (fun q hq e => by
                have h1 := HP.out.foot q ⟨j, HJL.out, e⟩
                have h2 := (HP.out.lst.lt q hq).1
                omega)
              go_wp2_with (at_builtin; go_loud (refine wpList_append_two _ elemL_OwnUpds wo.heap.size _ _ rfl rfl LA j lc (ensC G) rfl ((hlst wr HI.out).alloc _) (some ⟨wr.heap.size, 0, none⟩) 1 1 [.slice A' (n + 8) c'] rfl (Sl.one wr #[.slice A' (n + 8) c'] 22 1 rfl) (ensC_one [⟨A', n + 8, c'⟩]) (by omega) (by decide) (by have h1 := HI.out.upd.size; have h2 := HP.out.upd.size; have h3 := ((Ext.refl wr).alloc (.cells (#[.slice A' (n + 8) c'] : Array Value) 22)).size; omega) ?_); intro LA4 lc4 w4 o4 g4 x4; have HN4 : Hid (Ph2 mkOwnUpds wo w4 B 95 22 4 L (j + 1) (G ++ [⟨A', (ena L j).n + 8, c'⟩]) LA4 lc4) := Lib.hid (HP.out.next HJL.out HI.out _ (by have := o4; rwa [← HXN.out] at this) g4 x4); clear o4 g4 x4)
              go_roundg (i - (j + 1))
              case measure => omega
              case rel => exact ⟨j + 1, _, LA4, lc4, rfl, by omega, by go_num, rfl, HN4⟩
        · obtain rfl : j = i := by omega
          have hjm : j = L.length := hm.out
          have hG : ∀ t, t < j → ∃ ad, LA = some ad ∧ w2.cell? (ad.add t) = some (ena G t).v := fun t ht => ens_cell HP.out.lst.sl ht
          have HG := Lib.hid hG
          clear hG hjm
          go_wp2
          go_loopg [9] j (fun z v wr => ∃ t : Nat, z = j - t ∧ t ≤ j ∧ v = .int .i64 t ∧ Hid (wr = w2))
          case atStart => exact ⟨0, rfl, Nat.zero_le _, rfl, Lib.hid rfl⟩
          case round =>
            obtain ⟨t, rfl, ht, rfl, HW⟩ := hrel
            have hW := HW.out
            subst hW
            by_cases htj : t < j
            · have htl : t < L.length := by rw [← hm.out]; exact htj
              obtain ⟨ad, rfl, p0⟩ := hcell2.out wr t HP.out.upd htj
              obtain ⟨ad2, rfl, p1⟩ := HG.out t htj
              have hn9 := hn.out t htl
              have hrd := HP.out.read t htj
              obtain ⟨hln, hlo⟩ := HP.out.long t htj
              obtain ⟨x, hx⟩ : ∃ x, ena L t = x := ⟨_, rfl⟩
              obtain ⟨y, hy⟩ : ∃ y, ena G t = y := ⟨_, rfl⟩
              rw [hx] at p0 hn9 hrd hln hlo
              rw [hy] at p1 hln hlo
              obtain ⟨A, n, c⟩ := x
              obtain ⟨A2, n2, c2⟩ := y
              replace p0 : wr.cell? (ad.add t) = some (.slice A n c) := p0
              replace p1 : wr.cell? (ad2.add t) = some (.slice A2 n2 c2) := p1
              replace hn9 : n ≤ 1000000 := hn9
              obtain rfl : n2 = n + 8 := hln
              have HR : Hid (Sl wr 4 A n c (marks_ mkOwnUpds t n)) := Lib.hid hrd
              have HLo : Hid (Sl wr 4 A2 (n + 8) c2 (marks_ mkOwnUpds t n ++ marks_ mkOwnUpds (-1 - t) 8)) := Lib.hid hlo.sl
              clear hrd hlo hx hy htl
              go_wp2
              go_loopg [11] n (fun z v wq => ∃ k : Nat, z = n - k ∧ k ≤ n ∧ v = .int .i64 k ∧ Hid (wq = wr))
              case atStart => exact ⟨0, rfl, Nat.zero_le _, rfl, Lib.hid rfl⟩
              case round =>
                obtain ⟨k, rfl, hk, rfl, HW2⟩ := hrel
                have hW2 := HW2.out
                subst hW2
                by_cases hkn : k < n
                · obtain ⟨ad3, rfl, r0, r1, r2, r3⟩ := own_at4 HR.out hkn (show mkOwnUpds t k = [.slice none 0 0, .int .u64 0, .slice none 0 0, .int .i64 ((t : Int) * 1000 + (k : Int))] from rfl) (fun q hq => marks_at' mkOwnUpds_len t hq n k hkn)
                  obtain ⟨ad4, rfl, l0, l1, l2, l3⟩ := own_at4 HLo.out (show k < n + 8 by omega) (show mkOwnUpds t k = [.slice none 0 0, .int .u64 0, .slice none 0 0, .int .i64 ((t : Int) * 1000 + (k : Int))] from rfl) (fun q hq => by rw [List.getElem?_append_left (by rw [marks_len mkOwnUpds_len]; have : (k + 1) * 4 ≤ n * 4 := Nat.mul_le_mul_right _ hkn; omega)]; exact marks_at' mkOwnUpds_len t hq n k hkn)
                  have wz0 : IntKind.i64.wrap ((t : Int) * 1000) = (t : Int) * 1000 := by rw [IntKind.wrap_i64]; omega
                  have wz1 : IntKind.i64.wrap ((t : Int) * 1000 + (k : Int)) = (t : Int) * 1000 + (k : Int) := by rw [IntKind.wrap_i64]; omega
                  go_wp2
                  go_roundg (n - (k + 1))
                  case measure => omega
                  case rel => exact ⟨k + 1, rfl, by omega, by go_num, Lib.hid rfl⟩
                · obtain rfl : k = n := by omega
                  go_wp2
                  go_loopg [12] 8 (fun z v wq => ∃ q : Nat, z = 8 - q ∧ q ≤ 8 ∧ v = .int .i64 q ∧ Hid (wq = wr))
                  case atStart => exact ⟨0, rfl, Nat.zero_le _, rfl, Lib.hid rfl⟩
                  case round =>
                    obtain ⟨q, rfl, hq, rfl, HW3⟩ := hrel
                    have hW3 := HW3.out
                    subst hW3
                    by_cases hq8 : q < 8
                    · obtain ⟨ad4, rfl, l0, l1, l2, l3⟩ := own_at4 HLo.out (show k + q < k + 8 by omega) (show mkOwnUpds (-1 - (t : Int)) q = [.slice none 0 0, .int .u64 0, .slice none 0 0, .int .i64 ((-1 - (t : Int)) * 1000 + (q : Int))] from rfl) (fun z hz => by rw [show (k + q) * 4 + z = (marks_ mkOwnUpds (t : Int) k).length + (q * 4 + z) by rw [marks_len mkOwnUpds_len, Nat.add_mul]; omega, List.getElem?_append_right (Nat.le_add_right _ _), Nat.add_sub_cancel_left]; exact marks_at' mkOwnUpds_len _ hz 8 q hq8)
                      have wy : IntKind.i64.wrap (-1 - (t : Int)) = -1 - (t : Int) := by rw [IntKind.wrap_i64]; omega
                      have wz0 : IntKind.i64.wrap ((-1 - (t : Int)) * 1000) = (-1 - (t : Int)) * 1000 := by rw [IntKind.wrap_i64]; omega
                      have wz1 : IntKind.i64.wrap ((-1 - (t : Int)) * 1000 + (q : Int)) = (-1 - (t : Int)) * 1000 + (q : Int) := by rw [IntKind.wrap_i64]; omega
                      go_wp2
                      go_roundg (8 - (q + 1))
                      case measure => omega
                      case rel => exact ⟨q + 1, rfl, by omega, by go_num, Lib.hid rfl⟩
                    · obtain rfl : q = 8 := by omega
                      go_wp2
                      go_roundg (j - (t + 1))
                      case measure => omega
                      case rel => exact ⟨t + 1, rfl, by omega, by go_num, Lib.hid rfl⟩
            · obtain rfl : t = j := by omega
              go_wp2
              go_ret
              exact ⟨rfl, HU1.out.trans HP.out.upd⟩
end Go.Proofs.YtdgbkpoickbidaaGreatDoor
namespace Go.Proofs.YtdgbkpoickbidaaGreatDoor
open Go.RowKit

def mkOwnTimes (i : Int) (k : Nat) : List Value := [.int .u64 (1099511627776 + i * 1000 + (k : Int)), .slice none 0 0]
theorem mkOwnTimes_len (i : Int) (k : Nat) : (mkOwnTimes i k).length = 2 := rfl
theorem mkOwnTimes_one (i : Int) (k : Nat) : ∀ u ∈ mkOwnTimes i k, u.oneCell' = true := by intro u hu; simp [mkOwnTimes] at hu; rcases hu with rfl | rfl <;> rfl
theorem elemL_OwnTimes : Elem Tryz.prog 48 27 1 24 (.slice none 0 0) := ⟨by kernel_rfl, by kernel_rfl, rfl, by decide⟩
set_option maxRecDepth 100000 in
set_option maxHeartbeats 8000000 in
theorem ownTimes_any (OA : Option Addr) (oc m B : Nat) (L : List En) (f : Nat → List Value) (w : World) (hm : Hid (m = L.length)) (hs : Hid (Sl w 1 OA m oc (ensC L))) (hl : Hid (Lists w B 26 2 L f)) (hf : Hid (∀ k, blk OA oc = some k → ¬ Foot L k ∧ k < w.heap.size)) (hm9 : m ≤ 10000) (hn : Hid (∀ i, i < L.length → (ena L i).n ≤ 1000000)) (hBw : Hid (B ≤ w.heap.size)) :
    Calls Tryz.prog 134 #[.slice OA m oc] w fun e w' => e = .returned (.bool true) ∧ Upd (Foot L) w w' := by
  have HP0 : Hid (Ph1 mkOwnTimes w w B 26 2 L 0 f) := Lib.hid ⟨hl.out, fun j hj => by omega, Upd.refl _ _⟩
  have hcell : Hid (∀ (wr : World) (i : Nat), Upd (Foot L) w wr → i < m → ∃ ad, OA = some ad ∧ wr.cell? (ad.add i) = some (ena L i).v) := Lib.hid (fun wr i hu hi => ens_cell (hs.out.upd hu (fun k hk => (hf.out k hk).1)) hi)
  go_enter Tryz.func134, Tryz.ntmps134
  go_wp2
  go_loopg [3] m (fun z v wr => ∃ (i : Nat) (f : Nat → List Value), z = m - i ∧ i ≤ m ∧ v = .int .i64 i ∧ Hid (Ph1 mkOwnTimes w wr B 26 2 L i f))
  case atStart => exact ⟨0, f, rfl, Nat.zero_le _, rfl, HP0⟩
  case round =>
    clear HP0
    obtain ⟨i, f, rfl, hi, rfl, HP⟩ := hrel
    obtain ⟨wo, hwo⟩ : ∃ wo : World, wo = wr := ⟨_, rfl⟩
    rw [← hwo] at HP ⊢
    clear hwo
    by_cases hlt : i < m
    · have hil : i < L.length := by rw [← hm.out]; exact hlt
      obtain ⟨ad, rfl, p0⟩ := hcell.out wo i HP.out.upd hlt
      have hn9 := hn.out i hil
      have HIL := Lib.hid hil
      obtain ⟨x, hx⟩ : ∃ x, ena L i = x := ⟨_, rfl⟩
      rw [hx] at p0 hn9
      obtain ⟨A, n, c⟩ := x
      have HXN : Hid ((ena L i).n = n) := Lib.hid (by rw [hx])
      have HX := Lib.hid hx
      clear hil hx
      replace p0 : wo.cell? (ad.add i) = some (.slice A n c) := p0
      replace hn9 : n ≤ 1000000 := hn9
      have HI := Lib.hid HP.out.enter
      go_wp2
      go_loopg [4] n (fun z v wi => ∃ (k : Nat) (f : Nat → List Value), z = n - k ∧ k ≤ n ∧ v = .int .i64 k ∧ Hid (Ph1I mkOwnTimes w wi B 26 2 L i k f))
      case atStart => exact ⟨0, f, rfl, Nat.zero_le _, rfl, HI⟩
      case round =>
        clear HI
        obtain ⟨k, f, rfl, hk, rfl, HI⟩ := hrel
        obtain ⟨wi, hwi⟩ : ∃ wi : World, wi = wr := ⟨_, rfl⟩
        rw [← hwi] at HI ⊢
        clear hwi
        obtain ⟨ad2, e2, p1⟩ := hcell.out wi i HI.out.ph.upd hlt
        cases e2
        rw [HX.out] at p1
        replace p1 : wi.cell? (ad.add i) = some (.slice A n c) := p1
        by_cases hkn : k < n
        · have o1 := HI.out.ph.ls.own i HIL.out
          rw [HX.out] at o1
          obtain ⟨g, eA, hb, _, _, hc, hfz⟩ := o1.form (show 0 < n by omega)
          have hA : (ena L i).A = some ⟨g, 0, none⟩ := by rw [HX.out]; exact eA
          have hbm : (ena L i).b = some g := by unfold En.b; rw [HX.out]; exact hb
          have hfl : (f i).length = n * 2 := o1.1
          subst eA
          have q0 : wi.cell? ⟨g, k * 2, none⟩ = some ((f i)[k * 2]'(by omega)) := hc _ _ (List.getElem?_eq_getElem (by omega))
          have z0 := hfz (k * 2)
          have q1 : wi.cell? ⟨g, k * 2 + 1, none⟩ = some ((f i)[k * 2 + 1]'(by omega)) := hc _ _ (List.getElem?_eq_getElem (by omega))
          have z1 := hfz (k * 2 + 1)
          obtain ⟨f', hf'⟩ := HI.out.put2 HIL.out (by rw [HXN.out]; exact hkn) hA hbm (show mkOwnTimes i k = [.int .u64 (1099511627776 + (i : Int) * 1000 + (k : Int)), .slice none 0 0] from rfl)
          have wz0 : IntKind.i64.wrap ((i : Int) * 1000) = (i : Int) * 1000 := by rw [IntKind.wrap_i64]; omega
          have wz1 : IntKind.i64.wrap (1099511627776 + (i : Int) * 1000) = 1099511627776 + (i : Int) * 1000 := by rw [IntKind.wrap_i64]; omega
          have wz2 : IntKind.i64.wrap (1099511627776 + (i : Int) * 1000 + (k : Int)) = 1099511627776 + (i : Int) * 1000 + (k : Int) := by rw [IntKind.wrap_i64]; omega
          have wz3 : IntKind.u64.wrap (1099511627776 + (i : Int) * 1000 + (k : Int)) = 1099511627776 + (i : Int) * 1000 + (k : Int) := by rw [IntKind.wrap_u64]; omega
          have HF := Lib.hid hf'
          clear hf' o1 hc hfz hb hA hbm
          go_wp2
          go_roundg (n - (k + 1))
          case measure => omega
          case rel => exact ⟨k + 1, f', rfl, by omega, by go_num, HF⟩
        · obtain rfl : k = n := by omega
          go_wp2
          go_roundg (m - (i + 1))
          case measure => omega
          case rel => exact ⟨i + 1, f, rfl, by omega, by go_num, Lib.hid ((show Ph1I mkOwnTimes w wi B 26 2 L i (ena L i).n f from HXN.out ▸ HI.out).leave HIL.out)⟩
    · obtain rfl : i = m := by omega
      have HU1 := Lib.hid HP.out.upd
      have HQ0 : Hid (Ph2 mkOwnTimes wo wo B 26 27 2 L 0 [] none 0) := Lib.hid (Ph2.start 27 (show Ph1 mkOwnTimes w wo B 26 2 L L.length f from hm.out ▸ HP.out))
      have hcell2 : Hid (∀ (wr : World) (j : Nat), Upd (Foot L) wo wr → j < i → ∃ ad, OA = some ad ∧ wr.cell? (ad.add j) = some (ena L j).v) := Lib.hid (fun wr j hu hj => hcell.out wr j (HU1.out.trans hu) hj)
      clear HP
      go_wp2
      go_loopg [5, 6] i (fun z u v wr => ∃ (j : Nat) (G : List En) (LA : Option Addr) (lc : Nat), z = i - j ∧ j ≤ i ∧ v = .int .i64 j ∧ u = .slice LA j lc ∧ Hid (Ph2 mkOwnTimes wo wr B 26 27 2 L j G LA lc))
      case atStart => exact ⟨0, [], none, 0, rfl, Nat.zero_le _, rfl, rfl, HQ0⟩
      case round =>
        clear HQ0
        obtain ⟨j, G, LA, lc, rfl, hj, rfl, rfl, HP⟩ := hrel
        obtain ⟨w2, hw2⟩ : ∃ w2 : World, w2 = wr := ⟨_, rfl⟩
        rw [← hw2] at HP ⊢
        clear hw2
        by_cases hlt2 : j < i
        · have hjl : j < L.length := by rw [← hm.out]; exact hlt2
          obtain ⟨ad, rfl, p0⟩ := hcell2.out w2 j HP.out.upd hlt2
          have hn9 := hn.out j hjl
          have HJL := Lib.hid hjl
          obtain ⟨x, hx⟩ : ∃ x, ena L j = x := ⟨_, rfl⟩
          rw [hx] at p0 hn9
          obtain ⟨A, n, c⟩ := x
          have HXN : Hid ((ena L j).n = n) := Lib.hid (by rw [hx])
          have HXA : Hid ((ena L j).A = A ∧ (ena L j).c = c) := Lib.hid (by rw [hx]; exact ⟨rfl, rfl⟩)
          clear hjl hx
          replace p0 : w2.cell? (ad.add j) = some (.slice A n c) := p0
          replace hn9 : n ≤ 1000000 := hn9
          have HI : Hid (Ph2I mkOwnTimes w2 w2 B 26 2 L j 0 A c) := Lib.hid (by have := HP.out.enter HJL.out; rwa [HXA.out.1, HXA.out.2] at this)
          go_wp2
          go_loopg [7, 8] 8 (fun z u v wi => ∃ (k : Nat) (A' : Option Addr) (c' : Nat), z = 8 - k ∧ k ≤ 8 ∧ v = .int .i64 k ∧ u = .slice A' (n + k) c' ∧ Hid (Ph2I mkOwnTimes w2 wi B 26 2 L j k A' c'))
          case atStart => exact ⟨0, A, c, rfl, Nat.zero_le _, rfl, rfl, HI⟩
          case round =>
            clear HI
            obtain ⟨k, A', c', rfl, hk, rfl, rfl, HI⟩ := hrel
            by_cases hk8 : k < 8
            · have wy : IntKind.i64.wrap (-1 - (j : Int)) = -1 - (j : Int) := by rw [IntKind.wrap_i64]; omega
              have wz0 : IntKind.i64.wrap ((-1 - (j : Int)) * 1000) = (-1 - (j : Int)) * 1000 := by rw [IntKind.wrap_i64]; omega
              have wz1 : IntKind.i64.wrap (1099511627776 + (-1 - (j : Int)) * 1000) = 1099511627776 + (-1 - (j : Int)) * 1000 := by rw [IntKind.wrap_i64]; omega
              have wz2 : IntKind.i64.wrap (1099511627776 + (-1 - (j : Int)) * 1000 + (k : Int)) = 1099511627776 + (-1 - (j : Int)) * 1000 + (k : Int) := by rw [IntKind.wrap_i64]; omega
              have wz3 : IntKind.u64.wrap (1099511627776 + (-1 - (j : Int)) * 1000 + (k : Int)) = 1099511627776 + (-1 - (j : Int)) * 1000 + (k : Int) := by rw [IntKind.wrap_u64]; omega
              have HO : Hid (Own wr B 26 2 A' (n + k) c' (marks_ mkOwnTimes j (ena L j).n ++ marks_ mkOwnTimes (-1 - j) k)) := Lib.hid (by have := HI.out.own; rwa [HXN.out] at this ⊢)
              have hB : B ≤ (wr.alloc (.cells (#[.int .u64 (1099511627776 + (-1 - (j : Int)) * 1000 + (k : Int)), .slice none 0 0] : Array Value) 26)).heap.size := by
                have h1 := HI.out.upd.size
                have h2 := ((Ext.refl wr).alloc (.cells (#[.int .u64 (1099511627776 + (-1 - (j : Int)) * 1000 + (k : Int)), .slice none 0 0] : Array Value) 26)).size
                have h3 := HP.out.upd.size
                have h4 := HU1.out.size
                have h5 := hBw.out
                omega
              go_wp2_with (at_builtin; go_loud (refine wpList_append_two _ elemTimes B _ _ rfl rfl A' (n + k) c' _ rfl (HO.out.alloc _) (some ⟨wr.heap.size, 0, none⟩) 1 1 (mkOwnTimes (-1 - (j : Int)) k) rfl (Sl.one wr #[.int .u64 (1099511627776 + (-1 - (j : Int)) * 1000 + (k : Int)), .slice none 0 0] 26 2 rfl) (mkOwnTimes_one _ _) (by omega) (by decide) hB ?_); intro A3 c3 w3 o3 g3 x3; have HN3 : Hid (Ph2I mkOwnTimes w2 w3 B 26 2 L j (k + 1) A3 c3) := Lib.hid (HI.out.step mkOwnTimes_len _ (by have := o3; rwa [← HXN.out] at this) g3 x3); clear o3 g3 x3)
              go_roundg (8 - (k + 1))
              case measure => omega
              case rel => exact ⟨k + 1, A3, c3, rfl, by omega, by go_num, rfl, HN3⟩
            · obtain rfl : k = 8 := by omega
              have hlst : ∀ wr : World, Ph2I mkOwnTimes w2 wr B 26 2 L j 8 A' c' → Own wr wo.heap.size 27 1 LA j lc (ensC G) := fun wr h => HP.out.lst.upd h.upd (fun q hq e => by
                have h1 := HP.out.foot q ⟨j, HJL.out, e⟩
                have h2 := (HP.out.lst.lt q hq).1
                omega)
              go_wp2_with (at_builtin; go_loud (refine wpList_append_two _ elemL_OwnTimes wo.heap.size _ _ rfl rfl LA j lc (ensC G) rfl ((hlst wr HI.out).alloc _) (some ⟨wr.heap.size, 0, none⟩) 1 1 [.slice A' (n + 8) c'] rfl (Sl.one wr #[.slice A' (n + 8) c'] 27 1 rfl) (ensC_one [⟨A', n + 8, c'⟩]) (by omega) (by decide) (by have h1 := HI.out.upd.size; have h2 := HP.out.upd.size; have h3 := ((Ext.refl wr).alloc (.cells (#[.slice A' (n + 8) c'] : Array Value) 27)).size; omega) ?_); intro LA4 lc4 w4 o4 g4 x4; have HN4 : Hid (Ph2 mkOwnTimes wo w4 B 26 27 2 L (j + 1) (G ++ [⟨A', (ena L j).n + 8, c'⟩]) LA4 lc4) := Lib.hid (HP.out.next HJL.out HI.out _ (by have := o4; rwa [← HXN.out] at this) g4 x4); clear o4 g4 x4)
              go_roundg (i - (j + 1))
              case measure => omega
              case rel => exact ⟨j + 1, _, LA4, lc4, rfl, by omega, by go_num, rfl, HN4⟩
        · obtain rfl : j = i := by omega
          have hjm : j = L.length := hm.out
          have hG : ∀ t, t < j → ∃ ad, LA = some ad ∧ w2.cell? (ad.add t) = some (ena G t).v := fun t ht => ens_cell HP.out.lst.sl ht
          have HG := Lib.hid hG
          clear hG hjm
          go_wp2
          go_loopg [9] j (fun z v wr => ∃ t : Nat, z = j - t ∧ t ≤ j ∧ v = .int .i64 t ∧ Hid (wr = w2))
          case atStart => exact ⟨0, rfl, Nat.zero_le _, rfl, Lib.hid rfl⟩
          case round =>
            obtain ⟨t, rfl, ht, rfl, HW⟩ := hrel
            have hW := HW.out
            subst hW
            by_cases htj : t < j
            · have htl : t < L.length := by rw [← hm.out]; exact htj
              obtain ⟨ad, rfl, p0⟩ := hcell2.out wr t HP.out.upd htj
              obtain ⟨ad2, rfl, p1⟩ := HG.out t htj
              have hn9 := hn.out t htl
              have hrd := HP.out.read t htj
              obtain ⟨hln, hlo⟩ := HP.out.long t htj
              obtain ⟨x, hx⟩ : ∃ x, ena L t = x := ⟨_, rfl⟩
              obtain ⟨y, hy⟩ : ∃ y, ena G t = y := ⟨_, rfl⟩
              rw [hx] at p0 hn9 hrd hln hlo
              rw [hy] at p1 hln hlo
              obtain ⟨A, n, c⟩ := x
              obtain ⟨A2, n2, c2⟩ := y
              replace p0 : wr.cell? (ad.add t) = some (.slice A n c) := p0
              replace p1 : wr.cell? (ad2.add t) = some (.slice A2 n2 c2) := p1
              replace hn9 : n ≤ 1000000 := hn9
              obtain rfl : n2 = n + 8 := hln
              have HR : Hid (Sl wr 2 A n c (marks_ mkOwnTimes t n)) := Lib.hid hrd
              have HLo : Hid (Sl wr 2 A2 (n + 8) c2 (marks_ mkOwnTimes t n ++ marks_ mkOwnTimes (-1 - t) 8)) := Lib.hid hlo.sl
              clear hrd hlo hx hy htl
              go_wp2
              go_loopg [11] n (fun z v wq => ∃ k : Nat, z = n - k ∧ k ≤ n ∧ v = .int .i64 k ∧ Hid (wq = wr))
              case atStart => exact ⟨0, rfl, Nat.zero_le _, rfl, Lib.hid rfl⟩
              case round =>
                obtain ⟨k, rfl, hk, rfl, HW2⟩ := hrel
                have hW2 := HW2.out
                subst hW2
                by_cases hkn : k < n
                · obtain ⟨ad3, rfl, r0, r1⟩ := own_at2 HR.out hkn (show mkOwnTimes t k = [.int .u64 (1099511627776 + (t : Int) * 1000 + (k : Int)), .slice none 0 0] from rfl) (fun q hq => marks_at' mkOwnTimes_len t hq n k hkn)
                  obtain ⟨ad4, rfl, l0, l1⟩ := own_at2 HLo.out (show k < n + 8 by omega) (show mkOwnTimes t k = [.int .u64 (1099511627776 + (t : Int) * 1000 + (k : Int)), .slice none 0 0] from rfl) (fun q hq => by rw [List.getElem?_append_left (by rw [marks_len mkOwnTimes_len]; have : (k + 1) * 2 ≤ n * 2 := Nat.mul_le_mul_right _ hkn; omega)]; exact marks_at' mkOwnTimes_len t hq n k hkn)
                  have wz0 : IntKind.i64.wrap ((t : Int) * 1000) = (t : Int) * 1000 := by rw [IntKind.wrap_i64]; omega
                  have wz1 : IntKind.i64.wrap (1099511627776 + (t : Int) * 1000) = 1099511627776 + (t : Int) * 1000 := by rw [IntKind.wrap_i64]; omega
                  have wz2 : IntKind.i64.wrap (1099511627776 + (t : Int) * 1000 + (k : Int)) = 1099511627776 + (t : Int) * 1000 + (k : Int) := by rw [IntKind.wrap_i64]; omega
                  have wz3 : IntKind.u64.wrap (1099511627776 + (t : Int) * 1000 + (k : Int)) = 1099511627776 + (t : Int) * 1000 + (k : Int) := by rw [IntKind.wrap_u64]; omega
                  go_wp2
                  go_roundg (n - (k + 1))
                  case measure => omega
                  case rel => exact ⟨k + 1, rfl, by omega, by go_num, Lib.hid rfl⟩
                · obtain rfl : k = n := by omega
                  go_wp2
                  go_loopg [12] 8 (fun z v wq => ∃ q : Nat, z = 8 - q ∧ q ≤ 8 ∧ v = .int .i64 q ∧ Hid (wq = wr))
                  case atStart => exact ⟨0, rfl, Nat.zero_le _, rfl, Lib.hid rfl⟩
                  case round =>
                    obtain ⟨q, rfl, hq, rfl, HW3⟩ := hrel
                    have hW3 := HW3.out
                    subst hW3
                    by_cases hq8 : q < 8
                    · obtain ⟨ad4, rfl, l0, l1⟩ := own_at2 HLo.out (show k + q < k + 8 by omega) (show mkOwnTimes (-1 - (t : Int)) q = [.int .u64 (1099511627776 + (-1 - (t : Int)) * 1000 + (q : Int)), .slice none 0 0] from rfl) (fun z hz => by rw [show (k + q) * 2 + z = (marks_ mkOwnTimes (t : Int) k).length + (q * 2 + z) by rw [marks_len mkOwnTimes_len, Nat.add_mul]; omega, List.getElem?_append_right (Nat.le_add_right _ _), Nat.add_sub_cancel_left]; exact marks_at' mkOwnTimes_len _ hz 8 q hq8)
                      have wy : IntKind.i64.wrap (-1 - (t : Int)) = -1 - (t : Int) := by rw [IntKind.wrap_i64]; omega
                      have wz0 : IntKind.i64.wrap ((-1 - (t : Int)) * 1000) = (-1 - (t : Int)) * 1000 := by rw [IntKind.wrap_i64]; omega
                      have wz1 : IntKind.i64.wrap (1099511627776 + (-1 - (t : Int)) * 1000) = 1099511627776 + (-1 - (t : Int)) * 1000 := by rw [IntKind.wrap_i64]; omega
                      have wz2 : IntKind.i64.wrap (1099511627776 + (-1 - (t : Int)) * 1000 + (q : Int)) = 1099511627776 + (-1 - (t : Int)) * 1000 + (q : Int) := by rw [IntKind.wrap_i64]; omega
                      have wz3 : IntKind.u64.wrap (1099511627776 + (-1 - (t : Int)) * 1000 + (q : Int)) = 1099511627776 + (-1 - (t : Int)) * 1000 + (q : Int) := by rw [IntKind.wrap_u64]; omega
                      go_wp2
                      go_roundg (8 - (q + 1))
                      case measure => omega
                      case rel => exact ⟨q + 1, rfl, by omega, by go_num, Lib.hid rfl⟩
                    · obtain rfl : q = 8 := by omega
                      go_wp2
                      go_roundg (j - (t + 1))
                      case measure => omega
                      case rel => exact ⟨t + 1, rfl, by omega, by go_num, Lib.hid rfl⟩
            · obtain rfl : t = j := by omega
              go_wp2
              go_ret
              exact ⟨rfl, HU1.out.trans HP.out.upd⟩
end Go.Proofs.YtdgbkpoickbidaaGreatDoor
namespace Go.Proofs.YtdgbkpoickbidaaGreatDoor
open Go.RowKit

set_option maxRecDepth 100000 in
set_option maxHeartbeats 400000 in
theorem ownBytes_nil (w : World) : Calls Tryz.prog 123 #[.slice none 0 0] w fun e w' => e = .returned (.bool true) ∧ w = w' := by
  go_enter Tryz.func123, Tryz.ntmps123
  go_wp2
  refine wp_loop_rounds 1 ?_
  rw [rounds_succ]
  go_wp2
  refine wp_loop_rounds 1 ?_
  rw [rounds_succ]
  go_wp2
  refine wp_loop_rounds 1 ?_
  rw [rounds_succ]
  go_wp2
  go_ret
  exact ⟨rfl, rfl⟩
set_option maxRecDepth 100000 in
set_option maxHeartbeats 400000 in
theorem ownTexts_nil (w : World) : Calls Tryz.prog 124 #[.slice none 0 0] w fun e w' => e = .returned (.bool true) ∧ w = w' := by
  go_enter Tryz.func124, Tryz.ntmps124
  go_wp2
  refine wp_loop_rounds 1 ?_
  rw [rounds_succ]
  go_wp2
  refine wp_loop_rounds 1 ?_
  rw [rounds_succ]
  go_wp2
  refine wp_loop_rounds 1 ?_
  rw [rounds_succ]
  go_wp2
  go_ret
  exact ⟨rfl, rfl⟩
set_option maxRecDepth 100000 in
set_option maxHeartbeats 400000 in
theorem ownInts_nil (w : World) : Calls Tryz.prog 125 #[.slice none 0 0] w fun e w' => e = .returned (.bool true) ∧ w = w' := by
  go_enter Tryz.func125, Tryz.ntmps125
  go_wp2
  refine wp_loop_rounds 1 ?_
  rw [rounds_succ]
  go_wp2
  refine wp_loop_rounds 1 ?_
  rw [rounds_succ]
  go_wp2
  refine wp_loop_rounds 1 ?_
  rw [rounds_succ]
  go_wp2
  go_ret
  exact ⟨rfl, rfl⟩
set_option maxRecDepth 100000 in
set_option maxHeartbeats 400000 in
theorem ownSorts_nil (w : World) : Calls Tryz.prog 128 #[.slice none 0 0] w fun e w' => e = .returned (.bool true) ∧ w = w' := by
  go_enter Tryz.func128, Tryz.ntmps128
  go_wp2
  refine wp_loop_rounds 1 ?_
  rw [rounds_succ]
  go_wp2
  refine wp_loop_rounds 1 ?_
  rw [rounds_succ]
  go_wp2
  refine wp_loop_rounds 1 ?_
  rw [rounds_succ]
  go_wp2
  go_ret
  exact ⟨rfl, rfl⟩
set_option maxRecDepth 100000 in
set_option maxHeartbeats 400000 in
theorem ownPairs_nil (w : World) : Calls Tryz.prog 129 #[.slice none 0 0] w fun e w' => e = .returned (.bool true) ∧ w = w' := by
  go_enter Tryz.func129, Tryz.ntmps129
  go_wp2
  refine wp_loop_rounds 1 ?_
  rw [rounds_succ]
  go_wp2
  refine wp_loop_rounds 1 ?_
  rw [rounds_succ]
  go_wp2
  refine wp_loop_rounds 1 ?_
  rw [rounds_succ]
  go_wp2
  go_ret
  exact ⟨rfl, rfl⟩
set_option maxRecDepth 100000 in
set_option maxHeartbeats 400000 in
theorem ownFaults_nil (w : World) : Calls Tryz.prog 130 #[.slice none 0 0] w fun e w' => e = .returned (.bool true) ∧ w = w' := by
  go_enter Tryz.func130, Tryz.ntmps130
  go_wp2
  refine wp_loop_rounds 1 ?_
  rw [rounds_succ]
  go_wp2
  refine wp_loop_rounds 1 ?_
  rw [rounds_succ]
  go_wp2
  refine wp_loop_rounds 1 ?_
  rw [rounds_succ]
  go_wp2
  go_ret
  exact ⟨rfl, rfl⟩
set_option maxRecDepth 100000 in
set_option maxHeartbeats 400000 in
theorem ownColumns_nil (w : World) : Calls Tryz.prog 131 #[.slice none 0 0] w fun e w' => e = .returned (.bool true) ∧ w = w' := by
  go_enter Tryz.func131, Tryz.ntmps131
  go_wp2
  refine wp_loop_rounds 1 ?_
  rw [rounds_succ]
  go_wp2
  refine wp_loop_rounds 1 ?_
  rw [rounds_succ]
  go_wp2
  refine wp_loop_rounds 1 ?_
  rw [rounds_succ]
  go_wp2
  go_ret
  exact ⟨rfl, rfl⟩
set_option maxRecDepth 100000 in
set_option maxHeartbeats 400000 in
theorem ownExprs_nil (w : World) : Calls Tryz.prog 135 #[.slice none 0 0] w fun e w' => e = .returned (.bool true) ∧ w = w' := by
  go_enter Tryz.func135, Tryz.ntmps135
  go_wp2
  refine wp_loop_rounds 1 ?_
  rw [rounds_succ]
  go_wp2
  refine wp_loop_rounds 1 ?_
  rw [rounds_succ]
  go_wp2
  refine wp_loop_rounds 1 ?_
  rw [rounds_succ]
  go_wp2
  go_ret
  exact ⟨rfl, rfl⟩
set_option maxRecDepth 100000 in
set_option maxHeartbeats 400000 in
theorem ownRels_nil (w : World) : Calls Tryz.prog 136 #[.slice none 0 0] w fun e w' => e = .returned (.bool true) ∧ w = w' := by
  go_enter Tryz.func136, Tryz.ntmps136
  go_wp2
  refine wp_loop_rounds 1 ?_
  rw [rounds_succ]
  go_wp2
  refine wp_loop_rounds 1 ?_
  rw [rounds_succ]
  go_wp2
  refine wp_loop_rounds 1 ?_
  rw [rounds_succ]
  go_wp2
  go_ret
  exact ⟨rfl, rfl⟩
def bookC (w_ r_ c_ u_ t_ : Value) : Array Value := #[.slice none 0 0, .slice none 0 0, .slice none 0 0, w_, r_, .slice none 0 0, .slice none 0 0, .slice none 0 0, .slice none 0 0, c_, u_, t_, .slice none 0 0, .slice none 0 0]
/-- the Book at gb, its lists in blocks of R -/
structure BookR (w : World) (gb : Nat) (R : Nat → Prop) (Lw Lr Lc Lu Lt : List En) (w_ r_ c_ u_ t_ : En) : Prop where
  bk : Bk w gb 52 (bookC w_.v r_.v c_.v u_.v t_.v)
  rg : R gb
  ow : Own w 0 24 1 w_.A w_.n w_.c (ensC Lw)
  or : Own w 0 78 1 r_.A r_.n r_.c (ensC Lr)
  oc : Own w 0 31 1 c_.A c_.n c_.c (ensC Lc)
  ou : Own w 0 22 1 u_.A u_.n u_.c (ensC Lu)
  ot : Own w 0 27 1 t_.A t_.n t_.c (ensC Lt)
  rw : ∀ k, w_.b = some k → R k ∧ k ≠ gb
  rr : ∀ k, r_.b = some k → R k ∧ k ≠ gb
  rc : ∀ k, c_.b = some k → R k ∧ k ≠ gb
  ru : ∀ k, u_.b = some k → R k ∧ k ≠ gb
  rt : ∀ k, t_.b = some k → R k ∧ k ≠ gb
  nw : w_.n = Lw.length
  nr : r_.n = Lr.length
  nc : c_.n = Lc.length
  nu : u_.n = Lu.length
  nt : t_.n = Lt.length
  swr : ∀ k, w_.b = some k → r_.b ≠ some k
  swc : ∀ k, w_.b = some k → c_.b ≠ some k
  swu : ∀ k, w_.b = some k → u_.b ≠ some k
  swt : ∀ k, w_.b = some k → t_.b ≠ some k
  src : ∀ k, r_.b = some k → c_.b ≠ some k
  sru : ∀ k, r_.b = some k → u_.b ≠ some k
  srt : ∀ k, r_.b = some k → t_.b ≠ some k
  scu : ∀ k, c_.b = some k → u_.b ≠ some k
  sct : ∀ k, c_.b = some k → t_.b ≠ some k
  sut : ∀ k, u_.b = some k → t_.b ≠ some k
theorem BookR.ext {w w' : World} {gb : Nat} {R : Nat → Prop} {Lw Lr Lc Lu Lt : List En} {w_ r_ c_ u_ t_ : En} (h : BookR w gb R Lw Lr Lc Lu Lt w_ r_ c_ u_ t_) (x : Ext w w') : BookR w' gb R Lw Lr Lc Lu Lt w_ r_ c_ u_ t_ :=
  ⟨h.bk.ext x, h.rg, h.ow.ext x, h.or.ext x, h.oc.ext x, h.ou.ext x, h.ot.ext x, h.rw, h.rr, h.rc, h.ru, h.rt, h.nw, h.nr, h.nc, h.nu, h.nt, h.swr, h.swc, h.swu, h.swt, h.src, h.sru, h.srt, h.scu, h.sct, h.sut⟩
theorem BookR.upd {S : Nat → Prop} {w w' : World} {gb : Nat} {R : Nat → Prop} {Lw Lr Lc Lu Lt : List En} {w_ r_ c_ u_ t_ : En} (h : BookR w gb R Lw Lr Lc Lu Lt w_ r_ c_ u_ t_) (x : Upd S w w') (hS : ∀ k, R k → ¬ S k) : BookR w' gb R Lw Lr Lc Lu Lt w_ r_ c_ u_ t_ :=
  ⟨(x.block gb (Array.getElem?_eq_some_iff.1 h.bk).1 (hS _ h.rg)).trans h.bk, h.rg, h.ow.upd x (fun k hk => hS k (h.rw k hk).1), h.or.upd x (fun k hk => hS k (h.rr k hk).1), h.oc.upd x (fun k hk => hS k (h.rc k hk).1), h.ou.upd x (fun k hk => hS k (h.ru k hk).1), h.ot.upd x (fun k hk => hS k (h.rt k hk).1), h.rw, h.rr, h.rc, h.ru, h.rt, h.nw, h.nr, h.nc, h.nu, h.nt, h.swr, h.swc, h.swu, h.swt, h.src, h.sru, h.srt, h.scu, h.sct, h.sut⟩
theorem BookR.wide {R' : Nat → Prop} {w : World} {gb : Nat} {R : Nat → Prop} {Lw Lr Lc Lu Lt : List En} {w_ r_ c_ u_ t_ : En} (h : BookR w gb R Lw Lr Lc Lu Lt w_ r_ c_ u_ t_) (hR : ∀ k, k < w.heap.size → R k → R' k) : BookR w gb R' Lw Lr Lc Lu Lt w_ r_ c_ u_ t_ :=
  ⟨h.bk, hR _ h.bk.lt h.rg, h.ow, h.or, h.oc, h.ou, h.ot, fun k hk => ⟨hR k (h.ow.lt k hk).2 (h.rw k hk).1, (h.rw k hk).2⟩, fun k hk => ⟨hR k (h.or.lt k hk).2 (h.rr k hk).1, (h.rr k hk).2⟩, fun k hk => ⟨hR k (h.oc.lt k hk).2 (h.rc k hk).1, (h.rc k hk).2⟩, fun k hk => ⟨hR k (h.ou.lt k hk).2 (h.ru k hk).1, (h.ru k hk).2⟩, fun k hk => ⟨hR k (h.ot.lt k hk).2 (h.rt k hk).1, (h.rt k hk).2⟩, h.nw, h.nr, h.nc, h.nu, h.nt, h.swr, h.swc, h.swu, h.swt, h.src, h.sru, h.srt, h.scu, h.sct, h.sut⟩
theorem bookR_new {w : World} {gb : Nat} {R : Nat → Prop} (h : Bk w gb 52 #[.slice none 0 0, .slice none 0 0, .slice none 0 0, .slice none 0 0, .slice none 0 0, .slice none 0 0, .slice none 0 0, .slice none 0 0, .slice none 0 0, .slice none 0 0, .slice none 0 0, .slice none 0 0, .slice none 0 0, .slice none 0 0]) (hR : R gb) : BookR w gb R [] [] [] [] [] En.zero En.zero En.zero En.zero En.zero :=
  ⟨h, hR, Own.nil _ _ _ _, Own.nil _ _ _ _, Own.nil _ _ _ _, Own.nil _ _ _ _, Own.nil _ _ _ _, (fun _k hk => nomatch hk), (fun _k hk => nomatch hk), (fun _k hk => nomatch hk), (fun _k hk => nomatch hk), (fun _k hk => nomatch hk), rfl, rfl, rfl, rfl, rfl, (fun _k hk => nomatch hk), (fun _k hk => nomatch hk), (fun _k hk => nomatch hk), (fun _k hk => nomatch hk), (fun _k hk => nomatch hk), (fun _k hk => nomatch hk), (fun _k hk => nomatch hk), (fun _k hk => nomatch hk), (fun _k hk => nomatch hk), (fun _k hk => nomatch hk)⟩
/-- the region, and what is new -/
def RN (R : Nat → Prop) (w w' : World) (k : Nat) : Prop := R k ∨ (w.heap.size ≤ k ∧ k < w'.heap.size)
theorem RN.step {R : Nat → Prop} {a b c : World} (h : a.heap.size ≤ b.heap.size) (h2 : b.heap.size ≤ c.heap.size) : ∀ k, RN (RN R a b) b c k → RN R a c k := fun k hk => by
  rcases hk with (hk | ⟨h3, h4⟩) | ⟨h3, h4⟩
  · exact .inl hk
  · exact .inr ⟨h3, by omega⟩
  · exact .inr ⟨by omega, h4⟩
theorem upd_rn {R : Nat → Prop} {a b c : World} (h : Upd R a b) (k : Upd (RN R a b) b c) : Upd R a c :=
  ⟨k.os.trans h.os, k.tape.trans h.tape, k.output.trans h.output, Nat.le_trans h.size k.size, fun q hq hn => (k.block q (Nat.lt_of_lt_of_le hq h.size) (fun e => by
    rcases e with e | e
    · exact hn e
    · omega)).trans (h.block q hq hn)⟩
theorem BookR.put_w {w w3 : World} {gb : Nat} {R : Nat → Prop} {Lw Lr Lc Lu Lt : List En} {w_ r_ c_ u_ t_ : En} {x : En} (h : BookR w gb R Lw Lr Lc Lu Lt w_ r_ c_ u_ t_) (ob : Obj) {A3 : Option Addr} {c3 : Nat}
    (o3 : Own w3 0 24 1 A3 (w_.n + 1) c3 (ensC Lw ++ [x.v])) (g3 : (w.alloc ob).grownBy w3 (blk w_.A w_.c)) (x3 : (A3 = w_.A ∧ c3 = w_.c) ∨ (blk A3 c3 = some (w.alloc ob).heap.size ∧ Ext (w.alloc ob) w3)) :
    BookR (w3.setCell ⟨gb, 3, none⟩ (.slice A3 (w_.n + 1) c3)) gb (RN R w (w3.setCell ⟨gb, 3, none⟩ (.slice A3 (w_.n + 1) c3))) (Lw ++ [x]) Lr Lc Lu Lt ⟨A3, w_.n + 1, c3⟩ r_ c_ u_ t_ ∧ Upd R w (w3.setCell ⟨gb, 3, none⟩ (.slice A3 (w_.n + 1) c3)) := by
  have hsz := ((Ext.refl w).alloc ob).size
  have hgb := (Array.getElem?_eq_some_iff.1 h.bk).1
  have u3 : Upd (fun k => blk w_.A w_.c = some k) w w3 := ((Upd.refl _ w).alloc ob).grown g3 (fun k hk => .inl hk)
  have hnew : ∀ k, blk A3 c3 = some k → blk w_.A w_.c = some k ∨ (w.heap.size ≤ k ∧ k < w3.heap.size) := fun k hk => by
    rcases x3 with ⟨rfl, rfl⟩ | ⟨h1, _⟩
    · exact .inl hk
    · have h2 := (o3.lt k hk).2
      rw [h1] at hk; injection hk with hk; exact .inr ⟨by omega, h2⟩
  have ngb : blk A3 c3 ≠ some gb := fun e => by
    rcases hnew gb e with q | q
    · exact (h.rw gb q).2 rfl
    · omega
  have hR : ∀ k, R k → RN R w (w3.setCell ⟨gb, 3, none⟩ (.slice A3 (w_.n + 1) c3)) k := fun k hk => .inl hk
  have kr : Own w3 0 _ 1 r_.A r_.n r_.c _ := h.or.upd u3 (fun k hk e => h.swr k e hk)
  have kc : Own w3 0 _ 1 c_.A c_.n c_.c _ := h.oc.upd u3 (fun k hk e => h.swc k e hk)
  have ku : Own w3 0 _ 1 u_.A u_.n u_.c _ := h.ou.upd u3 (fun k hk e => h.swu k e hk)
  have kt : Own w3 0 _ 1 t_.A t_.n t_.c _ := h.ot.upd u3 (fun k hk e => h.swt k e hk)
  have bk3 : Bk w3 gb 52 (bookC w_.v r_.v c_.v u_.v t_.v) := (u3.block gb hgb (fun e => (h.rw gb e).2 rfl)).trans h.bk
  refine ⟨⟨bk3.set 3 _, hR _ h.rg, ?_, ?_, ?_, ?_, ?_, ?_, ?_, ?_, ?_, ?_, ?_, ?_, ?_, ?_, ?_, ?_, ?_, ?_, ?_, ?_, ?_, ?_, ?_, ?_, ?_⟩, ?_⟩
  · rw [ensC_append]; exact o3.far ngb _
  · exact kr.far (show blk r_.A r_.c ≠ some gb from fun e => (h.rr gb e).2 rfl) _
  · exact kc.far (show blk c_.A c_.c ≠ some gb from fun e => (h.rc gb e).2 rfl) _
  · exact ku.far (show blk u_.A u_.c ≠ some gb from fun e => (h.ru gb e).2 rfl) _
  · exact kt.far (show blk t_.A t_.c ≠ some gb from fun e => (h.rt gb e).2 rfl) _
  · intro k hk
    rcases hnew k hk with q | q
    · exact ⟨hR k (h.rw k q).1, (h.rw k q).2⟩
    · exact ⟨.inr ⟨q.1, by simpa using q.2⟩, by omega⟩
  · exact fun k hk => ⟨hR k (h.rr k hk).1, (h.rr k hk).2⟩
  · exact fun k hk => ⟨hR k (h.rc k hk).1, (h.rc k hk).2⟩
  · exact fun k hk => ⟨hR k (h.ru k hk).1, (h.ru k hk).2⟩
  · exact fun k hk => ⟨hR k (h.rt k hk).1, (h.rt k hk).2⟩
  · show w_.n + 1 = _; rw [List.length_append, h.nw]; rfl
  · exact h.nr
  · exact h.nc
  · exact h.nu
  · exact h.nt
  · intro k hk e
    rcases hnew k hk with q | q
    · exact h.swr k q e
    · have := (h.or.lt k e).2; omega
  · intro k hk e
    rcases hnew k hk with q | q
    · exact h.swc k q e
    · have := (h.oc.lt k e).2; omega
  · intro k hk e
    rcases hnew k hk with q | q
    · exact h.swu k q e
    · have := (h.ou.lt k e).2; omega
  · intro k hk e
    rcases hnew k hk with q | q
    · exact h.swt k q e
    · have := (h.ot.lt k e).2; omega
  · exact h.src
  · exact h.sru
  · exact h.srt
  · exact h.scu
  · exact h.sct
  · exact h.sut
  · exact (u3.mono (fun k _ hk => (h.rw k hk).1)).setCell (.inl h.rg) _
set_option maxRecDepth 100000 in
set_option maxHeartbeats 2000000 in
theorem bookWords_any (gb n ac : Nat) (R : Nat → Prop) (A : Option Addr) (Lw Lr Lc Lu Lt : List En) (w_ r_ c_ u_ t_ : En) (w : World) (h : Hid (BookR w gb R Lw Lr Lc Lu Lt w_ r_ c_ u_ t_)) (hl : Lw.length ≤ 100000) :
    Calls Tryz.prog 116 #[.pointer (some ⟨gb, 0, none⟩), .slice A n ac] w fun e w' => e = .returned (.tuple #[]) ∧ ∃ x, BookR w' gb (RN R w w') (Lw ++ [⟨A, n, ac⟩]) Lr Lc Lu Lt x r_ c_ u_ t_ ∧ Upd R w w' := by
  obtain ⟨wA, wn, wc⟩ := w_
  obtain ⟨rA, rn, rc⟩ := r_
  obtain ⟨cA, cn, cc⟩ := c_
  obtain ⟨uA, un, uc⟩ := u_
  obtain ⟨tA, tn, tc⟩ := t_
  have hn : wn ≤ 100000 := by have : wn = Lw.length := h.out.nw; omega
  have q := h.out.bk.cell 3
  have z := h.out.bk.free 3
  replace q : w.cell? ⟨gb, 3, none⟩ = some (.slice wA wn wc) := q
  go_enter Tryz.func116, Tryz.ntmps116
  go_wp2_with (at_builtin; go_loud (refine wpList_append_two _ elemL_OwnWords 0 _ _ rfl rfl wA wn wc (ensC Lw) rfl (h.out.ow.alloc _) (some ⟨w.heap.size, 0, none⟩) 1 1 [.slice A n ac] rfl (Sl.one w #[.slice A n ac] 24 1 rfl) (ensC_one [⟨A, n, ac⟩]) (by omega) (by decide) (Nat.zero_le _) ?_); intro A3 c3 w3 o3 g3 x3; have HP := Lib.hid (h.out.put_w (x := ⟨A, n, ac⟩) _ o3 g3 x3); have b3 : Bk w3 gb 52 (bookC (.slice wA wn wc) (.slice rA rn rc) (.slice cA cn cc) (.slice uA un uc) (.slice tA tn tc)) := (((Upd.refl (fun k => blk wA wc = some k) w).alloc _).grown g3 (fun k hk => .inl hk)).block gb (Array.getElem?_eq_some_iff.1 h.out.bk).1 (fun e => (h.out.rw gb e).2 rfl) |>.trans h.out.bk; have q3 := b3.cell 3; have z3 := b3.free 3; clear b3 o3 g3 x3)
  go_returns
  exact ⟨rfl, _, HP.out.1, HP.out.2⟩
theorem BookR.put_r {w w3 : World} {gb : Nat} {R : Nat → Prop} {Lw Lr Lc Lu Lt : List En} {w_ r_ c_ u_ t_ : En} {x : En} (h : BookR w gb R Lw Lr Lc Lu Lt w_ r_ c_ u_ t_) (ob : Obj) {A3 : Option Addr} {c3 : Nat}
    (o3 : Own w3 0 78 1 A3 (r_.n + 1) c3 (ensC Lr ++ [x.v])) (g3 : (w.alloc ob).grownBy w3 (blk r_.A r_.c)) (x3 : (A3 = r_.A ∧ c3 = r_.c) ∨ (blk A3 c3 = some (w.alloc ob).heap.size ∧ Ext (w.alloc ob) w3)) :
    BookR (w3.setCell ⟨gb, 4, none⟩ (.slice A3 (r_.n + 1) c3)) gb (RN R w (w3.setCell ⟨gb, 4, none⟩ (.slice A3 (r_.n + 1) c3))) Lw (Lr ++ [x]) Lc Lu Lt w_ ⟨A3, r_.n + 1, c3⟩ c_ u_ t_ ∧ Upd R w (w3.setCell ⟨gb, 4, none⟩ (.slice A3 (r_.n + 1) c3)) := by
  have hsz := ((Ext.refl w).alloc ob).size
  have hgb := (Array.getElem?_eq_some_iff.1 h.bk).1
  have u3 : Upd (fun k => blk r_.A r_.c = some k) w w3 := ((Upd.refl _ w).alloc ob).grown g3 (fun k hk => .inl hk)
  have hnew : ∀ k, blk A3 c3 = some k → blk r_.A r_.c = some k ∨ (w.heap.size ≤ k ∧ k < w3.heap.size) := fun k hk => by
    rcases x3 with ⟨rfl, rfl⟩ | ⟨h1, _⟩
    · exact .inl hk
    · have h2 := (o3.lt k hk).2
      rw [h1] at hk; injection hk with hk; exact .inr ⟨by omega, h2⟩
  have ngb : blk A3 c3 ≠ some gb := fun e => by
    rcases hnew gb e with q | q
    · exact (h.rr gb q).2 rfl
    · omega
  have hR : ∀ k, R k → RN R w (w3.setCell ⟨gb, 4, none⟩ (.slice A3 (r_.n + 1) c3)) k := fun k hk => .inl hk
  have kw : Own w3 0 _ 1 w_.A w_.n w_.c _ := h.ow.upd u3 (fun k hk e => h.swr k hk e)
  have kc : Own w3 0 _ 1 c_.A c_.n c_.c _ := h.oc.upd u3 (fun k hk e => h.src k e hk)
  have ku : Own w3 0 _ 1 u_.A u_.n u_.c _ := h.ou.upd u3 (fun k hk e => h.sru k e hk)
  have kt : Own w3 0 _ 1 t_.A t_.n t_.c _ := h.ot.upd u3 (fun k hk e => h.srt k e hk)
  have bk3 : Bk w3 gb 52 (bookC w_.v r_.v c_.v u_.v t_.v) := (u3.block gb hgb (fun e => (h.rr gb e).2 rfl)).trans h.bk
  refine ⟨⟨bk3.set 4 _, hR _ h.rg, ?_, ?_, ?_, ?_, ?_, ?_, ?_, ?_, ?_, ?_, ?_, ?_, ?_, ?_, ?_, ?_, ?_, ?_, ?_, ?_, ?_, ?_, ?_, ?_, ?_⟩, ?_⟩
  · exact kw.far (show blk w_.A w_.c ≠ some gb from fun e => (h.rw gb e).2 rfl) _
  · rw [ensC_append]; exact o3.far ngb _
  · exact kc.far (show blk c_.A c_.c ≠ some gb from fun e => (h.rc gb e).2 rfl) _
  · exact ku.far (show blk u_.A u_.c ≠ some gb from fun e => (h.ru gb e).2 rfl) _
  · exact kt.far (show blk t_.A t_.c ≠ some gb from fun e => (h.rt gb e).2 rfl) _
  · exact fun k hk => ⟨hR k (h.rw k hk).1, (h.rw k hk).2⟩
  · intro k hk
    rcases hnew k hk with q | q
    · exact ⟨hR k (h.rr k q).1, (h.rr k q).2⟩
    · exact ⟨.inr ⟨q.1, by simpa using q.2⟩, by omega⟩
  · exact fun k hk => ⟨hR k (h.rc k hk).1, (h.rc k hk).2⟩
  · exact fun k hk => ⟨hR k (h.ru k hk).1, (h.ru k hk).2⟩
  · exact fun k hk => ⟨hR k (h.rt k hk).1, (h.rt k hk).2⟩
  · exact h.nw
  · show r_.n + 1 = _; rw [List.length_append, h.nr]; rfl
  · exact h.nc
  · exact h.nu
  · exact h.nt
  · intro k hk e
    rcases hnew k e with q | q
    · exact h.swr k hk q
    · have := (h.ow.lt k hk).2; omega
  · exact h.swc
  · exact h.swu
  · exact h.swt
  · intro k hk e
    rcases hnew k hk with q | q
    · exact h.src k q e
    · have := (h.oc.lt k e).2; omega
  · intro k hk e
    rcases hnew k hk with q | q
    · exact h.sru k q e
    · have := (h.ou.lt k e).2; omega
  · intro k hk e
    rcases hnew k hk with q | q
    · exact h.srt k q e
    · have := (h.ot.lt k e).2; omega
  · exact h.scu
  · exact h.sct
  · exact h.sut
  · exact (u3.mono (fun k _ hk => (h.rr k hk).1)).setCell (.inl h.rg) _
set_option maxRecDepth 100000 in
set_option maxHeartbeats 2000000 in
theorem bookRow_any (gb n ac : Nat) (R : Nat → Prop) (A : Option Addr) (Lw Lr Lc Lu Lt : List En) (w_ r_ c_ u_ t_ : En) (w : World) (h : Hid (BookR w gb R Lw Lr Lc Lu Lt w_ r_ c_ u_ t_)) (hl : Lr.length ≤ 100000) :
    Calls Tryz.prog 115 #[.pointer (some ⟨gb, 0, none⟩), .slice A n ac] w fun e w' => e = .returned (.tuple #[]) ∧ ∃ x, BookR w' gb (RN R w w') Lw (Lr ++ [⟨A, n, ac⟩]) Lc Lu Lt w_ x c_ u_ t_ ∧ Upd R w w' := by
  obtain ⟨wA, wn, wc⟩ := w_
  obtain ⟨rA, rn, rc⟩ := r_
  obtain ⟨cA, cn, cc⟩ := c_
  obtain ⟨uA, un, uc⟩ := u_
  obtain ⟨tA, tn, tc⟩ := t_
  have hn : rn ≤ 100000 := by have : rn = Lr.length := h.out.nr; omega
  have q := h.out.bk.cell 4
  have z := h.out.bk.free 4
  replace q : w.cell? ⟨gb, 4, none⟩ = some (.slice rA rn rc) := q
  go_enter Tryz.func115, Tryz.ntmps115
  go_wp2_with (at_builtin; go_loud (refine wpList_append_two _ elemL_OwnRow 0 _ _ rfl rfl rA rn rc (ensC Lr) rfl (h.out.or.alloc _) (some ⟨w.heap.size, 0, none⟩) 1 1 [.slice A n ac] rfl (Sl.one w #[.slice A n ac] 78 1 rfl) (ensC_one [⟨A, n, ac⟩]) (by omega) (by decide) (Nat.zero_le _) ?_); intro A3 c3 w3 o3 g3 x3; have HP := Lib.hid (h.out.put_r (x := ⟨A, n, ac⟩) _ o3 g3 x3); have b3 : Bk w3 gb 52 (bookC (.slice wA wn wc) (.slice rA rn rc) (.slice cA cn cc) (.slice uA un uc) (.slice tA tn tc)) := (((Upd.refl (fun k => blk rA rc = some k) w).alloc _).grown g3 (fun k hk => .inl hk)).block gb (Array.getElem?_eq_some_iff.1 h.out.bk).1 (fun e => (h.out.rr gb e).2 rfl) |>.trans h.out.bk; have q3 := b3.cell 4; have z3 := b3.free 4; clear b3 o3 g3 x3)
  go_returns
  exact ⟨rfl, _, HP.out.1, HP.out.2⟩
theorem BookR.put_c {w w3 : World} {gb : Nat} {R : Nat → Prop} {Lw Lr Lc Lu Lt : List En} {w_ r_ c_ u_ t_ : En} {x : En} (h : BookR w gb R Lw Lr Lc Lu Lt w_ r_ c_ u_ t_) (ob : Obj) {A3 : Option Addr} {c3 : Nat}
    (o3 : Own w3 0 31 1 A3 (c_.n + 1) c3 (ensC Lc ++ [x.v])) (g3 : (w.alloc ob).grownBy w3 (blk c_.A c_.c)) (x3 : (A3 = c_.A ∧ c3 = c_.c) ∨ (blk A3 c3 = some (w.alloc ob).heap.size ∧ Ext (w.alloc ob) w3)) :
    BookR (w3.setCell ⟨gb, 9, none⟩ (.slice A3 (c_.n + 1) c3)) gb (RN R w (w3.setCell ⟨gb, 9, none⟩ (.slice A3 (c_.n + 1) c3))) Lw Lr (Lc ++ [x]) Lu Lt w_ r_ ⟨A3, c_.n + 1, c3⟩ u_ t_ ∧ Upd R w (w3.setCell ⟨gb, 9, none⟩ (.slice A3 (c_.n + 1) c3)) := by
  have hsz := ((Ext.refl w).alloc ob).size
  have hgb := (Array.getElem?_eq_some_iff.1 h.bk).1
  have u3 : Upd (fun k => blk c_.A c_.c = some k) w w3 := ((Upd.refl _ w).alloc ob).grown g3 (fun k hk => .inl hk)
  have hnew : ∀ k, blk A3 c3 = some k → blk c_.A c_.c = some k ∨ (w.heap.size ≤ k ∧ k < w3.heap.size) := fun k hk => by
    rcases x3 with ⟨rfl, rfl⟩ | ⟨h1, _⟩
    · exact .inl hk
    · have h2 := (o3.lt k hk).2
      rw [h1] at hk; injection hk with hk; exact .inr ⟨by omega, h2⟩
  have ngb : blk A3 c3 ≠ some gb := fun e => by
    rcases hnew gb e with q | q
    · exact (h.rc gb q).2 rfl
    · omega
  have hR : ∀ k, R k → RN R w (w3.setCell ⟨gb, 9, none⟩ (.slice A3 (c_.n + 1) c3)) k := fun k hk => .inl hk
  have kw : Own w3 0 _ 1 w_.A w_.n w_.c _ := h.ow.upd u3 (fun k hk e => h.swc k hk e)
  have kr : Own w3 0 _ 1 r_.A r_.n r_.c _ := h.or.upd u3 (fun k hk e => h.src k hk e)
  have ku : Own w3 0 _ 1 u_.A u_.n u_.c _ := h.ou.upd u3 (fun k hk e => h.scu k e hk)
  have kt : Own w3 0 _ 1 t_.A t_.n t_.c _ := h.ot.upd u3 (fun k hk e => h.sct k e hk)
  have bk3 : Bk w3 gb 52 (bookC w_.v r_.v c_.v u_.v t_.v) := (u3.block gb hgb (fun e => (h.rc gb e).2 rfl)).trans h.bk
  refine ⟨⟨bk3.set 9 _, hR _ h.rg, ?_, ?_, ?_, ?_, ?_, ?_, ?_, ?_, ?_, ?_, ?_, ?_, ?_, ?_, ?_, ?_, ?_, ?_, ?_, ?_, ?_, ?_, ?_, ?_, ?_⟩, ?_⟩
  · exact kw.far (show blk w_.A w_.c ≠ some gb from fun e => (h.rw gb e).2 rfl) _
  · exact kr.far (show blk r_.A r_.c ≠ some gb from fun e => (h.rr gb e).2 rfl) _
  · rw [ensC_append]; exact o3.far ngb _
  · exact ku.far (show blk u_.A u_.c ≠ some gb from fun e => (h.ru gb e).2 rfl) _
  · exact kt.far (show blk t_.A t_.c ≠ some gb from fun e => (h.rt gb e).2 rfl) _
  · exact fun k hk => ⟨hR k (h.rw k hk).1, (h.rw k hk).2⟩
  · exact fun k hk => ⟨hR k (h.rr k hk).1, (h.rr k hk).2⟩
  · intro k hk
    rcases hnew k hk with q | q
    · exact ⟨hR k (h.rc k q).1, (h.rc k q).2⟩
    · exact ⟨.inr ⟨q.1, by simpa using q.2⟩, by omega⟩
  · exact fun k hk => ⟨hR k (h.ru k hk).1, (h.ru k hk).2⟩
  · exact fun k hk => ⟨hR k (h.rt k hk).1, (h.rt k hk).2⟩
  · exact h.nw
  · exact h.nr
  · show c_.n + 1 = _; rw [List.length_append, h.nc]; rfl
  · exact h.nu
  · exact h.nt
  · exact h.swr
  · intro k hk e
    rcases hnew k e with q | q
    · exact h.swc k hk q
    · have := (h.ow.lt k hk).2; omega
  · exact h.swu
  · exact h.swt
  · intro k hk e
    rcases hnew k e with q | q
    · exact h.src k hk q
    · have := (h.or.lt k hk).2; omega
  · exact h.sru
  · exact h.srt
  · intro k hk e
    rcases hnew k hk with q | q
    · exact h.scu k q e
    · have := (h.ou.lt k e).2; omega
  · intro k hk e
    rcases hnew k hk with q | q
    · exact h.sct k q e
    · have := (h.ot.lt k e).2; omega
  · exact h.sut
  · exact (u3.mono (fun k _ hk => (h.rc k hk).1)).setCell (.inl h.rg) _
theorem BookR.put_u {w w3 : World} {gb : Nat} {R : Nat → Prop} {Lw Lr Lc Lu Lt : List En} {w_ r_ c_ u_ t_ : En} {x : En} (h : BookR w gb R Lw Lr Lc Lu Lt w_ r_ c_ u_ t_) (ob : Obj) {A3 : Option Addr} {c3 : Nat}
    (o3 : Own w3 0 22 1 A3 (u_.n + 1) c3 (ensC Lu ++ [x.v])) (g3 : (w.alloc ob).grownBy w3 (blk u_.A u_.c)) (x3 : (A3 = u_.A ∧ c3 = u_.c) ∨ (blk A3 c3 = some (w.alloc ob).heap.size ∧ Ext (w.alloc ob) w3)) :
    BookR (w3.setCell ⟨gb, 10, none⟩ (.slice A3 (u_.n + 1) c3)) gb (RN R w (w3.setCell ⟨gb, 10, none⟩ (.slice A3 (u_.n + 1) c3))) Lw Lr Lc (Lu ++ [x]) Lt w_ r_ c_ ⟨A3, u_.n + 1, c3⟩ t_ ∧ Upd R w (w3.setCell ⟨gb, 10, none⟩ (.slice A3 (u_.n + 1) c3)) := by
  have hsz := ((Ext.refl w).alloc ob).size
  have hgb := (Array.getElem?_eq_some_iff.1 h.bk).1
  have u3 : Upd (fun k => blk u_.A u_.c = some k) w w3 := ((Upd.refl _ w).alloc ob).grown g3 (fun k hk => .inl hk)
  have hnew : ∀ k, blk A3 c3 = some k → blk u_.A u_.c = some k ∨ (w.heap.size ≤ k ∧ k < w3.heap.size) := fun k hk => by
    rcases x3 with ⟨rfl, rfl⟩ | ⟨h1, _⟩
    · exact .inl hk
    · have h2 := (o3.lt k hk).2
      rw [h1] at hk; injection hk with hk; exact .inr ⟨by omega, h2⟩
  have ngb : blk A3 c3 ≠ some gb := fun e => by
    rcases hnew gb e with q | q
    · exact (h.ru gb q).2 rfl
    · omega
  have hR : ∀ k, R k → RN R w (w3.setCell ⟨gb, 10, none⟩ (.slice A3 (u_.n + 1) c3)) k := fun k hk => .inl hk
  have kw : Own w3 0 _ 1 w_.A w_.n w_.c _ := h.ow.upd u3 (fun k hk e => h.swu k hk e)
  have kr : Own w3 0 _ 1 r_.A r_.n r_.c _ := h.or.upd u3 (fun k hk e => h.sru k hk e)
  have kc : Own w3 0 _ 1 c_.A c_.n c_.c _ := h.oc.upd u3 (fun k hk e => h.scu k hk e)
  have kt : Own w3 0 _ 1 t_.A t_.n t_.c _ := h.ot.upd u3 (fun k hk e => h.sut k e hk)
  have bk3 : Bk w3 gb 52 (bookC w_.v r_.v c_.v u_.v t_.v) := (u3.block gb hgb (fun e => (h.ru gb e).2 rfl)).trans h.bk
  refine ⟨⟨bk3.set 10 _, hR _ h.rg, ?_, ?_, ?_, ?_, ?_, ?_, ?_, ?_, ?_, ?_, ?_, ?_, ?_, ?_, ?_, ?_, ?_, ?_, ?_, ?_, ?_, ?_, ?_, ?_, ?_⟩, ?_⟩
  · exact kw.far (show blk w_.A w_.c ≠ some gb from fun e => (h.rw gb e).2 rfl) _
  · exact kr.far (show blk r_.A r_.c ≠ some gb from fun e => (h.rr gb e).2 rfl) _
  · exact kc.far (show blk c_.A c_.c ≠ some gb from fun e => (h.rc gb e).2 rfl) _
  · rw [ensC_append]; exact o3.far ngb _
  · exact kt.far (show blk t_.A t_.c ≠ some gb from fun e => (h.rt gb e).2 rfl) _
  · exact fun k hk => ⟨hR k (h.rw k hk).1, (h.rw k hk).2⟩
  · exact fun k hk => ⟨hR k (h.rr k hk).1, (h.rr k hk).2⟩
  · exact fun k hk => ⟨hR k (h.rc k hk).1, (h.rc k hk).2⟩
  · intro k hk
    rcases hnew k hk with q | q
    · exact ⟨hR k (h.ru k q).1, (h.ru k q).2⟩
    · exact ⟨.inr ⟨q.1, by simpa using q.2⟩, by omega⟩
  · exact fun k hk => ⟨hR k (h.rt k hk).1, (h.rt k hk).2⟩
  · exact h.nw
  · exact h.nr
  · exact h.nc
  · show u_.n + 1 = _; rw [List.length_append, h.nu]; rfl
  · exact h.nt
  · exact h.swr
  · exact h.swc
  · intro k hk e
    rcases hnew k e with q | q
    · exact h.swu k hk q
    · have := (h.ow.lt k hk).2; omega
  · exact h.swt
  · exact h.src
  · intro k hk e
    rcases hnew k e with q | q
    · exact h.sru k hk q
    · have := (h.or.lt k hk).2; omega
  · exact h.srt
  · intro k hk e
    rcases hnew k e with q | q
    · exact h.scu k hk q
    · have := (h.oc.lt k hk).2; omega
  · exact h.sct
  · intro k hk e
    rcases hnew k hk with q | q
    · exact h.sut k q e
    · have := (h.ot.lt k e).2; omega
  · exact (u3.mono (fun k _ hk => (h.ru k hk).1)).setCell (.inl h.rg) _
theorem BookR.put_t {w w3 : World} {gb : Nat} {R : Nat → Prop} {Lw Lr Lc Lu Lt : List En} {w_ r_ c_ u_ t_ : En} {x : En} (h : BookR w gb R Lw Lr Lc Lu Lt w_ r_ c_ u_ t_) (ob : Obj) {A3 : Option Addr} {c3 : Nat}
    (o3 : Own w3 0 27 1 A3 (t_.n + 1) c3 (ensC Lt ++ [x.v])) (g3 : (w.alloc ob).grownBy w3 (blk t_.A t_.c)) (x3 : (A3 = t_.A ∧ c3 = t_.c) ∨ (blk A3 c3 = some (w.alloc ob).heap.size ∧ Ext (w.alloc ob) w3)) :
    BookR (w3.setCell ⟨gb, 11, none⟩ (.slice A3 (t_.n + 1) c3)) gb (RN R w (w3.setCell ⟨gb, 11, none⟩ (.slice A3 (t_.n + 1) c3))) Lw Lr Lc Lu (Lt ++ [x]) w_ r_ c_ u_ ⟨A3, t_.n + 1, c3⟩ ∧ Upd R w (w3.setCell ⟨gb, 11, none⟩ (.slice A3 (t_.n + 1) c3)) := by
  have hsz := ((Ext.refl w).alloc ob).size
  have hgb := (Array.getElem?_eq_some_iff.1 h.bk).1
  have u3 : Upd (fun k => blk t_.A t_.c = some k) w w3 := ((Upd.refl _ w).alloc ob).grown g3 (fun k hk => .inl hk)
  have hnew : ∀ k, blk A3 c3 = some k → blk t_.A t_.c = some k ∨ (w.heap.size ≤ k ∧ k < w3.heap.size) := fun k hk => by
    rcases x3 with ⟨rfl, rfl⟩ | ⟨h1, _⟩
    · exact .inl hk
    · have h2 := (o3.lt k hk).2
      rw [h1] at hk; injection hk with hk; exact .inr ⟨by omega, h2⟩
  have ngb : blk A3 c3 ≠ some gb := fun e => by
    rcases hnew gb e with q | q
    · exact (h.rt gb q).2 rfl
    · omega
  have hR : ∀ k, R k → RN R w (w3.setCell ⟨gb, 11, none⟩ (.slice A3 (t_.n + 1) c3)) k := fun k hk => .inl hk
  have kw : Own w3 0 _ 1 w_.A w_.n w_.c _ := h.ow.upd u3 (fun k hk e => h.swt k hk e)
  have kr : Own w3 0 _ 1 r_.A r_.n r_.c _ := h.or.upd u3 (fun k hk e => h.srt k hk e)
  have kc : Own w3 0 _ 1 c_.A c_.n c_.c _ := h.oc.upd u3 (fun k hk e => h.sct k hk e)
  have ku : Own w3 0 _ 1 u_.A u_.n u_.c _ := h.ou.upd u3 (fun k hk e => h.sut k hk e)
  have bk3 : Bk w3 gb 52 (bookC w_.v r_.v c_.v u_.v t_.v) := (u3.block gb hgb (fun e => (h.rt gb e).2 rfl)).trans h.bk
  refine ⟨⟨bk3.set 11 _, hR _ h.rg, ?_, ?_, ?_, ?_, ?_, ?_, ?_, ?_, ?_, ?_, ?_, ?_, ?_, ?_, ?_, ?_, ?_, ?_, ?_, ?_, ?_, ?_, ?_, ?_, ?_⟩, ?_⟩
  · exact kw.far (show blk w_.A w_.c ≠ some gb from fun e => (h.rw gb e).2 rfl) _
  · exact kr.far (show blk r_.A r_.c ≠ some gb from fun e => (h.rr gb e).2 rfl) _
  · exact kc.far (show blk c_.A c_.c ≠ some gb from fun e => (h.rc gb e).2 rfl) _
  · exact ku.far (show blk u_.A u_.c ≠ some gb from fun e => (h.ru gb e).2 rfl) _
  · rw [ensC_append]; exact o3.far ngb _
  · exact fun k hk => ⟨hR k (h.rw k hk).1, (h.rw k hk).2⟩
  · exact fun k hk => ⟨hR k (h.rr k hk).1, (h.rr k hk).2⟩
  · exact fun k hk => ⟨hR k (h.rc k hk).1, (h.rc k hk).2⟩
  · exact fun k hk => ⟨hR k (h.ru k hk).1, (h.ru k hk).2⟩
  · intro k hk
    rcases hnew k hk with q | q
    · exact ⟨hR k (h.rt k q).1, (h.rt k q).2⟩
    · exact ⟨.inr ⟨q.1, by simpa using q.2⟩, by omega⟩
  · exact h.nw
  · exact h.nr
  · exact h.nc
  · exact h.nu
  · show t_.n + 1 = _; rw [List.length_append, h.nt]; rfl
  · exact h.swr
  · exact h.swc
  · exact h.swu
  · intro k hk e
    rcases hnew k e with q | q
    · exact h.swt k hk q
    · have := (h.ow.lt k hk).2; omega
  · exact h.src
  · exact h.sru
  · intro k hk e
    rcases hnew k e with q | q
    · exact h.srt k hk q
    · have := (h.or.lt k hk).2; omega
  · exact h.scu
  · intro k hk e
    rcases hnew k e with q | q
    · exact h.sct k hk q
    · have := (h.oc.lt k hk).2; omega
  · intro k hk e
    rcases hnew k e with q | q
    · exact h.sut k hk q
    · have := (h.ou.lt k hk).2; omega
  · exact (u3.mono (fun k _ hk => (h.rt k hk).1)).setCell (.inl h.rg) _
/-- the blocks that Own writes into -/
def OwnS (Lw Lr Lc Lu Lt : List En) (k : Nat) : Prop := Foot Lw k ∨ Foot Lr k ∨ Foot Lc k ∨ Foot Lu k ∨ Foot Lt k
def Few (L : List En) : Prop := L.length ≤ 10000 ∧ ∀ i, i < L.length → (ena L i).n ≤ 1000000
set_option maxRecDepth 100000 in
set_option maxHeartbeats 8000000 in
theorem bookOwn_any (gb B : Nat) (R : Nat → Prop) (Lw Lr Lc Lu Lt : List En) (w_ r_ c_ u_ t_ : En) (fw fr fc fu ft : Nat → List Value) (w : World) (h : Hid (BookR w gb R Lw Lr Lc Lu Lt w_ r_ c_ u_ t_)) (lsw : Hid (Lists w B 180 1 Lw fw)) (lsr : Hid (Lists w B 204 4 Lr fr)) (lsc : Hid (Lists w B 154 2 Lc fc)) (lsu : Hid (Lists w B 95 4 Lu fu)) (lst : Hid (Lists w B 26 2 Lt ft))
    (dwr : Hid (∀ k, Foot Lw k → ¬ Foot Lr k)) (dwc : Hid (∀ k, Foot Lw k → ¬ Foot Lc k)) (dwu : Hid (∀ k, Foot Lw k → ¬ Foot Lu k)) (dwt : Hid (∀ k, Foot Lw k → ¬ Foot Lt k)) (drc : Hid (∀ k, Foot Lr k → ¬ Foot Lc k)) (dru : Hid (∀ k, Foot Lr k → ¬ Foot Lu k)) (drt : Hid (∀ k, Foot Lr k → ¬ Foot Lt k)) (dcu : Hid (∀ k, Foot Lc k → ¬ Foot Lu k)) (dct : Hid (∀ k, Foot Lc k → ¬ Foot Lt k)) (dut : Hid (∀ k, Foot Lu k → ¬ Foot Lt k)) (hlt : Hid (∀ k, OwnS Lw Lr Lc Lu Lt k → ¬ R k)) (feww : Hid (Few Lw)) (fewr : Hid (Few Lr)) (fewc : Hid (Few Lc)) (fewu : Hid (Few Lu)) (fewt : Hid (Few Lt)) (hw : Hid (B ≤ w.heap.size)) :
    Calls Tryz.prog 29 #[.pointer (some ⟨gb, 0, none⟩)] w fun e w' => e = .returned (.bool true) ∧ Upd (OwnS Lw Lr Lc Lu Lt) w w' := by
  have hnw : w_.n ≤ 10000 := by rw [h.out.nw]; exact feww.out.1
  have hnr : r_.n ≤ 10000 := by rw [h.out.nr]; exact fewr.out.1
  have hnc : c_.n ≤ 10000 := by rw [h.out.nc]; exact fewc.out.1
  have hnu : u_.n ≤ 10000 := by rw [h.out.nu]; exact fewu.out.1
  have hnt : t_.n ≤ 10000 := by rw [h.out.nt]; exact fewt.out.1
  have U0 : Hid (Upd (OwnS Lw Lr Lc Lu Lt) w w) := Lib.hid (Upd.refl _ _)
  have h0 := h
  have hw0 := hw
  have HBk := Lib.hid h.out.bk
  have q0 : w.cell? ⟨gb, 0, none⟩ = some (.slice none 0 0) := HBk.out.cell 0
  have q1 : w.cell? ⟨gb, 1, none⟩ = some (.slice none 0 0) := HBk.out.cell 1
  have q2 : w.cell? ⟨gb, 2, none⟩ = some (.slice none 0 0) := HBk.out.cell 2
  have q3 : w.cell? ⟨gb, 3, none⟩ = some (.slice w_.A w_.n w_.c) := HBk.out.cell 3
  have q4 : w.cell? ⟨gb, 4, none⟩ = some (.slice r_.A r_.n r_.c) := HBk.out.cell 4
  have q5 : w.cell? ⟨gb, 5, none⟩ = some (.slice none 0 0) := HBk.out.cell 5
  have q6 : w.cell? ⟨gb, 6, none⟩ = some (.slice none 0 0) := HBk.out.cell 6
  have q7 : w.cell? ⟨gb, 7, none⟩ = some (.slice none 0 0) := HBk.out.cell 7
  have q8 : w.cell? ⟨gb, 8, none⟩ = some (.slice none 0 0) := HBk.out.cell 8
  have q9 : w.cell? ⟨gb, 9, none⟩ = some (.slice c_.A c_.n c_.c) := HBk.out.cell 9
  have q10 : w.cell? ⟨gb, 10, none⟩ = some (.slice u_.A u_.n u_.c) := HBk.out.cell 10
  have q11 : w.cell? ⟨gb, 11, none⟩ = some (.slice t_.A t_.n t_.c) := HBk.out.cell 11
  have q12 : w.cell? ⟨gb, 12, none⟩ = some (.slice none 0 0) := HBk.out.cell 12
  have q13 : w.cell? ⟨gb, 13, none⟩ = some (.slice none 0 0) := HBk.out.cell 13
  go_enter Tryz.func29, Tryz.ntmps29
  go_wp2_with (first
    | (go_at_call 126; go_loud (refine (ownWords_any w_.A w_.c w_.n B Lw _ _ (Lib.hid h0.out.nw) (Lib.hid h0.out.ow.sl) lsw (Lib.hid (fun k hk => ⟨fun q => hlt.out k (.inl q) (h0.out.rw k hk).1, (h0.out.ow.lt k hk).2⟩)) hnw (Lib.hid feww.out.2) hw0).mono ?_); rintro e w1 ⟨rfl, up_⟩; have U1 : Hid (Upd (OwnS Lw Lr Lc Lu Lt) w w1) := Lib.hid (U0.out.trans (up_.mono (fun k _ hk => (.inl hk)))); have h1 : Hid (BookR w1 gb R Lw Lr Lc Lu Lt w_ r_ c_ u_ t_) := Lib.hid (h0.out.upd up_ (fun k hk q => hlt.out k (.inl q) hk)); replace lsr := Lib.hid (lsr.out.upd up_ (fun k hk q => dwr.out k q hk)); replace lsc := Lib.hid (lsc.out.upd up_ (fun k hk q => dwc.out k q hk)); replace lsu := Lib.hid (lsu.out.upd up_ (fun k hk q => dwu.out k q hk)); replace lst := Lib.hid (lst.out.upd up_ (fun k hk q => dwt.out k q hk)); have HBk1 := Lib.hid h1.out.bk; have q4 : w1.cell? ⟨gb, 4, none⟩ = some (.slice r_.A r_.n r_.c) := HBk1.out.cell 4; have q5 : w1.cell? ⟨gb, 5, none⟩ = some (.slice none 0 0) := HBk1.out.cell 5; have q6 : w1.cell? ⟨gb, 6, none⟩ = some (.slice none 0 0) := HBk1.out.cell 6; have q7 : w1.cell? ⟨gb, 7, none⟩ = some (.slice none 0 0) := HBk1.out.cell 7; have q8 : w1.cell? ⟨gb, 8, none⟩ = some (.slice none 0 0) := HBk1.out.cell 8; have q9 : w1.cell? ⟨gb, 9, none⟩ = some (.slice c_.A c_.n c_.c) := HBk1.out.cell 9; have q10 : w1.cell? ⟨gb, 10, none⟩ = some (.slice u_.A u_.n u_.c) := HBk1.out.cell 10; have q11 : w1.cell? ⟨gb, 11, none⟩ = some (.slice t_.A t_.n t_.c) := HBk1.out.cell 11; have q12 : w1.cell? ⟨gb, 12, none⟩ = some (.slice none 0 0) := HBk1.out.cell 12; have q13 : w1.cell? ⟨gb, 13, none⟩ = some (.slice none 0 0) := HBk1.out.cell 13; have hw1 : Hid (B ≤ w1.heap.size) := Lib.hid (Nat.le_trans hw0.out up_.size); clear up_)
    | (go_at_call 127; go_loud (refine (ownRow_any r_.A r_.c r_.n B Lr _ _ (Lib.hid h1.out.nr) (Lib.hid h1.out.or.sl) lsr (Lib.hid (fun k hk => ⟨fun q => hlt.out k (.inr (.inl q)) (h1.out.rr k hk).1, (h1.out.or.lt k hk).2⟩)) hnr (Lib.hid fewr.out.2) hw1).mono ?_); rintro e w2 ⟨rfl, up_⟩; have U2 : Hid (Upd (OwnS Lw Lr Lc Lu Lt) w w2) := Lib.hid (U1.out.trans (up_.mono (fun k _ hk => (.inr (.inl hk))))); have h2 : Hid (BookR w2 gb R Lw Lr Lc Lu Lt w_ r_ c_ u_ t_) := Lib.hid (h1.out.upd up_ (fun k hk q => hlt.out k (.inr (.inl q)) hk)); replace lsc := Lib.hid (lsc.out.upd up_ (fun k hk q => drc.out k q hk)); replace lsu := Lib.hid (lsu.out.upd up_ (fun k hk q => dru.out k q hk)); replace lst := Lib.hid (lst.out.upd up_ (fun k hk q => drt.out k q hk)); have HBk2 := Lib.hid h2.out.bk; have q5 : w2.cell? ⟨gb, 5, none⟩ = some (.slice none 0 0) := HBk2.out.cell 5; have q6 : w2.cell? ⟨gb, 6, none⟩ = some (.slice none 0 0) := HBk2.out.cell 6; have q7 : w2.cell? ⟨gb, 7, none⟩ = some (.slice none 0 0) := HBk2.out.cell 7; have q8 : w2.cell? ⟨gb, 8, none⟩ = some (.slice none 0 0) := HBk2.out.cell 8; have q9 : w2.cell? ⟨gb, 9, none⟩ = some (.slice c_.A c_.n c_.c) := HBk2.out.cell 9; have q10 : w2.cell? ⟨gb, 10, none⟩ = some (.slice u_.A u_.n u_.c) := HBk2.out.cell 10; have q11 : w2.cell? ⟨gb, 11, none⟩ = some (.slice t_.A t_.n t_.c) := HBk2.out.cell 11; have q12 : w2.cell? ⟨gb, 12, none⟩ = some (.slice none 0 0) := HBk2.out.cell 12; have q13 : w2.cell? ⟨gb, 13, none⟩ = some (.slice none 0 0) := HBk2.out.cell 13; have hw2 : Hid (B ≤ w2.heap.size) := Lib.hid (Nat.le_trans hw1.out up_.size); clear up_)
    | (go_at_call 132; go_loud (refine (ownCts_any c_.A c_.c c_.n B Lc _ _ (Lib.hid h2.out.nc) (Lib.hid h2.out.oc.sl) lsc (Lib.hid (fun k hk => ⟨fun q => hlt.out k (.inr (.inr (.inl q))) (h2.out.rc k hk).1, (h2.out.oc.lt k hk).2⟩)) hnc (Lib.hid fewc.out.2) hw2).mono ?_); rintro e w3 ⟨rfl, up_⟩; have U3 : Hid (Upd (OwnS Lw Lr Lc Lu Lt) w w3) := Lib.hid (U2.out.trans (up_.mono (fun k _ hk => (.inr (.inr (.inl hk)))))); have h3 : Hid (BookR w3 gb R Lw Lr Lc Lu Lt w_ r_ c_ u_ t_) := Lib.hid (h2.out.upd up_ (fun k hk q => hlt.out k (.inr (.inr (.inl q))) hk)); replace lsu := Lib.hid (lsu.out.upd up_ (fun k hk q => dcu.out k q hk)); replace lst := Lib.hid (lst.out.upd up_ (fun k hk q => dct.out k q hk)); have HBk3 := Lib.hid h3.out.bk; have q10 : w3.cell? ⟨gb, 10, none⟩ = some (.slice u_.A u_.n u_.c) := HBk3.out.cell 10; have q11 : w3.cell? ⟨gb, 11, none⟩ = some (.slice t_.A t_.n t_.c) := HBk3.out.cell 11; have q12 : w3.cell? ⟨gb, 12, none⟩ = some (.slice none 0 0) := HBk3.out.cell 12; have q13 : w3.cell? ⟨gb, 13, none⟩ = some (.slice none 0 0) := HBk3.out.cell 13; have hw3 : Hid (B ≤ w3.heap.size) := Lib.hid (Nat.le_trans hw2.out up_.size); clear up_)
    | (go_at_call 133; go_loud (refine (ownUpds_any u_.A u_.c u_.n B Lu _ _ (Lib.hid h3.out.nu) (Lib.hid h3.out.ou.sl) lsu (Lib.hid (fun k hk => ⟨fun q => hlt.out k (.inr (.inr (.inr (.inl q)))) (h3.out.ru k hk).1, (h3.out.ou.lt k hk).2⟩)) hnu (Lib.hid fewu.out.2) hw3).mono ?_); rintro e w4 ⟨rfl, up_⟩; have U4 : Hid (Upd (OwnS Lw Lr Lc Lu Lt) w w4) := Lib.hid (U3.out.trans (up_.mono (fun k _ hk => (.inr (.inr (.inr (.inl hk))))))); have h4 : Hid (BookR w4 gb R Lw Lr Lc Lu Lt w_ r_ c_ u_ t_) := Lib.hid (h3.out.upd up_ (fun k hk q => hlt.out k (.inr (.inr (.inr (.inl q)))) hk)); replace lst := Lib.hid (lst.out.upd up_ (fun k hk q => dut.out k q hk)); have HBk4 := Lib.hid h4.out.bk; have q11 : w4.cell? ⟨gb, 11, none⟩ = some (.slice t_.A t_.n t_.c) := HBk4.out.cell 11; have q12 : w4.cell? ⟨gb, 12, none⟩ = some (.slice none 0 0) := HBk4.out.cell 12; have q13 : w4.cell? ⟨gb, 13, none⟩ = some (.slice none 0 0) := HBk4.out.cell 13; have hw4 : Hid (B ≤ w4.heap.size) := Lib.hid (Nat.le_trans hw3.out up_.size); clear up_)
    | (go_at_call 134; go_loud (refine (ownTimes_any t_.A t_.c t_.n B Lt _ _ (Lib.hid h4.out.nt) (Lib.hid h4.out.ot.sl) lst (Lib.hid (fun k hk => ⟨fun q => hlt.out k (.inr (.inr (.inr (.inr q)))) (h4.out.rt k hk).1, (h4.out.ot.lt k hk).2⟩)) hnt (Lib.hid fewt.out.2) hw4).mono ?_); rintro e w5 ⟨rfl, up_⟩; have U5 : Hid (Upd (OwnS Lw Lr Lc Lu Lt) w w5) := Lib.hid (U4.out.trans (up_.mono (fun k _ hk => (.inr (.inr (.inr (.inr hk))))))); have h5 : Hid (BookR w5 gb R Lw Lr Lc Lu Lt w_ r_ c_ u_ t_) := Lib.hid (h4.out.upd up_ (fun k hk q => hlt.out k (.inr (.inr (.inr (.inr q)))) hk)); have HBk5 := Lib.hid h5.out.bk; have q12 : w5.cell? ⟨gb, 12, none⟩ = some (.slice none 0 0) := HBk5.out.cell 12; have q13 : w5.cell? ⟨gb, 13, none⟩ = some (.slice none 0 0) := HBk5.out.cell 13; have hw5 : Hid (B ≤ w5.heap.size) := Lib.hid (Nat.le_trans hw4.out up_.size); clear up_)
    | (go_at_call 123; go_loud (refine (ownBytes_nil _).mono ?_); rintro e w_ ⟨rfl, rfl⟩)
    | (go_at_call 124; go_loud (refine (ownTexts_nil _).mono ?_); rintro e w_ ⟨rfl, rfl⟩)
    | (go_at_call 125; go_loud (refine (ownInts_nil _).mono ?_); rintro e w_ ⟨rfl, rfl⟩)
    | (go_at_call 128; go_loud (refine (ownSorts_nil _).mono ?_); rintro e w_ ⟨rfl, rfl⟩)
    | (go_at_call 129; go_loud (refine (ownPairs_nil _).mono ?_); rintro e w_ ⟨rfl, rfl⟩)
    | (go_at_call 130; go_loud (refine (ownFaults_nil _).mono ?_); rintro e w_ ⟨rfl, rfl⟩)
    | (go_at_call 131; go_loud (refine (ownColumns_nil _).mono ?_); rintro e w_ ⟨rfl, rfl⟩)
    | (go_at_call 135; go_loud (refine (ownExprs_nil _).mono ?_); rintro e w_ ⟨rfl, rfl⟩)
    | (go_at_call 136; go_loud (refine (ownRels_nil _).mono ?_); rintro e w_ ⟨rfl, rfl⟩)
    | fail)
  go_ret
  exact ⟨rfl, U5.out⟩
end Go.Proofs.YtdgbkpoickbidaaGreatDoor
namespace Go.Proofs.YtdgbkpoickbidaaGreatDoor
open Go.RowKit

def enR (x : Ud) : En := ⟨x.A, x.l.length, x.c⟩
def enW (x : Ud) : En := ⟨x.t.A, x.t.l.length, x.t.c⟩
theorem bookRow_litUpdates (gb n ac : Nat) (R : Nat → Prop) (A : Option Addr) (Lw Lr Lc Lu Lt : List En) (w_ r_ c_ u_ t_ : En) (w : World) (h : Hid (BookR w gb R Lw Lr Lc Lu Lt w_ r_ c_ u_ t_)) (hl : Lr.length ≤ 100000) :
    Calls Tryz.prog 115 #[.pointer (some ⟨gb, 0, none⟩), .slice A n ac] w fun e w' => e = .returned (.tuple #[]) ∧ ∃ x, BookR w' gb (RN R w w') Lw (Lr ++ [⟨A, n, ac⟩]) Lc Lu Lt w_ x c_ u_ t_ ∧ Upd R w w' := bookRow_any gb n ac R A Lw Lr Lc Lu Lt w_ r_ c_ u_ t_ w h hl
theorem bookWords_litUpdates (gb n ac : Nat) (R : Nat → Prop) (A : Option Addr) (Lw Lr Lc Lu Lt : List En) (w_ r_ c_ u_ t_ : En) (w : World) (h : Hid (BookR w gb R Lw Lr Lc Lu Lt w_ r_ c_ u_ t_)) (hl : Lw.length ≤ 100000) :
    Calls Tryz.prog 116 #[.pointer (some ⟨gb, 0, none⟩), .slice A n ac] w fun e w' => e = .returned (.tuple #[]) ∧ ∃ x, BookR w' gb (RN R w w') (Lw ++ [⟨A, n, ac⟩]) Lr Lc Lu Lt x r_ c_ u_ t_ ∧ Upd R w w' := bookWords_any gb n ac R A Lw Lr Lc Lu Lt w_ r_ c_ u_ t_ w h hl
set_option maxRecDepth 100000 in
set_option maxHeartbeats 4000000 in
theorem bookUpdates_any (gb m ac : Nat) (R : Nat → Prop) (A : Option Addr) (Q : List Ud) (Lw Lr Lc Lu Lt : List En) (w_ r_ c_ u_ t_ : En) (w : World) (h : Hid (BookR w gb R Lw Lr Lc Lu Lt w_ r_ c_ u_ t_)) (hrr : Lr.length + m ≤ 100000) (hrw : Lw.length + m ≤ 100000) (hl : Lu.length ≤ 100000) (hm : Hid (m = Q.length)) (hs : Hid (Sl w 4 A m ac (udsC Q))) (hsep : Hid (∀ k, blk A ac = some k → ¬ R k)) :
    Calls Tryz.prog 21 #[.pointer (some ⟨gb, 0, none⟩), .slice A m ac] w fun e w' => e = .returned (.tuple #[]) ∧ ∃ vr vw vu, BookR w' gb (RN R w w') (Lw ++ Q.map enW) (Lr ++ Q.map enR) Lc (Lu ++ [⟨A, m, ac⟩]) Lt vw vr c_ vu t_ ∧ Upd R w w' := by
  have HP0 : Hid (BookR w gb (RN R w w) (Lw ++ (Q.take 0).map enW) (Lr ++ (Q.take 0).map enR) Lc Lu Lt w_ r_ c_ u_ t_ ∧ Upd R w w) := Lib.hid ⟨by simp only [List.take_zero, List.map_nil, List.append_nil]; exact h.out.wide (fun k _ hk => .inl hk), Upd.refl _ _⟩
  go_enter Tryz.func21, Tryz.ntmps21
  go_wp2
  go_loopg [4] m (fun z v wr => ∃ (i : Nat) (vr vw : En), z = m - i ∧ i ≤ m ∧ v = .int .i64 i ∧ Hid (BookR wr gb (RN R w wr) (Lw ++ (Q.take i).map enW) (Lr ++ (Q.take i).map enR) Lc Lu Lt vw vr c_ u_ t_ ∧ Upd R w wr))
  case atStart => exact ⟨0, r_, w_, rfl, Nat.zero_le _, rfl, HP0⟩
  case round =>
    clear HP0
    obtain ⟨i, vr, vw, rfl, hi, rfl, HP⟩ := hrel
    by_cases hlt : i < m
    · have hil : i < Q.length := by rw [← hm.out]; exact hlt
      have hat : ∀ W, Upd R w W → ∃ ad, A = some ad ∧ W.cell? (ad.add (i * 4)) = some (.slice (Q.getD i Ud.zero).A (Q.getD i Ud.zero).l.length (Q.getD i Ud.zero).c) ∧ W.cell? ⟨(ad.add (i * 4)).block, (ad.add (i * 4)).off + 1, none⟩ = some (.int .u64 (Q.getD i Ud.zero).t.e) ∧ W.cell? ⟨(ad.add (i * 4)).block, (ad.add (i * 4)).off + 2, none⟩ = some (.slice (Q.getD i Ud.zero).t.A (Q.getD i Ud.zero).t.l.length (Q.getD i Ud.zero).t.c) ∧ W.cell? ⟨(ad.add (i * 4)).block, (ad.add (i * 4)).off + 3, none⟩ = some (.int .i64 (Q.getD i Ud.zero).d) := fun W hW => own_at4 (hs.out.upd hW hsep.out) hlt (show udC (Q.getD i Ud.zero) = [.slice (Q.getD i Ud.zero).A (Q.getD i Ud.zero).l.length (Q.getD i Ud.zero).c, .int .u64 (Q.getD i Ud.zero).t.e, .slice (Q.getD i Ud.zero).t.A (Q.getD i Ud.zero).t.l.length (Q.getD i Ud.zero).t.c, .int .i64 (Q.getD i Ud.zero).d] from rfl) (fun q hq => udsC_at Q i q hil hq)
      have HT : Hid (Q.take (i + 1) = Q.take i ++ [(Q.getD i Ud.zero)]) := Lib.hid (by rw [List.take_succ_eq_append_getElem hil, List.getD_eq_getElem?_getD, List.getElem?_eq_getElem hil]; rfl)
      obtain ⟨x, hx⟩ : ∃ x, (Q.getD i Ud.zero) = x := ⟨_, rfl⟩
      rw [hx] at hat HT
      obtain ⟨nr, hnr⟩ : ∃ nr, x.l.length = nr := ⟨_, rfl⟩
      obtain ⟨nw, hnw⟩ : ∃ nw, x.t.l.length = nw := ⟨_, rfl⟩
      simp only [hnr, hnw] at hat
      have HNr := Lib.hid hnr
      have HNw := Lib.hid hnw
      have HA := Lib.hid hat
      have HB := Lib.hid HP.out.1
      have HU := Lib.hid HP.out.2
      obtain ⟨ad, rfl, p0, _, p1, _⟩ := hat wr HP.out.2
      have hlr : (Lr ++ (Q.take i).map enR).length ≤ 100000 := by rw [List.length_append, List.length_map, List.length_take]; omega
      have hlw : (Lw ++ (Q.take i).map enW).length ≤ 100000 := by rw [List.length_append, List.length_map, List.length_take]; omega
      clear hat hx hnr hnw hil HP
      have p1 : True := trivial
      go_wp2_with (first
        | (go_at_call 115; have mk := p1; clear p1 mk; go_loud (refine (bookRow_litUpdates gb nr x.c _ x.A (Lw ++ (Q.take i).map enW) (Lr ++ (Q.take i).map enR) Lc Lu Lt vw vr c_ u_ t_ _ HB hlr).mono ?_); rintro e w1 ⟨rfl, yr, b1, u1⟩; replace HB : Hid (BookR w1 gb (RN R w w1) (Lw ++ (Q.take i).map enW) ((Lr ++ (Q.take i).map enR) ++ [⟨x.A, nr, x.c⟩]) Lc Lu Lt vw yr c_ u_ t_) := Lib.hid (b1.wide (fun k _ hk => RN.step HU.out.size u1.size k hk)); replace HU : Hid (Upd R w w1) := Lib.hid (upd_rn HU.out u1); clear b1 u1; have p2 : True := trivial; obtain ⟨ad_, ea_, p0, _, p1, _⟩ := HA.out w1 HU.out; cases ea_)
        | (go_at_call 116; have mk := p2; clear p2 mk; go_loud (refine (bookWords_litUpdates gb nw x.t.c _ x.t.A (Lw ++ (Q.take i).map enW) ((Lr ++ (Q.take i).map enR) ++ [⟨x.A, nr, x.c⟩]) Lc Lu Lt vw yr c_ u_ t_ _ HB hlw).mono ?_); rintro e w2 ⟨rfl, yw, b1, u1⟩; replace HB : Hid (BookR w2 gb (RN R w w2) ((Lw ++ (Q.take i).map enW) ++ [⟨x.t.A, nw, x.t.c⟩]) ((Lr ++ (Q.take i).map enR) ++ [⟨x.A, nr, x.c⟩]) Lc Lu Lt yw yr c_ u_ t_) := Lib.hid (b1.wide (fun k _ hk => RN.step HU.out.size u1.size k hk)); replace HU : Hid (Upd R w w2) := Lib.hid (upd_rn HU.out u1); clear b1 u1; have p3 : True := trivial)
        | fail)
      go_roundg (m - (i + 1))
      case measure => omega
      case rel => exact ⟨i + 1, yr, yw, rfl, by omega, by go_num, Lib.hid ⟨by have := HB.out; rw [HT.out]; simp only [List.map_append, ← List.append_assoc]; rw [← HNr.out] at this; rw [← HNw.out] at this; exact this, HU.out⟩⟩
    · obtain rfl : i = m := by omega
      have hb := HP.out.1
      rw [show Q.take i = Q from List.take_of_length_le (by rw [← hm.out]; exact Nat.le_refl _)] at hb
      have hn : u_.n ≤ 100000 := by have := hb.nu; omega
      have HB := Lib.hid hb
      have HU := Lib.hid HP.out.2
      have hq := hb.bk.cell 10
      have hz := hb.bk.free 10
      obtain ⟨uA, un, uc⟩ := u_
      replace hq : wr.cell? ⟨gb, 10, none⟩ = some (.slice uA un uc) := hq
      replace hn : un ≤ 100000 := hn
      clear hb HP
      go_wp2_with (at_builtin; go_loud (refine wpList_append_two _ elemL_OwnUpds 0 _ _ rfl rfl uA un uc (ensC Lu) rfl (HB.out.ou.alloc _) (some ⟨wr.heap.size, 0, none⟩) 1 1 [.slice A i ac] rfl (Sl.one wr #[.slice A i ac] 22 1 rfl) (ensC_one [⟨A, i, ac⟩]) (by omega) (by decide) (Nat.zero_le _) ?_); intro A3 c3 w3 o3 g3 x3; have HP := Lib.hid (HB.out.put_u (x := ⟨A, i, ac⟩) _ o3 g3 x3); have b3 : Bk w3 gb 52 (bookC vw.v vr.v c_.v (.slice uA un uc) t_.v) := (((Upd.refl (fun k => blk uA uc = some k) wr).alloc _).grown g3 (fun k hk => .inl hk)).block gb (Array.getElem?_eq_some_iff.1 HB.out.bk).1 (fun e => (HB.out.ru gb e).2 rfl) |>.trans HB.out.bk; have q3 := b3.cell 10; have z3 := b3.free 10; clear b3 o3 g3 x3)
      go_returns
      exact ⟨rfl, _, _, _, HP.out.1.wide (fun k _ hk => RN.step HU.out.size HP.out.2.size k hk), upd_rn HU.out HP.out.2⟩
end Go.Proofs.YtdgbkpoickbidaaGreatDoor
namespace Go.Proofs.YtdgbkpoickbidaaGreatDoor
open Go.RowKit

def enC (x : Ct) : En := ⟨x.A, x.l.length, x.c⟩
theorem bookRow_litCounteds (gb n ac : Nat) (R : Nat → Prop) (A : Option Addr) (Lw Lr Lc Lu Lt : List En) (w_ r_ c_ u_ t_ : En) (w : World) (h : Hid (BookR w gb R Lw Lr Lc Lu Lt w_ r_ c_ u_ t_)) (hl : Lr.length ≤ 100000) :
    Calls Tryz.prog 115 #[.pointer (some ⟨gb, 0, none⟩), .slice A n ac] w fun e w' => e = .returned (.tuple #[]) ∧ ∃ x, BookR w' gb (RN R w w') Lw (Lr ++ [⟨A, n, ac⟩]) Lc Lu Lt w_ x c_ u_ t_ ∧ Upd R w w' := bookRow_any gb n ac R A Lw Lr Lc Lu Lt w_ r_ c_ u_ t_ w h hl
set_option maxRecDepth 100000 in
set_option maxHeartbeats 4000000 in
theorem bookCounteds_any (gb m ac : Nat) (R : Nat → Prop) (A : Option Addr) (Q : List Ct) (Lw Lr Lc Lu Lt : List En) (w_ r_ c_ u_ t_ : En) (w : World) (h : Hid (BookR w gb R Lw Lr Lc Lu Lt w_ r_ c_ u_ t_)) (hrr : Lr.length + m ≤ 100000) (hl : Lc.length ≤ 100000) (hm : Hid (m = Q.length)) (hs : Hid (Sl w 2 A m ac (ctsC Q))) (hsep : Hid (∀ k, blk A ac = some k → ¬ R k)) :
    Calls Tryz.prog 22 #[.pointer (some ⟨gb, 0, none⟩), .slice A m ac] w fun e w' => e = .returned (.tuple #[]) ∧ ∃ vr vc, BookR w' gb (RN R w w') Lw (Lr ++ Q.map enC) (Lc ++ [⟨A, m, ac⟩]) Lu Lt w_ vr vc u_ t_ ∧ Upd R w w' := by
  have HP0 : Hid (BookR w gb (RN R w w) Lw (Lr ++ (Q.take 0).map enC) Lc Lu Lt w_ r_ c_ u_ t_ ∧ Upd R w w) := Lib.hid ⟨by simp only [List.take_zero, List.map_nil, List.append_nil]; exact h.out.wide (fun k _ hk => .inl hk), Upd.refl _ _⟩
  go_enter Tryz.func22, Tryz.ntmps22
  go_wp2
  go_loopg [4] m (fun z v wr => ∃ (i : Nat) (vr : En), z = m - i ∧ i ≤ m ∧ v = .int .i64 i ∧ Hid (BookR wr gb (RN R w wr) Lw (Lr ++ (Q.take i).map enC) Lc Lu Lt w_ vr c_ u_ t_ ∧ Upd R w wr))
  case atStart => exact ⟨0, r_, rfl, Nat.zero_le _, rfl, HP0⟩
  case round =>
    clear HP0
    obtain ⟨i, vr, rfl, hi, rfl, HP⟩ := hrel
    by_cases hlt : i < m
    · have hil : i < Q.length := by rw [← hm.out]; exact hlt
      have hat : ∀ W, Upd R w W → ∃ ad, A = some ad ∧ W.cell? (ad.add (i * 2)) = some (.slice (Q.getD i Ct.zero).A (Q.getD i Ct.zero).l.length (Q.getD i Ct.zero).c) ∧ W.cell? ⟨(ad.add (i * 2)).block, (ad.add (i * 2)).off + 1, none⟩ = some (.int .i64 (Q.getD i Ct.zero).k) := fun W hW => own_at2 (hs.out.upd hW hsep.out) hlt (show ctC (Q.getD i Ct.zero) = [.slice (Q.getD i Ct.zero).A (Q.getD i Ct.zero).l.length (Q.getD i Ct.zero).c, .int .i64 (Q.getD i Ct.zero).k] from rfl) (fun q hq => ctsC_at Q i q hil hq)
      have HT : Hid (Q.take (i + 1) = Q.take i ++ [(Q.getD i Ct.zero)]) := Lib.hid (by rw [List.take_succ_eq_append_getElem hil, List.getD_eq_getElem?_getD, List.getElem?_eq_getElem hil]; rfl)
      obtain ⟨x, hx⟩ : ∃ x, (Q.getD i Ct.zero) = x := ⟨_, rfl⟩
      rw [hx] at hat HT
      obtain ⟨nr, hnr⟩ : ∃ nr, x.l.length = nr := ⟨_, rfl⟩
      simp only [hnr] at hat
      have HNr := Lib.hid hnr
      have HA := Lib.hid hat
      have HB := Lib.hid HP.out.1
      have HU := Lib.hid HP.out.2
      obtain ⟨ad, rfl, p0, _⟩ := hat wr HP.out.2
      have hlr : (Lr ++ (Q.take i).map enC).length ≤ 100000 := by rw [List.length_append, List.length_map, List.length_take]; omega
      clear hat hx hnr hil HP
      have p1 : True := trivial
      go_wp2_with (first
        | (go_at_call 115; have mk := p1; clear p1 mk; go_loud (refine (bookRow_litCounteds gb nr x.c _ x.A Lw (Lr ++ (Q.take i).map enC) Lc Lu Lt w_ vr c_ u_ t_ _ HB hlr).mono ?_); rintro e w1 ⟨rfl, yr, b1, u1⟩; replace HB : Hid (BookR w1 gb (RN R w w1) Lw ((Lr ++ (Q.take i).map enC) ++ [⟨x.A, nr, x.c⟩]) Lc Lu Lt w_ yr c_ u_ t_) := Lib.hid (b1.wide (fun k _ hk => RN.step HU.out.size u1.size k hk)); replace HU : Hid (Upd R w w1) := Lib.hid (upd_rn HU.out u1); clear b1 u1; have p2 : True := trivial)
        | fail)
      go_roundg (m - (i + 1))
      case measure => omega
      case rel => exact ⟨i + 1, yr, rfl, by omega, by go_num, Lib.hid ⟨by have := HB.out; rw [HT.out]; simp only [List.map_append, ← List.append_assoc]; rw [← HNr.out] at this; exact this, HU.out⟩⟩
    · obtain rfl : i = m := by omega
      have hb := HP.out.1
      rw [show Q.take i = Q from List.take_of_length_le (by rw [← hm.out]; exact Nat.le_refl _)] at hb
      have hn : c_.n ≤ 100000 := by have := hb.nc; omega
      have HB := Lib.hid hb
      have HU := Lib.hid HP.out.2
      have hq := hb.bk.cell 9
      have hz := hb.bk.free 9
      obtain ⟨cA, cn, cc⟩ := c_
      replace hq : wr.cell? ⟨gb, 9, none⟩ = some (.slice cA cn cc) := hq
      replace hn : cn ≤ 100000 := hn
      clear hb HP
      go_wp2_with (at_builtin; go_loud (refine wpList_append_two _ elemL_OwnCts 0 _ _ rfl rfl cA cn cc (ensC Lc) rfl (HB.out.oc.alloc _) (some ⟨wr.heap.size, 0, none⟩) 1 1 [.slice A i ac] rfl (Sl.one wr #[.slice A i ac] 31 1 rfl) (ensC_one [⟨A, i, ac⟩]) (by omega) (by decide) (Nat.zero_le _) ?_); intro A3 c3 w3 o3 g3 x3; have HP := Lib.hid (HB.out.put_c (x := ⟨A, i, ac⟩) _ o3 g3 x3); have b3 : Bk w3 gb 52 (bookC w_.v vr.v (.slice cA cn cc) u_.v t_.v) := (((Upd.refl (fun k => blk cA cc = some k) wr).alloc _).grown g3 (fun k hk => .inl hk)).block gb (Array.getElem?_eq_some_iff.1 HB.out.bk).1 (fun e => (HB.out.rc gb e).2 rfl) |>.trans HB.out.bk; have q3 := b3.cell 9; have z3 := b3.free 9; clear b3 o3 g3 x3)
      go_returns
      exact ⟨rfl, _, _, HP.out.1.wide (fun k _ hk => RN.step HU.out.size HP.out.2.size k hk), upd_rn HU.out HP.out.2⟩
end Go.Proofs.YtdgbkpoickbidaaGreatDoor
namespace Go.Proofs.YtdgbkpoickbidaaGreatDoor
open Go.RowKit

def enT (x : Tm) : En := ⟨x.A, x.l.length, x.c⟩
theorem bookWords_litTimes (gb n ac : Nat) (R : Nat → Prop) (A : Option Addr) (Lw Lr Lc Lu Lt : List En) (w_ r_ c_ u_ t_ : En) (w : World) (h : Hid (BookR w gb R Lw Lr Lc Lu Lt w_ r_ c_ u_ t_)) (hl : Lw.length ≤ 100000) :
    Calls Tryz.prog 116 #[.pointer (some ⟨gb, 0, none⟩), .slice A n ac] w fun e w' => e = .returned (.tuple #[]) ∧ ∃ x, BookR w' gb (RN R w w') (Lw ++ [⟨A, n, ac⟩]) Lr Lc Lu Lt x r_ c_ u_ t_ ∧ Upd R w w' := bookWords_any gb n ac R A Lw Lr Lc Lu Lt w_ r_ c_ u_ t_ w h hl
set_option maxRecDepth 100000 in
set_option maxHeartbeats 4000000 in
theorem bookTimes_any (gb m ac : Nat) (R : Nat → Prop) (A : Option Addr) (Q : List Tm) (Lw Lr Lc Lu Lt : List En) (w_ r_ c_ u_ t_ : En) (w : World) (h : Hid (BookR w gb R Lw Lr Lc Lu Lt w_ r_ c_ u_ t_)) (hrw : Lw.length + m ≤ 100000) (hl : Lt.length ≤ 100000) (hm : Hid (m = Q.length)) (hs : Hid (Sl w 2 A m ac (tmsC Q))) (hsep : Hid (∀ k, blk A ac = some k → ¬ R k)) :
    Calls Tryz.prog 35 #[.pointer (some ⟨gb, 0, none⟩), .slice A m ac] w fun e w' => e = .returned (.tuple #[]) ∧ ∃ vw vt, BookR w' gb (RN R w w') (Lw ++ Q.map enT) Lr Lc Lu (Lt ++ [⟨A, m, ac⟩]) vw r_ c_ u_ vt ∧ Upd R w w' := by
  have HP0 : Hid (BookR w gb (RN R w w) (Lw ++ (Q.take 0).map enT) Lr Lc Lu Lt w_ r_ c_ u_ t_ ∧ Upd R w w) := Lib.hid ⟨by simp only [List.take_zero, List.map_nil, List.append_nil]; exact h.out.wide (fun k _ hk => .inl hk), Upd.refl _ _⟩
  go_enter Tryz.func35, Tryz.ntmps35
  go_wp2
  go_loopg [4] m (fun z v wr => ∃ (i : Nat) (vw : En), z = m - i ∧ i ≤ m ∧ v = .int .i64 i ∧ Hid (BookR wr gb (RN R w wr) (Lw ++ (Q.take i).map enT) Lr Lc Lu Lt vw r_ c_ u_ t_ ∧ Upd R w wr))
  case atStart => exact ⟨0, w_, rfl, Nat.zero_le _, rfl, HP0⟩
  case round =>
    clear HP0
    obtain ⟨i, vw, rfl, hi, rfl, HP⟩ := hrel
    by_cases hlt : i < m
    · have hil : i < Q.length := by rw [← hm.out]; exact hlt
      have hat : ∀ W, Upd R w W → ∃ ad, A = some ad ∧ W.cell? (ad.add (i * 2)) = some (.int .u64 (Q.getD i Tm.zero).e) ∧ W.cell? ⟨(ad.add (i * 2)).block, (ad.add (i * 2)).off + 1, none⟩ = some (.slice (Q.getD i Tm.zero).A (Q.getD i Tm.zero).l.length (Q.getD i Tm.zero).c) := fun W hW => own_at2 (hs.out.upd hW hsep.out) hlt (show tmC (Q.getD i Tm.zero) = [.int .u64 (Q.getD i Tm.zero).e, .slice (Q.getD i Tm.zero).A (Q.getD i Tm.zero).l.length (Q.getD i Tm.zero).c] from rfl) (fun q hq => tmsC_at Q i q hil hq)
      have HT : Hid (Q.take (i + 1) = Q.take i ++ [(Q.getD i Tm.zero)]) := Lib.hid (by rw [List.take_succ_eq_append_getElem hil, List.getD_eq_getElem?_getD, List.getElem?_eq_getElem hil]; rfl)
      obtain ⟨x, hx⟩ : ∃ x, (Q.getD i Tm.zero) = x := ⟨_, rfl⟩
      rw [hx] at hat HT
      obtain ⟨nw, hnw⟩ : ∃ nw, x.l.length = nw := ⟨_, rfl⟩
      simp only [hnw] at hat
      have HNw := Lib.hid hnw
      have HA := Lib.hid hat
      have HB := Lib.hid HP.out.1
      have HU := Lib.hid HP.out.2
      obtain ⟨ad, rfl, _, p0⟩ := hat wr HP.out.2
      have hlw : (Lw ++ (Q.take i).map enT).length ≤ 100000 := by rw [List.length_append, List.length_map, List.length_take]; omega
      clear hat hx hnw hil HP
      have p1 : True := trivial
      go_wp2_with (first
        | (go_at_call 116; have mk := p1; clear p1 mk; go_loud (refine (bookWords_litTimes gb nw x.c _ x.A (Lw ++ (Q.take i).map enT) Lr Lc Lu Lt vw r_ c_ u_ t_ _ HB hlw).mono ?_); rintro e w1 ⟨rfl, yw, b1, u1⟩; replace HB : Hid (BookR w1 gb (RN R w w1) ((Lw ++ (Q.take i).map enT) ++ [⟨x.A, nw, x.c⟩]) Lr Lc Lu Lt yw r_ c_ u_ t_) := Lib.hid (b1.wide (fun k _ hk => RN.step HU.out.size u1.size k hk)); replace HU : Hid (Upd R w w1) := Lib.hid (upd_rn HU.out u1); clear b1 u1; have p2 : True := trivial)
        | fail)
      go_roundg (m - (i + 1))
      case measure => omega
      case rel => exact ⟨i + 1, yw, rfl, by omega, by go_num, Lib.hid ⟨by have := HB.out; rw [HT.out]; simp only [List.map_append, ← List.append_assoc]; rw [← HNw.out] at this; exact this, HU.out⟩⟩
    · obtain rfl : i = m := by omega
      have hb := HP.out.1
      rw [show Q.take i = Q from List.take_of_length_le (by rw [← hm.out]; exact Nat.le_refl _)] at hb
      have hn : t_.n ≤ 100000 := by have := hb.nt; omega
      have HB := Lib.hid hb
      have HU := Lib.hid HP.out.2
      have hq := hb.bk.cell 11
      have hz := hb.bk.free 11
      obtain ⟨tA, tn, tc⟩ := t_
      replace hq : wr.cell? ⟨gb, 11, none⟩ = some (.slice tA tn tc) := hq
      replace hn : tn ≤ 100000 := hn
      clear hb HP
      go_wp2_with (at_builtin; go_loud (refine wpList_append_two _ elemL_OwnTimes 0 _ _ rfl rfl tA tn tc (ensC Lt) rfl (HB.out.ot.alloc _) (some ⟨wr.heap.size, 0, none⟩) 1 1 [.slice A i ac] rfl (Sl.one wr #[.slice A i ac] 27 1 rfl) (ensC_one [⟨A, i, ac⟩]) (by omega) (by decide) (Nat.zero_le _) ?_); intro A3 c3 w3 o3 g3 x3; have HP := Lib.hid (HB.out.put_t (x := ⟨A, i, ac⟩) _ o3 g3 x3); have b3 : Bk w3 gb 52 (bookC vw.v r_.v c_.v u_.v (.slice tA tn tc)) := (((Upd.refl (fun k => blk tA tc = some k) wr).alloc _).grown g3 (fun k hk => .inl hk)).block gb (Array.getElem?_eq_some_iff.1 HB.out.bk).1 (fun e => (HB.out.rt gb e).2 rfl) |>.trans HB.out.bk; have q3 := b3.cell 11; have z3 := b3.free 11; clear b3 o3 g3 x3)
      go_returns
      exact ⟨rfl, _, _, HP.out.1.wide (fun k _ hk => RN.step HU.out.size HP.out.2.size k hk), upd_rn HU.out HP.out.2⟩
end Go.Proofs.YtdgbkpoickbidaaGreatDoor
namespace Go.Proofs.YtdgbkpoickbidaaGreatDoor
open Go.RowKit

/-- lists of one kind, apart -/
structure Kind_ (w : World) (B : Nat) (e : TypeId) (size : Nat) (P : List (En × List Value)) : Prop where
  hold : HoldAll w B e size P
  far : Far P
section
variable {w w' : World} {B : Nat} {e : TypeId} {size : Nat} {P Q : List (En × List Value)}
theorem Kind_.nil (w : World) (B : Nat) (e : TypeId) (size : Nat) : Kind_ w B e size [] := ⟨fun _p hp => (nomatch hp), List.Pairwise.nil⟩
theorem Kind_.ext (h : Kind_ w B e size P) (x : Ext w w') : Kind_ w' B e size P := ⟨fun p hp => (h.hold p hp).ext x, h.far⟩
theorem Kind_.upd {S : Nat → Prop} (h : Kind_ w B e size P) (x : Upd S w w') (hn : ∀ k, B ≤ k → k < w.heap.size → ¬ S k) : Kind_ w' B e size P :=
  ⟨fun p hp => (h.hold p hp).upd x (fun k hk => hn k ((h.hold p hp).lt k hk).1 ((h.hold p hp).lt k hk).2), h.far⟩
theorem Kind_.add (h : Kind_ w B e size P) (x : Ext w w') (hB : B ≤ w.heap.size) (k : Kind_ w' w.heap.size e size Q) : Kind_ w' B e size (P ++ Q) := by
  refine ⟨fun p hp => ?_, List.pairwise_append.2 ⟨h.far, k.far, fun p hp q hq z e1 e2 => ?_⟩⟩
  · rcases List.mem_append.1 hp with hp | hp
    · exact (h.hold p hp).ext x
    · exact (k.hold p hp).mono hB
  · have := ((h.hold p hp).lt z e1).2
    have := ((k.hold q hq).lt z e2).1
    omega
theorem Kind_.perm (h : Kind_ w B e size P) (hp : P.Perm Q) : Kind_ w B e size Q :=
  ⟨fun p hq => h.hold p (hp.mem_iff.2 hq), (List.Perm.pairwise_iff (fun {_ _} q k e1 e2 => q k e2 e1) hp).1 h.far⟩
theorem Kind_.foot (h : Kind_ w B e size P) {k : Nat} (hk : Foot (P.map (·.1)) k) : ∃ p ∈ P, p.1.b = some k ∧ B ≤ k ∧ k < w.heap.size := by
  obtain ⟨x, hx, hb⟩ := foot_mem hk
  obtain ⟨p, hp, rfl⟩ := List.mem_map.1 hx
  exact ⟨p, hp, hb, (h.hold p hp).lt k hb⟩
theorem Kind_.apart {B' size' : Nat} {e' : TypeId} (h : Kind_ w B e size P) (k : Kind_ w B' e' size' Q) (he : e ≠ e') : ∀ q, Foot (P.map (·.1)) q → ¬ Foot (Q.map (·.1)) q := fun q h1 h2 => by
  obtain ⟨p, hp, b1, _⟩ := h.foot h1
  obtain ⟨r, hr, b2, _⟩ := k.foot h2
  exact own_types (h.hold p hp) (k.hold r hr) he b1 b2
end
theorem few_P {P : List (En × List Value)} (h1 : P.length ≤ 10000) (h2 : ∀ p ∈ P, p.1.n ≤ 1000000) : Few (P.map (·.1)) := by
  refine ⟨by rw [List.length_map]; exact h1, fun i hi => ?_⟩
  have hm : ena (P.map (·.1)) i ∈ P.map (·.1) := by
    unfold ena
    rw [List.getD_eq_getElem?_getD, List.getElem?_eq_getElem hi]
    exact List.getElem_mem hi
  obtain ⟨p, hp, e⟩ := List.mem_map.1 hm
  rw [← e]
  exact h2 p hp
/-- words, rows, rows with counts, updates, times that have been made -/
structure ToldM (w : World) (B : Nat) (Pw Pr Pc Pu Pt : List (En × List Value)) : Prop where
  pw : Kind_ w B 180 1 Pw
  pr : Kind_ w B 204 4 Pr
  pc : Kind_ w B 154 2 Pc
  pu : Kind_ w B 95 4 Pu
  pt : Kind_ w B 26 2 Pt
def eW (R : List Ud) : List (En × List Value) := R.map fun x => (enW x, wds x.t.l)
def eR (R : List Ud) : List (En × List Value) := R.map fun x => (enR x, rowC x.l)
def eC (R : List Ct) : List (En × List Value) := R.map fun x => (enC x, rowC x.l)
def eT (R : List Tm) : List (En × List Value) := R.map fun x => (enT x, wds x.l)
theorem eW_fst (R : List Ud) : (eW R).map (·.1) = R.map enW := by unfold eW; rw [List.map_map]; rfl
theorem eR_fst (R : List Ud) : (eR R).map (·.1) = R.map enR := by unfold eR; rw [List.map_map]; rfl
theorem eC_fst (R : List Ct) : (eC R).map (·.1) = R.map enC := by unfold eC; rw [List.map_map]; rfl
theorem eT_fst (R : List Tm) : (eT R).map (·.1) = R.map enT := by unfold eT; rw [List.map_map]; rfl
section
variable {w w' : World} {B c m : Nat} {A : Option Addr} {Pw Pr Pc Pu Pt : List (En × List Value)}
theorem ToldM.nil (w : World) (B : Nat) : ToldM w B [] [] [] [] [] := ⟨Kind_.nil _ _ _ _, Kind_.nil _ _ _ _, Kind_.nil _ _ _ _, Kind_.nil _ _ _ _, Kind_.nil _ _ _ _⟩
theorem ToldM.ext (h : ToldM w B Pw Pr Pc Pu Pt) (x : Ext w w') : ToldM w' B Pw Pr Pc Pu Pt := ⟨h.pw.ext x, h.pr.ext x, h.pc.ext x, h.pu.ext x, h.pt.ext x⟩
theorem ToldM.upd {S : Nat → Prop} (h : ToldM w B Pw Pr Pc Pu Pt) (x : Upd S w w') (hn : ∀ k, B ≤ k → k < w.heap.size → ¬ S k) : ToldM w' B Pw Pr Pc Pu Pt := ⟨h.pw.upd x hn, h.pr.upd x hn, h.pc.upd x hn, h.pu.upd x hn, h.pt.upd x hn⟩
theorem Uout.kinds {L : List Ud} (h : Uout w B A c L) (hm : m = L.length) : Kind_ w B 180 1 (eW L) ∧ Kind_ w B 204 4 (eR L) ∧ Kind_ w B 95 4 [(⟨A, m, c⟩, udsC L)] := by
  subst hm
  refine ⟨⟨fun p hp => ?_, List.pairwise_map.2 h.ta⟩, ⟨fun p hp => ?_, List.pairwise_map.2 h.ra⟩, ⟨fun p hp => ?_, List.pairwise_singleton _ _⟩⟩
  · obtain ⟨x, hx, rfl⟩ := List.mem_map.1 hp
    exact h.ts x hx
  · obtain ⟨x, hx, rfl⟩ := List.mem_map.1 hp
    exact h.rw x hx
  · rw [List.mem_singleton.1 hp]; exact h.own
theorem ToldM.addU {L : List Ud} (h : ToldM w B Pw Pr Pc Pu Pt) (x : Ext w w') (hB : B ≤ w.heap.size) (u : Uout w' w.heap.size A c L) (hm : m = L.length) : ToldM w' B (Pw ++ eW L) (Pr ++ eR L) Pc (Pu ++ [(⟨A, m, c⟩, udsC L)]) Pt := by
  obtain ⟨k1, k2, k3⟩ := u.kinds hm
  exact ⟨h.pw.add x hB k1, h.pr.add x hB k2, h.pc.ext x, h.pu.add x hB k3, h.pt.ext x⟩
theorem ToldM.addC {L : List Ct} (h : ToldM w B Pw Pr Pc Pu Pt) (x : Ext w w') (hB : B ≤ w.heap.size) (o : Own w' w.heap.size 154 2 A m c (ctsC L)) (r : ∀ y ∈ L, RwO w' y.A y.c y.l ∧ ∀ ad, y.A = some ad → w.heap.size ≤ ad.block ∧ blk A c ≠ some ad.block) (ap : Apart L) : ToldM w' B Pw (Pr ++ eC L) (Pc ++ [(⟨A, m, c⟩, ctsC L)]) Pu Pt := by
  refine ⟨h.pw.ext x, h.pr.add x hB ⟨fun p hp => ?_, List.pairwise_map.2 ?_⟩, h.pc.add x hB ⟨fun p hp => ?_, List.pairwise_singleton _ _⟩, h.pu.ext x, h.pt.ext x⟩
  · obtain ⟨y, hy, rfl⟩ := List.mem_map.1 hp
    exact Own.base (r y hy).1 (fun k hk => by
      obtain ⟨ad, e1, e2⟩ := blk_some hk
      have := ((r y hy).2 ad e1).1
      omega)
  · refine (List.pairwise_map.1 ap).imp fun {a b} q k e1 e2 => ?_
    obtain ⟨a1, h1, h2⟩ := blk_some e1
    obtain ⟨a2, h3, h4⟩ := blk_some e2
    exact q a1 a2 h1 h3 (by omega)
  · rw [List.mem_singleton.1 hp]; exact o
theorem ToldM.addT {L : List Tm} (h : ToldM w B Pw Pr Pc Pu Pt) (x : Ext w w') (hB : B ≤ w.heap.size) (t : Tout w' w.heap.size A c L) (hm : m = L.length) : ToldM w' B (Pw ++ eT L) Pr Pc Pu (Pt ++ [(⟨A, m, c⟩, tmsC L)]) := by
  subst hm
  refine ⟨h.pw.add x hB ⟨fun p hp => ?_, List.pairwise_map.2 t.apart⟩, h.pr.ext x, h.pc.ext x, h.pu.ext x, h.pt.add x hB ⟨fun p hp => ?_, List.pairwise_singleton _ _⟩⟩
  · obtain ⟨y, hy, rfl⟩ := List.mem_map.1 hp
    exact (t.ls y hy).1
  · rw [List.mem_singleton.1 hp]; exact t.own
/-- all lists are told: Own says so -/
theorem bookOwn_told {gb : Nat} {R : Nat → Prop} {Lw Lr Lc Lu Lt : List En} {w_ r_ c_ u_ t_ : En} (h : ToldM w B Pw Pr Pc Pu Pt) (hb : Hid (BookR w gb R Lw Lr Lc Lu Lt w_ r_ c_ u_ t_)) (ew : Pw.map (·.1) = Lw) (er : Pr.map (·.1) = Lr) (ec : Pc.map (·.1) = Lc) (eu : Pu.map (·.1) = Lu) (et : Pt.map (·.1) = Lt)
    {w8 : World} (h8 : ToldM w8 B Pw Pr Pc Pu Pt) (hR : ∀ k, B ≤ k → k < w8.heap.size → ¬ R k) (fw : Few Lw) (fr : Few Lr) (fc : Few Lc) (fu : Few Lu) (ft : Few Lt) (hw : B ≤ w.heap.size) :
    Calls Tryz.prog 29 #[.pointer (some ⟨gb, 0, none⟩)] w fun e w' => e = .returned (.bool true) ∧ Upd (fun k => B ≤ k ∧ k < w.heap.size) w w' := by
  subst ew er ec eu et
  have hf : ∀ {e s P}, Kind_ w B e s P → Kind_ w8 B e s P → ∀ k, Foot (P.map (·.1)) k → ¬ R k ∧ B ≤ k ∧ k < w.heap.size := fun {e s P} q q8 k hk => by
    obtain ⟨_, _, _, h1, h2⟩ := q.foot hk
    obtain ⟨_, _, _, _, h3⟩ := q8.foot hk
    exact ⟨hR k h1 h3, h1, h2⟩
  refine (bookOwn_any gb B R _ _ _ _ _ w_ r_ c_ u_ t_ _ _ _ _ _ w hb (Lib.hid (lists_of h.pw.hold h.pw.far)) (Lib.hid (lists_of h.pr.hold h.pr.far)) (Lib.hid (lists_of h.pc.hold h.pc.far)) (Lib.hid (lists_of h.pu.hold h.pu.far)) (Lib.hid (lists_of h.pt.hold h.pt.far))
    (Lib.hid (h.pw.apart h.pr (by decide))) (Lib.hid (h.pw.apart h.pc (by decide))) (Lib.hid (h.pw.apart h.pu (by decide))) (Lib.hid (h.pw.apart h.pt (by decide))) (Lib.hid (h.pr.apart h.pc (by decide))) (Lib.hid (h.pr.apart h.pu (by decide))) (Lib.hid (h.pr.apart h.pt (by decide))) (Lib.hid (h.pc.apart h.pu (by decide))) (Lib.hid (h.pc.apart h.pt (by decide))) (Lib.hid (h.pu.apart h.pt (by decide)))
    (Lib.hid (fun k hk => ?_)) (Lib.hid fw) (Lib.hid fr) (Lib.hid fc) (Lib.hid fu) (Lib.hid ft) (Lib.hid hw)).mono fun e w' ⟨e1, u⟩ => ⟨e1, u.mono fun k _ hk => ?_⟩
  · rcases hk with hk | hk | hk | hk | hk
    · exact (hf h.pw h8.pw k hk).1
    · exact (hf h.pr h8.pr k hk).1
    · exact (hf h.pc h8.pc k hk).1
    · exact (hf h.pu h8.pu k hk).1
    · exact (hf h.pt h8.pt k hk).1
  · rcases hk with hk | hk | hk | hk | hk
    · exact (hf h.pw h8.pw k hk).2
    · exact (hf h.pr h8.pr k hk).2
    · exact (hf h.pc h8.pc k hk).2
    · exact (hf h.pu h8.pu k hk).2
    · exact (hf h.pt h8.pt k hk).2
end
end Go.Proofs.YtdgbkpoickbidaaGreatDoor
