/- ChainBeyond: a time is beyond the antichain of some times just if it is at or behind one of them; beyond a join just if beyond both; none of an antichain is behind another; beyond it a time cannot be told from the one that stands for it. Conditions: none. -/
import Derived.Test.YtmdakaflmheidaaDoorChBeyondLaw
import Derived.Test.YtmdakaflmheidaaDoorTmsCome
import Derived.Test.YtmdakaflmheidaaDoorTimeSize
namespace Go.Proofs.YtmdakaflmheidaaDoor.chainBeyond
open Go.ChangeShapes Go.WideShapes Go.ChangeAt Go.RowKit

def args0 : Array Value := #[.slice none 0 0, .slice none 0 0, .agg #[.int .u64 0, .slice none 0 0], .agg #[.int .u64 0, .slice none 0 0]]
def data0 {H : Type} : List (DataW H) := [.nil, .nil, .agg [.lit (.int .u64 0), .nil], .agg [.lit (.int .u64 0), .nil]]

set_option maxRecDepth 100000 in
theorem contract (H : Type) (enc : TypeId × Value → H) (W : World) (base : Nat) (args : Array Value) (ds gs : List (DataW H)) (before : List MemPlace)
    (hval : ∀ (j : Nat) t v, Tryd.f3.params[j]? = some t → args[j]? = some v → Value.okWide Tryd.prog W .any base t v)
    (hW : DataW.Whole enc Tryd.prog Tryd.f3.params.toList Rows.chainBeyondSpec.vars false W args.toList ds gs before) (hL : laidMetH Tryd.prog Rows.chainBeyondRow.laid W) (_hsh : W.ShapedOpen Tryd.prog) (hsz : (DataW.weightsEach Tryd.prog (Tryd.f3.params.toList ++ (OpenSpec.ofChange Rows.chainBeyondSpec).bare.plain.varTypes Tryd.prog) (ds ++ gs)).all (· ≤ reachBytes) = true) :
    Calls Tryd.prog 3 args W fun e W' => ∃ v, e = .returned v ∧ Rows.chainBeyondSpec.post enc Tryd.prog Tryd.f3 false true false false W args v W' := by
  have hW' := hW
  obtain ⟨p, q, hA, hV, rfl, hfz, hnd⟩ := hW
  rw [Tryd.params3] at hA hval hsz
  obtain ⟨v0, vs0, dd0, ds0, p0, q0, hargs, rfl, rfl, h0, r0⟩ := trodAll_cons hA
  obtain ⟨v1, vs1, dd1, ds1, p1, q1, rfl, rfl, rfl, h1, r1⟩ := trodAll_cons r0
  obtain ⟨v2, vs2, dd2, ds2, p2, q2, rfl, rfl, rfl, h2, r2⟩ := trodAll_cons r1
  obtain ⟨v3, vs3, dd3, ds3, p3, q3, rfl, rfl, rfl, h3, r3⟩ := trodAll_cons r2
  obtain ⟨rfl, rfl, rfl⟩ := trodAll_nil r3
  obtain rfl : args = #[v0, v1, v2, v3] := by cases args; simp_all
  obtain ⟨rfl, rfl⟩ := trodVars_none hV
  obtain ⟨A0, c0, L0, rfl, s0, i0⟩ := come_times (hval 0 _ v0 rfl rfl) h0
  obtain ⟨A1, c1, L1, rfl, s1, i1⟩ := come_times (hval 1 _ v1 rfl rfl) h1
  obtain ⟨e2, A2, n2, c2, l2, rfl, s2, u2, zt2⟩ := come_time_z (hval 2 _ v2 rfl rfl) h2
  obtain ⟨e3, A3, n3, c3, l3, rfl, s3, u3, zt3⟩ := come_time_z (hval 3 _ v3 rfl rfl) h3
  have G : Pow W := pow_of (by rw [MakeChecks.laidMetH_plain _ _ _ (by kernel_rfl)] at hL; exact hL) (.tail _ (.tail _ (.head _)))
  have z2 := zt2 _ _ 2 rfl rfl hsz
  have z3 := zt3 _ _ 3 rfl rfl hsz
  refine (beyl_any e2 e3 A0 A1 A2 A3 L0.length L1.length n2 n3 c0 c1 c2 c3 L0 L1 l2 l3 W G (Lib.hid rfl) (Lib.hid rfl) (Lib.hid s0) (Lib.hid s1) (Lib.hid s2) (Lib.hid s3) z2 z3 i0 i1 u3).mono fun e W' ⟨he, hx⟩ => ⟨_, he, ?_⟩
  exact law_post laid_out (by kernel_rfl) (by kernel_rfl) Tryd.underlying4 rfl hW' rfl hx

theorem laid_met (os : Os) : laidMet Tryd.prog Rows.chainBeyondRow.laid ((World.laidAll Tryd.prog os Rows.chainBeyondRow.laid).forCall (fun _ _ => 0) ⟨#[], args0, []⟩).memory := laidMet_laidAll _ (by kernel_rfl) (by kernel_rfl)
theorem reads (os : Os) {H : Type} (enc : TypeId × Value → H) : ∃ places, DataW.whole enc Tryd.prog ((World.laidAll Tryd.prog os Rows.chainBeyondRow.laid).forCall (fun _ _ => 0) ⟨#[], args0, []⟩).memory Tryd.f3.params.toList Rows.chainBeyondSpec.vars false args0.toList 8 = some (data0, [], places) :=
  ⟨[], by kernel_rfl⟩

set_option maxRecDepth 100000 in
theorem lifted (os : Os) (started : os.Started) (H : Type) (enc : TypeId × Value → H) (F : Stop.Interp) :
    ReturnsInHanded {} Tryd.checked os 3 .any ((OpenSpec.ofChange Rows.chainBeyondSpec).preRow enc Tryd.prog Tryd.f3 Rows.chainBeyondRow.domain false Rows.chainBeyondRow.laid) (((OpenSpec.ofChange Rows.chainBeyondSpec).at F).post enc Tryd.prog Tryd.f3 false true false false) := by
  obtain ⟨places, hx⟩ := reads os enc
  refine returnsInHanded_of_row (C := Tryd.checked) (s := OpenSpec.ofChange Rows.chainBeyondSpec) own_knob started (by kernel_rfl) Tryd.func3
    (witness_row_at (enc := enc) (C := Tryd.checked) false (World.laidAll Tryd.prog os Rows.chainBeyondRow.laid) args0 (World.laidAll_os _ _ _) (by kernel_rfl) (by kernel_rfl) (by kernel_rfl)
      (OpenSpec.preRow_of_cond 8 hx (by kernel_rfl) (fun k hk => by cases hk) (by kernel_rfl) (laid_met os))) ?_
  intro W base args ds gs before hval hW _ _ hsz hL hsh _
  exact contract H enc W base args ds gs before hval hW hL hsh hsz

theorem said : Rows.ChainBeyondSaid :=
  OpenClaim.holds_of_cond 3 Tryd.f3 rfl rfl rfl rfl rfl rfl rfl ⟨rfl, rfl, rfl, rfl, rfl⟩ rfl rfl rfl rfl rfl (by kernel_rfl) Tryd.func3 (by kernel_rfl)
    (of_decide_eq_true (by kernel_rfl)) (by unfold Func.isWrapper; first | (rw [if_pos (by decide +kernel)]; kernel_rfl) | (rw [if_neg (by decide +kernel)]; exact ⟨rfl, rfl⟩))
    (fun os started H enc _ F => by rw [OpenClaim.pre_eq_preRow]; exact lifted os started H enc F)

theorem plain (f : FuncId) (fn : Func) (hf : Tryd.pinned.checked.prog.funcNamed "penstock/penstocklaw05.ChainBeyond" = some f) (hfn : Tryd.pinned.checked.prog.funcs[f]? = some fn) :
    false = Tryd.pinned.checked.prog.looks [] ∧ ∀ (j : Nat) t, fn.params[j]? = some t → Tryd.pinned.checked.prog.wantsStandIn t = false := by
  obtain rfl : f = 3 := Option.some.inj ((show Tryd.prog.funcNamed "penstock/penstocklaw05.ChainBeyond" = some 3 by kernel_rfl).symm.trans hf) |>.symm
  obtain rfl : fn = Tryd.f3 := (Option.some.inj (Tryd.func3.symm.trans hfn)).symm
  refine ⟨by kernel_rfl, fun j t ht => ?_⟩
  have hall : (Tryd.f3.params.toList.all fun u => !Tryd.prog.wantsStandIn u) = true := by kernel_rfl
  have hm : t ∈ Tryd.f3.params.toList := Array.mem_toList_iff.2 (Array.mem_of_getElem? ht)
  exact (show Tryd.prog.wantsStandIn t = false by simpa using List.all_eq_true.1 hall t hm)

theorem card : Rows.ChainBeyondCardSaid :=
  Claim7.holds_tied_plain_at .later [] _ _ _ _ said (fun _ h => by cases h) (by kernel_rfl) (fun _ h => by cases h) chainBeyond_row_tie rfl ⟨rfl, rfl⟩ (by kernel_rfl) rfl plain (by kernel_rfl)
end Go.Proofs.YtmdakaflmheidaaDoor.chainBeyond
namespace Go.Proofs.YtmdakaflmheidaaDoor
theorem chainBeyond_holds : Rows.ChainBeyondCardSaid := chainBeyond.card
#print axioms chainBeyond_holds
end Go.Proofs.YtmdakaflmheidaaDoor
