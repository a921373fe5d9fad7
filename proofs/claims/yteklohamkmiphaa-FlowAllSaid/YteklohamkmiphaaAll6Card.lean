/- FlowAll: All tells what Ways tells, of each place and each input. Conditions: none. -/
import Derived.Test.YteklohamkmiphaaFa14
import Derived.Test.YteklohamkmiphaaFa12
import Derived.Test.YteklohamkmiphaaFa11
namespace Go.Proofs.Yteklohamkmiphaa.flowAll
open Go.ChangeShapes Go.WideShapes Go.ChangeAt Go.RowKit

def args0 : Array Value := #[.agg #[.slice none 0 0, .slice none 0 0]]
def data0 {H : Type} : List (DataW H) := [.agg [.nil, .nil]]

set_option maxRecDepth 100000 in
theorem contract (H : Type) (enc : TypeId × Value → H) (W : World) (base : Nat) (args : Array Value) (ds gs : List (DataW H)) (before : List MemPlace)
    (hval : ∀ (j : Nat) t v, Try.f5.params[j]? = some t → args[j]? = some v → Value.okWide Try.prog W .any base t v)
    (hW : DataW.Whole enc Try.prog Try.f5.params.toList Rows.flowAllSpec.vars false W args.toList ds gs before) (_hL : laidMetH Try.prog Rows.flowAllRow.laid W) (_hsh : W.ShapedOpen Try.prog) (hsz : (DataW.weightsEach Try.prog (Try.f5.params.toList ++ (OpenSpec.ofChange Rows.flowAllSpec).bare.plain.varTypes Try.prog) (ds ++ gs)).all (· ≤ reachBytes) = true) :
    Calls Try.prog 5 args W fun e W' => ∃ v, e = .returned v ∧ Rows.flowAllSpec.post enc Try.prog Try.f5 false true false false W args v W' := by
  have hW' := hW
  obtain ⟨p, q, hA, hV, rfl, hfz, hnd⟩ := hW
  rw [Try.params5] at hA hval hsz
  obtain ⟨v0, vs0, dd0, ds0, p0, q0, hargs, rfl, rfl, h0, r0⟩ := trodAll_cons hA
  obtain ⟨rfl, rfl, rfl⟩ := trodAll_nil r0
  obtain rfl : args = #[v0] := by cases args; simp_all
  obtain ⟨rfl, rfl⟩ := trodVars_none hV
  obtain ⟨NA0, Nc0, nodes0, EA0, Ec0, edges0, rfl, s0, i0, zt0⟩ := come_graph_z (hval 0 _ v0 rfl rfl) h0
  have z0 := zt0 _ _ 0 rfl rfl hsz
  refine (alls6_any NA0 Nc0 nodes0 EA0 Ec0 edges0 (List.length nodes0) (List.length edges0) W (Lib.hid rfl) (Lib.hid rfl) (Lib.hid s0) (Lib.hid i0) (Lib.hid z0)).mono fun e W' ⟨he, hx⟩ => ⟨_, he, ?_⟩
  exact law_post laid_out (by kernel_rfl) (by kernel_rfl) Try.underlying4 rfl hW' rfl hx

theorem laid_met (os : Os) : laidMet Try.prog Rows.flowAllRow.laid ((World.laidAll Try.prog os Rows.flowAllRow.laid).forCall (fun _ _ => 0) ⟨#[], args0, []⟩).memory := laidMet_laidAll _ (by kernel_rfl) (by kernel_rfl)
theorem reads (os : Os) {H : Type} (enc : TypeId × Value → H) : ∃ places, DataW.whole enc Try.prog ((World.laidAll Try.prog os Rows.flowAllRow.laid).forCall (fun _ _ => 0) ⟨#[], args0, []⟩).memory Try.f5.params.toList Rows.flowAllSpec.vars false args0.toList 8 = some (data0, [], places) :=
  ⟨[], by kernel_rfl⟩

set_option maxRecDepth 100000 in
theorem lifted (os : Os) (started : os.Started) (H : Type) (enc : TypeId × Value → H) (F : Stop.Interp) :
    ReturnsInHanded {} Try.checked os 5 .any ((OpenSpec.ofChange Rows.flowAllSpec).preRow enc Try.prog Try.f5 Rows.flowAllRow.domain false Rows.flowAllRow.laid) (((OpenSpec.ofChange Rows.flowAllSpec).at F).post enc Try.prog Try.f5 false true false false) := by
  obtain ⟨places, hx⟩ := reads os enc
  refine returnsInHanded_of_row (C := Try.checked) (s := OpenSpec.ofChange Rows.flowAllSpec) own_knob started (by kernel_rfl) Try.func5
    (witness_row_at (enc := enc) (C := Try.checked) false (World.laidAll Try.prog os Rows.flowAllRow.laid) args0 (World.laidAll_os _ _ _) (by kernel_rfl) (by kernel_rfl) (by kernel_rfl)
      (OpenSpec.preRow_of_cond 8 hx (by kernel_rfl) (fun k hk => by cases hk) (by kernel_rfl) (laid_met os))) ?_
  intro W base args ds gs before hval hW _ _ hsz hL hsh _
  exact contract H enc W base args ds gs before hval hW hL hsh hsz

theorem band {a b : Bool} (h : a = true) (k : b = true) : (a && b) = true := by rw [h, k]; rfl
set_option maxHeartbeats 64000000 in
theorem facts : joinedFacts Try.prog 5 Try.f5 (OpenSpec.ofChange Rows.flowAllSpec).bare Rows.flowAllRow = true := by
  unfold joinedFacts
  repeat' with_reducible apply band
  all_goals as_aux_lemma => kernel_rfl
theorem said : Rows.FlowAllSaid :=
  OpenClaim.holds_of_cond 5 Try.f5 rfl rfl rfl rfl rfl rfl rfl ⟨rfl, rfl, rfl, rfl, rfl⟩ rfl rfl rfl rfl rfl (by as_aux_lemma => kernel_rfl) Try.func5 facts
    (of_decide_eq_true (by as_aux_lemma => kernel_rfl)) (by unfold Func.isWrapper; first | (rw [if_pos (by decide +kernel)]; kernel_rfl) | (rw [if_neg (by decide +kernel)]; exact ⟨rfl, rfl⟩))
    (fun os started H enc _ F => by rw [OpenClaim.pre_eq_preRow]; exact lifted os started H enc F)

end Go.Proofs.Yteklohamkmiphaa.flowAll
namespace Go.Proofs.Yteklohamkmiphaa
theorem flowAll_holds : Rows.FlowAllSaid := flowAll.said
#print axioms flowAll_holds
end Go.Proofs.Yteklohamkmiphaa
