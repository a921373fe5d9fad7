/- FlowGoes: whatever way one goes along a graph, step by step, a time comes nowhere ahead of where one of the least ways lets it come. Conditions: none. -/
import Derived.Test.YteklohamkmiphaaFg12
import Derived.Test.YteklohamkmiphaaFg10
namespace Go.Proofs.Yteklohamkmiphaa.flowGoes
open Go.ChangeShapes Go.WideShapes Go.ChangeAt Go.RowKit

def args0 : Array Value := #[.agg #[.slice none 0 0, .slice none 0 0], .agg #[.int .i64 0, .bool false, .int .i64 0], .slice none 0 0, .agg #[.int .u64 0, .slice none 0 0]]
def data0 {H : Type} : List (DataW H) := [.agg [.nil, .nil], .agg [.lit (.int .i64 0), .lit (.bool false), .lit (.int .i64 0)], .nil, .agg [.lit (.int .u64 0), .nil]]

set_option maxRecDepth 100000 in
theorem contract (H : Type) (enc : TypeId × Value → H) (W : World) (base : Nat) (args : Array Value) (ds gs : List (DataW H)) (before : List MemPlace)
    (hval : ∀ (j : Nat) t v, Try.f3.params[j]? = some t → args[j]? = some v → Value.okWide Try.prog W .any base t v)
    (hW : DataW.Whole enc Try.prog Try.f3.params.toList Rows.flowGoesSpec.vars false W args.toList ds gs before) (_hL : laidMetH Try.prog Rows.flowGoesRow.laid W) (_hsh : W.ShapedOpen Try.prog) (hsz : (DataW.weightsEach Try.prog (Try.f3.params.toList ++ (OpenSpec.ofChange Rows.flowGoesSpec).bare.plain.varTypes Try.prog) (ds ++ gs)).all (· ≤ reachBytes) = true) :
    Calls Try.prog 3 args W fun e W' => ∃ v, e = .returned v ∧ Rows.flowGoesSpec.post enc Try.prog Try.f3 false true false false W args v W' := by
  have hW' := hW
  obtain ⟨p, q, hA, hV, rfl, hfz, hnd⟩ := hW
  rw [Try.params3] at hA hval hsz
  obtain ⟨v0, vs0, dd0, ds0, p0, q0, hargs, rfl, rfl, h0, r0⟩ := trodAll_cons hA
  obtain ⟨v1, vs1, dd1, ds1, p1, q1, rfl, rfl, rfl, h1, r1⟩ := trodAll_cons r0
  obtain ⟨v2, vs2, dd2, ds2, p2, q2, rfl, rfl, rfl, h2, r2⟩ := trodAll_cons r1
  obtain ⟨v3, vs3, dd3, ds3, p3, q3, rfl, rfl, rfl, h3, r3⟩ := trodAll_cons r2
  obtain ⟨rfl, rfl, rfl⟩ := trodAll_nil r3
  obtain rfl : args = #[v0, v1, v2, v3] := by cases args; simp_all
  obtain ⟨rfl, rfl⟩ := trodVars_none hV
  obtain ⟨NA0, Nc0, nodes0, EA0, Ec0, edges0, rfl, s0, i0, zt0⟩ := come_graph_z (hval 0 _ v0 rfl rfl) h0
  obtain ⟨n1, o1, p1, rfl, P1⟩ := come_port (hval 1 _ v1 rfl rfl) h1
  obtain ⟨A2, c2, l2, rfl, s2, b2⟩ := come_u8s (hval 2 _ v2 rfl rfl) h2
  obtain ⟨e3, A3, n3, c3, l3, rfl, s3, u3, be3⟩ := come_time (hval 3 _ v3 rfl rfl) h3
  have z0 := zt0 _ _ 0 rfl rfl hsz
  refine (goes6_any NA0 Nc0 nodes0 EA0 Ec0 edges0 (List.length nodes0) (List.length edges0) n1 o1 p1 A2 (List.length l2) c2 l2 e3 A3 n3 c3 l3 W (Lib.hid rfl) (Lib.hid rfl) (Lib.hid s0) (Lib.hid i0) (Lib.hid z0) (Lib.hid s2) (Lib.hid rfl) (Lib.hid b2) (Lib.hid s3) (Lib.hid u3) be3.1 be3.2).mono fun e W' ⟨he, hx⟩ => ⟨_, he, ?_⟩
  exact law_post laid_out (by kernel_rfl) (by kernel_rfl) Try.underlying4 rfl hW' rfl hx

theorem laid_met (os : Os) : laidMet Try.prog Rows.flowGoesRow.laid ((World.laidAll Try.prog os Rows.flowGoesRow.laid).forCall (fun _ _ => 0) ⟨#[], args0, []⟩).memory := laidMet_laidAll _ (by kernel_rfl) (by kernel_rfl)
theorem reads (os : Os) {H : Type} (enc : TypeId × Value → H) : ∃ places, DataW.whole enc Try.prog ((World.laidAll Try.prog os Rows.flowGoesRow.laid).forCall (fun _ _ => 0) ⟨#[], args0, []⟩).memory Try.f3.params.toList Rows.flowGoesSpec.vars false args0.toList 8 = some (data0, [], places) :=
  ⟨[], by kernel_rfl⟩

set_option maxRecDepth 100000 in
theorem lifted (os : Os) (started : os.Started) (H : Type) (enc : TypeId × Value → H) (F : Stop.Interp) :
    ReturnsInHanded {} Try.checked os 3 .any ((OpenSpec.ofChange Rows.flowGoesSpec).preRow enc Try.prog Try.f3 Rows.flowGoesRow.domain false Rows.flowGoesRow.laid) (((OpenSpec.ofChange Rows.flowGoesSpec).at F).post enc Try.prog Try.f3 false true false false) := by
  obtain ⟨places, hx⟩ := reads os enc
  refine returnsInHanded_of_row (C := Try.checked) (s := OpenSpec.ofChange Rows.flowGoesSpec) own_knob started (by kernel_rfl) Try.func3
    (witness_row_at (enc := enc) (C := Try.checked) false (World.laidAll Try.prog os Rows.flowGoesRow.laid) args0 (World.laidAll_os _ _ _) (by kernel_rfl) (by kernel_rfl) (by kernel_rfl)
      (OpenSpec.preRow_of_cond 8 hx (by kernel_rfl) (fun k hk => by cases hk) (by kernel_rfl) (laid_met os))) ?_
  intro W base args ds gs before hval hW _ _ hsz hL hsh _
  exact contract H enc W base args ds gs before hval hW hL hsh hsz

theorem band {a b : Bool} (h : a = true) (k : b = true) : (a && b) = true := by rw [h, k]; rfl
set_option maxHeartbeats 64000000 in
theorem facts : joinedFacts Try.prog 3 Try.f3 (OpenSpec.ofChange Rows.flowGoesSpec).bare Rows.flowGoesRow = true := by
  unfold joinedFacts
  repeat' with_reducible apply band
  all_goals as_aux_lemma => kernel_rfl
theorem said : Rows.FlowGoesSaid :=
  OpenClaim.holds_of_cond 3 Try.f3 rfl rfl rfl rfl rfl rfl rfl ⟨rfl, rfl, rfl, rfl, rfl⟩ rfl rfl rfl rfl rfl (by as_aux_lemma => kernel_rfl) Try.func3 facts
    (of_decide_eq_true (by as_aux_lemma => kernel_rfl)) (by unfold Func.isWrapper; first | (rw [if_pos (by decide +kernel)]; kernel_rfl) | (rw [if_neg (by decide +kernel)]; exact ⟨rfl, rfl⟩))
    (fun os started H enc _ F => by rw [OpenClaim.pre_eq_preRow]; exact lifted os started H enc F)

end Go.Proofs.Yteklohamkmiphaa.flowGoes
namespace Go.Proofs.Yteklohamkmiphaa
theorem flowGoes_holds : Rows.FlowGoesSaid := flowGoes.said
#print axioms flowGoes_holds
end Go.Proofs.Yteklohamkmiphaa
