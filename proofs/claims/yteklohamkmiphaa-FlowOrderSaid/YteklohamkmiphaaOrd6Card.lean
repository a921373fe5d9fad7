/- FlowOrder: in which order a graph's edges and inner ways stand, and how often an edge does, makes no difference to whether it may be, and to its ways. Conditions: none. -/
import Derived.Test.YteklohamkmiphaaFo11
import Derived.Test.YteklohamkmiphaaFo10
namespace Go.Proofs.Yteklohamkmiphaa.flowOrder
open Go.ChangeShapes Go.WideShapes Go.ChangeAt Go.RowKit

def args0 : Array Value := #[.agg #[.slice none 0 0, .slice none 0 0], .int .u8 0, .int .u8 0, .agg #[.int .i64 0, .bool false, .int .i64 0], .agg #[.int .i64 0, .bool false, .int .i64 0]]
def data0 {H : Type} : List (DataW H) := [.agg [.nil, .nil], .lit (.int .u8 0), .lit (.int .u8 0), .agg [.lit (.int .i64 0), .lit (.bool false), .lit (.int .i64 0)], .agg [.lit (.int .i64 0), .lit (.bool false), .lit (.int .i64 0)]]

set_option maxRecDepth 100000 in
theorem contract (H : Type) (enc : TypeId × Value → H) (W : World) (base : Nat) (args : Array Value) (ds gs : List (DataW H)) (before : List MemPlace)
    (hval : ∀ (j : Nat) t v, Try.f4.params[j]? = some t → args[j]? = some v → Value.okWide Try.prog W .any base t v)
    (hW : DataW.Whole enc Try.prog Try.f4.params.toList Rows.flowOrderSpec.vars false W args.toList ds gs before) (_hL : laidMetH Try.prog Rows.flowOrderRow.laid W) (_hsh : W.ShapedOpen Try.prog) (hsz : (DataW.weightsEach Try.prog (Try.f4.params.toList ++ (OpenSpec.ofChange Rows.flowOrderSpec).bare.plain.varTypes Try.prog) (ds ++ gs)).all (· ≤ reachBytes) = true) :
    Calls Try.prog 4 args W fun e W' => ∃ v, e = .returned v ∧ Rows.flowOrderSpec.post enc Try.prog Try.f4 false true false false W args v W' := by
  have hW' := hW
  obtain ⟨p, q, hA, hV, rfl, hfz, hnd⟩ := hW
  rw [Try.params4] at hA hval hsz
  obtain ⟨v0, vs0, dd0, ds0, p0, q0, hargs, rfl, rfl, h0, r0⟩ := trodAll_cons hA
  obtain ⟨v1, vs1, dd1, ds1, p1, q1, rfl, rfl, rfl, h1, r1⟩ := trodAll_cons r0
  obtain ⟨v2, vs2, dd2, ds2, p2, q2, rfl, rfl, rfl, h2, r2⟩ := trodAll_cons r1
  obtain ⟨v3, vs3, dd3, ds3, p3, q3, rfl, rfl, rfl, h3, r3⟩ := trodAll_cons r2
  obtain ⟨v4, vs4, dd4, ds4, p4, q4, rfl, rfl, rfl, h4, r4⟩ := trodAll_cons r3
  obtain ⟨rfl, rfl, rfl⟩ := trodAll_nil r4
  obtain rfl : args = #[v0, v1, v2, v3, v4] := by cases args; simp_all
  obtain ⟨rfl, rfl⟩ := trodVars_none hV
  obtain ⟨NA0, Nc0, nodes0, EA0, Ec0, edges0, rfl, s0, i0, zt0⟩ := come_graph_z (hval 0 _ v0 rfl rfl) h0
  obtain ⟨t1, rfl, bt1⟩ := come_u8n (hval 1 _ v1 rfl rfl) h1
  obtain ⟨t2, rfl, bt2⟩ := come_u8n (hval 2 _ v2 rfl rfl) h2
  obtain ⟨n3, o3, p3, rfl, P3⟩ := come_port (hval 3 _ v3 rfl rfl) h3
  obtain ⟨n4, o4, p4, rfl, P4⟩ := come_port (hval 4 _ v4 rfl rfl) h4
  have z0 := zt0 _ _ 0 rfl rfl hsz
  refine (order6_any NA0 Nc0 nodes0 EA0 Ec0 edges0 (List.length nodes0) (List.length edges0) t1 t2 n3 o3 p3 n4 o4 p4 W (Lib.hid rfl) (Lib.hid rfl) (Lib.hid s0) (Lib.hid i0) (Lib.hid z0) bt1 bt2).mono fun e W' ⟨he, hx⟩ => ⟨_, he, ?_⟩
  exact law_post laid_out (by kernel_rfl) (by kernel_rfl) Try.underlying4 rfl hW' rfl hx

theorem laid_met (os : Os) : laidMet Try.prog Rows.flowOrderRow.laid ((World.laidAll Try.prog os Rows.flowOrderRow.laid).forCall (fun _ _ => 0) ⟨#[], args0, []⟩).memory := laidMet_laidAll _ (by kernel_rfl) (by kernel_rfl)
theorem reads (os : Os) {H : Type} (enc : TypeId × Value → H) : ∃ places, DataW.whole enc Try.prog ((World.laidAll Try.prog os Rows.flowOrderRow.laid).forCall (fun _ _ => 0) ⟨#[], args0, []⟩).memory Try.f4.params.toList Rows.flowOrderSpec.vars false args0.toList 8 = some (data0, [], places) :=
  ⟨[], by kernel_rfl⟩

set_option maxRecDepth 100000 in
theorem lifted (os : Os) (started : os.Started) (H : Type) (enc : TypeId × Value → H) (F : Stop.Interp) :
    ReturnsInHanded {} Try.checked os 4 .any ((OpenSpec.ofChange Rows.flowOrderSpec).preRow enc Try.prog Try.f4 Rows.flowOrderRow.domain false Rows.flowOrderRow.laid) (((OpenSpec.ofChange Rows.flowOrderSpec).at F).post enc Try.prog Try.f4 false true false false) := by
  obtain ⟨places, hx⟩ := reads os enc
  refine returnsInHanded_of_row (C := Try.checked) (s := OpenSpec.ofChange Rows.flowOrderSpec) own_knob started (by kernel_rfl) Try.func4
    (witness_row_at (enc := enc) (C := Try.checked) false (World.laidAll Try.prog os Rows.flowOrderRow.laid) args0 (World.laidAll_os _ _ _) (by kernel_rfl) (by kernel_rfl) (by kernel_rfl)
      (OpenSpec.preRow_of_cond 8 hx (by kernel_rfl) (fun k hk => by cases hk) (by kernel_rfl) (laid_met os))) ?_
  intro W base args ds gs before hval hW _ _ hsz hL hsh _
  exact contract H enc W base args ds gs before hval hW hL hsh hsz

theorem band {a b : Bool} (h : a = true) (k : b = true) : (a && b) = true := by rw [h, k]; rfl
set_option maxHeartbeats 64000000 in
theorem facts : joinedFacts Try.prog 4 Try.f4 (OpenSpec.ofChange Rows.flowOrderSpec).bare Rows.flowOrderRow = true := by
  unfold joinedFacts
  repeat' with_reducible apply band
  all_goals as_aux_lemma => kernel_rfl
theorem said : Rows.FlowOrderSaid :=
  OpenClaim.holds_of_cond 4 Try.f4 rfl rfl rfl rfl rfl rfl rfl ⟨rfl, rfl, rfl, rfl, rfl⟩ rfl rfl rfl rfl rfl (by as_aux_lemma => kernel_rfl) Try.func4 facts
    (of_decide_eq_true (by as_aux_lemma => kernel_rfl)) (by unfold Func.isWrapper; first | (rw [if_pos (by decide +kernel)]; kernel_rfl) | (rw [if_neg (by decide +kernel)]; exact ⟨rfl, rfl⟩))
    (fun os started H enc _ F => by rw [OpenClaim.pre_eq_preRow]; exact lifted os started H enc F)

end Go.Proofs.Yteklohamkmiphaa.flowOrder
namespace Go.Proofs.Yteklohamkmiphaa
theorem flowOrder_holds : Rows.FlowOrderSaid := flowOrder.said
#print axioms flowOrder_holds
end Go.Proofs.Yteklohamkmiphaa
