/- DatumWritten: two data that may be are written alike just if they are the same; what is written has no byte that ends a line, and no quote but of a text. Conditions: none. -/
import Derived.Test.YtobgfegdfcpgfaaDoorDSize
import Derived.Test.YtobgfegdfcpgfaaDoorDWrit
namespace Go.Proofs.YtobgfegdfcpgfaaDoor.datumWritten
open Go.ChangeShapes Go.WideShapes Go.ChangeAt Go.RowKit

def args0 : Array Value := #[.agg #[.int .u8 0, .bool false, .int .i64 0, .string ⟨#[]⟩], .agg #[.int .u8 0, .bool false, .int .i64 0, .string ⟨#[]⟩]]
def data0 {H : Type} : List (DataW H) := [.agg [.lit (.int .u8 0), .lit (.bool false), .lit (.int .i64 0), .lit (.string [])], .agg [.lit (.int .u8 0), .lit (.bool false), .lit (.int .i64 0), .lit (.string [])]]

set_option maxRecDepth 100000 in
theorem contract (H : Type) (enc : TypeId × Value → H) (W : World) (base : Nat) (args : Array Value) (ds gs : List (DataW H)) (before : List MemPlace)
    (hval : ∀ (j : Nat) t v, Tryd.f3.params[j]? = some t → args[j]? = some v → Value.okWide Tryd.prog W .any base t v)
    (hW : DataW.Whole enc Tryd.prog Tryd.f3.params.toList Rows.datumWrittenSpec.vars false W args.toList ds gs before) (hL : laidMetH Tryd.prog Rows.datumWrittenRow.laid W) (_hsh : W.ShapedOpen Tryd.prog) :
    Calls Tryd.prog 3 args W fun e W' => ∃ v, e = .returned v ∧ Rows.datumWrittenSpec.post enc Tryd.prog Tryd.f3 false true false false W args v W' := by
  have hW' := hW
  obtain ⟨p, q, hA, hV, rfl, hfz, hnd⟩ := hW
  rw [Tryd.params3] at hA hval
  obtain ⟨v0, vs0, dd0, ds0, p0, q0, hargs, rfl, rfl, h0, r0⟩ := trodAll_cons hA
  obtain ⟨v1, vs1, dd1, ds1, p1, q1, rfl, rfl, rfl, h1, r1⟩ := trodAll_cons r0
  obtain ⟨rfl, rfl, rfl⟩ := trodAll_nil r1
  obtain rfl : args = #[v0, v1] := by cases args; simp_all
  obtain ⟨rfl, rfl⟩ := trodVars_none hV
  obtain ⟨k0, b0, i0, t0, rfl, bk0, bi0, bt0⟩ := come_datum (hval 0 _ v0 rfl rfl) h0
  obtain ⟨k1, b1, i1, t1, rfl, bk1, bi1, bt1⟩ := come_datum (hval 1 _ v1 rfl rfl) h1
  have G : Good2 W := good2_of (by rw [MakeChecks.laidMetH_plain _ _ _ (by kernel_rfl)] at hL; exact hL) (.tail _ (.tail _ (.tail _ (.tail _ (.head _))))) (.tail _ (.tail _ (.tail _ (.head _)))) (.tail _ (.tail _ (.head _))) (.tail _ (.head _))
  refine (writ_any k0 i0 k1 i1 b0 b1 t0 t1 W bt0 bt1 G bi0 bi1).mono fun e W' ⟨he, hx⟩ => ⟨_, he, ?_⟩
  exact law_post laid_out (by kernel_rfl) (by kernel_rfl) Tryd.underlying4 rfl hW' rfl hx

theorem laid_met (os : Os) : laidMet Tryd.prog Rows.datumWrittenRow.laid ((World.laidAll Tryd.prog os Rows.datumWrittenRow.laid).forCall (fun _ _ => 0) ⟨#[], args0, []⟩).memory := laidMet_laidAll _ (by kernel_rfl) (by kernel_rfl)
theorem reads (os : Os) {H : Type} (enc : TypeId × Value → H) : ∃ places, DataW.whole enc Tryd.prog ((World.laidAll Tryd.prog os Rows.datumWrittenRow.laid).forCall (fun _ _ => 0) ⟨#[], args0, []⟩).memory Tryd.f3.params.toList Rows.datumWrittenSpec.vars false args0.toList 8 = some (data0, [], places) :=
  ⟨[], by kernel_rfl⟩

set_option maxRecDepth 100000 in
theorem lifted (os : Os) (started : os.Started) (H : Type) (enc : TypeId × Value → H) (F : Stop.Interp) :
    ReturnsInHanded {} Tryd.checked os 3 .any ((OpenSpec.ofChange Rows.datumWrittenSpec).preRow enc Tryd.prog Tryd.f3 Rows.datumWrittenRow.domain false Rows.datumWrittenRow.laid) (((OpenSpec.ofChange Rows.datumWrittenSpec).at F).post enc Tryd.prog Tryd.f3 false true false false) := by
  obtain ⟨places, hx⟩ := reads os enc
  refine returnsInHanded_of_row (C := Tryd.checked) (s := OpenSpec.ofChange Rows.datumWrittenSpec) own_knob started (by kernel_rfl) Tryd.func3
    (witness_row_at (enc := enc) (C := Tryd.checked) false (World.laidAll Tryd.prog os Rows.datumWrittenRow.laid) args0 (World.laidAll_os _ _ _) (by kernel_rfl) (by kernel_rfl) (by kernel_rfl)
      (OpenSpec.preRow_of_cond 8 hx (by kernel_rfl) (fun k hk => by cases hk) (by kernel_rfl) (laid_met os))) ?_
  intro W base args ds gs before hval hW _ _ _ hL hsh _
  exact contract H enc W base args ds gs before hval hW hL hsh

theorem said : Rows.DatumWrittenSaid :=
  OpenClaim.holds_of_cond 3 Tryd.f3 rfl rfl rfl rfl rfl rfl rfl ⟨rfl, rfl, rfl, rfl, rfl⟩ rfl rfl rfl rfl rfl (by kernel_rfl) Tryd.func3 (by kernel_rfl)
    (of_decide_eq_true (by kernel_rfl)) (by unfold Func.isWrapper; first | (rw [if_pos (by decide +kernel)]; kernel_rfl) | (rw [if_neg (by decide +kernel)]; exact ⟨rfl, rfl⟩))
    (fun os started H enc _ F => by rw [OpenClaim.pre_eq_preRow]; exact lifted os started H enc F)

theorem plain (f : FuncId) (fn : Func) (hf : Tryd.pinned.checked.prog.funcNamed "penstock/penstocklaw01.DatumWritten" = some f) (hfn : Tryd.pinned.checked.prog.funcs[f]? = some fn) :
    true = Tryd.pinned.checked.prog.looks [] ∧ ∀ (j : Nat) t, fn.params[j]? = some t → Tryd.pinned.checked.prog.wantsStandIn t = false := by
  obtain rfl : f = 3 := Option.some.inj ((show Tryd.prog.funcNamed "penstock/penstocklaw01.DatumWritten" = some 3 by kernel_rfl).symm.trans hf) |>.symm
  obtain rfl : fn = Tryd.f3 := (Option.some.inj (Tryd.func3.symm.trans hfn)).symm
  refine ⟨by kernel_rfl, fun j t ht => ?_⟩
  have hall : (Tryd.f3.params.toList.all fun u => !Tryd.prog.wantsStandIn u) = true := by kernel_rfl
  have hm : t ∈ Tryd.f3.params.toList := Array.mem_toList_iff.2 (Array.mem_of_getElem? ht)
  exact (show Tryd.prog.wantsStandIn t = false by simpa using List.all_eq_true.1 hall t hm)

theorem card : Rows.DatumWrittenCardSaid :=
  Claim7.holds_tied_plain_at .later [] _ _ _ _ said (fun _ h => by cases h) (by kernel_rfl) (fun _ h => by cases h) datumWritten_row_tie rfl ⟨rfl, rfl⟩ (by kernel_rfl) rfl plain (by kernel_rfl)
end Go.Proofs.YtobgfegdfcpgfaaDoor.datumWritten
namespace Go.Proofs.YtobgfegdfcpgfaaDoor
theorem datumWritten_holds : Rows.DatumWrittenCardSaid := datumWritten.card
#print axioms datumWritten_holds
end Go.Proofs.YtobgfegdfcpgfaaDoor
