/- RowKeeps: what Pick, Encode, Decode, Sum and Parse tell is new memory, up to the bound: it stays when what was handed in is written over, and when other answers are. Conditions: none. -/
import Derived.Test.YtngeioghihbkeaaDoorRowUpto
import Derived.Test.YtngeioghihbkeaaDoorRowKeepsLaw
import Derived.Test.YtngeioghihbkeaaDoorSumsL
namespace Go.Proofs.YtngeioghihbkeaaDoor.rowKeeps
open Go.ChangeShapes Go.WideShapes Go.ChangeAt Go.RowKit

def args0 : Array Value := #[.slice none 0 0, .slice none 0 0, .slice none 0 0]
def data0 {H : Type} : List (DataW H) := [.nil, .nil, .nil]

set_option maxRecDepth 100000 in
theorem contract (H : Type) (enc : TypeId × Value → H) (W : World) (base : Nat) (args : Array Value) (ds gs : List (DataW H)) (before : List MemPlace)
    (hval : ∀ (j : Nat) t v, Tryd.f10.params[j]? = some t → args[j]? = some v → Value.okWide Tryd.prog W .any base t v)
    (hW : DataW.Whole enc Tryd.prog Tryd.f10.params.toList Rows.rowKeepsSpec.vars false W args.toList ds gs before) (hL : laidMetH Tryd.prog Rows.rowKeepsRow.laid W) (_hsh : W.ShapedOpen Tryd.prog) (HUP : Rows.uptoBulkAll (ds ++ gs) ≤ 1048576) :
    Calls Tryd.prog 10 args W fun e W' => ∃ v, e = .returned v ∧ Rows.rowKeepsSpec.post enc Tryd.prog Tryd.f10 false true false false W args v W' := by
  have hW' := hW
  obtain ⟨p, q, hA, hV, rfl, hfz, hnd⟩ := hW
  rw [Tryd.params10] at hA hval
  obtain ⟨v0, vs0, dd0, ds0, p0, q0, hargs, rfl, rfl, h0, r0⟩ := trodAll_cons hA
  obtain ⟨v1, vs1, dd1, ds1, p1, q1, rfl, rfl, rfl, h1, r1⟩ := trodAll_cons r0
  obtain ⟨v2, vs2, dd2, ds2, p2, q2, rfl, rfl, rfl, h2, r2⟩ := trodAll_cons r1
  obtain ⟨rfl, rfl, rfl⟩ := trodAll_nil r2
  obtain rfl : args = #[v0, v1, v2] := by cases args; simp_all
  obtain ⟨rfl, rfl⟩ := trodVars_none hV
  obtain ⟨A0, c0, l0, rfl, s0, i0, ut0, ul0⟩ := come_row_up (hval 0 _ v0 rfl rfl) h0
  obtain ⟨A1, c1, l1, rfl, s1, i1⟩ := come_ints (hval 1 _ v1 rfl rfl) h1
  obtain ⟨A2, c2, l2, rfl, s2, i2⟩ := come_cts (hval 2 _ v2 rfl rfl) h2
  simp only [List.append_nil, List.nil_append, Rows.uptoBulkAll] at HUP
  have ul1 := ints_bulk rfl h1
  have hL' : laidMet Tryd.prog Rows.rowKeepsRow.laid W := by rw [MakeChecks.laidMetH_plain _ _ _ (by kernel_rfl)] at hL; exact hL
  have G : Good W := good_of hL' (.tail _ (.head _)) (.head _)
  refine (keeps_any A0 A2 A1 c0 c2 c1 l0 l2 l1 W s0 s2 s1 i0.txt i0.int i2 (by omega) (by omega) G).mono fun e W' ⟨he, hx⟩ => ⟨_, he, ?_⟩
  exact law_post laid_out (by kernel_rfl) (by kernel_rfl) Tryd.underlying4 rfl hW' rfl hx

theorem laid_met (os : Os) : laidMet Tryd.prog Rows.rowKeepsUptoRow.laid ((World.laidAll Tryd.prog os Rows.rowKeepsUptoRow.laid).forCall (fun _ _ => 0) ⟨#[], args0, []⟩).memory := laidMet_laidAll _ (by kernel_rfl) (by kernel_rfl)
theorem reads (os : Os) {H : Type} (enc : TypeId × Value → H) : ∃ places, DataW.whole enc Tryd.prog ((World.laidAll Tryd.prog os Rows.rowKeepsUptoRow.laid).forCall (fun _ _ => 0) ⟨#[], args0, []⟩).memory Tryd.f10.params.toList Rows.rowKeepsSpec.vars false args0.toList 8 = some (data0, [], places) :=
  ⟨[], by kernel_rfl⟩

set_option maxRecDepth 100000 in
theorem lifted (os : Os) (started : os.Started) (H : Type) (enc : TypeId × Value → H) (F : Stop.Interp) :
    ReturnsInHanded {} Tryd.checked os 10 .any ((Rows.OpenSpec.upto Rows.rowKeepsSpec).preRow enc Tryd.prog Tryd.f10 Rows.rowKeepsUptoRow.domain false Rows.rowKeepsUptoRow.laid) (((Rows.OpenSpec.upto Rows.rowKeepsSpec).at F).post enc Tryd.prog Tryd.f10 false true false false) := by
  obtain ⟨places, hx⟩ := reads os enc
  refine returnsInHanded_of_row (C := Tryd.checked) (s := Rows.OpenSpec.upto Rows.rowKeepsSpec) own_knob started (by kernel_rfl) Tryd.func10
    (witness_row_at (enc := enc) (C := Tryd.checked) false (World.laidAll Tryd.prog os Rows.rowKeepsUptoRow.laid) args0 (World.laidAll_os _ _ _) (by kernel_rfl) (by kernel_rfl) (by kernel_rfl)
      (OpenSpec.preRow_of_cond 8 hx (by kernel_rfl) (fun k hk => by cases hk; kernel_rfl) (by kernel_rfl) (laid_met os))) ?_
  intro W base args ds gs before hval hW _ hcond _ hL hsh _
  exact contract H enc W base args ds gs before hval hW hL hsh (of_decide_eq_true (hcond _ rfl))

theorem said : Rows.RowKeepsUptoSaid :=
  OpenClaim.holds_of_cond 10 Tryd.f10 rfl rfl rfl rfl rfl rfl rfl ⟨rfl, rfl, rfl, rfl, rfl⟩ rfl rfl rfl rfl rfl (by kernel_rfl) Tryd.func10 (by kernel_rfl)
    (of_decide_eq_true (by kernel_rfl)) (by unfold Func.isWrapper; first | (rw [if_pos (by decide +kernel)]; kernel_rfl) | (rw [if_neg (by decide +kernel)]; exact ⟨rfl, rfl⟩))
    (fun os started H enc _ F => by rw [OpenClaim.pre_eq_preRow]; exact lifted os started H enc F)

theorem plain (f : FuncId) (fn : Func) (hf : Tryd.pinned.checked.prog.funcNamed "penstock/penstocklaw02.RowKeeps" = some f) (hfn : Tryd.pinned.checked.prog.funcs[f]? = some fn) :
    true = Tryd.pinned.checked.prog.looks [] ∧ ∀ (j : Nat) t, fn.params[j]? = some t → Tryd.pinned.checked.prog.wantsStandIn t = false := by
  obtain rfl : f = 10 := Option.some.inj ((show Tryd.prog.funcNamed "penstock/penstocklaw02.RowKeeps" = some 10 by kernel_rfl).symm.trans hf) |>.symm
  obtain rfl : fn = Tryd.f10 := (Option.some.inj (Tryd.func10.symm.trans hfn)).symm
  refine ⟨by kernel_rfl, fun j t ht => ?_⟩
  have hall : (Tryd.f10.params.toList.all fun u => !Tryd.prog.wantsStandIn u) = true := by kernel_rfl
  have hm : t ∈ Tryd.f10.params.toList := Array.mem_toList_iff.2 (Array.mem_of_getElem? ht)
  exact (show Tryd.prog.wantsStandIn t = false by simpa using List.all_eq_true.1 hall t hm)

theorem card : Rows.RowKeepsUptoCardSaid :=
  Claim7.holds_tied_plain_at .later [] _ _ _ _ said (fun _ h => by cases h) (by kernel_rfl) (fun _ h => by cases h) rowKeepsUpto_row_tie rfl ⟨rfl, rfl⟩ (by kernel_rfl) rfl plain (by kernel_rfl)
end Go.Proofs.YtngeioghihbkeaaDoor.rowKeeps
namespace Go.Proofs.YtngeioghihbkeaaDoor
theorem rowKeepsUpto_holds : Rows.RowKeepsUptoCardSaid := rowKeeps.card
#print axioms rowKeepsUpto_holds
end Go.Proofs.YtngeioghihbkeaaDoor
