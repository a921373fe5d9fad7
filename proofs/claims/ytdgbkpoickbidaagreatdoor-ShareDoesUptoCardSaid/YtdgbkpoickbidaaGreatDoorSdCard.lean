/- ShareDoes: up to the bound: a trace and its handles answer any calls as the chapter says; what is handed in stays, what comes out is its owner's. Conditions: none. -/
import Derived.Test.YtdgbkpoickbidaaGreatDoorHx7
import Derived.Test.YtdgbkpoickbidaaGreatDoorHx23
namespace Go.Proofs.YtdgbkpoickbidaaGreatDoor.shareDoes
open Go.ChangeShapes Go.WideShapes Go.ChangeAt Go.RowKit

def args0:Array Value := #[.slice none 0 0]
def data0 {H:Type}:List (DataW H):=[.nil]

set_option maxRecDepth 100000 in
theorem contract (H:Type) (enc:TypeId × Value→H) (W:World) (base:Nat) (args:Array Value) (ds gs:List (DataW H)) (before:List MemPlace)
  (hval : ∀ (j:Nat) t v,Tryz.f10.params[j]?=some t→args[j]?=some v→Value.okWide Tryz.prog W .any base t v)
  (hW:DataW.Whole enc Tryz.prog Tryz.f10.params.toList Rows.shareDoesSpec.vars false W args.toList ds gs before) (hL:laidMetH Tryz.prog Rows.shareDoesRow.laid W) (_hsh:W.ShapedOpen Tryz.prog) (HUP:Rows.uptoBulkAll (ds++gs)≤1048576) :
  Calls Tryz.prog 10 args W fun e W' => ∃ v,e = .returned v∧Rows.shareDoesSpec.post enc Tryz.prog Tryz.f10 false true false false W args v W':=by
 have hW':=hW
 obtain ⟨p,q,hA,hV,rfl,hfz,hnd⟩:=hW
 rw [Tryz.params10] at hA hval
 obtain ⟨v0,vs0,dd0,ds0,p0,q0,hargs,rfl,rfl,h0,r0⟩:=trodAll_cons hA
 obtain ⟨rfl,rfl,rfl⟩:=trodAll_nil r0
 obtain rfl:args = #[v0]:=by cases args;simp_all
 obtain ⟨rfl,rfl⟩:=trodVars_none hV
 obtain ⟨A0,c0,L0,rfl,s0,i0⟩:=come_hopst (hval 0 _ v0 rfl rfl) h0
 simp only [List.append_nil,List.nil_append,Rows.uptoBulkAll] at HUP
 have hL':laidMet Tryz.prog Rows.shareDoesRow.laid W:=by rw [MakeChecks.laidMetH_plain _ _ _ (by kernel_rfl)] at hL;exact hL
 have G:Good W:=good_of hL' (.tail _ (.head _)) (.head _)
 refine (shareDoes_any A0 c0 L0.length L0 W G (j6 rfl) (j6 s0) (j6 (fun x hx=>(i0 x hx).1.1)) (j6 (fun x hx=>by have:=(i0 x hx).1.2;omega)) (j6 (fun x hx u hu d hd=>by have:=(i0 x hx).2 u hu d hd;omega))).mono fun e W' ⟨he,hx⟩=>⟨_,he,?_⟩
 exact law_post laid_out (by kernel_rfl) (by kernel_rfl) Tryz.underlying4 rfl hW' rfl hx

theorem laid_met (os:Os):laidMet Tryz.prog Rows.shareDoesUptoRow.laid ((World.laidAll Tryz.prog os Rows.shareDoesUptoRow.laid).forCall (fun _ _=>0) ⟨#[],args0,[]⟩).memory:=laidMet_laidAll _ (by kernel_rfl) (by kernel_rfl)
theorem reads (os:Os) {H:Type} (enc:TypeId × Value→H) : ∃ places,DataW.whole enc Tryz.prog ((World.laidAll Tryz.prog os Rows.shareDoesUptoRow.laid).forCall (fun _ _=>0) ⟨#[],args0,[]⟩).memory Tryz.f10.params.toList Rows.shareDoesSpec.vars false args0.toList 8=some (data0,[],places) :=
 ⟨[],by kernel_rfl⟩

set_option maxRecDepth 100000 in
theorem lifted (os:Os) (started:os.Started) (H:Type) (enc:TypeId × Value→H) (F:Stop.Interp) :
  ReturnsInHanded {} Tryz.checked os 10 .any ((Rows.OpenSpec.upto Rows.shareDoesSpec).preRow enc Tryz.prog Tryz.f10 Rows.shareDoesUptoRow.domain false Rows.shareDoesUptoRow.laid) (((Rows.OpenSpec.upto Rows.shareDoesSpec).at F).post enc Tryz.prog Tryz.f10 false true false false):=by
 obtain ⟨places,hx⟩:=reads os enc
 refine returnsInHanded_of_row (C:=Tryz.checked) (s:=Rows.OpenSpec.upto Rows.shareDoesSpec) own_knob started (by kernel_rfl) Tryz.func10
  (witness_row_at (enc:=enc) (C:=Tryz.checked) false (World.laidAll Tryz.prog os Rows.shareDoesUptoRow.laid) args0 (World.laidAll_os _ _ _) (by kernel_rfl) (by kernel_rfl) (by kernel_rfl)
   (OpenSpec.preRow_of_cond 8 hx (by kernel_rfl) (fun k hk=>by cases hk;kernel_rfl) (by kernel_rfl) (laid_met os))) ?_
 intro W base args ds gs before hval hW _ hcond _ hL hsh _
 exact contract H enc W base args ds gs before hval hW hL hsh (of_decide_eq_true (hcond _ rfl))

theorem band {a b:Bool} (h:a=true) (k:b=true):(a&&b)=true:=by rw [h,k];rfl
set_option maxHeartbeats 64000000 in
theorem facts:joinedFacts Tryz.prog 10 Tryz.f10 (Rows.OpenSpec.upto Rows.shareDoesSpec).bare Rows.shareDoesUptoRow=true:=by
 unfold joinedFacts
 repeat' with_reducible apply band
 all_goals as_aux_lemma=>kernel_rfl
theorem said:Rows.ShareDoesUptoSaid :=
 OpenClaim.holds_of_cond 10 Tryz.f10 rfl rfl rfl rfl rfl rfl rfl ⟨rfl,rfl,rfl,rfl,rfl⟩ rfl rfl rfl rfl rfl (by as_aux_lemma=>kernel_rfl) Tryz.func10 facts
  (of_decide_eq_true (by as_aux_lemma=>kernel_rfl)) (by unfold Func.isWrapper;first | (rw [if_pos (by decide +kernel)];kernel_rfl) | (rw [if_neg (by decide +kernel)];exact ⟨rfl,rfl⟩))
  (fun os started H enc _ F=>by rw [OpenClaim.pre_eq_preRow];exact lifted os started H enc F)

theorem plain (f:FuncId) (fn:Func) (hf:Tryz.pinned.checked.prog.funcNamed "penstock/penstocklaw12.ShareDoes" = some f) (hfn:Tryz.pinned.checked.prog.funcs[f]?=some fn) :
  false=Tryz.pinned.checked.prog.looks [] ∧ ∀ (j:Nat) t,fn.params[j]?=some t→Tryz.pinned.checked.prog.wantsStandIn t=false:=by
 obtain rfl:f=10:=Option.some.inj ((show Tryz.prog.funcNamed "penstock/penstocklaw12.ShareDoes" = some 10 by kernel_rfl).symm.trans hf) |>.symm
 obtain rfl:fn=Tryz.f10:=(Option.some.inj (Tryz.func10.symm.trans hfn)).symm
 refine ⟨by kernel_rfl,fun j t ht=>?_⟩
 have hall:(Tryz.f10.params.toList.all fun u => !Tryz.prog.wantsStandIn u)=true:=by kernel_rfl
 have hm:t∈Tryz.f10.params.toList:=Array.mem_toList_iff.2 (Array.mem_of_getElem? ht)
 exact (show Tryz.prog.wantsStandIn t=false by simpa using List.all_eq_true.1 hall t hm)

theorem card:Rows.ShareDoesUptoCardSaid :=
 Claim7.holds_tied_plain_at .later [] _ _ _ _ said (fun _ h=>by cases h) (by kernel_rfl) (fun _ h=>by cases h) shareDoesUpto_row_tie rfl ⟨rfl,rfl⟩ (by kernel_rfl) rfl plain (by kernel_rfl)
end Go.Proofs.YtdgbkpoickbidaaGreatDoor.shareDoes
namespace Go.Proofs.YtdgbkpoickbidaaGreatDoor
theorem shareDoesUpto_holds:Rows.ShareDoesUptoCardSaid:=shareDoes.card
#print axioms shareDoesUpto_holds
end Go.Proofs.YtdgbkpoickbidaaGreatDoor
