/- DeltaSame: put together, in whatever order, and with times that nobody beyond can tell, updates come to the same bags; and the bags at all their times tell them all. Conditions: none. -/
import Derived.Test.YtdgbkpoickbidaaGreatDoorHs7
import Derived.Test.YtdgbkpoickbidaaGreatDoorHs2
import Derived.Test.YtdgbkpoickbidaaGreatDoorHs1
import Derived.Test.YtdgbkpoickbidaaGreatDoorHs3
import Derived.Test.YtdgbkpoickbidaaGreatDoorHs14
namespace Go.Proofs.YtdgbkpoickbidaaGreatDoor.deltaSame
open Go.ChangeShapes Go.WideShapes Go.ChangeAt Go.RowKit

def args0:Array Value := #[.slice none 0 0, .int .u8 0, .slice none 0 0, .agg #[.int .u64 0, .slice none 0 0]]
def data0 {H:Type}:List (DataW H):=[.nil, .lit (.int .u8 0), .nil, .agg [.lit (.int .u64 0), .nil]]

set_option maxRecDepth 100000 in
theorem contract (H:Type) (enc:TypeId × Value→H) (W:World) (base:Nat) (args:Array Value) (ds gs:List (DataW H)) (before:List MemPlace)
  (hval : ∀ (j:Nat) t v,Tryz.f12.params[j]?=some t→args[j]?=some v→Value.okWide Tryz.prog W .any base t v)
  (hW:DataW.Whole enc Tryz.prog Tryz.f12.params.toList Rows.deltaSameSpec.vars false W args.toList ds gs before) (hL:laidMetH Tryz.prog Rows.deltaSameRow.laid W) (_hsh:W.ShapedOpen Tryz.prog) (hsz:(DataW.weightsEach Tryz.prog (Tryz.f12.params.toList++(OpenSpec.ofChange Rows.deltaSameSpec).bare.plain.varTypes Tryz.prog) (ds++gs)).all (· ≤ reachBytes)=true) :
  Calls Tryz.prog 12 args W fun e W' => ∃ v,e = .returned v∧Rows.deltaSameSpec.post enc Tryz.prog Tryz.f12 false true false false W args v W':=by
 have hW':=hW
 obtain ⟨p,q,hA,hV,rfl,hfz,hnd⟩:=hW
 rw [Tryz.params12] at hA hval hsz
 obtain ⟨v0,vs0,dd0,ds0,p0,q0,hargs,rfl,rfl,h0,r0⟩:=trodAll_cons hA
 obtain ⟨v1,vs1,dd1,ds1,p1,q1,rfl,rfl,rfl,h1,r1⟩:=trodAll_cons r0
 obtain ⟨v2,vs2,dd2,ds2,p2,q2,rfl,rfl,rfl,h2,r2⟩:=trodAll_cons r1
 obtain ⟨v3,vs3,dd3,ds3,p3,q3,rfl,rfl,rfl,h3,r3⟩:=trodAll_cons r2
 obtain ⟨rfl,rfl,rfl⟩:=trodAll_nil r3
 obtain rfl:args = #[v0,v1,v2,v3]:=by cases args;simp_all
 obtain ⟨rfl,rfl⟩:=trodVars_none hV
 obtain ⟨A0,c0,L0,rfl,s0,i0,zt0⟩:=come_uds_z (hval 0 _ v0 rfl rfl) h0
 obtain ⟨d1,rfl,bd1⟩:=come_u8 (hval 1 _ v1 rfl rfl) h1
 obtain ⟨A2,c2,L2,rfl,s2,i2⟩:=come_times (hval 2 _ v2 rfl rfl) h2
 obtain ⟨e3,A3,n3,c3,l3,rfl,s3,u3,be3⟩:=come_time (hval 3 _ v3 rfl rfl) h3
 have GP:Pow W:=pow_of (by rw [MakeChecks.laidMetH_plain _ _ _ (by kernel_rfl)] at hL;exact hL) (.tail _ (.tail _ (.head _)))
 have hL':laidMet Tryz.prog Rows.deltaSameRow.laid W:=by rw [MakeChecks.laidMetH_plain _ _ _ (by kernel_rfl)] at hL;exact hL
 have G:Good W:=good_of hL' (.tail _ (.tail _ (.tail _ (.tail _ (.head _))))) (.tail _ (.tail _ (.tail _ (.head _))))
 have z0:=zt0 _ _ 0 rfl rfl hsz
 refine (same10_any A0 c0 L0.length L0 d1 A2 c2 L2.length L2 e3 A3 n3 c3 l3 W (Lib.hid rfl) (Lib.hid s0) (Lib.hid i0) (Lib.hid z0) bd1 (Lib.hid rfl) (Lib.hid s2) (Lib.hid i2) (Lib.hid s3) (Lib.hid ⟨u3,be3⟩) (Lib.hid s3.wlen.symm) G GP).mono fun e W' ⟨he,hx⟩=>⟨_,he,?_⟩
 exact law_post laid_out (by kernel_rfl) (by kernel_rfl) Tryz.underlying4 rfl hW' rfl hx

theorem laid_met (os:Os):laidMet Tryz.prog Rows.deltaSameRow.laid ((World.laidAll Tryz.prog os Rows.deltaSameRow.laid).forCall (fun _ _=>0) ⟨#[],args0,[]⟩).memory:=laidMet_laidAll _ (by kernel_rfl) (by kernel_rfl)
theorem reads (os:Os) {H:Type} (enc:TypeId × Value→H) : ∃ places,DataW.whole enc Tryz.prog ((World.laidAll Tryz.prog os Rows.deltaSameRow.laid).forCall (fun _ _=>0) ⟨#[],args0,[]⟩).memory Tryz.f12.params.toList Rows.deltaSameSpec.vars false args0.toList 8=some (data0,[],places) :=
 ⟨[],by kernel_rfl⟩

set_option maxRecDepth 100000 in
theorem lifted (os:Os) (started:os.Started) (H:Type) (enc:TypeId × Value→H) (F:Stop.Interp) :
  ReturnsInHanded {} Tryz.checked os 12 .any ((OpenSpec.ofChange Rows.deltaSameSpec).preRow enc Tryz.prog Tryz.f12 Rows.deltaSameRow.domain false Rows.deltaSameRow.laid) (((OpenSpec.ofChange Rows.deltaSameSpec).at F).post enc Tryz.prog Tryz.f12 false true false false):=by
 obtain ⟨places,hx⟩:=reads os enc
 refine returnsInHanded_of_row (C:=Tryz.checked) (s:=OpenSpec.ofChange Rows.deltaSameSpec) own_knob started (by kernel_rfl) Tryz.func12
  (witness_row_at (enc:=enc) (C:=Tryz.checked) false (World.laidAll Tryz.prog os Rows.deltaSameRow.laid) args0 (World.laidAll_os _ _ _) (by kernel_rfl) (by kernel_rfl) (by kernel_rfl)
   (OpenSpec.preRow_of_cond 8 hx (by kernel_rfl) (fun k hk=>by cases hk) (by kernel_rfl) (laid_met os))) ?_
 intro W base args ds gs before hval hW _ _ hsz hL hsh _
 exact contract H enc W base args ds gs before hval hW hL hsh hsz

theorem band {a b:Bool} (h:a=true) (k:b=true):(a&&b)=true:=by rw [h,k];rfl
set_option maxHeartbeats 64000000 in
theorem facts:joinedFacts Tryz.prog 12 Tryz.f12 (OpenSpec.ofChange Rows.deltaSameSpec).bare Rows.deltaSameRow=true:=by
 unfold joinedFacts
 repeat' with_reducible apply band
 all_goals as_aux_lemma=>kernel_rfl
theorem said:Rows.DeltaSameSaid :=
 OpenClaim.holds_of_cond 12 Tryz.f12 rfl rfl rfl rfl rfl rfl rfl ⟨rfl,rfl,rfl,rfl,rfl⟩ rfl rfl rfl rfl rfl (by as_aux_lemma=>kernel_rfl) Tryz.func12 facts
  (of_decide_eq_true (by as_aux_lemma=>kernel_rfl)) (by unfold Func.isWrapper;first | (rw [if_pos (by decide +kernel)];kernel_rfl) | (rw [if_neg (by decide +kernel)];exact ⟨rfl,rfl⟩))
  (fun os started H enc _ F=>by rw [OpenClaim.pre_eq_preRow];exact lifted os started H enc F)

theorem plain (f:FuncId) (fn:Func) (hf:Tryz.pinned.checked.prog.funcNamed "penstock/penstocklaw10.DeltaSame" = some f) (hfn:Tryz.pinned.checked.prog.funcs[f]?=some fn) :
  false=Tryz.pinned.checked.prog.looks [] ∧ ∀ (j:Nat) t,fn.params[j]?=some t→Tryz.pinned.checked.prog.wantsStandIn t=false:=by
 obtain rfl:f=12:=Option.some.inj ((show Tryz.prog.funcNamed "penstock/penstocklaw10.DeltaSame" = some 12 by kernel_rfl).symm.trans hf) |>.symm
 obtain rfl:fn=Tryz.f12:=(Option.some.inj (Tryz.func12.symm.trans hfn)).symm
 refine ⟨by kernel_rfl,fun j t ht=>?_⟩
 have hall:(Tryz.f12.params.toList.all fun u => !Tryz.prog.wantsStandIn u)=true:=by kernel_rfl
 have hm:t∈Tryz.f12.params.toList:=Array.mem_toList_iff.2 (Array.mem_of_getElem? ht)
 exact (show Tryz.prog.wantsStandIn t=false by simpa using List.all_eq_true.1 hall t hm)

theorem card:Rows.DeltaSameCardSaid :=
 Claim7.holds_tied_plain_at .later [] _ _ _ _ said (fun _ h=>by cases h) (by kernel_rfl) (fun _ h=>by cases h) deltaSame_row_tie rfl ⟨rfl,rfl⟩ (by kernel_rfl) rfl plain (by kernel_rfl)
end Go.Proofs.YtdgbkpoickbidaaGreatDoor.deltaSame
namespace Go.Proofs.YtdgbkpoickbidaaGreatDoor
theorem deltaSame_holds:Rows.DeltaSameCardSaid:=deltaSame.card
#print axioms deltaSame_holds
end Go.Proofs.YtdgbkpoickbidaaGreatDoor
