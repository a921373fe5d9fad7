/- JoinTurns: with the sides exchanged a join tells the same, with the halves of the rows exchanged. Conditions: none. -/
import Derived.Test.YtdgbkpoickbidaaHz11
import Derived.Test.YtdgbkpoickbidaaHz8
namespace Go.Proofs.Ytdgbkpoickbidaa.joinTurns
open Go.ChangeShapes Go.WideShapes Go.ChangeAt Go.RowKit

def args0:Array Value := #[.slice none 0 0, .slice none 0 0, .slice none 0 0]
def data0 {H:Type}:List (DataW H):=[.nil, .nil, .nil]

set_option maxRecDepth 100000 in
theorem contract (H:Type) (enc:TypeId × Value→H) (W:World) (base:Nat) (args:Array Value) (ds gs:List (DataW H)) (before:List MemPlace)
  (hval : ∀ (j:Nat) t v,Try.f3.params[j]?=some t→args[j]?=some v→Value.okWide Try.prog W .any base t v)
  (hW:DataW.Whole enc Try.prog Try.f3.params.toList Rows.joinTurnsSpec.vars false W args.toList ds gs before) (_hL:laidMetH Try.prog Rows.joinTurnsRow.laid W) (_hsh:W.ShapedOpen Try.prog) (hsz:(DataW.weightsEach Try.prog (Try.f3.params.toList++(OpenSpec.ofChange Rows.joinTurnsSpec).bare.plain.varTypes Try.prog) (ds++gs)).all (· ≤ reachBytes)=true) :
  Calls Try.prog 3 args W fun e W' => ∃ v,e = .returned v∧Rows.joinTurnsSpec.post enc Try.prog Try.f3 false true false false W args v W':=by
 have hW':=hW
 obtain ⟨p,q,hA,hV,rfl,hfz,hnd⟩:=hW
 rw [Try.params3] at hA hval hsz
 obtain ⟨v0,vs0,dd0,ds0,p0,q0,hargs,rfl,rfl,h0,r0⟩:=trodAll_cons hA
 obtain ⟨v1,vs1,dd1,ds1,p1,q1,rfl,rfl,rfl,h1,r1⟩:=trodAll_cons r0
 obtain ⟨v2,vs2,dd2,ds2,p2,q2,rfl,rfl,rfl,h2,r2⟩:=trodAll_cons r1
 obtain ⟨rfl,rfl,rfl⟩:=trodAll_nil r2
 obtain rfl:args = #[v0,v1,v2]:=by cases args;simp_all
 obtain ⟨rfl,rfl⟩:=trodVars_none hV
 obtain ⟨A0,c0,l0,rfl,s0,i0,zt0⟩:=come_ints_z (hval 0 _ v0 rfl rfl) h0
 obtain ⟨A1,c1,l1,rfl,s1,i1,zt1⟩:=come_ints_z (hval 1 _ v1 rfl rfl) h1
 obtain ⟨A2,c2,M2,rfl,s2,i2,zt2⟩:=come_steps_z (hval 2 _ v2 rfl rfl) h2
 have z0:=zt0 _ _ 0 rfl rfl hsz
 have z1:=zt1 _ _ 1 rfl rfl hsz
 have z2:=zt2 _ _ 2 rfl rfl hsz
 refine (turns_any A0 A1 A2 l0.length l1.length (List.length M2) c0 c1 c2 l0 l1 M2 W (Lib.hid rfl) (Lib.hid rfl) (Lib.hid rfl) (Lib.hid s0) (Lib.hid s1) (Lib.hid s2) (Lib.hid fun x hx=>⟨i2 x hx,z2.1 x hx⟩) z0 z1 z2.2).mono fun e W' ⟨he,hx⟩=>⟨_,he,?_⟩
 exact law_post laid_out (by kernel_rfl) (by kernel_rfl) Try.underlying4 rfl hW' rfl hx

theorem laid_met (os:Os):laidMet Try.prog Rows.joinTurnsRow.laid ((World.laidAll Try.prog os Rows.joinTurnsRow.laid).forCall (fun _ _=>0) ⟨#[],args0,[]⟩).memory:=laidMet_laidAll _ (by kernel_rfl) (by kernel_rfl)
theorem reads (os:Os) {H:Type} (enc:TypeId × Value→H) : ∃ places,DataW.whole enc Try.prog ((World.laidAll Try.prog os Rows.joinTurnsRow.laid).forCall (fun _ _=>0) ⟨#[],args0,[]⟩).memory Try.f3.params.toList Rows.joinTurnsSpec.vars false args0.toList 8=some (data0,[],places) :=
 ⟨[],by kernel_rfl⟩

set_option maxRecDepth 100000 in
theorem lifted (os:Os) (started:os.Started) (H:Type) (enc:TypeId × Value→H) (F:Stop.Interp) :
  ReturnsInHanded {} Try.checked os 3 .any ((OpenSpec.ofChange Rows.joinTurnsSpec).preRow enc Try.prog Try.f3 Rows.joinTurnsRow.domain false Rows.joinTurnsRow.laid) (((OpenSpec.ofChange Rows.joinTurnsSpec).at F).post enc Try.prog Try.f3 false true false false):=by
 obtain ⟨places,hx⟩:=reads os enc
 refine returnsInHanded_of_row (C:=Try.checked) (s:=OpenSpec.ofChange Rows.joinTurnsSpec) own_knob started (by kernel_rfl) Try.func3
  (witness_row_at (enc:=enc) (C:=Try.checked) false (World.laidAll Try.prog os Rows.joinTurnsRow.laid) args0 (World.laidAll_os _ _ _) (by kernel_rfl) (by kernel_rfl) (by kernel_rfl)
   (OpenSpec.preRow_of_cond 8 hx (by kernel_rfl) (fun k hk=>by cases hk) (by kernel_rfl) (laid_met os))) ?_
 intro W base args ds gs before hval hW _ _ hsz hL hsh _
 exact contract H enc W base args ds gs before hval hW hL hsh hsz

theorem band {a b:Bool} (h:a=true) (k:b=true):(a&&b)=true:=by rw [h,k];rfl
set_option maxHeartbeats 64000000 in
theorem facts:joinedFacts Try.prog 3 Try.f3 (OpenSpec.ofChange Rows.joinTurnsSpec).bare Rows.joinTurnsRow=true:=by
 unfold joinedFacts
 repeat' with_reducible apply band
 all_goals as_aux_lemma=>kernel_rfl
theorem said:Rows.JoinTurnsSaid :=
 OpenClaim.holds_of_cond 3 Try.f3 rfl rfl rfl rfl rfl rfl rfl ⟨rfl,rfl,rfl,rfl,rfl⟩ rfl rfl rfl rfl rfl (by as_aux_lemma=>kernel_rfl) Try.func3 facts
  (of_decide_eq_true (by as_aux_lemma=>kernel_rfl)) (by unfold Func.isWrapper;first | (rw [if_pos (by decide +kernel)];kernel_rfl) | (rw [if_neg (by decide +kernel)];exact ⟨rfl,rfl⟩))
  (fun os started H enc _ F=>by rw [OpenClaim.pre_eq_preRow];exact lifted os started H enc F)

end Go.Proofs.Ytdgbkpoickbidaa.joinTurns
namespace Go.Proofs.Ytdgbkpoickbidaa
theorem joinTurns_holds:Rows.JoinTurnsSaid:=joinTurns.said
#print axioms joinTurns_holds
end Go.Proofs.Ytdgbkpoickbidaa
