/- Parts of the proof, put together. Conditions: each theorem states its own. -/
import Derived.Test.YtdgbkpoickbidaaGreatDoorHd14
set_option maxRecDepth 100000
set_option maxHeartbeats 4000000
open Go.RowKit
namespace Go.Proofs.YtdgbkpoickbidaaGreatDoor
section
variable(s:ByteArray)(k:Nat)(w:World)(hk:k<s.size)
theorem rY(h:s[k].toNat<128):Calls Tryz.prog 282 #[.string s,.int .i64 k] w fun e w'=>e=.returned (.int .i64 1)/\w=w':=by
 go_enter Tryz.func282,Tryz.ntmps282;go_wp2;go_ret;exact⟨rfl,rfl⟩
theorem mG(h:128<=s[k].toNat)(h':s[k].toNat<194):Calls Tryz.prog 282 #[.string s,.int .i64 k] w fun e w'=>e=.returned (.int .i64 0)/\w=w':=by
 go_enter Tryz.func282,Tryz.ntmps282;go_wp2;go_ret;exact⟨rfl,rfl⟩
theorem mF(h:245<=s[k].toNat):Calls Tryz.prog 282 #[.string s,.int .i64 k] w fun e w'=>e=.returned (.int .i64 0)/\w=w':=by
 go_enter Tryz.func282,Tryz.ntmps282;go_wp2;go_ret;exact⟨rfl,rfl⟩
theorem eO(hs:s.size<=140737488355328)(h:194<=s[k].toNat)(h':s[k].toNat<224)(hl:s.size<k+2):Calls Tryz.prog 282 #[.string s,.int .i64 k] w fun e w'=>e=.returned (.int .i64 0)/\w=w':=by
 go_enter Tryz.func282,Tryz.ntmps282;go_wp2;go_ret;exact⟨rfl,rfl⟩
theorem mT(hs:s.size<=140737488355328)(h:194<=s[k].toNat)(h':s[k].toNat<224)(hl:k+2<=s.size)(c:s[k+1].toNat<128):Calls Tryz.prog 282 #[.string s,.int .i64 k] w fun e w'=>e=.returned (.int .i64 0)/\w=w':=by
 go_enter Tryz.func282,Tryz.ntmps282;go_wp2
 go_rounds 2
 go_ret;exact⟨rfl,rfl⟩
theorem mU(hs:s.size<=140737488355328)(h:194<=s[k].toNat)(h':s[k].toNat<224)(hl:k+2<=s.size)(c:192<=s[k+1].toNat):Calls Tryz.prog 282 #[.string s,.int .i64 k] w fun e w'=>e=.returned (.int .i64 0)/\w=w':=by
 go_enter Tryz.func282,Tryz.ntmps282;go_wp2
 go_rounds 2
 go_ret;exact⟨rfl,rfl⟩
theorem sD(hs:s.size<=140737488355328)(h:194<=s[k].toNat)(h':s[k].toNat<224)(hl:k+2<=s.size)(c1:128<=s[k+1].toNat)(d1:s[k+1].toNat<192):Calls Tryz.prog 282 #[.string s,.int .i64 k] w fun e w'=>e=.returned (.int .i64 2)/\w=w':=by
 go_enter Tryz.func282,Tryz.ntmps282;go_wp2
 go_rounds 2
 go_ret;exact⟨rfl,rfl⟩
theorem eN(hs:s.size<=140737488355328)(h:224<=s[k].toNat)(h':s[k].toNat<240)(hl:s.size<k+3):Calls Tryz.prog 282 #[.string s,.int .i64 k] w fun e w'=>e=.returned (.int .i64 0)/\w=w':=by
 go_enter Tryz.func282,Tryz.ntmps282;go_wp2;go_ret;exact⟨rfl,rfl⟩
theorem mQ(hs:s.size<=140737488355328)(h:224<=s[k].toNat)(h':s[k].toNat<240)(hl:k+3<=s.size)(c:s[k+1].toNat<128):Calls Tryz.prog 282 #[.string s,.int .i64 k] w fun e w'=>e=.returned (.int .i64 0)/\w=w':=by
 go_enter Tryz.func282,Tryz.ntmps282;go_wp2
 go_rounds 3
 go_ret;exact⟨rfl,rfl⟩
theorem mS(hs:s.size<=140737488355328)(h:224<=s[k].toNat)(h':s[k].toNat<240)(hl:k+3<=s.size)(c:192<=s[k+1].toNat):Calls Tryz.prog 282 #[.string s,.int .i64 k] w fun e w'=>e=.returned (.int .i64 0)/\w=w':=by
 go_enter Tryz.func282,Tryz.ntmps282;go_wp2
 go_rounds 3
 go_ret;exact⟨rfl,rfl⟩
theorem mP(hs:s.size<=140737488355328)(h:224<=s[k].toNat)(h':s[k].toNat<240)(hl:k+3<=s.size)(c1:128<=s[k+1].toNat)(d1:s[k+1].toNat<192)(c:s[k+2].toNat<128):Calls Tryz.prog 282 #[.string s,.int .i64 k] w fun e w'=>e=.returned (.int .i64 0)/\w=w':=by
 go_enter Tryz.func282,Tryz.ntmps282;go_wp2
 go_rounds 3
 go_ret;exact⟨rfl,rfl⟩
theorem mR(hs:s.size<=140737488355328)(h:224<=s[k].toNat)(h':s[k].toNat<240)(hl:k+3<=s.size)(c1:128<=s[k+1].toNat)(d1:s[k+1].toNat<192)(c:192<=s[k+2].toNat):Calls Tryz.prog 282 #[.string s,.int .i64 k] w fun e w'=>e=.returned (.int .i64 0)/\w=w':=by
 go_enter Tryz.func282,Tryz.ntmps282;go_wp2
 go_rounds 3
 go_ret;exact⟨rfl,rfl⟩
theorem eM(hs:s.size<=140737488355328)(h:224<=s[k].toNat)(h':s[k].toNat<240)(hl:k+3<=s.size)(c1:128<=s[k+1].toNat)(d1:s[k+1].toNat<192)(c2:128<=s[k+2].toNat)(d2:s[k+2].toNat<192)(v:64*(64*((s[k].toNat:Int)-224)+(s[k+1].toNat:Int)-128)+(s[k+2].toNat:Int)-128<2048):Calls Tryz.prog 282 #[.string s,.int .i64 k] w fun e w'=>e=.returned (.int .i64 0)/\w=w':=by
 go_enter Tryz.func282,Tryz.ntmps282;go_wp2
 go_rounds 3
 go_ret;exact⟨rfl,rfl⟩
theorem iL(hs:s.size<=140737488355328)(h:224<=s[k].toNat)(h':s[k].toNat<240)(hl:k+3<=s.size)(c1:128<=s[k+1].toNat)(d1:s[k+1].toNat<192)(c2:128<=s[k+2].toNat)(d2:s[k+2].toNat<192)(v:55296<=64*(64*((s[k].toNat:Int)-224)+(s[k+1].toNat:Int)-128)+(s[k+2].toNat:Int)-128)(v':64*(64*((s[k].toNat:Int)-224)+(s[k+1].toNat:Int)-128)+(s[k+2].toNat:Int)-128<57344):Calls Tryz.prog 282 #[.string s,.int .i64 k] w fun e w'=>e=.returned (.int .i64 0)/\w=w':=by
 go_enter Tryz.func282,Tryz.ntmps282;go_wp2
 go_rounds 3
 go_ret;exact⟨rfl,rfl⟩
theorem mO(hs:s.size<=140737488355328)(h:224<=s[k].toNat)(h':s[k].toNat<240)(hl:k+3<=s.size)(c1:128<=s[k+1].toNat)(d1:s[k+1].toNat<192)(c2:128<=s[k+2].toNat)(d2:s[k+2].toNat<192)(v:2048<=64*(64*((s[k].toNat:Int)-224)+(s[k+1].toNat:Int)-128)+(s[k+2].toNat:Int)-128)(v':64*(64*((s[k].toNat:Int)-224)+(s[k+1].toNat:Int)-128)+(s[k+2].toNat:Int)-128<55296):Calls Tryz.prog 282 #[.string s,.int .i64 k] w fun e w'=>e=.returned (.int .i64 3)/\w=w':=by
 go_enter Tryz.func282,Tryz.ntmps282;go_wp2
 go_rounds 3
 go_ret;exact⟨rfl,rfl⟩
theorem mN(hs:s.size<=140737488355328)(h:224<=s[k].toNat)(h':s[k].toNat<240)(hl:k+3<=s.size)(c1:128<=s[k+1].toNat)(d1:s[k+1].toNat<192)(c2:128<=s[k+2].toNat)(d2:s[k+2].toNat<192)(v:57344<=64*(64*((s[k].toNat:Int)-224)+(s[k+1].toNat:Int)-128)+(s[k+2].toNat:Int)-128):Calls Tryz.prog 282 #[.string s,.int .i64 k] w fun e w'=>e=.returned (.int .i64 3)/\w=w':=by
 go_enter Tryz.func282,Tryz.ntmps282;go_wp2
 go_rounds 3
 go_ret;exact⟨rfl,rfl⟩
theorem eK(hs:s.size<=140737488355328)(h:240<=s[k].toNat)(h':s[k].toNat<245)(hl:s.size<k+4):Calls Tryz.prog 282 #[.string s,.int .i64 k] w fun e w'=>e=.returned (.int .i64 0)/\w=w':=by
 go_enter Tryz.func282,Tryz.ntmps282;go_wp2;go_ret;exact⟨rfl,rfl⟩
theorem mJ(hs:s.size<=140737488355328)(h:240<=s[k].toNat)(h':s[k].toNat<245)(hl:k+4<=s.size)(c:s[k+1].toNat<128):Calls Tryz.prog 282 #[.string s,.int .i64 k] w fun e w'=>e=.returned (.int .i64 0)/\w=w':=by
 go_enter Tryz.func282,Tryz.ntmps282;go_wp2
 go_rounds 4
 go_ret;exact⟨rfl,rfl⟩
theorem mM(hs:s.size<=140737488355328)(h:240<=s[k].toNat)(h':s[k].toNat<245)(hl:k+4<=s.size)(c:192<=s[k+1].toNat):Calls Tryz.prog 282 #[.string s,.int .i64 k] w fun e w'=>e=.returned (.int .i64 0)/\w=w':=by
 go_enter Tryz.func282,Tryz.ntmps282;go_wp2
 go_rounds 4
 go_ret;exact⟨rfl,rfl⟩
theorem mI(hs:s.size<=140737488355328)(h:240<=s[k].toNat)(h':s[k].toNat<245)(hl:k+4<=s.size)(c1:128<=s[k+1].toNat)(d1:s[k+1].toNat<192)(c:s[k+2].toNat<128):Calls Tryz.prog 282 #[.string s,.int .i64 k] w fun e w'=>e=.returned (.int .i64 0)/\w=w':=by
 go_enter Tryz.func282,Tryz.ntmps282;go_wp2
 go_rounds 4
 go_ret;exact⟨rfl,rfl⟩
theorem mL(hs:s.size<=140737488355328)(h:240<=s[k].toNat)(h':s[k].toNat<245)(hl:k+4<=s.size)(c1:128<=s[k+1].toNat)(d1:s[k+1].toNat<192)(c:192<=s[k+2].toNat):Calls Tryz.prog 282 #[.string s,.int .i64 k] w fun e w'=>e=.returned (.int .i64 0)/\w=w':=by
 go_enter Tryz.func282,Tryz.ntmps282;go_wp2
 go_rounds 4
 go_ret;exact⟨rfl,rfl⟩
theorem mH(hs:s.size<=140737488355328)(h:240<=s[k].toNat)(h':s[k].toNat<245)(hl:k+4<=s.size)(c1:128<=s[k+1].toNat)(d1:s[k+1].toNat<192)(c2:128<=s[k+2].toNat)(d2:s[k+2].toNat<192)(c:s[k+3].toNat<128):Calls Tryz.prog 282 #[.string s,.int .i64 k] w fun e w'=>e=.returned (.int .i64 0)/\w=w':=by
 go_enter Tryz.func282,Tryz.ntmps282;go_wp2
 go_rounds 4
 go_ret;exact⟨rfl,rfl⟩
theorem mK(hs:s.size<=140737488355328)(h:240<=s[k].toNat)(h':s[k].toNat<245)(hl:k+4<=s.size)(c1:128<=s[k+1].toNat)(d1:s[k+1].toNat<192)(c2:128<=s[k+2].toNat)(d2:s[k+2].toNat<192)(c:192<=s[k+3].toNat):Calls Tryz.prog 282 #[.string s,.int .i64 k] w fun e w'=>e=.returned (.int .i64 0)/\w=w':=by
 go_enter Tryz.func282,Tryz.ntmps282;go_wp2
 go_rounds 4
 go_ret;exact⟨rfl,rfl⟩
theorem eJ(hs:s.size<=140737488355328)(h:240<=s[k].toNat)(h':s[k].toNat<245)(hl:k+4<=s.size)(c1:128<=s[k+1].toNat)(d1:s[k+1].toNat<192)(c2:128<=s[k+2].toNat)(d2:s[k+2].toNat<192)(c3:128<=s[k+3].toNat)(d3:s[k+3].toNat<192)(v:64*(64*(64*((s[k].toNat:Int)-240)+(s[k+1].toNat:Int)-128)+(s[k+2].toNat:Int)-128)+(s[k+3].toNat:Int)-128<65536):Calls Tryz.prog 282 #[.string s,.int .i64 k] w fun e w'=>e=.returned (.int .i64 0)/\w=w':=by
 go_enter Tryz.func282,Tryz.ntmps282;go_wp2
 go_rounds 4
 go_ret;exact⟨rfl,rfl⟩
theorem eL(hs:s.size<=140737488355328)(h:240<=s[k].toNat)(h':s[k].toNat<245)(hl:k+4<=s.size)(c1:128<=s[k+1].toNat)(d1:s[k+1].toNat<192)(c2:128<=s[k+2].toNat)(d2:s[k+2].toNat<192)(c3:128<=s[k+3].toNat)(d3:s[k+3].toNat<192)(v:1114111<64*(64*(64*((s[k].toNat:Int)-240)+(s[k+1].toNat:Int)-128)+(s[k+2].toNat:Int)-128)+(s[k+3].toNat:Int)-128):Calls Tryz.prog 282 #[.string s,.int .i64 k] w fun e w'=>e=.returned (.int .i64 0)/\w=w':=by
 go_enter Tryz.func282,Tryz.ntmps282;go_wp2
 go_rounds 4
 go_ret;exact⟨rfl,rfl⟩
theorem sC(hs:s.size<=140737488355328)(h:240<=s[k].toNat)(h':s[k].toNat<245)(hl:k+4<=s.size)(c1:128<=s[k+1].toNat)(d1:s[k+1].toNat<192)(c2:128<=s[k+2].toNat)(d2:s[k+2].toNat<192)(c3:128<=s[k+3].toNat)(d3:s[k+3].toNat<192)(v:65536<=64*(64*(64*((s[k].toNat:Int)-240)+(s[k+1].toNat:Int)-128)+(s[k+2].toNat:Int)-128)+(s[k+3].toNat:Int)-128)(v':64*(64*(64*((s[k].toNat:Int)-240)+(s[k+1].toNat:Int)-128)+(s[k+2].toNat:Int)-128)+(s[k+3].toNat:Int)-128<=1114111):Calls Tryz.prog 282 #[.string s,.int .i64 k] w fun e w'=>e=.returned (.int .i64 4)/\w=w':=by
 go_enter Tryz.func282,Tryz.ntmps282;go_wp2
 go_rounds 4
 go_ret;exact⟨rfl,rfl⟩
end
theorem Kc(s:ByteArray)(k i:Nat)(h:k+i<s.size):(s.data.toList.drop k).getD i 0=s[k+i]:=by
 have h':k+i<s.data.toList.length:=by simpa using h
 rw[AB,GQ,AC h'];rfl
theorem Sy(s:ByteArray)(k:Nat):(s.data.toList.drop k).length=s.size-k:=by simp
theorem rZ(s:ByteArray)(k:Nat)(w:World)(hs:s.size<=140737488355328)(hk:k<s.size) :
  Calls Tryz.prog 282 #[.string s,.int .i64 k] w fun e w'=>e=.returned (.int .i64 (Gk (s.data.toList.drop k):Nat))/\w=w':=by
 have e0:(s.data.toList.drop k).getD 0 0=s[k]:=Kc s k 0 hk;unfold Gk;rw[e0,Sy];generalize hb1:(s.data.toList.drop k).getD 1 0=b1;generalize hb2:(s.data.toList.drop k).getD 2 0=b2;generalize hb3:(s.data.toList.drop k).getD 3 0=b3;by_cases a1:s[k].toNat<128
 ·rw[show Eo (s.size-k) s[k].toNat b1.toNat b2.toNat b3.toNat=1 by unfold Eo;rw[if_pos a1]];exact rY s k w hk a1
 by_cases a2:s[k].toNat<194
 ·rw[show Eo (s.size-k) s[k].toNat b1.toNat b2.toNat b3.toNat=0 by unfold Eo;rw[if_neg a1,if_pos a2]];exact mG s k w hk (by omega) a2
 by_cases a3:s[k].toNat<224
 ·rw[xP _ _ _ _ _ (by omega) a3];by_cases l:k+2<=s.size
  ·rw[Kc s k 1 (by omega)]at hb1;subst hb1;by_cases c1:s[k+1].toNat<128
   ·rw[if_pos (by omega)];exact mT s k w hk hs (by omega) a3 l c1
   by_cases d1:192<=s[k+1].toNat
   ·rw[if_pos (by omega)];exact mU s k w hk hs (by omega) a3 l d1
   rw[if_neg (by omega)];exact sD s k w hk hs (by omega) a3 l (by omega) (by omega)
  ·rw[if_pos (by omega)];exact eO s k w hk hs (by omega) a3 (by omega)
 by_cases a4:s[k].toNat<240
 ·rw[xO _ _ _ _ _ (by omega) a4];by_cases l:k+3<=s.size
  ·rw[Kc s k 1 (by omega)]at hb1;rw[Kc s k 2 (by omega)]at hb2;subst hb1 hb2;by_cases c1:s[k+1].toNat<128
   ·rw[if_pos (by omega)];exact mQ s k w hk hs (by omega) a4 l c1
   by_cases d1:192<=s[k+1].toNat
   ·rw[if_pos (by omega)];exact mS s k w hk hs (by omega) a4 l d1
   by_cases c2:s[k+2].toNat<128
   ·rw[if_pos (by omega)];exact mP s k w hk hs (by omega) a4 l (by omega) (by omega) c2
   by_cases d2:192<=s[k+2].toNat
   ·rw[if_pos (by omega)];exact mR s k w hk hs (by omega) a4 l (by omega) (by omega) d2
   rw[if_neg (show ¬(s.size-k<3\/s[k+1].toNat<128\/192<=s[k+1].toNat\/s[k+2].toNat<128\/192<=s[k+2].toNat)by omega)];by_cases v1:64*(64*((s[k].toNat:Int)-224)+(s[k+1].toNat:Int)-128)+(s[k+2].toNat:Int)-128<2048
   ·rw[if_pos (by omega)];exact eM s k w hk hs (by omega) a4 l (by omega) (by omega) (by omega) (by omega) v1
   by_cases v2:64*(64*((s[k].toNat:Int)-224)+(s[k+1].toNat:Int)-128)+(s[k+2].toNat:Int)-128<55296
   ·rw[if_neg (by omega)];exact mO s k w hk hs (by omega) a4 l (by omega) (by omega) (by omega) (by omega) (by omega) v2
   by_cases v3:64*(64*((s[k].toNat:Int)-224)+(s[k+1].toNat:Int)-128)+(s[k+2].toNat:Int)-128<57344
   ·rw[if_pos (by omega)];exact iL s k w hk hs (by omega) a4 l (by omega) (by omega) (by omega) (by omega) (by omega) v3
   ·rw[if_neg (by omega)];exact mN s k w hk hs (by omega) a4 l (by omega) (by omega) (by omega) (by omega) (by omega)
  ·rw[if_pos (by omega)];exact eN s k w hk hs (by omega) a4 (by omega)
 by_cases a5:s[k].toNat<245
 ·rw[xN _ _ _ _ _ (by omega) a5];by_cases l:k+4<=s.size
  ·rw[Kc s k 1 (by omega)]at hb1;rw[Kc s k 2 (by omega)]at hb2;rw[Kc s k 3 (by omega)]at hb3;subst hb1 hb2 hb3;by_cases c1:s[k+1].toNat<128
   ·rw[if_pos (by omega)];exact mJ s k w hk hs (by omega) a5 l c1
   by_cases d1:192<=s[k+1].toNat
   ·rw[if_pos (by omega)];exact mM s k w hk hs (by omega) a5 l d1
   by_cases c2:s[k+2].toNat<128
   ·rw[if_pos (by omega)];exact mI s k w hk hs (by omega) a5 l (by omega) (by omega) c2
   by_cases d2:192<=s[k+2].toNat
   ·rw[if_pos (by omega)];exact mL s k w hk hs (by omega) a5 l (by omega) (by omega) d2
   by_cases c3:s[k+3].toNat<128
   ·rw[if_pos (by omega)];exact mH s k w hk hs (by omega) a5 l (by omega) (by omega) (by omega) (by omega) c3
   by_cases d3:192<=s[k+3].toNat
   ·rw[if_pos (by omega)];exact mK s k w hk hs (by omega) a5 l (by omega) (by omega) (by omega) (by omega) d3
   rw[if_neg (show ¬(s.size-k<4\/s[k+1].toNat<128\/192<=s[k+1].toNat\/s[k+2].toNat<128\/192<=s[k+2].toNat\/s[k+3].toNat<128\/192<=s[k+3].toNat)by omega)];by_cases v1:64*(64*(64*((s[k].toNat:Int)-240)+(s[k+1].toNat:Int)-128)+(s[k+2].toNat:Int)-128)+(s[k+3].toNat:Int)-128<65536
   ·rw[if_pos (by omega)];exact eJ s k w hk hs (by omega) a5 l (by omega) (by omega) (by omega) (by omega) (by omega) (by omega) v1
   by_cases v2:1114111<64*(64*(64*((s[k].toNat:Int)-240)+(s[k+1].toNat:Int)-128)+(s[k+2].toNat:Int)-128)+(s[k+3].toNat:Int)-128
   ·rw[if_pos (by omega)];exact eL s k w hk hs (by omega) a5 l (by omega) (by omega) (by omega) (by omega) (by omega) (by omega) v2
   ·rw[if_neg (by omega)];exact sC s k w hk hs (by omega) a5 l (by omega) (by omega) (by omega) (by omega) (by omega) (by omega) (by omega) (by omega)
  ·rw[if_pos (by omega)];exact eK s k w hk hs (by omega) a5 (by omega)
 ·rw[show Eo (s.size-k) s[k].toNat b1.toNat b2.toNat b3.toNat=0 by unfold Eo;rw[if_neg a1,if_neg a2,if_neg a3,if_neg a4,if_neg a5]];exact mF s k w hk (by omega)
theorem eI(o:Option Nat)(n:Nat):(o.map (· + 1)).map (· + n)=o.map (· + (n+1)):=by
 cases o with
 | none=>rfl
 | some m=>simp;omega
theorem Yw{s:ByteArray}{k:Nat}(h:k<s.size):s.data.toList.drop k≠[]:=by
 intro e;have:=congrArg List.length e;rw[Sy]at this;simp at this;omega
theorem dT{s:ByteArray}(h:Et s.data.toList=none):Dv s = -1:=by unfold Dv;rw[h]
theorem dS{s:ByteArray}{n:Nat}(h:Et s.data.toList=some n):Dv s=n:=by unfold Dv;rw[h]
theorem lI(s:ByteArray)(w:World)(hs:s.size<=140737488355328):Calls Tryz.prog 254 #[.string s] w fun e w'=>e=.returned (.int .i64 (Dv s))/\w=w':=by
 go_enter Tryz.func254,Tryz.ntmps254;go_wp2
 go_loop [3,4] (fun u v=>∃k n:Nat,k<=s.size/\n<=k/\u=.int .i64 n/\v=.int .i64 k/\Hid (Et s.data.toList=(Et (s.data.toList.drop k)).map (· + n))) (fun _ v=>s.size-(intOf v).toNat)
 case atStart=>exact⟨0,0,AE _,AD _,rfl,rfl,hid (by simp)⟩
 case round =>
  obtain⟨k,n,hk,hn,rfl,rfl,hr⟩:=hrel;by_cases hlt:k<s.size
  ·obtain⟨q,hq⟩:∃q,Gk (s.data.toList.drop k)=q:=⟨_,rfl⟩;have hle:=sB (s.data.toList.drop k) (Yw hlt);rw[hq,Sy]at hle;have hL:=rZ s k w hs hlt;rw[hq]at hL;have HL:=hid hL;clear hL;by_cases h0:q=0
   ·subst h0;have hT:Dv s = -1:=dT (by rw[hr.out,Ua (Yw hlt) hq];rfl);have HT:=hid hT;clear hT hq hle hr;go_wp2_with (go_at_call 282;refine HL.out.mono ?_;rintro e w' ⟨rfl,rfl⟩)
    go_ret;exact⟨Bu HT.out.symm,rfl⟩
   ·have hT:Et s.data.toList=(Et (s.data.toList.drop (k+q))).map (· + (n+1)):=by
     rw[hr.out,Qo (Yw hlt) (by rw[hq];exact h0),hq,List.drop_drop,eI]
    have HT:=hid hT;have z0:((q:Int)==0)=false:=by simpa using h0
    clear hT hq hr h0;go_wp2_with (go_at_call 282;refine HL.out.mono ?_;rintro e w' ⟨rfl,rfl⟩)
    go_round
    case rel=>exact⟨k+q,n+1,by omega,by simp at z0;omega,by go_num,by go_num,HT⟩
    case measure=>simp[intOf];simp at z0;omega
  ·have e1:k=s.size:=by omega
   have hT:Dv s=n:=dS (by
    have h:=hr.out;rw[e1,DN (by simp),gL]at h;rw[h];simp)
   have HT:=hid hT;clear hT e1 hr;go_wp2;go_ret;exact⟨Bu HT.out.symm,rfl⟩
theorem Jn{r:Int}(s:ByteArray)(w:World)(h:Hid (Dv s=r))(hs:s.size<=140737488355328):Calls Tryz.prog 254 #[.string s] w fun e w'=>e=.returned (.int .i64 r)/\w=w':=h.out▸lI s w hs
theorem Ls:Dv ⟨#[]⟩=0:=rfl
theorem lR(k n:Int)(b:Bool)(s:ByteArray)(w:World)(h:k<1):Calls Tryz.prog 220 #[.agg #[.int .u8 k,.bool b,.int .i64 n,.string s]] w fun e w'=>e=.returned (.int .i64 13)/\Ext w w':=by
 go_enter Tryz.func220,Tryz.ntmps220;go_wp2;go_ret;exact⟨rfl,(Ext.refl w).alloc _⟩
theorem lS(k n:Int)(b:Bool)(s:ByteArray)(w:World)(h:4<k):Calls Tryz.prog 220 #[.agg #[.int .u8 k,.bool b,.int .i64 n,.string s]] w fun e w'=>e=.returned (.int .i64 13)/\Ext w w':=by
 go_enter Tryz.func220,Tryz.ntmps220;go_wp2;go_ret;exact⟨rfl,(Ext.refl w).alloc _⟩
theorem iB(n:Int)(s:ByteArray)(w:World)  : Calls Tryz.prog 220 #[.agg #[.int .u8 1,.bool true,.int .i64 n,.string s]] w fun e w'=>e=.returned (.int .i64 13)/\Ext w w':=by
 go_enter Tryz.func220,Tryz.ntmps220;go_wp2;go_ret;exact⟨rfl,(Ext.refl w).alloc _⟩
theorem iA(n:Int)(s:ByteArray)(w:World)(hn:(n != 0)=true):Calls Tryz.prog 220 #[.agg #[.int .u8 1,.bool false,.int .i64 n,.string s]] w fun e w'=>e=.returned (.int .i64 13)/\Ext w w':=by
 go_enter Tryz.func220,Tryz.ntmps220;go_wp2;go_ret;exact⟨rfl,(Ext.refl w).alloc _⟩
theorem hZ(s:ByteArray)(w:World)(hz:¬s=⟨#[]⟩):Calls Tryz.prog 220 #[.agg #[.int .u8 1,.bool false,.int .i64 0,.string s]] w fun e w'=>e=.returned (.int .i64 13)/\Ext w w':=by
 have hz2:¬s.toList=[]:=fun h=>hz (Id.1 h);have hz3:s.toList.isEmpty=false:=by simpa using hz2
 clear hz;go_enter Tryz.func220,Tryz.ntmps220;go_wp2;go_ret;exact⟨rfl,(Ext.refl w).alloc _⟩
theorem eB(w:World)  : Calls Tryz.prog 220 #[.agg #[.int .u8 1,.bool false,.int .i64 0,.string ⟨#[]⟩]] w fun e w'=>e=.returned (.int .i64 0)/\Ext w w':=by
 have HR:Hid (Dv ⟨#[]⟩=0):=hid Ls;go_enter Tryz.func220,Tryz.ntmps220;go_wp2_with (go_at_call 254;refine(Jn _ _ HR (by simp[ByteArray.size])).mono ?_;rintro e w1 ⟨rfl,rfl⟩)
 go_ret;exact⟨rfl,(Ext.refl w).alloc _⟩
theorem hJ(b:Bool)(n:Int)(s:ByteArray)(w:World)(hn:(n != 0)=true):Calls Tryz.prog 220 #[.agg #[.int .u8 2,.bool b,.int .i64 n,.string s]] w fun e w'=>e=.returned (.int .i64 13)/\Ext w w':=by
 go_enter Tryz.func220,Tryz.ntmps220;go_wp2;go_ret;exact⟨rfl,(Ext.refl w).alloc _⟩
theorem hH(b:Bool)(s:ByteArray)(w:World)(hz:¬s=⟨#[]⟩):Calls Tryz.prog 220 #[.agg #[.int .u8 2,.bool b,.int .i64 0,.string s]] w fun e w'=>e=.returned (.int .i64 13)/\Ext w w':=by
 have hz2:¬s.toList=[]:=fun h=>hz (Id.1 h);have hz3:s.toList.isEmpty=false:=by simpa using hz2
 clear hz;go_enter Tryz.func220,Tryz.ntmps220;go_wp2;go_ret;exact⟨rfl,(Ext.refl w).alloc _⟩
theorem dZ(b:Bool)(w:World)  : Calls Tryz.prog 220 #[.agg #[.int .u8 2,.bool b,.int .i64 0,.string ⟨#[]⟩]] w fun e w'=>e=.returned (.int .i64 0)/\Ext w w':=by
 have HR:Hid (Dv ⟨#[]⟩=0):=hid Ls;go_enter Tryz.func220,Tryz.ntmps220;go_wp2_with (go_at_call 254;refine(Jn _ _ HR (by simp[ByteArray.size])).mono ?_;rintro e w1 ⟨rfl,rfl⟩)
 go_ret;exact⟨rfl,(Ext.refl w).alloc _⟩
theorem gZ(n:Int)(s:ByteArray)(w:World)  : Calls Tryz.prog 220 #[.agg #[.int .u8 3,.bool true,.int .i64 n,.string s]] w fun e w'=>e=.returned (.int .i64 13)/\Ext w w':=by
 go_enter Tryz.func220,Tryz.ntmps220;go_wp2;go_ret;exact⟨rfl,(Ext.refl w).alloc _⟩
theorem gY(n:Int)(s:ByteArray)(w:World)(hz:¬s=⟨#[]⟩):Calls Tryz.prog 220 #[.agg #[.int .u8 3,.bool false,.int .i64 n,.string s]] w fun e w'=>e=.returned (.int .i64 13)/\Ext w w':=by
 have hz2:¬s.toList=[]:=fun h=>hz (Id.1 h);have hz3:s.toList.isEmpty=false:=by simpa using hz2
 clear hz;go_enter Tryz.func220,Tryz.ntmps220;go_wp2;go_ret;exact⟨rfl,(Ext.refl w).alloc _⟩
theorem dY(n:Int)(w:World)  : Calls Tryz.prog 220 #[.agg #[.int .u8 3,.bool false,.int .i64 n,.string ⟨#[]⟩]] w fun e w'=>e=.returned (.int .i64 0)/\Ext w w':=by
 have HR:Hid (Dv ⟨#[]⟩=0):=hid Ls;go_enter Tryz.func220,Tryz.ntmps220;go_wp2_with (go_at_call 254;refine(Jn _ _ HR (by simp[ByteArray.size])).mono ?_;rintro e w1 ⟨rfl,rfl⟩)
 go_ret;exact⟨rfl,(Ext.refl w).alloc _⟩
theorem gX(n:Int)(s:ByteArray)(w:World)  : Calls Tryz.prog 220 #[.agg #[.int .u8 4,.bool true,.int .i64 n,.string s]] w fun e w'=>e=.returned (.int .i64 13)/\Ext w w':=by
 go_enter Tryz.func220,Tryz.ntmps220;go_wp2;go_ret;exact⟨rfl,(Ext.refl w).alloc _⟩
theorem gW(n:Int)(s:ByteArray)(w:World)(hn:(n != 0)=true):Calls Tryz.prog 220 #[.agg #[.int .u8 4,.bool false,.int .i64 n,.string s]] w fun e w'=>e=.returned (.int .i64 13)/\Ext w w':=by
 go_enter Tryz.func220,Tryz.ntmps220;go_wp2;go_ret;exact⟨rfl,(Ext.refl w).alloc _⟩
theorem Zm(r:Int)(s:ByteArray)(w:World)(hr:Dv s=r)(hs:s.size<=140737488355328)(h:r<0):Calls Tryz.prog 220 #[.agg #[.int .u8 4,.bool false,.int .i64 0,.string s]] w fun e w'=>e=.returned (.int .i64 13)/\Ext w w':=by
 have HR:=hid hr;clear hr;go_enter Tryz.func220,Tryz.ntmps220;go_wp2_with (go_at_call 254;refine(Jn _ _ HR hs).mono ?_;rintro e w1 ⟨rfl,rfl⟩)
 go_ret;exact⟨rfl,(Ext.refl w).alloc _⟩
theorem Vq(r:Int)(s:ByteArray)(w:World)(hr:Dv s=r)(hs:s.size<=140737488355328)(h:0<=r)(hl:1000<s.size):Calls Tryz.prog 220 #[.agg #[.int .u8 4,.bool false,.int .i64 0,.string s]] w fun e w'=>e=.returned (.int .i64 12)/\Ext w w':=by
 have HR:=hid hr;clear hr;go_enter Tryz.func220,Tryz.ntmps220;go_wp2_with (go_at_call 254;refine(Jn _ _ HR hs).mono ?_;rintro e w1 ⟨rfl,rfl⟩)
 go_ret;exact⟨rfl,(Ext.refl w).alloc _⟩
theorem dX(r:Int)(s:ByteArray)(w:World)(hr:Dv s=r)(hs:s.size<=140737488355328)(h:0<=r)(hl:s.size<=1000):Calls Tryz.prog 220 #[.agg #[.int .u8 4,.bool false,.int .i64 0,.string s]] w fun e w'=>e=.returned (.int .i64 0)/\Ext w w':=by
 have HR:=hid hr;clear hr;go_enter Tryz.func220,Tryz.ntmps220;go_wp2_with (go_at_call 254;refine(Jn _ _ HR hs).mono ?_;rintro e w1 ⟨rfl,rfl⟩)
 go_ret;exact⟨rfl,(Ext.refl w).alloc _⟩
theorem gV(k:Int)(b:Bool)(n:Int)(s:ByteArray)(w:World)(hs:s.size<=140737488355328) :
  Calls Tryz.prog 220 #[.agg #[.int .u8 k,.bool b,.int .i64 n,.string s]] w fun e w'=>e=.returned (.int .i64 (Hs k b n s))/\Ext w w':=by
 by_cases h2:k=2
 ·subst h2;by_cases hn:n=0
  ·subst hn;by_cases hz:s=⟨#[]⟩
   ·subst hz;rw[Fl (by simp),Fm];exact dZ b w
   ·rw[Az (by simp[hz])];exact hH b s w hz
  ·rw[Az (by simp[hn])];exact hJ b n s w (by simpa using hn)
 by_cases h3:k=3
 ·subst h3;cases b
  ·by_cases hz:s=⟨#[]⟩
   ·subst hz;rw[Fl (by simp),Fm];exact dY n w
   ·rw[Az (by simp[hz])];exact gY n s w hz
  ·rw[Az (by simp)];exact gZ n s w
 by_cases h4:k=4
 ·subst h4;cases b
  ·by_cases hn:n=0
   ·subst hn;rw[Fl (by simp)];by_cases hr:Dv s<0
    ·rw[(Tz s).1 hr];exact Zm _ s w rfl hs hr
    ·have hv:Ih s=true:=by
      cases hv:Ih s
      ·exact absurd ((Tz s).2 hv) hr
      ·rfl
     rw[hv,if_pos rfl];by_cases hl:1000<s.size
     ·rw[if_pos hl];exact Vq _ s w rfl hs (by omega) hl
     ·rw[if_neg hl];exact dX _ s w rfl hs (by omega) (by omega)
   ·rw[Az (by simp[hn])];exact gW n s w (by simpa using hn)
  ·rw[Az (by simp)];exact gX n s w
 by_cases h1:k=1
 ·subst h1;cases b
  ·by_cases hn:n=0
   ·subst hn;by_cases hz:s=⟨#[]⟩
    ·subst hz;rw[Fl (by simp),Fm];exact eB w
    ·rw[Az (by simp[hz])];exact hZ s w hz
   ·rw[Az (by simp[hn])];exact iA n s w (by simpa using hn)
  ·rw[Az (by simp)];exact iB n s w
 ·rw[Az (by simp[h1,h2,h3,h4])];rcases Int.lt_or_le k 1 with h|h
  ·exact lR k n b s w h
  ·exact lS k n b s w (by omega)
theorem Ws{c:Int}(k:Int)(b:Bool)(n:Int)(s:ByteArray)(w:World)(h:Hid (Hs k b n s=c))(hs:s.size<=140737488355328) :
  Calls Tryz.prog 220 #[.agg #[.int .u8 k,.bool b,.int .i64 n,.string s]] w fun e w'=>e=.returned (.int .i64 c)/\Ext w w':=h.out▸gV k b n s w hs
theorem Zj(A:Option Addr)(c n:Nat)(l:List Dat)(w:World)(e1:n=l.length)(h1:Rw w A c l)(ht:∀d∈l,d.s.size<=10000000000000) :
  Calls Tryz.prog 168 #[.slice A n c] w fun e w'=>e=.returned (.int .i64 (Bl l))/\Ext w w':=by
 have E1:=hid e1;have hl1:=h1.le;rw[<-e1]at hl1;have H1:=hid h1;have HT:=hid ht;clear e1 h1 ht;by_cases h32:32<n
 ·have HR:Hid (Bl l=20):=hid (by unfold Bl;rw[if_pos (by rw[<-E1.out];exact h32)]);go_enter Tryz.func168,Tryz.ntmps168;go_wp2;go_ret;exact⟨(by rw[HR.out];rfl),Ext.refl w⟩
 have HR:Hid (Bl l=Dw l):=hid (by unfold Bl;rw[if_neg (by rw[<-E1.out];exact h32)]);go_enter Tryz.func168,Tryz.ntmps168;go_wp2
 go_loopw [3] (fun v wr=>∃i:Nat,i<=n/\v=.int .i64 i/\Hid (Dw (l.drop i)=Dw l)/\Ext w wr) (fun v _=>n-(intOf v).toNat)
 case atStart=>exact⟨0,AE _,rfl,hid rfl,Ext.refl _⟩
 case round =>
  obtain⟨i,hi,rfl,hr,er⟩:=hrel;have hsz:=er.size;by_cases hlt:i<n
  ·have hil:i<l.length:=by rw[<-E1.out];exact hlt
   obtain⟨a1,rfl,p0,p1,p2,p3⟩:=(H1.out.ext er).at hil;have hts:(l.getD i Dat.zero).s.size<=10000000000000:=HT.out _ (by rw[AB,AC hil];exact BP hil);have HS0:=hid (Rc hil);obtain⟨d,hd⟩:∃d,l.getD i Dat.zero=d:=⟨_,rfl⟩;rw[hd]at p0 p1 p2 p3 hts HS0;clear hil hd;obtain⟨v,hv⟩:∃v,d.check=v:=⟨_,rfl⟩;have HS:Hid (Dw l=if v=0 then Dw (l.drop (i+1)) else v):=hid (by rw[<-hr.out,HS0.out,hv]);clear HS0 hr;obtain⟨ka,ba,na,sa⟩:=d;simp only at p0 p1 p2 p3 hts;have HV:=hid hv;clear hv;by_cases hv0:v=0
   ·subst hv0;go_wp2_with (go_at_call 220;refine(Ws ka ba na sa _ HV (AQ hts (by decide))).mono ?_;rintro e w1 ⟨rfl,x1⟩)
    go_roundw
    case rel=>exact⟨i+1,by omega,by go_num,hid (by rw[HS.out];simp),er.trans x1⟩
    case measure=>simp[intOf];omega
   ·have z:(v != 0)=true:=by simpa using hv0
    have HZ:=hid hv0;clear hv0;go_wp2_with (go_at_call 220;refine(Ws ka ba na sa _ HV (AQ hts (by decide))).mono ?_;rintro e w1 ⟨rfl,x1⟩)
    go_ret;exact⟨(by rw[HR.out,HS.out,if_neg HZ.out];rfl),er.trans x1⟩
  ·obtain rfl:i=n:=by omega
   have HT2:Hid (Dw l=0):=hid (by rw[<-hr.out,CM (by rw[<-E1.out];exact AD _)];rfl);clear hr;go_wp2;go_ret;exact⟨(by rw[HR.out,HT2.out];rfl),er⟩
theorem Ow{v:Int}(A:Option Addr)(c n:Nat)(l:List Dat)(w:World)(hv:Hid (Bl l=v))(e1:Hid (n=l.length))(h1:Hid (Rw w A c l))(ht:Hid (∀d∈l,d.s.size<=10000000000000)) :
  Calls Tryz.prog 168 #[.slice A n c] w fun e w'=>e=.returned (.int .i64 v)/\Ext w w':=hv.out▸Zj A c n l w e1.out h1.out ht.out
theorem Oh:Gj Tryz.prog 47 22 1 24 (.slice none 0 0):=⟨by kernel_rfl,by kernel_rfl,rfl,by decide⟩
structure Rb where
 A:Option Addr
 c:Nat
 l:List Ud
def Rb.zero:Rb:=⟨none,0,[]⟩
abbrev Rb.s(b:Rb):Value:=.slice b.A b.l.length b.c
def Rb.v(b:Rb):List UV:=b.l.map Ud.uv
def Dp(l:List Rb)(i:Nat):Rb:=l.getD i Rb.zero
structure RbR (w0 w:World) (K:Nat->Prop) (b:Rb):Prop where
 own:Own w w0.heap.size 95 4 b.A b.l.length b.c (Ah b.l)
 k:∀k,blk b.A b.c=some k->K k
 ls:∀x∈b.l,UdR w0 x
def RtR(w0 w:World)(K:Nat->Prop)(A:Option Addr)(c:Nat)(L:List Tm):Prop :=
 Tin w0 A c L\/(Own w w0.heap.size 26 2 A L.length c (Db L)/\(∀k,blk A c=some k->K k)/\∀x∈L,x.A=none/\x.c=0/\x.l=[])
structure RSM where
 A:Option Addr
 c:Nat
 bs:List Rb
 un:Option (Nat×Nat)
 lf:Int
 sA:Option Addr
 sc:Nat
 S:List Tm
 uA:Option Addr
 uc:Nat
 U:List Tm
def RSM.v(m:RSM):SV:=⟨m.bs.map Rb.v,m.un,m.S.map Tm.v,m.U.map Tm.v⟩
def jD:Option (Nat×Nat)->Int
 | none => -1
 | some p=>p.1
def xR:Option (Nat×Nat)->Int->Int
 | none,x=>x
 | some p,_=>p.2
def Kn(m:RSM):Array Value:=#[.slice m.A m.bs.length m.c,.int .i64 (jD m.un),.int .i64 (xR m.un m.lf),.slice m.sA m.S.length m.sc,.slice m.uA m.U.length m.uc]
structure RSB (w0 w:World) (K:Nat->Prop) (m:RSM):Prop where
 ow:Own w w0.heap.size 22 1 m.A m.bs.length m.c (m.bs.map Rb.s)
 ko:∀k,blk m.A m.c=some k->K k
 bt:∀b∈m.bs,RbR w0 w K b
 sn:RtR w0 w K m.sA m.sc m.S
 up:RtR w0 w K m.uA m.uc m.U
 ex:Ext w0 w
structure RSR (w0 w:World) (K:Nat->Prop) (gr:Nat) (m:RSM):Prop where
 bk:Bk w gr 107 (Kn m)
 kg:K gr
 lo:w0.heap.size<=gr
 b:RSB w0 w K m
section
variable{w0 w w':World}{K K' S:Nat->Prop}{gr:Nat}{m:RSM}{A:Option Addr}{c:Nat}{L:List Tm}{b:Rb}
theorem Tb{l:List Rb}{i:Nat}(h:i<l.length):Dp l i∈l:=by
 unfold Dp;rw[AB,AC h];exact BP h
theorem yQ{l:List Rb}{i:Nat}(h:i<l.length):(l.map Rb.s)[i]?=some (Dp l i).s:=by
 unfold Dp;rw[CI,AB,AC h];rfl
theorem Xz{l:List Rb}{i:Nat}(h:i<l.length):(l.map Rb.v).getD i []=(Dp l i).v:=by
 unfold Dp;rw[AB,CI,AB,AC h];rfl
theorem Rb.len(b:Rb):b.v.length=b.l.length:=by unfold Rb.v;rw[AN]
theorem RbR.ext(h:RbR w0 w K b)(x:Ext w w'):RbR w0 w' K b:=⟨h.own.ext x,h.k,h.ls⟩
theorem RbR.upd(h:RbR w0 w K b)(x:Upd S w w')(hS:∀k,K k->¬S k):RbR w0 w' K b:=⟨h.own.upd x fun k hk=>hS k (h.k k hk),h.k,h.ls⟩
theorem RbR.wide(h:RbR w0 w K b)(hR:∀k,k<w.heap.size->K k->K' k):RbR w0 w K' b:=⟨h.own,fun k hk=>hR k (h.own.lt k hk).2 (h.k k hk),h.ls⟩
theorem RbR.safe(h:RbR w0 w K b)(x:Upd S w w')(hS:∀k,k<w.heap.size->S k->¬Ty w k 95):RbR w0 w' K b :=
 ⟨h.own.upd x fun k hk q=>hS k (h.own.lt k hk).2 q (h.own.ty hk),h.k,h.ls⟩
theorem RbR.uin(h:RbR w0 w K b)(x:Ext w0 w):Uin w b.A b.c b.l:=⟨h.own.sl,fun y hy=>(h.ls y hy).ext x⟩
theorem RtR.ext(h:RtR w0 w K A c L)(x:Ext w w'):RtR w0 w' K A c L:=h.imp id fun q=>⟨q.1.ext x,q.2⟩
theorem RtR.upd(h:RtR w0 w K A c L)(x:Upd S w w')(hS:∀k,K k->¬S k):RtR w0 w' K A c L:=h.imp id fun q=>⟨q.1.upd x fun k hk=>hS k (q.2.1 k hk),q.2⟩
theorem RtR.wide(h:RtR w0 w K A c L)(hR:∀k,k<w.heap.size->K k->K' k):RtR w0 w K' A c L:=h.imp id fun q=>⟨q.1,fun k hk=>hR k (q.1.lt k hk).2 (q.2.1 k hk),q.2.2⟩
theorem RtR.safe(h:RtR w0 w K A c L)(x:Upd S w w')(hS:∀k,k<w.heap.size->S k->¬Ty w k 26):RtR w0 w' K A c L:=h.imp id fun q=>⟨q.1.upd x fun k hk r=>hS k (q.1.lt k hk).2 r (q.1.ty hk),q.2⟩
theorem RtR.tin(h:RtR w0 w K A c L)(x:Ext w0 w):Tin w A c L:=by
 rcases h with h|⟨h1,_,h3⟩
 ·exact h.ext x
 ·refine⟨h1.sl,fun y hy=>?_⟩;obtain⟨e1,e2,e3⟩:=h3 y hy;rw[e1,e2,e3];exact Sl.nil _ _
theorem RSB.ext(h:RSB w0 w K m)(x:Ext w w'):RSB w0 w' K m:=⟨h.ow.ext x,h.ko,fun b hb=>(h.bt b hb).ext x,h.sn.ext x,h.up.ext x,h.ex.trans x⟩
theorem RSB.upd(h:RSB w0 w K m)(x:Upd S w w')(hS:∀k,K k->¬S k)(hx:Ext w0 w'):RSB w0 w' K m :=
 ⟨h.ow.upd x fun k hk=>hS k (h.ko k hk),h.ko,fun b hb=>(h.bt b hb).upd x hS,h.sn.upd x hS,h.up.upd x hS,hx⟩
theorem RSB.wide(h:RSB w0 w K m)(hR:∀k,k<w.heap.size->K k->K' k):RSB w0 w K' m :=
 ⟨h.ow,fun k hk=>hR k (h.ow.lt k hk).2 (h.ko k hk),fun b hb=>(h.bt b hb).wide hR,h.sn.wide hR,h.up.wide hR,h.ex⟩
theorem RSB.head{cs:Array Value}(h:RSB w0 w K m)(hb:Bk w gr 107 cs)(lo:w0.heap.size<=gr)(i:Nat)(u:Value):RSB w0 (w.setCell ⟨gr,i,none⟩ u) K m:=by
 have x:Upd (fun k=>k=gr) w (w.setCell ⟨gr,i,none⟩ u):=(Upd.refl (fun k=>k=gr) w).setCell (p:=⟨gr,i,none⟩) (.inl rfl) u;refine⟨h.ow.upd x fun k hk e=>?_,h.ko,fun b hb'=>(h.bt b hb').safe x fun k _ e q=>?_,h.sn.safe x fun k _ e q=>?_,h.up.safe x fun k _ e q=>?_,h.ex.set (p:=⟨gr,i,none⟩) lo u⟩
 ·subst e;exact absurd ((h.ow.ty hk).ne hb.ty) (by decide)
 ·subst e;exact absurd (q.ne hb.ty) (by decide)
 ·subst e;exact absurd (q.ne hb.ty) (by decide)
 ·subst e;exact absurd (q.ne hb.ty) (by decide)
theorem RSR.ext(h:RSR w0 w K gr m)(x:Ext w w'):RSR w0 w' K gr m:=⟨h.bk.ext x,h.kg,h.lo,h.b.ext x⟩
theorem RSR.upd(h:RSR w0 w K gr m)(x:Upd S w w')(hS:∀k,K k->¬S k)(hx:Ext w0 w'):RSR w0 w' K gr m:=⟨h.bk.upd x (hS _ h.kg),h.kg,h.lo,h.b.upd x hS hx⟩
theorem RSR.wide(h:RSR w0 w K gr m)(hR:∀k,k<w.heap.size->K k->K' k):RSR w0 w K' gr m:=⟨h.bk,hR _ h.bk.lt h.kg,h.lo,h.b.wide hR⟩
theorem RSB.at(h:RSB w0 w K m){i:Nat}(hi:i<m.bs.length):∃ad,m.A=some ad/\w.cell? (ad.add i)=some (Dp m.bs i).s:=by
 obtain⟨ad,h1,h2⟩:=h.ow.sl.2.2.2.2 (by omega);exact⟨ad,h1,h2 i _ (yQ hi)⟩
theorem RSB.uin(h:RSB w0 w K m){i:Nat}(hi:i<m.bs.length):Uin w (Dp m.bs i).A (Dp m.bs i).c (Dp m.bs i).l:=(h.bt _ (Tb hi)).uin h.ex
theorem RSR.put_s{B:Option Addr}{d:Nat}{M:List Tm}(h:RSR w0 w K gr m)(t:RtR w0 w K B d M):RSR w0 (w.setCell ⟨gr,3,none⟩ (.slice B M.length d)) K gr { m with sA:=B,sc:=d,S:=M }:=by
 have k:RSB w0 w K { m with sA:=B,sc:=d,S:=M }:=⟨h.b.ow,h.b.ko,h.b.bt,t,h.b.up,h.b.ex⟩;exact⟨h.bk.set 3 _,h.kg,h.lo,k.head h.bk h.lo 3 _⟩
theorem RSR.put_u{B:Option Addr}{d:Nat}{M:List Tm}(h:RSR w0 w K gr m)(t:RtR w0 w K B d M):RSR w0 (w.setCell ⟨gr,4,none⟩ (.slice B M.length d)) K gr { m with uA:=B,uc:=d,U:=M }:=by
 have k:RSB w0 w K { m with uA:=B,uc:=d,U:=M }:=⟨h.b.ow,h.b.ko,h.b.bt,h.b.sn,t,h.b.ex⟩;exact⟨h.bk.set 4 _,h.kg,h.lo,k.head h.bk h.lo 4 _⟩
theorem RSR.mk_l{B:Option Addr}{d:Nat}{M:List Rb}(bk:Bk w gr 107 (Kn m))(kg:K gr)(lo:w0.heap.size<=gr)(sn:RtR w0 w K m.sA m.sc m.S)(up:RtR w0 w K m.uA m.uc m.U)(ex:Ext w0 w)(o:Own w w0.heap.size 22 1 B M.length d (M.map Rb.s))(ko:∀k,blk B d=some k->K k)(bt:∀b∈M,RbR w0 w K b) :
  RSR w0 (w.setCell ⟨gr,0,none⟩ (.slice B M.length d)) K gr { m with A:=B,c:=d,bs:=M }:=by
 have k:RSB w0 w K { m with A:=B,c:=d,bs:=M }:=⟨o,ko,bt,sn,up,ex⟩;exact⟨bk.set 0 _,kg,lo,k.head bk lo 0 _⟩
theorem RSR.put_l{B:Option Addr}{d:Nat}{M:List Rb}(h:RSR w0 w K gr m)(o:Own w w0.heap.size 22 1 B M.length d (M.map Rb.s))(ko:∀k,blk B d=some k->K k)(bt:∀b∈M,RbR w0 w K b):RSR w0 (w.setCell ⟨gr,0,none⟩ (.slice B M.length d)) K gr { m with A:=B,c:=d,bs:=M }:=
 RSR.mk_l h.bk h.kg h.lo h.b.sn h.b.up h.b.ex o ko bt
theorem RSR.push{w3 w4:World}{p:Nat}(x0:Ext w0 w)(h:RSR w0 w K gr m)(x:Ext w w3)(ob:Own w3 w.heap.size 95 4 b.A b.l.length b.c (Ah b.l))(hb:∀y∈b.l,UdR w0 y)(o:Own w4 w0.heap.size 22 1 A p c (m.bs.map Rb.s++[b.s]))(hp:p=m.bs.length+1)(g:w3.grownBy w4 (blk m.A m.c))(q:(A=m.A/\c=m.c)\/(blk A c=some w3.heap.size/\Ext w3 w4)) :
  RSR w0 (w4.setCell ⟨gr,0,none⟩ (.slice A p c)) (Rg K w (w4.setCell ⟨gr,0,none⟩ (.slice A p c))) gr { m with A:=A,c:=c,bs:=m.bs++[b] }/\Upd K w (w4.setCell ⟨gr,0,none⟩ (.slice A p c)):=by
 have u:Upd (fun k=>blk m.A m.c=some k) w3 w4:=(Upd.refl _ w3).grown g fun k e=>.inl e;have h3:=h.ext x;have z0:=x0.size;have z3:=x.size;have z4:=u.size;have hz:(w4.setCell ⟨gr,0,none⟩ (.slice A p c)).heap.size=w4.heap.size:=by simp
 have hty:∀{e:TypeId},e≠22->∀k,k<w3.heap.size->blk m.A m.c=some k->¬Ty w3 k e:=fun he k _ e1 e2=>he (e2.ne (h3.b.ow.ty e1));have wd:∀k,k<w4.heap.size->K k->Rg K w w4 k:=fun _ _ hk=>.inl hk;have hbk:Bk w4 gr 107 (Kn m):=h3.bk.upd u fun e=>hty (by decide) gr h3.bk.lt e h3.bk.ty;have hl:(m.bs++[b]).length=p:=by rw[AA,hp];rfl
 have R:=RSR.mk_l (K:=Rg K w w4) (B:=A) (d:=c) (M:=m.bs++[b]) hbk (.inl h.kg) h.lo ((h3.b.sn.safe u (hty (by decide))).wide wd) ((h3.b.up.safe u (hty (by decide))).wide wd) (Ix h3.b.ex u fun k hk=>(h3.b.ow.lt k hk).1)
  (by rw[hl,AO];exact o) (fun k hk=>by
   rcases q with ⟨e1,e2⟩|⟨e1,_⟩
   ·rw[e1,e2]at hk;exact .inl (h.b.ko k hk)
   ·have h1:=(o.lt k hk).2;rw[e1]at hk;injection hk with hk;exact .inr ⟨by omega,h1⟩) (fun r hr=>by
   rcases AR.1 hr with hr|hr
   ·exact((h3.b.bt r hr).safe u (hty (by decide))).wide wd
   ·rw[AH.1 hr];have ob4:Own w4 w.heap.size 95 4 b.A b.l.length b.c (Ah b.l):=ob.upd u fun k hk e=>hty (by decide) k (ob.lt k hk).2 e (ob.ty hk);exact⟨ob4.mono z0,fun k hk=>.inr ⟨(ob4.lt k hk).1,(ob4.lt k hk).2⟩,hb⟩)
 rw[hl]at R;refine⟨R.wide fun k _ hk=>hk.imp id fun z=>⟨z.1,by rw[hz];exact z.2⟩,?_⟩;exact((Upd.ext x).trans (u.mono fun k _ hk=>h.b.ko k hk)).setCell (.inl h.kg) _
end
def Ij(X:List TV):Bool:=X.any fun t=>decide (0<t.2.length)
theorem Jd(X:List TV):Bn X=(decide (X.length<=1) && !Ij X):=rfl
theorem iJ{L:List Tm}{k:Nat}(h:k<L.length):Ij ((L.map Tm.v).take (k+1))=(Ij ((L.map Tm.v).take k)||decide (0<(L.getD k Tm.zero).l.length)):=by
 unfold Ij;rw[GU,CI,AB,AC h,List.any_append];simp[Tm.v]
theorem Gu{b:Bool}(AL:Option Addr)(cL m:Nat)(L:List Tm)(w:World)(hb:Hid ((!Ij (L.map Tm.v))=b))(hm:Hid (m=L.length))(hL:Hid (Tin w AL cL L)) :
  Calls Tryz.prog 167 #[.slice AL m cL] w fun r w'=>r=.returned (.bool b)/\w=w':=by
 have hmax:m<=9223372036854775807:=by rw[hm.out];exact hL.out.sl.le
 go_enter Tryz.func167,Tryz.ntmps167;go_wp2
 go_loopg [3] m (fun z v wr=>∃k:Nat,z=m-k/\k<=m/\v=.int .i64 k/\Hid (Ij ((L.map Tm.v).take k)=false)/\wr=w)
 case atStart=>exact⟨0,rfl,AE _,rfl,hid rfl,rfl⟩
 case round =>
  obtain⟨k,rfl,hk,rfl,HF,rfl⟩:=hrel;by_cases hlt:k<m
  ·have hkL:k<L.length:=by rw[<-hm.out];exact hlt
   obtain⟨ad,rfl,q0,q1⟩:=hL.out.at hkL;obtain⟨x,hx⟩:∃x,L.getD k Tm.zero=x:=⟨_,rfl⟩;obtain⟨nx,hnx⟩:∃n,n=x.l.length:=⟨_,rfl⟩;have HL1:=hid (iJ hkL);rw[hx]at q0 q1 HL1;rw[<-hnx]at q1 HL1;have HKL:=hid hkL;clear hkL hx hnx;rcases CL nx with h0|h0
   ·subst h0;go_wp2
    go_roundg (m-(k+1))
    case measure=>omega
    case rel=>exact⟨k+1,by omega,by omega,by go_num,hid (by rw[HL1.out,HF.out];rfl),rfl⟩
   ·have h1:(0:Int)<(nx:Int):=by omega
    have HD:Hid (decide (0<nx)=true):=hid (decide_eq_true h0);go_wp2;go_ret;refine⟨Cb ?_,rfl⟩;rw[<-hb.out];have h2:Ij ((L.map Tm.v).take (k+1))=true:=by rw[HL1.out,HD.out,Bool.or_true]
    have h3:Ij (L.map Tm.v)=true:=by
     unfold Ij at h2 ⊢;obtain⟨y,hy,e⟩:=ED.1 h2;exact ED.2 ⟨y,CF hy,e⟩
    rw[h3];rfl
  ·obtain rfl:m=k:=by omega
   go_wp2;go_ret;refine⟨Cb ?_,rfl⟩;rw[<-hb.out];have:=HF.out;rw[AT (by rw[AN,hm.out];exact AD _)]at this;rw[this];rfl
theorem Wo{w0 w:World}{g:Nat}(h:Bk w g 26 #[.int .u64 0,.slice none 0 0])(hB:w0.heap.size<=g):RtR w0 w (fun k=>g<=k) (some ⟨g,0,none⟩) 1 [Tm.zero]:=
 .inr ⟨(Sq h hB).own,fun k hk=>(by injection hk with hk;have hk:g=k:=hk;omega),fun x hx=>by rw[AH.1 hx];exact⟨rfl,rfl,rfl⟩⟩
theorem qS(w0 w w1 w2 w3:World)(x0:Ext w0 w)(h1:w1=w.alloc (.cells #[.int .u64 0,.slice none 0 0] 26))(h2:w2=w1.alloc (.cells #[.int .u64 0,.slice none 0 0] 26))
  (h3:w3=w2.alloc (.cells #[.slice none 0 0,.int .i64 (-1),.int .i64 0,.slice (some ⟨w.heap.size,0,none⟩) 1 1,.slice (some ⟨w.heap.size+1,0,none⟩) 1 1] 107)) :
  RSR w0 w3 (fun k=>w.heap.size<=k/\k<w3.heap.size) (w.heap.size+1+1) ⟨none,0,[],none,0,some ⟨w.heap.size,0,none⟩,1,[Tm.zero],some ⟨w.heap.size+1,0,none⟩,1,[Tm.zero]⟩/\Ext w w3:=by
 have z1:w1.heap.size=w.heap.size+1:=by rw[h1];simp
 have z2:w2.heap.size=w.heap.size+1+1:=by rw[h2];simp[z1]
 have z3:w3.heap.size=w.heap.size+1+1+1:=by rw[h3];simp[z2]
 have z0:=x0.size;have x1:Ext w w1:=h1▸(Ext.refl w).alloc _;have x2:Ext w1 w2:=h2▸(Ext.refl w1).alloc _;have x3:Ext w2 w3:=h3▸(Ext.refl w2).alloc _;have b1:Bk w3 w.heap.size 26 #[.int .u64 0,.slice none 0 0]:=Bk.ext (Bk.ext (h1▸Bk.new w _ _) x2) x3;have b2:Bk w3 (w.heap.size+1) 26 #[.int .u64 0,.slice none 0 0]:=Bk.ext (h2▸Bk.at z1.symm) x3;have b3:Bk w3 (w.heap.size+1+1) 107 #[.slice none 0 0,.int .i64 (-1),.int .i64 0,.slice (some ⟨w.heap.size,0,none⟩) 1 1,.slice (some ⟨w.heap.size+1,0,none⟩) 1 1]:=h3▸Bk.at z2.symm;refine⟨⟨b3,⟨by omega,by omega⟩,by omega,⟨Own.nil _ _ _ _,fun k hk=>(nomatch hk),fun b hb=>(nomatch hb),(Wo b1 z0).wide fun k h1 h2=>⟨h2,h1⟩,(Wo b2 (by omega)).wide fun k h1 h2=>⟨by omega,h1⟩,((x0.trans x1).trans x2).trans x3⟩⟩,(x1.trans x2).trans x3⟩
def zZ(w0 w:World)(e:Ending)(w':World):Prop:=∃gr m,e=.returned (.pointer (some ⟨gr,0,none⟩))/\RSR w0 w' (fun k=>w.heap.size<=k/\k<w'.heap.size) gr m/\m.v=aQ/\Ext w w'
theorem gP(w0 w:World)(x0:Hid (Ext w0 w)):Calls Tryz.prog 55 #[] w (zZ w0 w):=by
 go_enter Tryz.func55,Tryz.ntmps55;go_wp2;go_ret;obtain⟨h1,h2⟩:=qS w0 w _ _ _ x0.out rfl rfl rfl;refine⟨w.heap.size+1+1,⟨none,0,[],none,0,some ⟨w.heap.size,0,none⟩,1,[Tm.zero],some ⟨w.heap.size+1,0,none⟩,1,[Tm.zero]⟩,?_,?_,rfl,?_⟩
 ·simp
 ·simpa using h1
 ·simpa using h2
def Gm(w0 w:World)(K:Nat->Prop)(gr:Nat)(q:Int×SV)(e:Ending)(w':World):Prop:=∃m',e=.returned (.int .i64 q.1)/\RSR w0 w' (Rg K w w') gr m'/\m'.v=q.2/\Upd K w w'
theorem Gm.stay{w0 w w':World}{K:Nat->Prop}{gr:Nat}{m:RSM}{n:Int}{e:Ending}(h:RSR w0 w K gr m)(x:Ext w w')(he:e=.returned (.int .i64 n)):Gm w0 w K gr (n,m.v) e w':=⟨m,he,(h.ext x).wide fun _ _ hk=>.inl hk,rfl,Upd.ext x⟩
theorem Gm.put{w0 w w1:World}{K:Nat->Prop}{gr i:Nat}{m':RSM}{u:Value}{s:SV}{e:Ending}(x:Ext w w1)(hk:K gr)(h:RSR w0 (w1.setCell ⟨gr,i,none⟩ u) K gr m')(hv:m'.v=s)(he:e=.returned (.int .i64 0)):Gm w0 w K gr (0,s) e (w1.setCell ⟨gr,i,none⟩ u):=
 ⟨m',he,h.wide fun _ _ hk=>.inl hk,hv,(Upd.ext x).setCell (.inl hk) _⟩
theorem Zl{q:Int×SV}(w0:World)(gr:Nat)(m:RSM)(K:Nat->Prop)(AX:Option Addr)(cX nX:Nat)(X:List Tm)(w:World)(hq:Hid (Bw m.v (X.map Tm.v)=q))(HM:Hid (RSR w0 w K gr m))(hnX:Hid (nX=X.length))(hX:Hid (RtR w0 w K AX cX X)) :
  Calls Tryz.prog 61 #[.pointer (some ⟨gr,0,none⟩),.slice AX nX cX] w (Gm w0 w K gr q):=by
 have HX:Hid (∀W,Ext w W->Tin W AX cX X):=hid fun W x=>(hX.out.tin HM.out.b.ex).ext x;have HT:Hid (∀W,Ext w W->Tin W m.sA m.sc m.S):=hid fun W x=>(HM.out.b.sn.tin HM.out.b.ex).ext x;obtain⟨n,hn⟩:∃n,n=m.S.length:=⟨_,rfl⟩;have HN:=hid hn;have c3:w.cell? ⟨gr,3,none⟩=some (.slice m.sA n m.sc):=hn▸HM.out.bk.cell 3;obtain⟨b0,hb0⟩:∃b,(!Ij (X.map Tm.v))=b:=⟨_,rfl⟩;obtain⟨b2,hb2⟩:∃b,Ho (m.S.map Tm.v) (X.map Tm.v)=b:=⟨_,rfl⟩;have HB0:=hid hb0;have HB2:=hid hb2;have hcv:Bw m.v (X.map Tm.v)=if (decide (nX<=1)&&b0)=false then (110,m.v) else if b2=false then (111,m.v) else (0,{ m.v with S:=ofV (X.map Tm.v) }):=by
  rw[<-hb0,<-hb2,hnX.out,<-AN (f:=Tm.v),<-Jd];rfl
 have hXL:Hid (nX<=1->b0=true->ofV (X.map Tm.v)=X.map Tm.v):=hid fun h1 h2=>Fy (by rw[Jd,hb0,h2,AN,<-hnX.out,decide_eq_true h1];rfl);have HCV:Hid (q=if (decide (nX<=1)&&b0)=false then (110,m.v) else if b2=false then (111,m.v) else (0,{ m.v with S:=ofV (X.map Tm.v) })):=hid (hq.out.symm.trans hcv);clear hb0 hb2 hcv hq hn;cases b0 with
 | false =>
  go_enter Tryz.func61,Tryz.ntmps61;go_wp2_with (go_at_call 167;refine(Gu AX cX nX X _ HB0 hnX (hid (HX.out _ (Ext.refl _)))).mono ?_;rintro r w1 ⟨rfl,rfl⟩)
  go_ret;rw[HCV.out,Bool.and_false,if_pos rfl];exact Gm.stay HM.out (Ext.refl _) rfl
 | true =>
  by_cases h1:nX<=1
  ·have h1z:¬(1:Int)<(nX:Int):=by omega
   have hd:decide (nX<=1)=true:=decide_eq_true h1;cases b2 with
   | false =>
    go_enter Tryz.func61,Tryz.ntmps61;go_wp2_with (first
     | (go_at_call 167;refine(Gu AX cX nX X _ HB0 hnX (hid (HX.out _ (Ext.refl _)))).mono ?_;rintro r w1 ⟨rfl,rfl⟩)
     | (go_at_call 169;refine(Mk m.sA AX m.sc cX n nX m.S X _ HB2 HN hnX (hid (HT.out _ (Ext.refl _))) (hid (HX.out _ (Ext.refl _)))).mono ?_;rintro r w2 ⟨rfl,x2⟩;have X2:=hid x2;clear x2)
     | fail)
    go_ret;rw[HCV.out,hd,Bool.and_self,if_neg (by decide)];simp only[if_true];exact Gm.stay HM.out X2.out rfl
   | true =>
    go_enter Tryz.func61,Tryz.ntmps61;go_wp2_with (first
     | (go_at_call 167;refine(Gu AX cX nX X _ HB0 hnX (hid (HX.out _ (Ext.refl _)))).mono ?_;rintro r w1 ⟨rfl,rfl⟩)
     | (go_at_call 169;refine(Mk m.sA AX m.sc cX n nX m.S X _ HB2 HN hnX (hid (HT.out _ (Ext.refl _))) (hid (HX.out _ (Ext.refl _)))).mono ?_;rintro r w2 ⟨rfl,x2⟩;have hlt:=(HM.out.bk.ext x2).lt;have f3:=(HM.out.bk.ext x2).free 3;have c3':=(x2.cell c3);have X2:=hid x2;clear x2)
     | fail)
    go_ret;rw[HCV.out,hd,Bool.and_self,if_neg (by decide),if_neg (by decide)];have HP:=(HM.out.ext X2.out).put_s (hX.out.ext X2.out);rw[<-hnX.out]at HP;exact Gm.put X2.out HM.out.kg HP (by show SV.mk _ _ _ _=_;rw[hXL.out h1 (by trivial)];rfl) rfl
  ·have h1z:(1:Int)<(nX:Int):=by omega
   have hd:decide (nX<=1)=false:=decide_eq_false h1;go_enter Tryz.func61,Tryz.ntmps61;go_wp2_with (go_at_call 167;refine(Gu AX cX nX X _ HB0 hnX (hid (HX.out _ (Ext.refl _)))).mono ?_;rintro r w1 ⟨rfl,rfl⟩)
   go_ret;rw[HCV.out,hd,Bool.false_and,if_pos rfl];exact Gm.stay HM.out (Ext.refl _) rfl
theorem Xx{l:List Rb}{i:Nat}(h:i<l.length):l.take (i+1)=l.take i++[Dp l i]:=by
 unfold Dp;rw[GU,AC h,AB,AC h];rfl
def Hr(l:List Rb):List Int:=l.map fun b=>(b.l.length:Int)
def Dx(l:List Rb):List Ud:=l.flatMap Rb.l
theorem Xp{l:List Rb}{i:Nat}(h:i<l.length):Dx (l.take (i+1))=Dx (l.take i)++(Dp l i).l:=by
 unfold Dx;rw[Xx h,CS];simp
theorem wQ(l:List Rb)(i:Nat):(Dx (l.take i)).length<=(Dx l).length:=by
 have:Dx l=Dx (l.take i)++Dx (l.drop i):=by
  unfold Dx;rw[<-CS,CE]
 rw[this,AA];omega
structure Wg (w wr:World) (l:List Rb) (i n c:Nat) (A:Option Addr):Prop where
 ln:n=i
 ow:Own wr w.heap.size 3 1 A n c (Kq (Hr (l.take i)))
 ex:Ext w wr
theorem Wg.step{w wr w2:World}{l:List Rb}{i n c c2:Nat}{A A2:Option Addr}(h:Wg w wr l i n c A)(hi:i<l.length){k:Nat}(hk:k=(Dp l i).l.length)(ob:Obj)(o:Own w2 w.heap.size 3 1 A2 (n+1) c2 (Kq (Hr (l.take i))++[.int .i64 k]))(g:(wr.alloc ob).grownBy w2 (blk A c)):Wg w w2 l (i+1) (n+1) c2 A2:=by
 refine⟨by rw[h.ln],?_,((h.ex).alloc _).grown g fun k hk=>(h.ow.lt k hk).1⟩;have e:Kq (Hr (l.take (i+1)))=Kq (Hr (l.take i))++[.int .i64 k]:=by
  unfold Hr Kq;rw[Xx hi,hk];simp
 rw[e];exact o
theorem gQ(w0:World)(gr:Nat)(m:RSM)(K:Nat->Prop)(w:World)(HM:Hid (RSR w0 w K gr m))(h9:m.bs.length<=1000000):Calls Tryz.prog 67 #[.pointer (some ⟨gr,0,none⟩)] w (dG w (Hr m.bs)):=by
 obtain⟨n,hn⟩:∃n,n=m.bs.length:=⟨_,rfl⟩;obtain⟨mA,hmA⟩:∃a,m.A=a:=⟨_,rfl⟩;have c0:w.cell? ⟨gr,0,none⟩=some (.slice mA n m.c):=hmA▸hn▸HM.out.bk.cell 0;rw[<-hn]at h9;have HN:=hid hn;have HP0:Hid (Wg w w m.bs 0 0 0 none):=hid ⟨rfl,Own.nil _ _ _ _,Ext.refl _⟩;have HB:=HM.out.b;have HBB:=hid HB;clear hn HB;go_enter Tryz.func67,Tryz.ntmps67;go_wp2
 go_loopg [3,4] n (fun z u v wr=>∃(i k c3:Nat) (A3:Option Addr),z=n-i/\i<=n/\k<=i/\u=.slice A3 k c3/\v=.int .i64 i/\Hid (Wg w wr m.bs i k c3 A3))
 case atStart=>exact⟨0,0,0,none,rfl,AE _,AD _,rfl,rfl,HP0⟩
 case round =>
  clear HP0;obtain⟨i,k,c3,A3,rfl,hi,hki,rfl,rfl,HP⟩:=hrel;have c0:wr.cell? ⟨gr,0,none⟩=some (.slice mA n m.c):=HP.out.ex.cell c0;by_cases hlt:i<n
  ·have hil:i<m.bs.length:=by rw[<-HN.out];exact hlt
   obtain⟨ad,hA,p0⟩:=(HBB.out.ext HP.out.ex).at hil;obtain rfl:mA=some ad:=hmA.symm.trans hA;clear hA;obtain⟨b,hb⟩:∃b,Dp m.bs i=b:=⟨_,rfl⟩;rw[hb]at p0;obtain⟨nb,hnb⟩:∃q,q=b.l.length:=⟨_,rfl⟩;rw[show b.s=.slice b.A b.l.length b.c from rfl,<-hnb]at p0;have HK:Hid (nb=(Dp m.bs i).l.length):=hid (by rw[hb];exact hnb);have HI:=hid hil;clear hb hnb hil;go_wp2_with (first
    | (at_builtin;refine Ab _ cN w.heap.size _ _ rfl rfl A3 k c3 (Kq (Hr (m.bs.take i))) rfl (HP.out.ow.alloc _) (some ⟨wr.heap.size,0,none⟩) 1 1 [.int .i64 nb] rfl (Sl.one wr #[.int .i64 nb] 3 1 rfl) (by intro u hu;simp at hu;subst hu;rfl) (by omega) (by decide) (by have:=HP.out.ex.size;simp;omega) ?_;intro A6 c6 w6 o6 g6 h6;clear h6;have HQ6:Hid (Wg w w6 m.bs (i+1) (k+1) c6 A6):=hid (HP.out.step HI.out HK.out _ o6 g6);clear o6 g6)
    | fail)
   go_roundg (n-(i+1))
   case measure=>omega
   case rel=>exact⟨i+1,k+1,c6,A6,rfl,by omega,by omega,rfl,by go_num,HQ6⟩
  ·obtain rfl:i=n:=by omega
   go_wp2;go_ret;have hq:=HP.out;have e:m.bs.take i=m.bs:=AT (by rw[<-HN.out];exact AD _);have o:=hq.ow;rw[e]at o;exact⟨_,_,_,rfl,by rw[hq.ln,HN.out];unfold Hr;rw[AN],o,hq.ex⟩
structure Pi (w wr:World) (l:List Rb) (i n c:Nat) (A:Option Addr):Prop where
 ln:n=(Dx (l.take i)).length
 ow:Own wr w.heap.size 95 4 A n c (Ah (Dx (l.take i)))
 ex:Ext w wr
theorem Pi.step{w wr w2:World}{l:List Rb}{i n c c2:Nat}{A A2:Option Addr}(h:Pi w wr l i n c A)(hi:i<l.length){k c0:Nat}{A0:Option Addr}{L:List Ud}(hk:k=L.length)(hL:Dp l i=⟨A0,c0,L⟩)(o:Own w2 w.heap.size 95 4 A2 (n+k) c2 (Ah (Dx (l.take i))++Ah L))(g:wr.grownBy w2 (blk A c)):Pi w w2 l (i+1) (n+k) c2 A2:=by
 have e:Dx (l.take (i+1))=Dx (l.take i)++L:=by rw[Xp hi,hL]
 refine⟨by rw[e,AA,h.ln,hk],?_,h.ex.grown g fun k hk=>(h.ow.lt k hk).1⟩;rw[e,Bb];exact o
theorem Mz(w0:World)(gr:Nat)(m:RSM)(K:Nat->Prop)(w:World)(HM:Hid (RSR w0 w K gr m))(h9:m.bs.length<=1000000)(hA:(Dx m.bs).length<=1000000):Calls Tryz.prog 170 #[.pointer (some ⟨gr,0,none⟩)] w (kL w (Dx m.bs)):=by
 obtain⟨n,hn⟩:∃n,n=m.bs.length:=⟨_,rfl⟩;obtain⟨mA,hmA⟩:∃a,m.A=a:=⟨_,rfl⟩;have c0:w.cell? ⟨gr,0,none⟩=some (.slice mA n m.c):=hmA▸hn▸HM.out.bk.cell 0;rw[<-hn]at h9;have HN:=hid hn;have HP0:Hid (Pi w w m.bs 0 0 0 none):=hid ⟨rfl,Own.nil _ _ _ _,Ext.refl _⟩;have HB:=HM.out.b;have HBB:=hid HB;clear hn HB;go_enter Tryz.func170,Tryz.ntmps170;go_wp2
 go_loopg [3,4] n (fun z u v wr=>∃(i k c3:Nat) (A3:Option Addr),z=n-i/\i<=n/\k<=1000000/\u=.slice A3 k c3/\v=.int .i64 i/\Hid (Pi w wr m.bs i k c3 A3))
 case atStart=>exact⟨0,0,0,none,rfl,AE _,AE _,rfl,rfl,HP0⟩
 case round =>
  clear HP0;obtain⟨i,k,c3,A3,rfl,hi,hki,rfl,rfl,HP⟩:=hrel;have c0:wr.cell? ⟨gr,0,none⟩=some (.slice mA n m.c):=HP.out.ex.cell c0;by_cases hlt:i<n
  ·have hil:i<m.bs.length:=by rw[<-HN.out];exact hlt
   obtain⟨ad,hA',p0⟩:=(HBB.out.ext HP.out.ex).at hil;obtain rfl:mA=some ad:=hmA.symm.trans hA';clear hA';have HUI:=(HBB.out.ext HP.out.ex).uin hil;obtain⟨⟨bA,bc,bl⟩,hb⟩:∃b,Dp m.bs i=b:=⟨_,rfl⟩;rw[hb]at p0 HUI;obtain⟨nb,hnb⟩:∃q,q=bl.length:=⟨_,rfl⟩;replace p0:wr.cell? (ad.add i)=some (.slice bA nb bc):=hnb▸p0;have hsum:k+nb<=1000000:=by
    have q1:=wQ m.bs (i+1);rw[Xp hil,AA,<-HP.out.ln,hb]at q1;simp only at q1;omega
   have HSB:Hid (Sl wr 4 bA nb bc (Ah bl)):=hid (hnb▸HUI.sl);have HNB:=hid hnb;have HGB:=hid hb;have HI:=hid hil;have hzr:=HP.out.ex.size;clear hb hnb hil HUI;go_wp2_with (first
    | (at_builtin;refine Ab _ Aw w.heap.size _ _ rfl rfl A3 k c3 (Ah (Dx (m.bs.take i))) rfl HP.out.ow bA nb bc (Ah bl) rfl HSB.out (Ca _) (by omega) (by decide) hzr ?_;intro A6 c6 w6 o6 g6 h6;clear h6;have HQ6:Hid (Pi w w6 m.bs (i+1) (k+nb) c6 A6):=hid (HP.out.step HI.out HNB.out HGB.out o6 g6);clear o6 g6)
    | fail)
   go_roundg (n-(i+1))
   case measure=>omega
   case rel=>exact⟨i+1,k+nb,c6,A6,rfl,by omega,hsum,rfl,by go_num,HQ6⟩
  ·obtain rfl:i=n:=by omega
   go_wp2;go_ret;have hq:=HP.out;have e:m.bs.take i=m.bs:=AT (by rw[<-HN.out];exact AD _);have o:=hq.ow;have l:=hq.ln;rw[e]at o l;exact⟨_,_,_,rfl,l,o,hq.ex⟩
theorem Cz.det{s t t':SV}{n r r':Nat}(h:Cz s n t r)(h':Cz s n t' r'):t=t'/\r=r':=by
 induction h with
 | done s =>
  cases h' with
  | done=>exact⟨rfl,rfl⟩
  | stop h _=>exact absurd h (by decide)
  | step h _ _ _=>exact absurd h (by decide)
 | stop h hb =>
  cases h' with
  | done=>exact absurd h (by decide)
  | stop _ hb' =>
   rw[hb]at hb';injection hb' with e;exact⟨e,rfl⟩
  | step _ hb' _ _=>rw[hb]at hb';injection hb' with _ e;cases e
 | step h hb hp k ih =>
  cases h' with
  | done=>exact absurd h (by decide)
  | stop _ hb'=>rw[hb]at hb';injection hb' with _ e;cases e
  | step _ hb' hp' k' =>
   rw[hb]at hb';injection hb' with e _;subst e;rw[hp]at hp';injection hp' with e1 e2;subst e1;subst e2;exact ih k'
def Kv(bs:List (List UV))(k:Nat):Option (Nat×Nat):=(Fe k bs).map fun j=>(j,(bs.getD j []).length+(bs.getD (j+1) []).length)
theorem sW(bs:List (List UV))(k:Nat):Kv bs (k+1)=if (bs.getD k []).length<=2*(bs.getD (k+1) []).length then some (k,(bs.getD k []).length+(bs.getD (k+1) []).length) else Kv bs k:=by
 unfold Kv;rw[Fe];split<;>rfl
theorem Xk{s:SV}(h:s.un=none):Bo s=match Kv s.bs (s.bs.length-1)with|some p=>({ s with un:=some p },true)|none=>(s,false):=by
 unfold Bo Kv;rw[h];cases Fe (s.bs.length-1) s.bs<;>rfl
section
variable{w0 w w':World}{K:Nat->Prop}{gr:Nat}{m:RSM}
theorem RSR.put_un{a:Int}(h:RSR w0 w K gr m)(i l:Nat)(ha:a=(i:Int)):RSR w0 ((w.setCell ⟨gr,1,none⟩ (.int .i64 a)).setCell ⟨gr,2,none⟩ (.int .i64 l)).drew K gr { m with un:=some (i,l) }:=by
 subst ha;have b1:=h.bk.set 1 (.int .i64 i);have k1:=h.b.head h.bk h.lo 1 (.int .i64 i);have k2:=k1.head b1 h.lo 2 (.int .i64 l);exact RSR.ext ⟨b1.set 2 _,h.kg,h.lo,⟨k2.ow,k2.ko,k2.bt,k2.sn,k2.up,k2.ex⟩⟩ (Ext.refl _).drew
theorem RSR.put_left{i l:Nat}(h:RSR w0 w K gr m)(hu:m.un=some (i,l))(l':Nat):RSR w0 (w.setCell ⟨gr,2,none⟩ (.int .i64 l')) K gr { m with un:=some (i,l') }:=by
 have k1:=h.b.head h.bk h.lo 2 (.int .i64 l');refine⟨?_,h.kg,h.lo,⟨k1.ow,k1.ko,k1.bt,k1.sn,k1.up,k1.ex⟩⟩;have b:=h.bk.set 2 (.int .i64 l');have e:(Kn m).setIfInBounds 2 (.int .i64 l')=Kn { m with un:=some (i,l') }:=by
  unfold Kn;rw[hu];rfl
 rwa [e]at b
theorem RSR.put_none{i:Nat}(h:RSR w0 w K gr m)(hu:m.un=some (i,0)):RSR w0 (w.setCell ⟨gr,1,none⟩ (.int .i64 (-1))) K gr { m with un:=none,lf:=0 }:=by
 have k1:=h.b.head h.bk h.lo 1 (.int .i64 (-1));refine⟨?_,h.kg,h.lo,⟨k1.ow,k1.ko,k1.bt,k1.sn,k1.up,k1.ex⟩⟩;have b:=h.bk.set 1 (.int .i64 (-1));have e:(Kn m).setIfInBounds 1 (.int .i64 (-1))=Kn { m with un:=none,lf:=0 }:=by
  unfold Kn;rw[hu];rfl
 rwa [e]at b
end
structure Lg (w0 w wr:World) (K:Nat->Prop) (gr n k:Nat) (s:SV) (m:RSM):Prop where
 sp:RSR w0 wr (Rg K w wr) gr m
 ok:OkV m.v
 up:Upd K w wr
 wk:∀t r,Cz m.v k t r->Cz s n t r
structure Jz (w0 w wr:World) (K:Nat->Prop) (gr n k:Nat) (s:SV) (m:RSM) (i l:Nat):Prop where
 sp:RSR w0 wr (Rg K w wr) gr m
 ok:OkV m.v
 up:Upd K w wr
 un:m.un=some (i,l)
 wk:∀s2 n2 t r,Gq m.v k=(s2,n2)->Cz s2 n2 t r->Cz s n t r
def qA(w0 w:World)(K:Nat->Prop)(gr:Nat)(s:SV)(z:Int)(e:Ending)(w':World):Prop:=∃(m':RSM) (r:Nat),e=.returned (.int .i64 r)/\RSR w0 w' (Rg K w w') gr m'/\((m'.v=s/\r=0/\z<1)\/∃n:Nat,z=n/\0<n/\Cz s n m'.v r)/\OkV m'.v/\Upd K w w'
section
variable{w0 w wr w':World}{K:Nat->Prop}{gr n k i l:Nat}{s:SV}{m m':RSM}
theorem Lg.due(h:Lg w0 w wr K gr n k s m)(hk:0<k)(hu:m.un=none){p:Nat×Nat}(hd:Kv m.v.bs (m.v.bs.length-1)=some p){m1:RSM}(hv:m1.v={ m.v with un:=some p })(sp:RSR w0 w' (Rg K w w') gr m1)(up:Upd K w w')(e:m1.un=some p):Jz w0 w w' K gr n k s m1 p.1 p.2:=by
 have hb:Bo m.v=({ m.v with un:=some p },true):=by rw[Xk (show m.v.un=none from hu),hd]
 refine⟨sp,?_,up,e,fun s2 n2 t r hp hw=>h.wk _ _ (.step hk hb (by rw[<-hv];exact hp) hw)⟩;have:=Jr h.ok;rw[hb]at this;rw[hv];exact this
theorem Lg.on(h:Lg w0 w wr K gr n k s m)(hk:0<k)(hu:m.un=some (i,l)):Jz w0 w wr K gr n k s m i l:=by
 have hb:Bo m.v=(m.v,true):=by
  unfold Bo;rw[show m.v.un=some (i,l)from hu]
 exact⟨h.sp,h.ok,h.up,hu,fun s2 n2 t r hp hw=>h.wk _ _ (.step hk hb hp hw)⟩
theorem Jz.pay(h:Jz w0 w wr K gr n k s m i l)(l':Nat):RSR w0 (wr.setCell ⟨gr,2,none⟩ (.int .i64 l')) (Rg K w (wr.setCell ⟨gr,2,none⟩ (.int .i64 l'))) gr { m with un:=some (i,l') }/\Upd K w (wr.setCell ⟨gr,2,none⟩ (.int .i64 l')):=by
 have kg:K gr\/w.heap.size<=gr:=h.sp.kg.imp id fun z=>z.1;exact⟨(h.sp.put_left h.un l').wide fun q _ hq=>hq.imp id fun z=>⟨z.1,by simpa using z.2⟩,h.up.setCell (p:=⟨gr,2,none⟩) kg _⟩
theorem Jz.left(h:Jz w0 w wr K gr n k s m i l)(hl:l-min k l≠0)(sp:RSR w0 w' (Rg K w w') gr { m with un:=some (i,l-min k l) })(up:Upd K w w'):Lg w0 w w' K gr n (k-min k l) s { m with un:=some (i,l-min k l) }:=by
 have hu:=h.ok.un i l h.un;refine⟨sp,?_,up,fun t r hw=>h.wk _ _ _ _ ?_ hw⟩
 ·have o:=h.ok;exact⟨o.nb,o.ins,o.pos,fun i' l' e=>(by injection e with e;injection e with e1 e2;subst e1;subst e2;exact⟨hu.1,by omega,by omega⟩),o.fs,o.fu,o.es,o.eu⟩
 ·unfold Gq;rw[show m.v.un=some (i,l)from h.un];simp only;rw[if_neg hl];rfl
theorem Jz.zero(h:Jz w0 w wr K gr n k s m i l)(hl:l-min k l=0){m2:RSM}(hv:m2.v=Ir m.v)(sp:RSR w0 w' (Rg K w w') gr m2)(up:Upd K w w'):Lg w0 w w' K gr n (k-min k l) s m2:=by
 have he:Gq m.v k=(Ir { m.v with un:=some (i,0) },k-min k l):=by
  unfold Gq;rw[show m.v.un=some (i,l)from h.un];simp only;rw[if_pos hl,hl]
 have hee:Ir { m.v with un:=some (i,0) }=Ir m.v:=by
  unfold Ir Ch;rw[show m.v.un=some (i,l)from h.un]
 have o:=Yl (k:=0) h.ok (show m.v.un=some (i,l)from h.un);refine⟨sp,?_,up,fun t r hw=>h.wk _ _ _ _ he ?_⟩
 ·rw[hv];rw[hee]at o;exact o
 ·rw[hee,<-hv];exact hw
end
end Go.Proofs.YtdgbkpoickbidaaGreatDoor
