/- slices.IndexFunc, ContainsFunc at updates, by a predicate that captures nothing. slices.IndexFunc, ContainsFunc at updates, by a predicate that captures two pointers. The two predicates of a spine's Insert. Regions that draw their order, where an operation may write to blocks of a set S besides making new ones: a fixed order serves every order. A batch is put behind the others: what then stands. A spine's Insert: what it answers and leaves. slices.Index, slices.Delete at pointers to batches. slices.Grow of nothing, slices.Concat of two lists of updates. Conditions: each theorem states its own. -/
import Derived.Test.YtdgbkpoickbidaaGreatDoorHr4
import Derived.Test.YtdgbkpoickbidaaGreatDoorHr1
import Derived.Deep.LoopGhost
import Derived.Shelf.Abstract
import Derived.Test.YtdgbkpoickbidaaGreatDoorHr10
import Derived.Test.YtdgbkpoickbidaaGreatDoorHr2
import Derived.Lib.SliceRun
import Derived.LaidEqlPtr
namespace Go.Proofs.YtdgbkpoickbidaaGreatDoor
open Go.RowKit

/-- what is asked of the predicate -/
def UPred0 (g:Nat) (lb:Array Value) (p:Ud→Bool) (L:List Ud) (w:World):Prop := ∀ (W:World) (x:Ud),x∈L→Ext w W→Calls Tryz.prog g #[udV x] W fun e w'=>e = .returned (.bool (p x))∧Ext W w'
/-- an index, or -1 -/
def UIdxOut0 (p:Ud→Bool) (L:List Ud) (w:World) (e:Ending) (w':World):Prop := ∃ r:Int,e = .returned (.int .i64 r)∧decide (0≤r)=L.any p∧Ext w w'
theorem uany_at {L:List Ud} {p:Ud→Bool} {k:Nat} (h:k<L.length) (hp:p (L.getD k Ud.zero)=true):L.any p=true:=List.any_eq_true.2 ⟨_,getU_mem h,hp⟩
theorem uany_none {L:List Ud} {p:Ud→Bool} (h : ∀ j,j<L.length→p (L.getD j Ud.zero)=false):L.any p=false:=by
 rw [List.any_eq_false]
 intro x hx
 obtain ⟨j,hj,rfl⟩:=List.getElem_of_mem hx
 have:=h j hj
 rw [List.getD_eq_getElem?_getD,List.getElem?_eq_getElem hj] at this
 simpa using this
set_option maxRecDepth 100000 in
set_option maxHeartbeats 2000000 in
theorem index_uds0 (p:Ud→Bool) (g:Nat) (eg : ∀ args w,(callFunc g args).run Tryz.prog w = .ok (.enter g args) w) (AL:Option Addr) (cL m:Nat) (L:List Ud) (w:World) (hm:Hid (m=L.length)) (hL:Hid (Uin w AL cL L)) (hp:Hid (UPred0 g #[] p L w)) :
  Calls Tryz.prog 185 #[.slice AL m cL, .func (.func g) #[] #[]] w (UIdxOut0 p L w):=by
 have hbig:m≤9223372036854775807:=by rw [hm.out];exact hL.out.sl.le
 go_enter Tryz.func185,Tryz.ntmps185
 go_wp2
 go_loopg [5,8] m (fun gg _ s8 wr => ∃ kk:Nat,kk≤m∧m - kk≤gg∧s8 = .int .i64 kk∧Hid (Ext w wr)∧Hid (∀ j,j<kk→p (L.getD j Ud.zero)=false))
 case atStart=>exact ⟨0,Nat.zero_le _,by omega,rfl,Lib.hid (Ext.refl w),Lib.hid (fun j hj=>absurd hj (Nat.not_lt_zero _))⟩
 case round =>
  obtain ⟨kk,hkk,hg,rfl,BW,AF⟩:=hrel
  by_cases hlt:kk<m
  ·have hltz:(kk:Int)<(m:Int):=by omega
   obtain ⟨ad,rfl,q0,q1,q2,q3⟩:=(hL.out.ext BW.out).at (i:=kk) (by rw [← hm.out];exact hlt)
   have hcall:=hp.out wr (L.getD kk Ud.zero) (getU_mem (by rw [← hm.out];exact hlt)) BW.out
   obtain ⟨x,hx⟩ : ∃ x,L.getD kk Ud.zero=x:=⟨_,rfl⟩
   rw [hx] at q0 q1 q2 q3 hcall
   have HX:=Lib.hid hx
   clear hx
   unfold udV at hcall
   cases hq:p x with
   | true =>
    rw [hq] at hcall
    have HQ:=Lib.hid hq
    clear hq
    go_wp2_with (go_at_fn g;refine hcall.mono ?_;rintro e w' ⟨rfl,hb'⟩)
    go_ret
    exact ⟨_,rfl,by rw [uany_at (by rw [← hm.out];exact hlt) (by rw [HX.out];exact HQ.out)];simp,BW.out.trans hb'⟩
   | false =>
    rw [hq] at hcall
    have HQ:=Lib.hid hq
    clear hq
    go_wp2_with (go_at_fn g;refine hcall.mono ?_;rintro e w' ⟨rfl,hb'⟩)
    go_roundg (m - (kk+1))
    case measure=>omega
    case rel =>
     refine ⟨kk+1,by omega,by omega,by go_num,Lib.hid (BW.out.trans hb'),Lib.hid (fun j hj=>?_)⟩
     by_cases hjk:j<kk
     ·exact AF.out j hjk
     ·obtain rfl:j=kk:=by omega
      rw [HX.out];exact HQ.out
  ·obtain rfl:kk=m:=by omega
   go_wp2
   go_ret
   exact ⟨_,rfl,by rw [uany_none (fun j hj=>AF.out j (by rw [hm.out];exact hj))];rfl,BW.out⟩
set_option maxRecDepth 100000 in
set_option maxHeartbeats 600000 in
theorem contains_uds0 (p:Ud→Bool) (g:Nat) (eg : ∀ args w,(callFunc g args).run Tryz.prog w = .ok (.enter g args) w) (AL:Option Addr) (cL m:Nat) (L:List Ud) (w:World) (hm:Hid (m=L.length)) (hL:Hid (Uin w AL cL L)) (hp:Hid (UPred0 g #[] p L w)) :
  Calls Tryz.prog 157 #[.slice AL m cL, .func (.func g) #[] #[]] w fun e w'=>e = .returned (.bool (L.any p))∧Ext w w':=by
 go_enter Tryz.func157,Tryz.ntmps157
 go_wp2_with (go_at_call 185;refine (index_uds0 p g  eg AL cL m L _ hm hL hp).mono ?_;rintro e w1 ⟨r,rfl,hr,x1⟩;have HR:=Lib.hid hr;clear hr)
 go_ret
 exact ⟨by rw [← HR.out];rfl,x1⟩
open Go.RowKit
/-- what is asked of the predicate -/
def UPred2 (g:Nat) (lb:Array Value) (p:Ud→Bool) (L:List Ud) (w:World):Prop := ∀ (W:World) (x:Ud),x∈L→Ext w W→Calls Tryz.prog g #[udV x,lb[0]!,lb[1]!] W fun e w'=>e = .returned (.bool (p x))∧Ext W w'
/-- an index, or -1 -/
def UIdxOut2 (p:Ud→Bool) (L:List Ud) (w:World) (e:Ending) (w':World):Prop := ∃ r:Int,e = .returned (.int .i64 r)∧decide (0≤r)=L.any p∧Ext w w'
set_option maxRecDepth 100000 in
set_option maxHeartbeats 2000000 in
theorem index_uds2 (p:Ud→Bool) (g:Nat) (v0 v1:Value) (eg : ∀ args w,(callFunc g args).run Tryz.prog w = .ok (.enter g args) w) (AL:Option Addr) (cL m:Nat) (L:List Ud) (w:World) (hm:Hid (m=L.length)) (hL:Hid (Uin w AL cL L)) (hp:Hid (UPred2 g #[v0,v1] p L w)) :
  Calls Tryz.prog 185 #[.slice AL m cL, .func (.func g) #[] #[v0,v1]] w (UIdxOut2 p L w):=by
 have hbig:m≤9223372036854775807:=by rw [hm.out];exact hL.out.sl.le
 go_enter Tryz.func185,Tryz.ntmps185
 go_wp2
 go_loopg [5,8] m (fun gg _ s8 wr => ∃ kk:Nat,kk≤m∧m - kk≤gg∧s8 = .int .i64 kk∧Hid (Ext w wr)∧Hid (∀ j,j<kk→p (L.getD j Ud.zero)=false))
 case atStart=>exact ⟨0,Nat.zero_le _,by omega,rfl,Lib.hid (Ext.refl w),Lib.hid (fun j hj=>absurd hj (Nat.not_lt_zero _))⟩
 case round =>
  obtain ⟨kk,hkk,hg,rfl,BW,AF⟩:=hrel
  by_cases hlt:kk<m
  ·have hltz:(kk:Int)<(m:Int):=by omega
   obtain ⟨ad,rfl,q0,q1,q2,q3⟩:=(hL.out.ext BW.out).at (i:=kk) (by rw [← hm.out];exact hlt)
   have hcall:=hp.out wr (L.getD kk Ud.zero) (getU_mem (by rw [← hm.out];exact hlt)) BW.out
   obtain ⟨x,hx⟩ : ∃ x,L.getD kk Ud.zero=x:=⟨_,rfl⟩
   rw [hx] at q0 q1 q2 q3 hcall
   have HX:=Lib.hid hx
   clear hx
   unfold udV at hcall
   cases hq:p x with
   | true =>
    rw [hq] at hcall
    have HQ:=Lib.hid hq
    clear hq
    go_wp2_with (go_at_fn g;refine hcall.mono ?_;rintro e w' ⟨rfl,hb'⟩)
    go_ret
    exact ⟨_,rfl,by rw [uany_at (by rw [← hm.out];exact hlt) (by rw [HX.out];exact HQ.out)];simp,BW.out.trans hb'⟩
   | false =>
    rw [hq] at hcall
    have HQ:=Lib.hid hq
    clear hq
    go_wp2_with (go_at_fn g;refine hcall.mono ?_;rintro e w' ⟨rfl,hb'⟩)
    go_roundg (m - (kk+1))
    case measure=>omega
    case rel =>
     refine ⟨kk+1,by omega,by omega,by go_num,Lib.hid (BW.out.trans hb'),Lib.hid (fun j hj=>?_)⟩
     by_cases hjk:j<kk
     ·exact AF.out j hjk
     ·obtain rfl:j=kk:=by omega
      rw [HX.out];exact HQ.out
  ·obtain rfl:kk=m:=by omega
   go_wp2
   go_ret
   exact ⟨_,rfl,by rw [uany_none (fun j hj=>AF.out j (by rw [hm.out];exact hj))];rfl,BW.out⟩
set_option maxRecDepth 100000 in
set_option maxHeartbeats 600000 in
theorem contains_uds2 (p:Ud→Bool) (g:Nat) (v0 v1:Value) (eg : ∀ args w,(callFunc g args).run Tryz.prog w = .ok (.enter g args) w) (AL:Option Addr) (cL m:Nat) (L:List Ud) (w:World) (hm:Hid (m=L.length)) (hL:Hid (Uin w AL cL L)) (hp:Hid (UPred2 g #[v0,v1] p L w)) :
  Calls Tryz.prog 157 #[.slice AL m cL, .func (.func g) #[] #[v0,v1]] w fun e w'=>e = .returned (.bool (L.any p))∧Ext w w':=by
 go_enter Tryz.func157,Tryz.ntmps157
 go_wp2_with (go_at_call 185;refine (index_uds2 p g v0 v1 eg AL cL m L _ hm hL hp).mono ?_;rintro e w1 ⟨r,rfl,hr,x1⟩;have HR:=Lib.hid hr;clear hr)
 go_ret
 exact ⟨by rw [← HR.out];rfl,x1⟩
open Go.RowKit
/-- an update that may not be: at a time with counters, or of a row that may not be -/
def formV (u:UV):Bool:=decide (0<u.1.2.2.length)||decide (checkR u.1.1≠0)
/-- an update that comes too early, or too late -/
def earlyV (U X:List TV) (u:UV):Bool := !beyondV U u.1.2||beyondV X u.1.2
set_option maxRecDepth 100000 in
set_option maxHeartbeats 1000000 in
theorem form1_any (x:Ud) (w:World) (hx:Hid (UdR w x)) (hi:Hid (InU x)) (G:Good w):Calls Tryz.prog 153 #[udV x] w fun r w'=>r = .returned (.bool (formV x.uv))∧Ext w w':=by
 obtain ⟨A,c,l,⟨te,tA,tc,tl⟩,d⟩:=x
 obtain ⟨n,hn⟩ : ∃ n,n=l.length:=⟨_,rfl⟩
 obtain ⟨t,ht⟩ : ∃ t,t=tl.length:=⟨_,rfl⟩
 have HR:Hid (∀ W,Ext w W→Rw W A c l):=Lib.hid (fun W q=>hx.out.r.ext q)
 have HN:=Lib.hid hn
 have HT:Hid (RwTxt l):=Lib.hid hi.out.row.txt
 unfold udV
 rw [← hn, ← ht]
 have hq:formV (Ud.uv ⟨A,c,l,⟨te,tA,tc,tl⟩,d⟩)=(decide (0<t)||decide (checkR l≠0)):=by rw [ht];rfl
 rw [hq]
 clear hn ht hq hx hi
 obtain ⟨k,hk⟩ : ∃ k,checkR l=k:=⟨_,rfl⟩
 rw [hk]
 have HK:=Lib.hid hk
 clear hk
 have GG:=Lib.hid G
 clear G
 by_cases h0:0<t
 ·have h0z:(0:Int)<(t:Int):=by omega
  have h0d:decide (0<t)=true:=decide_eq_true h0
  rw [h0d]
  clear h0d
  go_enter Tryz.func153,Tryz.ntmps153
  go_wp2
  go_ret
  exact ⟨rfl,(Ext.refl w).alloc _⟩
 ·have h0z : ¬ (0:Int)<(t:Int):=by omega
  have h0d:decide (0<t)=false:=decide_eq_false h0
  rw [h0d]
  clear h0d
  have XA:Hid (Ext w (w.alloc (.cells #[.slice A n c, .int .u64 te, .slice tA t tc, .int .i64 d] 95))):=Lib.hid ((Ext.refl w).alloc _)
  by_cases hk0:k=0
  ·subst hk0
   go_enter Tryz.func153,Tryz.ntmps153
   go_wp2_with (go_at_call 154;refine (rowCheck_lit A c n l _ HK HN (Lib.hid (HR.out _ XA.out)) HT (GG.out.ext XA.out)).mono ?_;rintro r w1 ⟨rfl,x1⟩)
   go_ret
   exact ⟨rfl,XA.out.trans x1⟩
  ·have hkd:decide (k≠0)=true:=decide_eq_true hk0
   have hk1 : ¬ k=0:=hk0
   rw [hkd]
   clear hkd hk0
   go_enter Tryz.func153,Tryz.ntmps153
   go_wp2_with (go_at_call 154;refine (rowCheck_lit A c n l _ HK HN (Lib.hid (HR.out _ XA.out)) HT (GG.out.ext XA.out)).mono ?_;rintro r w1 ⟨rfl,x1⟩)
   go_ret
   exact ⟨by simp [hk1],XA.out.trans x1⟩
theorem enters_form1 : ∀ args w,(callFunc 153 args).run Tryz.prog w = .ok (.enter 153 args) w:=enters_of Tryz.func153 (by kernel_rfl) rfl
set_option maxRecDepth 100000 in
set_option maxHeartbeats 1000000 in
theorem early2_any (x:Ud) (gp gq gs:Nat) (AU:Option Addr) (nU cU:Nat) (U:List Tm) (AX:Option Addr) (nX cX:Nat) (X:List Tm) (w:World) (hx:Hid (UdR w x)) (hp:Hid (Bk w gp 76 #[.pointer (some ⟨gs,0,none⟩)])) (hq:Hid (Bk w gq 27 #[.slice AX nX cX])) (hs:Hid (w.cell? ⟨gs,3,none⟩=some (.slice AU nU cU)))
  (hnU:Hid (nU=U.length)) (hU:Hid (Tin w AU cU U)) (hnX:Hid (nX=X.length)) (hX:Hid (Tin w AX cX X)):Calls Tryz.prog 155 #[udV x, .pointer (some ⟨gp,0,none⟩), .pointer (some ⟨gq,0,none⟩)] w fun r w'=>r = .returned (.bool (earlyV (U.map Tm.v) (X.map Tm.v) x.uv))∧Ext w w':=by
 obtain ⟨A,c,l,⟨te,tA,tc,tl⟩,d⟩:=x
 obtain ⟨n,hn⟩ : ∃ n,n=l.length:=⟨_,rfl⟩
 obtain ⟨t,ht⟩ : ∃ t,t=tl.length:=⟨_,rfl⟩
 have HT:Hid (∀ W,Ext w W→Sl W 1 tA t tc (wds tl)):=Lib.hid (fun W q=>by rw [ht];exact hx.out.t.ext q)
 unfold udV
 rw [← hn, ← ht]
 have hv:earlyV (U.map Tm.v) (X.map Tm.v) (Ud.uv ⟨A,c,l,⟨te,tA,tc,tl⟩,d⟩)=(!beyondV (U.map Tm.v) (te,tl)||beyondV (X.map Tm.v) (te,tl)):=rfl
 rw [hv]
 clear hn ht hv hx
 obtain ⟨b1,hb1⟩ : ∃ b,beyondV (U.map Tm.v) (te,tl)=b:=⟨_,rfl⟩
 obtain ⟨b2,hb2⟩ : ∃ b,beyondV (X.map Tm.v) (te,tl)=b:=⟨_,rfl⟩
 rw [hb1,hb2]
 have HB1:=Lib.hid hb1
 have HB2:=Lib.hid hb2
 clear hb1 hb2
 go_enter Tryz.func155,Tryz.ntmps155
 go_upto_region 1 with fail
 obtain ⟨wb,hwb⟩ : ∃ wb,wb=w.alloc (.cells #[.slice A n c, .int .u64 te, .slice tA t tc, .int .i64 d] 95):=⟨_,rfl⟩
 have XB:Hid (Ext w wb):=Lib.hid (by rw [hwb];exact (Ext.refl _).alloc _)
 have BT:Hid (Bk wb w.heap.size 95 #[.slice A n c, .int .u64 te, .slice tA t tc, .int .i64 d]):=Lib.hid (by rw [hwb];exact Bk.new _ _ _)
 rw [← hwb]
 clear hwb
 obtain ⟨gt,hgt⟩ : ∃ k,k=w.heap.size:=⟨_,rfl⟩
 rw [← hgt] at BT ⊢
 clear hgt
 have X_:Ext wb wb.drew:=(Ext.refl wb).drew
 have P0 : ∀ y:Xt wb.drew,y.W.cell? ⟨gp,0,none⟩=some (.pointer (some ⟨gs,0,none⟩)):=fun y=>(hp.out.ext ((XB.out.trans X_).trans y.x)).cell 0
 have P3 : ∀ y:Xt wb.drew,y.W.cell? ⟨gs,3,none⟩=some (.slice AU nU cU):=fun y=>((XB.out.trans X_).trans y.x).cell hs.out
 have Q1 : ∀ y:Xt wb.drew,y.W.cell? ⟨gt,1,none⟩=some (.int .u64 te):=fun y=>(BT.out.ext (X_.trans y.x)).cell 1
 have Q2 : ∀ y:Xt wb.drew,y.W.cell? ⟨gt,2,none⟩=some (.slice tA t tc):=fun y=>(BT.out.ext (X_.trans y.x)).cell 2
 cases b1 with
 | false =>
  refine wp_region_ord [0,1,3,7,0,16,63,127,255,511,511,1535,4095,8191,16383] (.flo [0,1,2,3,4,5] (.one 6 (.flo [7,8,9,10,11] (.one 12 (.flo [13,14] (.fin)))))) (by kernel_rfl) (by kernel_rfl) (by intro _ _ d _ _ h;cases d<;>exact h) ?_
  (refine ord_flo (pick_cons rfl (pick_cons rfl (pick_cons rfl (pick_cons rfl (pick_cons rfl (pick_cons rfl pick_nil)))))) ?_;(repeat (go_big_quiet_step (fail)));refine wpQuiet_nil ?_;show ordWalk _ _ _ _ _ _ _)
  refine ord_one (pick_cons rfl pick_nil) ?_;intro K_ hK_
  go_wp2_with (go_at_call 140;refine (beyond_at AU cU nU U te tA t tc tl _ HB1 hnU (Lib.hid (hU.out.ext (XB.out.trans X_))) (Lib.hid (HT.out _ (XB.out.trans X_)))).mono ?_;rintro r w1 ⟨rfl,x1⟩;have X1:=Lib.hid (X_.trans x1))
  clear P0 P3 Q1 Q2
  (refine ord_flo (pick_cons rfl (pick_cons rfl (pick_cons rfl (pick_cons rfl (pick_cons rfl pick_nil))))) ?_;(repeat (go_big_quiet_step (fail)));refine wpQuiet_nil ?_;show ordWalk _ _ _ _ _ _ _)
  refine ord_one (pick_cons rfl pick_nil) ?_;intro K_ hK_
  go_wp2
  (refine ord_flo (pick_cons rfl (pick_cons rfl pick_nil)) ?_;(repeat (go_big_quiet_step (fail)));refine wpQuiet_nil ?_;show ordWalk _ _ _ _ _ _ _)
  refine ord_fin ?_
  go_wp2
  go_ret
  exact ⟨rfl,XB.out.trans X1.out⟩
 | true =>
  refine wp_region_ord [0,1,3,7,0,16,63,127,255,511,511,1535,4095,8191,16383] (.flo [0,1,2,3,4,5] (.one 6 (.flo [7,8,9,10,11] (.one 12 (.flo [13,14] (.fin)))))) (by kernel_rfl) (by kernel_rfl) (by intro _ _ d _ _ h;cases d<;>exact h) ?_
  (refine ord_flo (pick_cons rfl (pick_cons rfl (pick_cons rfl (pick_cons rfl (pick_cons rfl (pick_cons rfl pick_nil)))))) ?_;(repeat (go_big_quiet_step (fail)));refine wpQuiet_nil ?_;show ordWalk _ _ _ _ _ _ _)
  refine ord_one (pick_cons rfl pick_nil) ?_;intro K_ hK_
  go_wp2_with (go_at_call 140;refine (beyond_at AU cU nU U te tA t tc tl _ HB1 hnU (Lib.hid (hU.out.ext (XB.out.trans X_))) (Lib.hid (HT.out _ (XB.out.trans X_)))).mono ?_;rintro r w1 ⟨rfl,x1⟩;have X1:=Lib.hid (X_.trans x1))
  clear P0 P3 Q1 Q2
  have P0 : ∀ y:Xt w1,y.W.cell? ⟨gq,0,none⟩=some (.slice AX nX cX):=fun y=>(hq.out.ext ((XB.out.trans X1.out).trans y.x)).cell 0
  have Q1 : ∀ y:Xt w1,y.W.cell? ⟨gt,1,none⟩=some (.int .u64 te):=fun y=>(BT.out.ext (X1.out.trans y.x)).cell 1
  have Q2 : ∀ y:Xt w1,y.W.cell? ⟨gt,2,none⟩=some (.slice tA t tc):=fun y=>(BT.out.ext (X1.out.trans y.x)).cell 2
  (refine ord_flo (pick_cons rfl (pick_cons rfl (pick_cons rfl (pick_cons rfl (pick_cons rfl pick_nil))))) ?_;(repeat (go_big_quiet_step (fail)));refine wpQuiet_nil ?_;show ordWalk _ _ _ _ _ _ _)
  refine ord_one (pick_cons rfl pick_nil) ?_;intro K_ hK_
  go_wp2_with (go_at_call 140;refine (beyond_at AX cX nX X te tA t tc tl _ HB2 hnX (Lib.hid (hX.out.ext (XB.out.trans X1.out))) (Lib.hid (HT.out _ (XB.out.trans X1.out)))).mono ?_;rintro r w2 ⟨rfl,x2⟩;have X2:=Lib.hid (X1.out.trans x2))
  (refine ord_flo (pick_cons rfl (pick_cons rfl pick_nil)) ?_;(repeat (go_big_quiet_step (fail)));refine wpQuiet_nil ?_;show ordWalk _ _ _ _ _ _ _)
  refine ord_fin ?_
  go_wp2
  go_ret
  exact ⟨rfl,XB.out.trans X2.out⟩
theorem enters_early2 : ∀ args w,(callFunc 155 args).run Tryz.prog w = .ok (.enter 155 args) w:=enters_of Tryz.func155 (by kernel_rfl) rfl
open Go.RowKit
/-- the worlds that have come of w by writes to S, and by new memory -/
structure Yt (S:Nat→Prop) (w:World) where
 W:World
 x:Upd S w W
instance Yt.any (S:Nat→Prop) (w:World):Nonempty (Yt S w):=⟨⟨w,Upd.refl S w⟩⟩
section
variable {P:Program} {ops:Array Oper} {Q:Exit→Act→World→Prop} {bs:Array Nat} {S:Nat→Prop}
/-- whatever order is picked from here on, and operations of the set X at most make new memory -/
def wpXU (S:Nat→Prop) (P:Program) (ops:Array Oper) (Q:Exit→Act→World→Prop) (X:Nat→Bool):Nat→Array Bool→Act→World→Prop
 | 0,listed,a,w=>Region.ready .any ops listed=[]∧Q .normal a w
 | fuel+1,listed,a,w =>
  (Region.ready .any ops listed=[]→Q .normal a w) ∧
  ∀ i∈Region.ready .any ops listed,wpOp P ops Q i (fun a' w'=>(X i=true→Upd S w w')∧wpXU S P ops Q X fuel (listed.setIfInBounds i true) a' w') a w

theorem wpAny_of_XU {X:Nat→Bool} : ∀ (fuel:Nat) (listed:Array Bool) (a:Act) (w:World),wpXU S P ops Q X fuel listed a w→wpAny P .any ops Q fuel listed a w
 | 0,_,_,_,h=>h
 | fuel+1,_,_,_,h=>⟨h.1,fun i hi=>wpOp_mono (fun a' w' h'=>wpAny_of_XU fuel _ a' w' h'.2) (h.2 i hi)⟩

theorem wpX_doneU {X:Nat→Bool} {listed:Array Bool} {a:Act} {w:World} (hr:Region.ready .any ops listed=[]) (h:Q .normal a w) : ∀ fuel,wpXU S P ops Q X fuel listed a w
 | 0=>⟨hr,h⟩
 | _+1=>⟨fun _=>h,by rw [hr];simp⟩

theorem yields_laterU {o:Oper} {v:Value} {a:Act} {w w':World} (h:YieldsIf P ops (Upd S w) o v a) (x:Upd S w w'):YieldsIf P ops (Upd S w') o v a :=
 h.imp (fun ⟨h1,h2⟩=>⟨h1,fun u hu=>h2 u (x.trans hu)⟩) id

theorem wpX_firstU {X:Nat→Bool} (hok:ancOkB ops bs=true) {i:Nat} {oi:Oper} {v:Value} (hi:ops[i]?=some oi) (hsel : ∀ (j:Nat) (o:Oper) cs b,ops[j]?=some o→o.op ≠ .select cs b)
  (hQ : ∀ c a d v w,Q (.panic c) (a.put d v) w→Q (.panic c) a w) :
  ∀ (fuel:Nat) (listed:Array Bool) (a:Act) (w:World),Closed ops bs listed →
   (∀ j oj,ops[j]?=some oj→j≠i→listed.getD j true=false→ancB ops bs i j=false→oi.apart ops oj=true∧X j=true) →
   i∈Region.ready .any ops listed→YieldsIf P ops (Upd S w) oi v a →
   wpXU S P ops Q X fuel (listed.setIfInBounds i true) (a.put oi.dst v) w→wpXU S P ops Q X (fuel+1) listed a w:=by
 intro fuel
 induction fuel with
 | zero =>
  intro listed a w hcl _ hr hy H
  refine ⟨fun h=>(by rw [h] at hr;cases hr),fun j hj=>?_⟩
  by_cases hji:j=i
  ·subst hji;exact hy.wpOp hi (Upd.refl S w) ⟨fun _=>Upd.refl S w,H⟩
  ·have:=ready_mono hj hji
   rw [H.1] at this
   cases this
 | succ fuel ih =>
  intro listed a w hcl hfree hr hy H
  refine ⟨fun h=>(by rw [h] at hr;cases hr),fun j hj=>?_⟩
  by_cases hji:j=i
  ·subst hji;exact hy.wpOp hi (Upd.refl S w) ⟨fun _=>Upd.refl S w,H⟩
  ·have h1:=H.2 j (ready_mono hj hji)
   obtain ⟨hjun,oj,hoj,hall⟩:=mem_ready.1 hj
   have hiun:=(mem_ready.1 hr).1
   have hnot:ancB ops bs i j=false:=by
    cases hb:ancB ops bs i j with
    | false=>rfl
    | true =>
     have h2:=ready_anc hok hcl hj hb
     rcases Nat.lt_or_ge i listed.size with h' | h'
     ·simp [h'] at h2 hiun;rw [hiun] at h2;cases h2
     ·simp [Array.getElem?_eq_none h'] at h2
   obtain ⟨hap,hX⟩:=hfree j oj hoj hji hjun hnot
   have h2:=wpOp_putIf hoj hap (fun cs b=>hsel i oi cs b hi) (fun cs b=>hsel j oj cs b hoj) (fun c a w=>hQ c a _ _ w) hy h1
   have hfree' : ∀ k ok,ops[k]?=some ok→k≠i→(listed.setIfInBounds j true).getD k true=false→ancB ops bs i k=false→oi.apart ops ok=true∧X k=true:=fun k ok hk hki hun hno=>by
    refine hfree k ok hk hki ?_ hno
    by_cases hjk:j=k
    ·subst hjk;exact hjun
    ·rw [getD_set_ne true hjk] at hun;exact hun
   refine wpOp_mono (fun a' w' h3=>⟨h3.2.1,ih (listed.setIfInBounds j true) a' w' (hcl.add hok hj) hfree' (ready_mono hr (Ne.symm hji)) (yields_laterU h3.1 (h3.2.1 hX)) ?_⟩) h2
   rw [Array.setIfInBounds_comm _ _ hji]
   exact h3.2.2

theorem wpX_first_pureU {X:Nat→Bool} (hok:ancOkB ops bs=true) {i:Nat} {oi:Oper} {v:Value} (hi:ops[i]?=some oi) (hsel : ∀ (j:Nat) (o:Oper) cs b,ops[j]?=some o→o.op ≠ .select cs b)
  (hQ : ∀ c a d v w,Q (.panic c) (a.put d v) w→Q (.panic c) a w) :
  ∀ (fuel:Nat) (listed:Array Bool) (a:Act) (w:World),Closed ops bs listed →
   (∀ j oj,ops[j]?=some oj→j≠i→listed.getD j true=false→ancB ops bs i j=false→oi.apart ops oj=true) →
   i∈Region.ready .any ops listed→YieldsIf P ops (fun _=>True) oi v a →
   wpXU S P ops Q X fuel (listed.setIfInBounds i true) (a.put oi.dst v) w→wpXU S P ops Q X (fuel+1) listed a w:=by
 intro fuel
 induction fuel with
 | zero =>
  intro listed a w hcl _ hr hy H
  refine ⟨fun h=>(by rw [h] at hr;cases hr),fun j hj=>?_⟩
  by_cases hji:j=i
  ·subst hji;exact hy.wpOp hi trivial ⟨fun _=>Upd.refl S w,H⟩
  ·have:=ready_mono hj hji
   rw [H.1] at this
   cases this
 | succ fuel ih =>
  intro listed a w hcl hfree hr hy H
  refine ⟨fun h=>(by rw [h] at hr;cases hr),fun j hj=>?_⟩
  by_cases hji:j=i
  ·subst hji;exact hy.wpOp hi trivial ⟨fun _=>Upd.refl S w,H⟩
  ·have h1:=H.2 j (ready_mono hj hji)
   obtain ⟨hjun,oj,hoj,hall⟩:=mem_ready.1 hj
   have hiun:=(mem_ready.1 hr).1
   have hnot:ancB ops bs i j=false:=by
    cases hb:ancB ops bs i j with
    | false=>rfl
    | true =>
     have h2:=ready_anc hok hcl hj hb
     rcases Nat.lt_or_ge i listed.size with h' | h'
     ·simp [h'] at h2 hiun;rw [hiun] at h2;cases h2
     ·simp [Array.getElem?_eq_none h'] at h2
   have hap:=hfree j oj hoj hji hjun hnot
   have h2:=wpOp_putIf hoj hap (fun cs b=>hsel i oi cs b hi) (fun cs b=>hsel j oj cs b hoj) (fun c a w=>hQ c a _ _ w) hy h1
   have hfree' : ∀ k ok,ops[k]?=some ok→k≠i→(listed.setIfInBounds j true).getD k true=false→ancB ops bs i k=false→oi.apart ops ok=true:=fun k ok hk hki hun hno=>by
    refine hfree k ok hk hki ?_ hno
    by_cases hjk:j=k
    ·subst hjk;exact hjun
    ·rw [getD_set_ne true hjk] at hun;exact hun
   refine wpOp_mono (fun a' w' h3=>⟨h3.2.1,ih (listed.setIfInBounds j true) a' w' (hcl.add hok hj) hfree' (ready_mono hr (Ne.symm hji)) h3.1 ?_⟩) h2
   rw [Array.setIfInBounds_comm _ _ hji]
   exact h3.2.2

/-! #### the walk in the fixed order: 'flo': operations that only read; 'ext': one that may make new memory; 'one': one that is alone; 'both': either of two comes up -/
/-- b: the world of which the facts at hand speak; what is at hand has grown out of it -/
def ordWalkU (S:Nat→Prop) (P:Program) (ops:Array Oper) (Q:Exit→Act→World→Prop):Plan→World→Act→World→Prop
 | .fin,_,a,w=>Q .normal a w
 | .flo l r,b,a,w=>wpQuiet P ops (fun w' => ∃ y:Yt S b,w'=y.W) (fun a'=>ordWalkU S P ops Q r b a' w) (pickOps ops l) a
 | .pur l r,b,a,w=>wpQuiet P ops (fun _=>True) (fun a'=>ordWalkU S P ops Q r b a' w) (pickOps ops l) a
 | .ext i r,b,a,w=>wpList P ops (Exit.then (fun a' w'=>Upd S w w'∧ordWalkU S P ops Q r b a' w') Q) (pickOps ops [i]) a w
 | .one i r,_,a,w=>wpList P ops (Exit.then (fun a' w'=>ordWalkU S P ops Q r w' a' w') Q) (pickOps ops [i]) a w
 | .both i j r q,b,a,w=>wpList P ops (Exit.then (fun a' w'=>Upd S w w'∧ordWalkU S P ops Q r b a' w') Q) (pickOps ops [i]) a w∧wpList P ops (Exit.then (fun a' w'=>Upd S w w'∧ordWalkU S P ops Q q b a' w') Q) (pickOps ops [j]) a w

theorem quiet_yieldsU {o:Oper} {a:Act} {w:World} {K:Act→Prop} (ho:isFlo o.op=true) (h:o.quiet P a (fun w' => ∃ y:Yt S w,w'=y.W) K) :
  ∃ v,(∀ u,Upd S w u→(execOp a.eval o).run P u = .ok (.value v) u)∧K (a.put o.dst v):=by
 obtain ⟨v,h1,h2⟩:=h
 refine ⟨v,fun u hu=>?_,h2⟩
 have h3:=h1 u ⟨⟨u,hu⟩,rfl⟩
 unfold Oper.quietAt at h3
 cases hr:(execOp a.eval o).run P u with
 | ok n u' =>
  rw [hr] at h3
  obtain ⟨x,rfl⟩:=flo_value ho hr
  obtain ⟨e1,e2⟩:=h3
  rw [e1,e2]
 | halt x u'=>rw [hr] at h3;exact h3.elim

theorem X_of_ordU (hok:ancOkB ops bs=true) (hsel:Region.noSelect ops=true) (hQ : ∀ c a d v w,Q (.panic c) (a.put d v) w→Q (.panic c) a w) (es:List Nat) :
  ∀ (p:Plan) (b:World) (listed:Array Bool) (a:Act) (w:World) (fuel:Nat),Upd S b w→total p≤fuel→Closed ops bs listed→ordB ops bs es p listed=true→ordWalkU S P ops Q p b a w →
   wpXU S P ops Q (inX ops es) fuel listed a w:=by
 intro p
 induction p with
 | fin =>
  intro b listed a w fuel _ _ _ hB h
  exact wpX_doneU (by simpa [ordB] using hB) h fuel
 | flo l r ih =>
  induction l with
  | nil =>
   intro b listed a w fuel hx hf hc hB h
   refine ih b listed a w fuel hx (by simpa [total] using hf) hc (by simpa [ordB,flosB,listAll] using hB) ?_
   simpa [ordWalkU,pickOps,wpQuiet] using h
  | cons i l ihl =>
   intro b listed a w fuel hx hf hc hB h
   simp only [ordB,flosB,listAll,Bool.and_eq_true] at hB
   obtain ⟨⟨hi,hl⟩,hr⟩:=hB
   cases ho:ops[i]? with
   | none=>simp [floB,ho] at hi
   | some oi =>
    simp only [floB,ho,Bool.and_eq_true] at hi
    obtain ⟨⟨hflo,hrd⟩,hfr⟩:=hi
    have hrd':i∈Region.ready .any ops listed:=by simpa using hrd
    obtain ⟨fuel,rfl⟩ : ∃ f,fuel=f+1:=⟨fuel - 1,by simp [total] at hf;omega⟩
    have hfree : ∀ j oj,ops[j]?=some oj→j≠i→listed.getD j true=false→ancB ops bs i j=false→oi.apart ops oj=true∧inX ops es j=true:=by
     intro j oj hj hne hun hno
     have:=List.all_eq_true.1 hfr j (List.mem_range.2 (Array.getElem?_eq_some_iff.1 hj).1)
     simpa [hne,hun,hno,hj] using this
    have hp:pickOps ops (i :: l)=oi :: pickOps ops l:=by simp [pickOps,ho]
    simp only [ordWalkU,hp] at h
    unfold wpQuiet at h
    have go : ∀ v,YieldsIf P ops (Upd S w) oi v a→wpQuiet P ops (fun w' => ∃ y:Yt S b,w'=y.W) (fun a'=>ordWalkU S P ops Q r b a' w) (pickOps ops l) (a.put oi.dst v)→wpXU S P ops Q (inX ops es) (fuel+1) listed a w:=by
     intro v hy hk
     refine wpX_firstU hok ho (Region.noSelect_spec hsel) hQ fuel listed a w hc hfree hrd' hy ?_
     refine ihl b (listed.setIfInBounds i true) (a.put oi.dst v) w fuel hx (by simp [total] at hf ⊢;omega) (hc.add hok hrd') ?_ ?_
     ·simp only [ordB,Bool.and_eq_true];exact ⟨hl,hr⟩
     ·simpa only [ordWalkU] using hk
    split at h
    ·rename_i hw
     obtain ⟨v,hv,hk⟩:=quiet_yieldsU hflo h
     exact go v (.inl ⟨hw,fun u hu=>hv u (hx.trans hu)⟩) hk
    ·rename_i hw
     exact go undef (.inr ⟨by simpa using hw,rfl⟩) h
 | pur l r ih =>
  induction l with
  | nil =>
   intro b listed a w fuel hx hf hc hB h
   refine ih b listed a w fuel hx (by simpa [total] using hf) hc (by simpa [ordB,pursB,listAll] using hB) ?_
   simpa [ordWalkU,pickOps,wpQuiet] using h
  | cons i l ihl =>
   intro b listed a w fuel hx hf hc hB h
   simp only [ordB,pursB,listAll,Bool.and_eq_true] at hB
   obtain ⟨⟨hi,hl⟩,hr⟩:=hB
   cases ho:ops[i]? with
   | none=>simp [purB,ho] at hi
   | some oi =>
    simp only [purB,ho,Bool.and_eq_true] at hi
    obtain ⟨⟨hflo,hrd⟩,hfr⟩:=hi
    have hrd':i∈Region.ready .any ops listed:=by simpa using hrd
    obtain ⟨fuel,rfl⟩ : ∃ f,fuel=f+1:=⟨fuel - 1,by simp [total] at hf;omega⟩
    have hfree : ∀ j oj,ops[j]?=some oj→j≠i→listed.getD j true=false→ancB ops bs i j=false→oi.apart ops oj=true:=by
     intro j oj hj hne hun hno
     have:=List.all_eq_true.1 hfr j (List.mem_range.2 (Array.getElem?_eq_some_iff.1 hj).1)
     simpa [hne,hun,hno,hj] using this
    have hp:pickOps ops (i :: l)=oi :: pickOps ops l:=by simp [pickOps,ho]
    simp only [ordWalkU,hp] at h
    unfold wpQuiet at h
    have go : ∀ v,YieldsIf P ops (fun _=>True) oi v a→wpQuiet P ops (fun _=>True) (fun a'=>ordWalkU S P ops Q r b a' w) (pickOps ops l) (a.put oi.dst v)→wpXU S P ops Q (inX ops es) (fuel+1) listed a w:=by
     intro v hy hk
     refine wpX_first_pureU hok ho (Region.noSelect_spec hsel) hQ fuel listed a w hc hfree hrd' hy ?_
     refine ihl b (listed.setIfInBounds i true) (a.put oi.dst v) w fuel hx (by simp [total] at hf ⊢;omega) (hc.add hok hrd') ?_ ?_
     ·simp only [ordB,Bool.and_eq_true];exact ⟨hl,hr⟩
     ·simpa only [ordWalkU] using hk
    split at h
    ·rename_i hw
     obtain ⟨v,hv,hk⟩:=quiet_yields_pure hflo h
     exact go v (.inl ⟨hw,fun u _=>hv u⟩) hk
    ·rename_i hw
     exact go undef (.inr ⟨by simpa using hw,rfl⟩) h
 | ext i r ih =>
  intro b listed a w fuel hx hf hc hB h
  simp only [ordB,Bool.and_eq_true] at hB
  obtain ⟨hr,hr2⟩:=hB
  have hr':Region.ready .any ops listed=[i]:=by simpa using hr
  have hmem:i∈Region.ready .any ops listed:=by rw [hr'];simp
  obtain ⟨_,o,ho,_⟩:=mem_ready.1 hmem
  obtain ⟨fuel,rfl⟩ : ∃ f,fuel=f+1:=⟨fuel - 1,by simp [total] at hf;omega⟩
  refine ⟨fun h0=>(by rw [hr'] at h0;cases h0),fun j hj=>?_⟩
  rw [hr'] at hj
  obtain rfl:j=i:=by simpa using hj
  exact wpOp_mono (fun a' w' hh=>⟨fun _=>hh.1,ih b _ a' w' fuel (hx.trans hh.1) (by simp [total] at hf ⊢;omega) (hc.add hok hmem) hr2 hh.2⟩) (one_step ho h)
 | one i r ih =>
  intro b listed a w fuel hx hf hc hB h
  simp only [ordB,Bool.and_eq_true] at hB
  obtain ⟨⟨hr,hk⟩,hr2⟩:=hB
  have hr':Region.ready .any ops listed=[i]:=by simpa using hr
  have hmem:i∈Region.ready .any ops listed:=by rw [hr'];simp
  obtain ⟨_,o,ho,_⟩:=mem_ready.1 hmem
  obtain ⟨fuel,rfl⟩ : ∃ f,fuel=f+1:=⟨fuel - 1,by simp [total] at hf;omega⟩
  refine ⟨fun h0=>(by rw [hr'] at h0;cases h0),fun j hj=>?_⟩
  rw [hr'] at hj
  obtain rfl:j=i:=by simpa using hj
  have hnx:inX ops es j=false:=by simpa using hk
  exact wpOp_mono (fun a' w' hh=>⟨fun hX=>(by rw [hnx] at hX;cases hX),ih w' _ a' w' fuel (Upd.refl S w') (by simp [total] at hf ⊢;omega) (hc.add hok hmem) hr2 hh⟩) (one_step ho h)
 | both i j r q ihr ihq =>
  intro b listed a w fuel hx hf hc hB h
  simp only [ordB,Bool.and_eq_true] at hB
  obtain ⟨⟨hr,hr2⟩,hq2⟩:=hB
  have hr':Region.ready .any ops listed=[i,j]:=by simpa using hr
  obtain ⟨fuel,rfl⟩ : ∃ f,fuel=f+1:=⟨fuel - 1,by simp [total] at hf;omega⟩
  have mi:i∈Region.ready .any ops listed:=by rw [hr'];simp
  have mj:j∈Region.ready .any ops listed:=by rw [hr'];simp
  refine ⟨fun h0=>(by rw [hr'] at h0;cases h0),fun k hk=>?_⟩
  rw [hr'] at hk
  rcases List.mem_cons.1 hk with rfl | hk
  ·obtain ⟨_,o,ho,_⟩:=mem_ready.1 mi
   exact wpOp_mono (fun a' w' hh=>⟨fun _=>hh.1,ihr b _ a' w' fuel (hx.trans hh.1) (by simp [total] at hf ⊢;omega) (hc.add hok mi) hr2 hh.2⟩) (one_step ho h.1)
  ·obtain rfl:k=j:=by simpa using hk
   obtain ⟨_,o,ho,_⟩:=mem_ready.1 mj
   exact wpOp_mono (fun a' w' hh=>⟨fun _=>hh.1,ihq b _ a' w' fuel (hx.trans hh.1) (by simp [total] at hf ⊢;omega) (hc.add hok mj) hq2 hh.2⟩) (one_step ho h.2)

/-- A REGION THAT DRAWS ITS ORDER, WALKED IN ONE ORDER. 'bs': of each operation those that come ahead of it in every order, as bits. -/
theorem wp_region_ordU {id:Nat} {a:Act} {w:World} {l:List Oper} (bs:List Nat) (p:Plan) (hm:P.follows .mixedOrders=true)
  (hB:(ancOkB l.toArray bs.toArray&&Region.noSelect l.toArray&&ordB l.toArray bs.toArray (extIdx p) p (Array.replicate l.toArray.size false)&&decide (total p≤l.toArray.size))=true)
  (hQ : ∀ c a d v w,Q (.panic c) (a.put d v) w→Q (.panic c) a w)
  (h:ordWalkU S P l.toArray Q p w.drew a w.drew):(Code.region id l.toArray true).wp P Q a w:=by
 simp only [Bool.and_eq_true,decide_eq_true_eq] at hB
 obtain ⟨⟨⟨h1,h2⟩,h3⟩,h4⟩:=hB
 refine wp_region_any hm (wpAny_of_XU _ _ _ _ (X_of_ordU h1 h2 hQ _ p w.drew _ a w.drew _ (Upd.refl S _) h4 ?_ h3 h))
 intro j hj
 exfalso
 rcases Nat.lt_or_ge j l.toArray.size with h' | h'
 ·simp [Array.getD] at hj
 ·simp [Array.getD] at hj

/-- the steps of such a walk -/
def ordNextU (S:Nat→Prop) (P:Program) (ops:Array Oper) (Q:Exit→Act→World→Prop) (r:Plan) (b w:World) (a':Act) (w':World):Prop:=Upd S w w'∧ordWalkU S P ops Q r b a' w'
theorem ordNextU.mk {r:Plan} {b w w':World} {a:Act} (x:Upd S w w') (h:ordWalkU S P ops Q r b a w'):ordNextU S P ops Q r b w a w':=⟨x,h⟩
theorem ord_floU {l:List Nat} {r:Plan} {a:Act} {b w:World} {ol:List Oper} (hp:pickOps ops l=ol)
  (h:wpQuiet P ops (fun w' => ∃ y:Yt S b,w'=y.W) (fun a'=>ordWalkU S P ops Q r b a' w) ol a):ordWalkU S P ops Q (.flo l r) b a w:=by
 subst hp;exact h
theorem ord_extU {i:Nat} {r:Plan} {a:Act} {b w:World} {o:Oper} (hp:pickOps ops [i]=[o])
  (h : ∀ K:Act→World→Prop,(∀ a' w',ordNextU S P ops Q r b w a' w'→K a' w')→wpList P ops (Exit.then K Q) [o] a w):ordWalkU S P ops Q (.ext i r) b a w:=by
 show wpList P ops _ (pickOps ops [i]) a w
 rw [hp];exact h _ fun _ _ h=>h
theorem ord_oneU {i:Nat} {r:Plan} {a:Act} {b w:World} {o:Oper} (hp:pickOps ops [i]=[o])
  (h : ∀ K:Act→World→Prop,(∀ a' w',ordWalkU S P ops Q r w' a' w'→K a' w')→wpList P ops (Exit.then K Q) [o] a w):ordWalkU S P ops Q (.one i r) b a w:=by
 show wpList P ops _ (pickOps ops [i]) a w
 rw [hp];exact h _ fun _ _ h=>h
theorem ord_finU {a:Act} {b w:World} (h:Q .normal a w):ordWalkU S P ops Q .fin b a w:=h
end
open Go.RowKit
def insV (s:SV) (l:List UV) (X:List TV):Int × SV :=
 if flatV X=false then (110,s) else if l.any formV=true then (110,s) else if l.any (earlyV s.U X)=true then (111,s) else if leqV s.U X=false then (110,s)
 else (0,{ s with bs:=if UdS.sumV l=[] then s.bs else s.bs++[UdS.sumV l],U:=ofV X })
section
variable {w w1 w3:World} {R:Nat→Prop} {gs:Nat} {m:SpM}
theorem getB_app {l:List Bt} {i:Nat} (h:i<l.length) (b:Bt):getB (l++[b]) i=getB l i:=by
 unfold getB
 rw [List.getD_eq_getElem?_getD,List.getD_eq_getElem?_getD,List.getElem?_append_left h]
/-- the blocks of the list -/
abbrev LBlk (m:SpM) (k:Nat):Prop:=blk m.A m.c=some k
theorem SpR.own_ (h:SpR w R gs m) {k:Nat} (hk:LBlk m k):Own_ w k := .inr (.inl (h.b.ow.ty hk))
theorem SpR.not_gs (h:SpR w R gs m) : ¬ LBlk m gs:=fun e=>absurd ((h.b.ow.ty e).ne h.bk.ty) (by decide)
theorem Ty.ext {k:Nat} {e:TypeId} {w w':World} (h:Ty w k e) (x:Ext w w'):Ty w' k e:=by
 obtain ⟨cur,z,h⟩:=h
 have hlt:k<w.heap.size:=(Array.getElem?_eq_some_iff.1 h).1
 exact ⟨cur,z,(Below.block x k hlt).trans h⟩
theorem SpR.put_b (h:SpR w R gs m) (x:Ext w w1) {b:Bt} (hb:Bk w1 b.g 197 #[.slice b.A b.l.length b.c]) (hbg:w.heap.size≤b.g) (u:Uout w1 w.heap.size b.A b.c b.l) {A3:Option Addr} {c3:Nat}
  (o3:Own w3 0 195 1 A3 (m.bs.length+1) c3 (m.bs.map Bt.p++[b.p])) (g3:w1.grownBy w3 (blk m.A m.c)) (x3:(A3=m.A∧c3=m.c)∨(blk A3 c3=some w1.heap.size∧Ext w1 w3)) :
  SpR (w3.setCell ⟨gs,0,none⟩ (.slice A3 (m.bs.length+1) c3)) (Rg R w (w3.setCell ⟨gs,0,none⟩ (.slice A3 (m.bs.length+1) c3))) gs { m with A:=A3,c:=c3,bs:=m.bs++[b] }∧Upd R w (w3.setCell ⟨gs,0,none⟩ (.slice A3 (m.bs.length+1) c3)):=by
 have hz:(w3.setCell ⟨gs,0,none⟩ (.slice A3 (m.bs.length+1) c3)).heap.size=w3.heap.size:=by simp
 have hx:=x.size
 have h1:=h.ext x
 have u3:Upd (LBlk m) w1 w3:=(Upd.refl _ w1).grown g3 (fun k hk => .inl hk)
 have hS : ∀ k,k<w1.heap.size→LBlk m k→Own_ w1 k:=fun k _ hk=>h1.own_ hk
 have hR : ∀ k,R k→Rg R w (w3.setCell ⟨gs,0,none⟩ (.slice A3 (m.bs.length+1) c3)) k:=fun k hk => .inl hk
 have hnew : ∀ k,blk A3 c3=some k→blk m.A m.c=some k∨(w.heap.size≤k∧k<w3.heap.size):=fun k hk=>by
  rcases x3 with ⟨rfl,rfl⟩ | ⟨h2,_⟩
  ·exact .inl hk
  ·have h3:=(o3.lt k hk).2
   rw [h2] at hk;injection hk with hk;exact .inr ⟨by omega,h3⟩
 have bk3:Bk w3 gs 192 (headC m):=h1.bk.upd u3 h1.not_gs
 have b3:BtR w1 (Rg R w (w3.setCell ⟨gs,0,none⟩ (.slice A3 (m.bs.length+1) c3))) b:=⟨hb, .inr ⟨hbg,by rw [hz];exact Nat.lt_of_lt_of_le hb.lt u3.size⟩,u.mono (Nat.zero_le _),fun k hk => .inr ⟨(u.lt hk).1,by rw [hz];exact Nat.lt_of_lt_of_le (u.lt hk).2 u3.size⟩⟩
 have hlen:(m.bs++[b]).length=m.bs.length+1:=by simp
 have part:SpB w3 (Rg R w (w3.setCell ⟨gs,0,none⟩ (.slice A3 (m.bs.length+1) c3))) { m with A:=A3,c:=c3,bs:=m.bs++[b] }:=by
  refine ⟨?_,fun k hk=>?_,fun y hy=>?_,?_,fun p hp=>?_,(h1.b.sn.safe u3 hS).wide fun k _ hk=>hR k hk,(h1.b.up.safe u3 hS).wide fun k _ hk=>hR k hk⟩
  ·show Own w3 0 _ 1 A3 (m.bs++[b]).length c3 ((m.bs++[b]).map Bt.p)
   rw [hlen,List.map_append]
   exact o3
  ·rcases hnew k hk with q | q
   ·exact hR k (h.b.ro k q)
   ·exact .inr ⟨q.1,by rw [hz];exact q.2⟩
  ·rcases List.mem_append.1 hy with hy | hy
   ·exact ((h1.b.bt y hy).safe u3 hS).wide fun k _ hk=>hR k hk
   ·rw [List.mem_singleton.1 hy]
    exact b3.safe u3 hS
  ·show ((m.bs++[b]).map Bt.g).Nodup
   rw [List.map_append,List.nodup_append]
   refine ⟨h.b.nd,by simp,fun p hp q hq e=>?_⟩
   obtain ⟨y,hy,rfl⟩:=List.mem_map.1 hp
   have:=(h.b.bt y hy).bk.lt
   simp at hq
   omega
  ·have hu:=h1.b.un p hp
   have hg : ¬ LBlk m p.g:=fun e=>absurd ((h1.b.ow.ty e).ne hu.bk.ty) (by decide)
   refine ⟨?_,hR _ hu.rg,by rw [hlen];have:=hu.lt;omega⟩
   show Bk w3 p.g _ #[(getB (m.bs++[b]) p.i).p,(getB (m.bs++[b]) (p.i+1)).p, .int .i64 p.left]
   rw [getB_app (by have:=hu.lt;omega),getB_app hu.lt]
   exact hu.bk.upd u3 hg
 have hd:=bk3.set 0 (.slice A3 (m.bs.length+1) c3)
 refine ⟨⟨?_, .inl h.rg,part.head bk3 0 _⟩,(((Upd.ext x).trans (u3.mono fun k _ hk=>h.b.ro k hk))).setCell (.inl h.rg) _⟩
 show Bk _ gs _ #[.slice A3 (m.bs++[b]).length c3,unV m.un, .slice m.sA m.S.length m.sc, .slice m.uA m.U.length m.uc]
 rw [hlen]
 exact hd
end
open Go.RowKit
theorem insV_1 {s:SV} {l:List UV} {X:List TV} (h1:flatV X=false):insV s l X=(110,s):=by unfold insV;rw [if_pos h1]
theorem insV_2 {s:SV} {l:List UV} {X:List TV} (h1:flatV X=true) (h2:l.any formV=true):insV s l X=(110,s):=by unfold insV;rw [h1,if_neg (by decide),if_pos h2]
theorem insV_3 {s:SV} {l:List UV} {X:List TV} (h1:flatV X=true) (h2:l.any formV=false) (h3:l.any (earlyV s.U X)=true):insV s l X=(111,s):=by unfold insV;rw [h1,h2,if_neg (by decide),if_neg (by decide),if_pos h3]
theorem insV_4 {s:SV} {l:List UV} {X:List TV} (h1:flatV X=true) (h2:l.any formV=false) (h3:l.any (earlyV s.U X)=false) (h4:leqV s.U X=false):insV s l X=(110,s):=by unfold insV;rw [h1,h2,h3,if_neg (by decide),if_neg (by decide),if_neg (by decide),if_pos h4]
theorem insV_5 {s:SV} {l:List UV} {X:List TV} (h1:flatV X=true) (h2:l.any formV=false) (h3:l.any (earlyV s.U X)=false) (h4:leqV s.U X=true):insV s l X=(0,{ s with bs:=if UdS.sumV l=[] then s.bs else s.bs++[UdS.sumV l],U:=ofV X }):=by
 unfold insV;rw [h1,h2,h3,h4,if_neg (by decide),if_neg (by decide),if_neg (by decide),if_neg (by decide)]
theorem any_uv {L:List Ud} (p:UV→Bool):(L.any fun x=>p x.uv)=(L.map Ud.uv).any p:=by rw [List.any_map];rfl
theorem elem_bt:Elem Tryz.prog 189 195 1 8 (.pointer none):=⟨by kernel_rfl,by kernel_rfl,rfl,by decide⟩
/-- a step, and then another one -/
theorem SpCall.two {w w1 w2:World} {R:Nat→Prop} {gs:Nat} {m2:SpM} {q:Int × SV} {e:Ending} (u1:Upd R w w1) (s2:SpR w2 (Rg (Rg R w w1) w1 w2) gs m2) (u2:Upd (Rg R w w1) w1 w2) (he:e = .returned (.int .u16 q.1)) (hv:m2.v=q.2):SpCall w R gs q e w2 :=
 ⟨m2,he,s2.wide fun k _ hk=>Rg.step u1.size u2.size k hk,hv,upd_rg u1 u2⟩
set_option maxRecDepth 100000 in
set_option maxHeartbeats 4000000 in
theorem spIns_a {q:Int × SV} (gs:Nat) (m:SpM) (R:Nat→Prop) (AL:Option Addr) (cL n:Nat) (L:List Ud) (AX:Option Addr) (cX nX:Nat) (X:List Tm) (w:World) (hq:Hid (insV m.v (L.map Ud.uv) (X.map Tm.v)=q)) (HM:Hid (SpR w R gs m)) (hn:Hid (n=L.length)) (hL:Hid (Uin w AL cL L)) (h9:n≤1000000) (hin:Hid (∀ x∈L,InU x)) (hnX:Hid (nX=X.length)) (hX:Hid (∀ W,Upd R w W→Tin W AX cX X)) (hf:Hid (Few1 X)) (hb9:m.bs.length≤1000000) (G:Hid (Good w)) (HB1:Hid (flatV (X.map Tm.v)=false)) :
  Calls Tryz.prog 44 #[.pointer (some ⟨gs,0,none⟩), .slice AL n cL, .slice AX nX cX] w (SpCall w R gs q):=by
 rw [← hq.out,insV_1 HB1.out]
 clear hq
 obtain ⟨w2,hw2⟩ : ∃ w2,w2=(w.alloc (.cells #[.pointer (some ⟨gs,0,none⟩)] 76)).alloc (.cells #[.slice AX nX cX] 27):=⟨_,rfl⟩
 obtain ⟨g1,hg1⟩ : ∃ g1,g1=w.heap.size:=⟨_,rfl⟩
 obtain ⟨g2,hg2⟩ : ∃ g2,g2=w.heap.size+1:=⟨_,rfl⟩
 have X2:Hid (Ext w w2):=Lib.hid (by rw [hw2];exact ((Ext.refl _).alloc _).alloc _)
 have B1:Hid (Bk w2 g1 76 #[.pointer (some ⟨gs,0,none⟩)]):=Lib.hid (by rw [hw2,hg1];exact (Bk.new _ _ _).alloc _)
 have B2:Hid (Bk w2 g2 27 #[.slice AX nX cX]):=Lib.hid (by rw [hw2,hg2];exact Bk.at (by simp))
 have HXT:Hid (∀ W,Ext w W→Tin W AX cX X):=Lib.hid (fun W x=>hX.out W (Upd.ext x))
 obtain ⟨nU,hnU⟩ : ∃ k,k=m.U.length:=⟨_,rfl⟩
 have HNU:=Lib.hid hnU
 have HC:Hid (∀ W,Ext w W→W.cell? ⟨gs,3,none⟩=some (.slice m.uA nU m.uc)):=Lib.hid (fun W x=>by have:=(HM.out.bk.ext x).cell 3;rw [hnU];exact this)
 have HTU:Hid (Tin w m.uA m.uc m.U):=Lib.hid HM.out.b.up.t.tin
 have P1:Hid (UPred0 153 #[] (fun x=>formV x.uv) L w):=Lib.hid (fun W x hx y=>form1_any x W (Lib.hid ((hL.out.ls x hx).ext y)) (Lib.hid (hin.out x hx)) (G.out.ext y))
 have P2:Hid (UPred2 155 #[.pointer (some ⟨g1,0,none⟩), .pointer (some ⟨g2,0,none⟩)] (fun x=>earlyV (m.U.map Tm.v) (X.map Tm.v) x.uv) L w2):=Lib.hid (fun W x hx y=>early2_any x g1 g2 gs m.uA nU m.uc m.U AX nX cX X W (Lib.hid ((hL.out.ls x hx).ext (X2.out.trans y))) (Lib.hid (B1.out.ext y)) (Lib.hid (B2.out.ext y)) (Lib.hid (HC.out W (X2.out.trans y))) HNU (Lib.hid (HTU.out.ext (X2.out.trans y))) hnX (Lib.hid (HXT.out W (X2.out.trans y))))
 clear hnU
 have hw2s : ∀ y:Xt w2,y.W.cell? ⟨g2,0,none⟩=some (.slice AX nX cX):=fun y=>(B2.out.ext y.x).cell 0
 have m1:True:=trivial
 go_enter Tryz.func44,Tryz.ntmps44
 go_wp2_with (first
  | (go_at_call 156;have mk:=m1;clear m1 mk;refine (flat_any AX cX nX X _ HB1 hnX (Lib.hid (HXT.out _ (by rw [← hw2];exact X2.out)))).mono ?_;rintro r w3 ⟨rfl,x3⟩;have X3:Hid (Ext w2 w3):=Lib.hid (by rw [hw2];exact x3);clear x3;have m2:True:=trivial)
  | fail)
 go_ret
 exact SpCall.stay HM.out (X2.out.trans X3.out) rfl
set_option maxRecDepth 100000 in
set_option maxHeartbeats 4000000 in
theorem spIns_b {q:Int × SV} (gs:Nat) (m:SpM) (R:Nat→Prop) (AL:Option Addr) (cL n:Nat) (L:List Ud) (AX:Option Addr) (cX nX:Nat) (X:List Tm) (w:World) (hq:Hid (insV m.v (L.map Ud.uv) (X.map Tm.v)=q)) (HM:Hid (SpR w R gs m)) (hn:Hid (n=L.length)) (hL:Hid (Uin w AL cL L)) (h9:n≤1000000) (hin:Hid (∀ x∈L,InU x)) (hnX:Hid (nX=X.length)) (hX:Hid (∀ W,Upd R w W→Tin W AX cX X)) (hf:Hid (Few1 X)) (hb9:m.bs.length≤1000000) (G:Hid (Good w)) (HB1:Hid (flatV (X.map Tm.v)=true)) (HB2:Hid ((L.any fun x=>formV x.uv)=true)) :
  Calls Tryz.prog 44 #[.pointer (some ⟨gs,0,none⟩), .slice AL n cL, .slice AX nX cX] w (SpCall w R gs q):=by
 rw [← hq.out,insV_2 HB1.out (by rw [← any_uv];exact HB2.out)]
 clear hq
 obtain ⟨w2,hw2⟩ : ∃ w2,w2=(w.alloc (.cells #[.pointer (some ⟨gs,0,none⟩)] 76)).alloc (.cells #[.slice AX nX cX] 27):=⟨_,rfl⟩
 obtain ⟨g1,hg1⟩ : ∃ g1,g1=w.heap.size:=⟨_,rfl⟩
 obtain ⟨g2,hg2⟩ : ∃ g2,g2=w.heap.size+1:=⟨_,rfl⟩
 have X2:Hid (Ext w w2):=Lib.hid (by rw [hw2];exact ((Ext.refl _).alloc _).alloc _)
 have B1:Hid (Bk w2 g1 76 #[.pointer (some ⟨gs,0,none⟩)]):=Lib.hid (by rw [hw2,hg1];exact (Bk.new _ _ _).alloc _)
 have B2:Hid (Bk w2 g2 27 #[.slice AX nX cX]):=Lib.hid (by rw [hw2,hg2];exact Bk.at (by simp))
 have HXT:Hid (∀ W,Ext w W→Tin W AX cX X):=Lib.hid (fun W x=>hX.out W (Upd.ext x))
 obtain ⟨nU,hnU⟩ : ∃ k,k=m.U.length:=⟨_,rfl⟩
 have HNU:=Lib.hid hnU
 have HC:Hid (∀ W,Ext w W→W.cell? ⟨gs,3,none⟩=some (.slice m.uA nU m.uc)):=Lib.hid (fun W x=>by have:=(HM.out.bk.ext x).cell 3;rw [hnU];exact this)
 have HTU:Hid (Tin w m.uA m.uc m.U):=Lib.hid HM.out.b.up.t.tin
 have P1:Hid (UPred0 153 #[] (fun x=>formV x.uv) L w):=Lib.hid (fun W x hx y=>form1_any x W (Lib.hid ((hL.out.ls x hx).ext y)) (Lib.hid (hin.out x hx)) (G.out.ext y))
 have P2:Hid (UPred2 155 #[.pointer (some ⟨g1,0,none⟩), .pointer (some ⟨g2,0,none⟩)] (fun x=>earlyV (m.U.map Tm.v) (X.map Tm.v) x.uv) L w2):=Lib.hid (fun W x hx y=>early2_any x g1 g2 gs m.uA nU m.uc m.U AX nX cX X W (Lib.hid ((hL.out.ls x hx).ext (X2.out.trans y))) (Lib.hid (B1.out.ext y)) (Lib.hid (B2.out.ext y)) (Lib.hid (HC.out W (X2.out.trans y))) HNU (Lib.hid (HTU.out.ext (X2.out.trans y))) hnX (Lib.hid (HXT.out W (X2.out.trans y))))
 clear hnU
 have hw2s : ∀ y:Xt w2,y.W.cell? ⟨g2,0,none⟩=some (.slice AX nX cX):=fun y=>(B2.out.ext y.x).cell 0
 have m1:True:=trivial
 go_enter Tryz.func44,Tryz.ntmps44
 go_wp2_with (first
  | (go_at_call 156;have mk:=m1;clear m1 mk;refine (flat_any AX cX nX X _ HB1 hnX (Lib.hid (HXT.out _ (by rw [← hw2];exact X2.out)))).mono ?_;rintro r w3 ⟨rfl,x3⟩;have X3:Hid (Ext w2 w3):=Lib.hid (by rw [hw2];exact x3);clear x3;have m2:True:=trivial)
  | (go_at_call 157;have mk:=m2;clear m2 mk;refine (contains_uds0 _ 153 enters_form1 AL cL n L _ hn (Lib.hid (hL.out.ext (X2.out.trans X3.out))) (Lib.hid (fun W x hx y=>P1.out W x hx ((X2.out.trans X3.out).trans y)))).mono ?_;rw [HB2.out];rintro r w4 ⟨rfl,x4⟩;have X4:Hid (Ext w2 w4):=Lib.hid (X3.out.trans x4);clear x4;have m3:True:=trivial)
  | fail)
 go_ret
 exact SpCall.stay HM.out (X2.out.trans X4.out) rfl
set_option maxRecDepth 100000 in
set_option maxHeartbeats 4000000 in
theorem spIns_c {q:Int × SV} (gs:Nat) (m:SpM) (R:Nat→Prop) (AL:Option Addr) (cL n:Nat) (L:List Ud) (AX:Option Addr) (cX nX:Nat) (X:List Tm) (w:World) (hq:Hid (insV m.v (L.map Ud.uv) (X.map Tm.v)=q)) (HM:Hid (SpR w R gs m)) (hn:Hid (n=L.length)) (hL:Hid (Uin w AL cL L)) (h9:n≤1000000) (hin:Hid (∀ x∈L,InU x)) (hnX:Hid (nX=X.length)) (hX:Hid (∀ W,Upd R w W→Tin W AX cX X)) (hf:Hid (Few1 X)) (hb9:m.bs.length≤1000000) (G:Hid (Good w)) (HB1:Hid (flatV (X.map Tm.v)=true)) (HB2:Hid ((L.any fun x=>formV x.uv)=false)) (HB3:Hid ((L.any fun x=>earlyV (m.U.map Tm.v) (X.map Tm.v) x.uv)=true)) :
  Calls Tryz.prog 44 #[.pointer (some ⟨gs,0,none⟩), .slice AL n cL, .slice AX nX cX] w (SpCall w R gs q):=by
 rw [← hq.out,insV_3 HB1.out (by rw [← any_uv];exact HB2.out) (by rw [← any_uv];exact HB3.out)]
 clear hq
 obtain ⟨w2,hw2⟩ : ∃ w2,w2=(w.alloc (.cells #[.pointer (some ⟨gs,0,none⟩)] 76)).alloc (.cells #[.slice AX nX cX] 27):=⟨_,rfl⟩
 obtain ⟨g1,hg1⟩ : ∃ g1,g1=w.heap.size:=⟨_,rfl⟩
 obtain ⟨g2,hg2⟩ : ∃ g2,g2=w.heap.size+1:=⟨_,rfl⟩
 have X2:Hid (Ext w w2):=Lib.hid (by rw [hw2];exact ((Ext.refl _).alloc _).alloc _)
 have B1:Hid (Bk w2 g1 76 #[.pointer (some ⟨gs,0,none⟩)]):=Lib.hid (by rw [hw2,hg1];exact (Bk.new _ _ _).alloc _)
 have B2:Hid (Bk w2 g2 27 #[.slice AX nX cX]):=Lib.hid (by rw [hw2,hg2];exact Bk.at (by simp))
 have HXT:Hid (∀ W,Ext w W→Tin W AX cX X):=Lib.hid (fun W x=>hX.out W (Upd.ext x))
 obtain ⟨nU,hnU⟩ : ∃ k,k=m.U.length:=⟨_,rfl⟩
 have HNU:=Lib.hid hnU
 have HC:Hid (∀ W,Ext w W→W.cell? ⟨gs,3,none⟩=some (.slice m.uA nU m.uc)):=Lib.hid (fun W x=>by have:=(HM.out.bk.ext x).cell 3;rw [hnU];exact this)
 have HTU:Hid (Tin w m.uA m.uc m.U):=Lib.hid HM.out.b.up.t.tin
 have P1:Hid (UPred0 153 #[] (fun x=>formV x.uv) L w):=Lib.hid (fun W x hx y=>form1_any x W (Lib.hid ((hL.out.ls x hx).ext y)) (Lib.hid (hin.out x hx)) (G.out.ext y))
 have P2:Hid (UPred2 155 #[.pointer (some ⟨g1,0,none⟩), .pointer (some ⟨g2,0,none⟩)] (fun x=>earlyV (m.U.map Tm.v) (X.map Tm.v) x.uv) L w2):=Lib.hid (fun W x hx y=>early2_any x g1 g2 gs m.uA nU m.uc m.U AX nX cX X W (Lib.hid ((hL.out.ls x hx).ext (X2.out.trans y))) (Lib.hid (B1.out.ext y)) (Lib.hid (B2.out.ext y)) (Lib.hid (HC.out W (X2.out.trans y))) HNU (Lib.hid (HTU.out.ext (X2.out.trans y))) hnX (Lib.hid (HXT.out W (X2.out.trans y))))
 clear hnU
 have hw2s : ∀ y:Xt w2,y.W.cell? ⟨g2,0,none⟩=some (.slice AX nX cX):=fun y=>(B2.out.ext y.x).cell 0
 have m1:True:=trivial
 go_enter Tryz.func44,Tryz.ntmps44
 go_wp2_with (first
  | (go_at_call 156;have mk:=m1;clear m1 mk;refine (flat_any AX cX nX X _ HB1 hnX (Lib.hid (HXT.out _ (by rw [← hw2];exact X2.out)))).mono ?_;rintro r w3 ⟨rfl,x3⟩;have X3:Hid (Ext w2 w3):=Lib.hid (by rw [hw2];exact x3);clear x3;have m2:True:=trivial)
  | (go_at_call 157;have mk:=m2;clear m2 mk;refine (contains_uds0 _ 153 enters_form1 AL cL n L _ hn (Lib.hid (hL.out.ext (X2.out.trans X3.out))) (Lib.hid (fun W x hx y=>P1.out W x hx ((X2.out.trans X3.out).trans y)))).mono ?_;rw [HB2.out];rintro r w4 ⟨rfl,x4⟩;have X4:Hid (Ext w2 w4):=Lib.hid (X3.out.trans x4);clear x4;have m3:True:=trivial)
  | (go_at_call 157;have mk:=m3;clear m3 mk;refine (contains_uds2 _ 155 _ _ enters_early2 AL cL n L _ hn (Lib.hid (hL.out.ext (X2.out.trans X4.out))) (Lib.hid (fun W x hx y=>by have:=P2.out W x hx (X4.out.trans y);rw [hg1,hg2] at this;exact this))).mono ?_;rw [HB3.out];rintro r w5 ⟨rfl,x5⟩;have X5:Hid (Ext w2 w5):=Lib.hid (X4.out.trans x5);clear x5;have m4:True:=trivial)
  | fail)
 go_ret
 exact SpCall.stay HM.out (X2.out.trans X5.out) rfl
set_option maxRecDepth 100000 in
set_option maxHeartbeats 4000000 in
theorem spIns_d {q:Int × SV} (gs:Nat) (m:SpM) (R:Nat→Prop) (AL:Option Addr) (cL n:Nat) (L:List Ud) (AX:Option Addr) (cX nX:Nat) (X:List Tm) (w:World) (hq:Hid (insV m.v (L.map Ud.uv) (X.map Tm.v)=q)) (HM:Hid (SpR w R gs m)) (hn:Hid (n=L.length)) (hL:Hid (Uin w AL cL L)) (h9:n≤1000000) (hin:Hid (∀ x∈L,InU x)) (hnX:Hid (nX=X.length)) (hX:Hid (∀ W,Upd R w W→Tin W AX cX X)) (hf:Hid (Few1 X)) (hb9:m.bs.length≤1000000) (G:Hid (Good w)) (HB1:Hid (flatV (X.map Tm.v)=true)) (HB2:Hid ((L.any fun x=>formV x.uv)=false)) (HB3:Hid ((L.any fun x=>earlyV (m.U.map Tm.v) (X.map Tm.v) x.uv)=false)) (HB4:Hid (leqV (m.U.map Tm.v) (X.map Tm.v)=false)) :
  Calls Tryz.prog 44 #[.pointer (some ⟨gs,0,none⟩), .slice AL n cL, .slice AX nX cX] w (SpCall w R gs q):=by
 rw [← hq.out,insV_4 HB1.out (by rw [← any_uv];exact HB2.out) (by rw [← any_uv];exact HB3.out) HB4.out]
 clear hq
 obtain ⟨w2,hw2⟩ : ∃ w2,w2=(w.alloc (.cells #[.pointer (some ⟨gs,0,none⟩)] 76)).alloc (.cells #[.slice AX nX cX] 27):=⟨_,rfl⟩
 obtain ⟨g1,hg1⟩ : ∃ g1,g1=w.heap.size:=⟨_,rfl⟩
 obtain ⟨g2,hg2⟩ : ∃ g2,g2=w.heap.size+1:=⟨_,rfl⟩
 have X2:Hid (Ext w w2):=Lib.hid (by rw [hw2];exact ((Ext.refl _).alloc _).alloc _)
 have B1:Hid (Bk w2 g1 76 #[.pointer (some ⟨gs,0,none⟩)]):=Lib.hid (by rw [hw2,hg1];exact (Bk.new _ _ _).alloc _)
 have B2:Hid (Bk w2 g2 27 #[.slice AX nX cX]):=Lib.hid (by rw [hw2,hg2];exact Bk.at (by simp))
 have HXT:Hid (∀ W,Ext w W→Tin W AX cX X):=Lib.hid (fun W x=>hX.out W (Upd.ext x))
 obtain ⟨nU,hnU⟩ : ∃ k,k=m.U.length:=⟨_,rfl⟩
 have HNU:=Lib.hid hnU
 have HC:Hid (∀ W,Ext w W→W.cell? ⟨gs,3,none⟩=some (.slice m.uA nU m.uc)):=Lib.hid (fun W x=>by have:=(HM.out.bk.ext x).cell 3;rw [hnU];exact this)
 have HTU:Hid (Tin w m.uA m.uc m.U):=Lib.hid HM.out.b.up.t.tin
 have P1:Hid (UPred0 153 #[] (fun x=>formV x.uv) L w):=Lib.hid (fun W x hx y=>form1_any x W (Lib.hid ((hL.out.ls x hx).ext y)) (Lib.hid (hin.out x hx)) (G.out.ext y))
 have P2:Hid (UPred2 155 #[.pointer (some ⟨g1,0,none⟩), .pointer (some ⟨g2,0,none⟩)] (fun x=>earlyV (m.U.map Tm.v) (X.map Tm.v) x.uv) L w2):=Lib.hid (fun W x hx y=>early2_any x g1 g2 gs m.uA nU m.uc m.U AX nX cX X W (Lib.hid ((hL.out.ls x hx).ext (X2.out.trans y))) (Lib.hid (B1.out.ext y)) (Lib.hid (B2.out.ext y)) (Lib.hid (HC.out W (X2.out.trans y))) HNU (Lib.hid (HTU.out.ext (X2.out.trans y))) hnX (Lib.hid (HXT.out W (X2.out.trans y))))
 clear hnU
 have hw2s : ∀ y:Xt w2,y.W.cell? ⟨g2,0,none⟩=some (.slice AX nX cX):=fun y=>(B2.out.ext y.x).cell 0
 have m1:True:=trivial
 go_enter Tryz.func44,Tryz.ntmps44
 go_upto_region 7 with (first
  | (go_at_call 156;have mk:=m1;clear m1 mk;refine (flat_any AX cX nX X _ HB1 hnX (Lib.hid (HXT.out _ (by rw [← hw2];exact X2.out)))).mono ?_;rintro r w3 ⟨rfl,x3⟩;have X3:Hid (Ext w2 w3):=Lib.hid (by rw [hw2];exact x3);clear x3;have m2:True:=trivial)
  | (go_at_call 157;have mk:=m2;clear m2 mk;refine (contains_uds0 _ 153 enters_form1 AL cL n L _ hn (Lib.hid (hL.out.ext (X2.out.trans X3.out))) (Lib.hid (fun W x hx y=>P1.out W x hx ((X2.out.trans X3.out).trans y)))).mono ?_;rw [HB2.out];rintro r w4 ⟨rfl,x4⟩;have X4:Hid (Ext w2 w4):=Lib.hid (X3.out.trans x4);clear x4;have m3:True:=trivial)
  | (go_at_call 157;have mk:=m3;clear m3 mk;refine (contains_uds2 _ 155 _ _ enters_early2 AL cL n L _ hn (Lib.hid (hL.out.ext (X2.out.trans X4.out))) (Lib.hid (fun W x hx y=>by have:=P2.out W x hx (X4.out.trans y);rw [hg1,hg2] at this;exact this))).mono ?_;rw [HB3.out];rintro r w5 ⟨rfl,x5⟩;have X5:Hid (Ext w2 w5):=Lib.hid (X4.out.trans x5);clear x5;have m4:True:=trivial)
  | fail)
 rw [← hg2, ← hg1]
 have HG1:=Lib.hid hg1
 have HG2:=Lib.hid hg2
 clear hg1 hg2 hw2 hw2s
 have X6:Hid (Ext w2 w5.drew):=Lib.hid X5.out.drew
 have XD:Ext w5 w5.drew:=(Ext.refl w5).drew
 have Q0 : ∀ y:Xt w5.drew,y.W.cell? ⟨g1,0,none⟩=some (.pointer (some ⟨gs,0,none⟩)):=fun y=>(B1.out.ext (X6.out.trans y.x)).cell 0
 have Q1 : ∀ y:Xt w5.drew,y.W.cell? ⟨g2,0,none⟩=some (.slice AX nX cX):=fun y=>(B2.out.ext (X6.out.trans y.x)).cell 0
 have Q2 : ∀ y:Xt w5.drew,y.W.cell? ⟨gs,3,none⟩=some (.slice m.uA nU m.uc):=fun y=>HC.out _ ((X2.out.trans X6.out).trans y.x)
 refine wp_region_ord [0,1,3,7,0,31,63,127] (.flo [0,1,2,3,4] (.one 5 (.flo [6,7] (.fin)))) (by kernel_rfl) (by kernel_rfl) (by intro _ _ d _ _ h;cases d<;>exact h) ?_
 (refine ord_flo (pick_cons rfl (pick_cons rfl (pick_cons rfl (pick_cons rfl (pick_cons rfl pick_nil))))) ?_;(repeat (go_big_quiet_step (fail)));refine wpQuiet_nil ?_;show ordWalk _ _ _ _ _ _ _)
 refine ord_one (pick_cons rfl pick_nil) ?_;intro K_ hK_
 go_wp2_with (go_at_call 158;refine (chleq_any m.uA AX m.uc cX nU nX m.U X _ HNU hnX (Lib.hid (HTU.out.ext (X2.out.trans X6.out))) (Lib.hid (HXT.out _ (X2.out.trans X6.out)))).mono ?_;rw [HB4.out];rintro r w7 ⟨rfl,x7⟩;have X7:Hid (Ext w2 w7):=Lib.hid (X6.out.trans x7);clear x7)
 clear Q0 Q1 Q2 XD
 (refine ord_flo (pick_cons rfl (pick_cons rfl pick_nil)) ?_;(repeat (go_big_quiet_step (fail)));refine wpQuiet_nil ?_;show ordWalk _ _ _ _ _ _ _)
 refine ord_fin ?_
 go_wp2
 go_ret
 exact SpCall.stay HM.out (X2.out.trans X7.out) rfl
set_option maxRecDepth 100000 in
set_option maxHeartbeats 4000000 in
theorem spIns_e {q:Int × SV} (gs:Nat) (m:SpM) (R:Nat→Prop) (AL:Option Addr) (cL n:Nat) (L:List Ud) (AX:Option Addr) (cX nX:Nat) (X:List Tm) (w:World) (hq:Hid (insV m.v (L.map Ud.uv) (X.map Tm.v)=q)) (HM:Hid (SpR w R gs m)) (hn:Hid (n=L.length)) (hL:Hid (Uin w AL cL L)) (h9:n≤1000000) (hin:Hid (∀ x∈L,InU x)) (hnX:Hid (nX=X.length)) (hX:Hid (∀ W,Upd R w W→Tin W AX cX X)) (hf:Hid (Few1 X)) (hb9:m.bs.length≤1000000) (G:Hid (Good w)) (HB1:Hid (flatV (X.map Tm.v)=true)) (HB2:Hid ((L.any fun x=>formV x.uv)=false)) (HB3:Hid ((L.any fun x=>earlyV (m.U.map Tm.v) (X.map Tm.v) x.uv)=false)) (HB4:Hid (leqV (m.U.map Tm.v) (X.map Tm.v)=true)) (HB5:Hid (UdS.sumV (L.map Ud.uv)=[])) :
  Calls Tryz.prog 44 #[.pointer (some ⟨gs,0,none⟩), .slice AL n cL, .slice AX nX cX] w (SpCall w R gs q):=by
 have HQ:Hid (q=(0,{ m.v with bs:=if UdS.sumV (L.map Ud.uv)=[] then m.v.bs else m.v.bs++[UdS.sumV (L.map Ud.uv)],U:=ofV (X.map Tm.v) })):=Lib.hid (by rw [← hq.out,insV_5 HB1.out (by rw [← any_uv];exact HB2.out) (by rw [← any_uv];exact HB3.out) HB4.out])
 clear hq
 obtain ⟨w2,hw2⟩ : ∃ w2,w2=(w.alloc (.cells #[.pointer (some ⟨gs,0,none⟩)] 76)).alloc (.cells #[.slice AX nX cX] 27):=⟨_,rfl⟩
 obtain ⟨g1,hg1⟩ : ∃ g1,g1=w.heap.size:=⟨_,rfl⟩
 obtain ⟨g2,hg2⟩ : ∃ g2,g2=w.heap.size+1:=⟨_,rfl⟩
 have X2:Hid (Ext w w2):=Lib.hid (by rw [hw2];exact ((Ext.refl _).alloc _).alloc _)
 have B1:Hid (Bk w2 g1 76 #[.pointer (some ⟨gs,0,none⟩)]):=Lib.hid (by rw [hw2,hg1];exact (Bk.new _ _ _).alloc _)
 have B2:Hid (Bk w2 g2 27 #[.slice AX nX cX]):=Lib.hid (by rw [hw2,hg2];exact Bk.at (by simp))
 have HXT:Hid (∀ W,Ext w W→Tin W AX cX X):=Lib.hid (fun W x=>hX.out W (Upd.ext x))
 obtain ⟨nU,hnU⟩ : ∃ k,k=m.U.length:=⟨_,rfl⟩
 have HNU:=Lib.hid hnU
 have HC:Hid (∀ W,Ext w W→W.cell? ⟨gs,3,none⟩=some (.slice m.uA nU m.uc)):=Lib.hid (fun W x=>by have:=(HM.out.bk.ext x).cell 3;rw [hnU];exact this)
 have HTU:Hid (Tin w m.uA m.uc m.U):=Lib.hid HM.out.b.up.t.tin
 have P1:Hid (UPred0 153 #[] (fun x=>formV x.uv) L w):=Lib.hid (fun W x hx y=>form1_any x W (Lib.hid ((hL.out.ls x hx).ext y)) (Lib.hid (hin.out x hx)) (G.out.ext y))
 have P2:Hid (UPred2 155 #[.pointer (some ⟨g1,0,none⟩), .pointer (some ⟨g2,0,none⟩)] (fun x=>earlyV (m.U.map Tm.v) (X.map Tm.v) x.uv) L w2):=Lib.hid (fun W x hx y=>early2_any x g1 g2 gs m.uA nU m.uc m.U AX nX cX X W (Lib.hid ((hL.out.ls x hx).ext (X2.out.trans y))) (Lib.hid (B1.out.ext y)) (Lib.hid (B2.out.ext y)) (Lib.hid (HC.out W (X2.out.trans y))) HNU (Lib.hid (HTU.out.ext (X2.out.trans y))) hnX (Lib.hid (HXT.out W (X2.out.trans y))))
 clear hnU
 have hw2s : ∀ y:Xt w2,y.W.cell? ⟨g2,0,none⟩=some (.slice AX nX cX):=fun y=>(B2.out.ext y.x).cell 0
 have m1:True:=trivial
 go_enter Tryz.func44,Tryz.ntmps44
 go_upto_region 7 with (first
  | (go_at_call 156;have mk:=m1;clear m1 mk;refine (flat_any AX cX nX X _ HB1 hnX (Lib.hid (HXT.out _ (by rw [← hw2];exact X2.out)))).mono ?_;rintro r w3 ⟨rfl,x3⟩;have X3:Hid (Ext w2 w3):=Lib.hid (by rw [hw2];exact x3);clear x3;have m2:True:=trivial)
  | (go_at_call 157;have mk:=m2;clear m2 mk;refine (contains_uds0 _ 153 enters_form1 AL cL n L _ hn (Lib.hid (hL.out.ext (X2.out.trans X3.out))) (Lib.hid (fun W x hx y=>P1.out W x hx ((X2.out.trans X3.out).trans y)))).mono ?_;rw [HB2.out];rintro r w4 ⟨rfl,x4⟩;have X4:Hid (Ext w2 w4):=Lib.hid (X3.out.trans x4);clear x4;have m3:True:=trivial)
  | (go_at_call 157;have mk:=m3;clear m3 mk;refine (contains_uds2 _ 155 _ _ enters_early2 AL cL n L _ hn (Lib.hid (hL.out.ext (X2.out.trans X4.out))) (Lib.hid (fun W x hx y=>by have:=P2.out W x hx (X4.out.trans y);rw [hg1,hg2] at this;exact this))).mono ?_;rw [HB3.out];rintro r w5 ⟨rfl,x5⟩;have X5:Hid (Ext w2 w5):=Lib.hid (X4.out.trans x5);clear x5;have m4:True:=trivial)
  | fail)
 rw [← hg2, ← hg1]
 have HG1:=Lib.hid hg1
 have HG2:=Lib.hid hg2
 clear hg1 hg2 hw2 hw2s
 have X6:Hid (Ext w2 w5.drew):=Lib.hid X5.out.drew
 have XD:Ext w5 w5.drew:=(Ext.refl w5).drew
 have Q0 : ∀ y:Xt w5.drew,y.W.cell? ⟨g1,0,none⟩=some (.pointer (some ⟨gs,0,none⟩)):=fun y=>(B1.out.ext (X6.out.trans y.x)).cell 0
 have Q1 : ∀ y:Xt w5.drew,y.W.cell? ⟨g2,0,none⟩=some (.slice AX nX cX):=fun y=>(B2.out.ext (X6.out.trans y.x)).cell 0
 have Q2 : ∀ y:Xt w5.drew,y.W.cell? ⟨gs,3,none⟩=some (.slice m.uA nU m.uc):=fun y=>HC.out _ ((X2.out.trans X6.out).trans y.x)
 refine wp_region_ord [0,1,3,7,0,31,63,127] (.flo [0,1,2,3,4] (.one 5 (.flo [6,7] (.fin)))) (by kernel_rfl) (by kernel_rfl) (by intro _ _ d _ _ h;cases d<;>exact h) ?_
 (refine ord_flo (pick_cons rfl (pick_cons rfl (pick_cons rfl (pick_cons rfl (pick_cons rfl pick_nil))))) ?_;(repeat (go_big_quiet_step (fail)));refine wpQuiet_nil ?_;show ordWalk _ _ _ _ _ _ _)
 refine ord_one (pick_cons rfl pick_nil) ?_;intro K_ hK_
 go_wp2_with (go_at_call 158;refine (chleq_any m.uA AX m.uc cX nU nX m.U X _ HNU hnX (Lib.hid (HTU.out.ext (X2.out.trans X6.out))) (Lib.hid (HXT.out _ (X2.out.trans X6.out)))).mono ?_;rw [HB4.out];rintro r w7 ⟨rfl,x7⟩;have X7:Hid (Ext w2 w7):=Lib.hid (X6.out.trans x7);clear x7)
 clear Q0 Q1 Q2 XD
 (refine ord_flo (pick_cons rfl (pick_cons rfl pick_nil)) ?_;(repeat (go_big_quiet_step (fail)));refine wpQuiet_nil ?_;show ordWalk _ _ _ _ _ _ _)
 refine ord_fin ?_
 go_upto_region 12 with (first
  | (go_at_call 16;have mk:=m4;clear m4 mk;refine (UdS.dsum_any AL cL n L _ hn (Lib.hid (hL.out.ext (X2.out.trans X7.out))) h9 (Lib.hid (fun x hx=>(hin.out x hx).num)) (Lib.hid (fun x hx=>(hin.out x hx).lens))).mono ?_;rintro r w8 hres;obtain ⟨A8,m8,R8,rfl,hm8,hu8,hv8,hx8⟩:=hres;have HM8:=Lib.hid hm8;have HU8:=Lib.hid hu8;have HV8:=Lib.hid hv8;have X8:Hid (Ext w2 w8):=Lib.hid (X7.out.trans hx8);have XS8:=Lib.hid hx8;have hz8 : ¬ (0:Int)<(m8:Int):=(by have h:=congrArg List.length hv8;rw [List.length_map, ← hm8] at h;have h2:=HB5.out;rw [h2] at h;simp at h;omega);clear hm8 hu8 hv8 hx8)
  | fail)
 have HS8:Hid (SpR w8 R gs m):=Lib.hid (HM.out.ext (X2.out.trans X8.out))
 have XD:Ext w8 w8.drew:=(Ext.refl w8).drew
 have Q0 : ∀ y:Xt w8.drew,y.W.cell? ⟨g1,0,none⟩=some (.pointer (some ⟨gs,0,none⟩)):=fun y=>((B1.out.ext X8.out).ext (XD.trans y.x)).cell 0
 have Q1 : ∀ y:Xt w8.drew,y.W.cell? ⟨g2,0,none⟩=some (.slice AX nX cX):=fun y=>((B2.out.ext X8.out).ext (XD.trans y.x)).cell 0
 refine wp_region_ord [0,0,2,7,15,31] (.flo [0,1] (.ext 2 (.flo [3,4] (.one 5 (.fin))))) (by kernel_rfl) (by kernel_rfl) (by intro _ _ d _ _ h;cases d<;>exact h) ?_
 (refine ord_flo (pick_cons rfl (pick_cons rfl pick_nil)) ?_;(repeat (go_big_quiet_step (fail)));refine wpQuiet_nil ?_;show ordWalk _ _ _ _ _ _ _)
 refine ord_ext (pick_cons rfl pick_nil) ?_;intro K_ hK_
 go_wp2_with (go_at_call 137;refine (of_any AX cX nX X _ hnX (Lib.hid ((HXT.out _ (X2.out.trans X8.out)).ext XD)) (Lib.hid hf.out.2) (by rw [hnX.out];exact hf.out.1)).mono ?_;rintro r w13 hres;obtain ⟨A13,c13,n13,M13,rfl,hn13,hT13,hV13,hx13⟩:=hres;have HN13:=Lib.hid hn13;have HT13:=Lib.hid hT13;have HV13:=Lib.hid hV13;have X13:=Lib.hid hx13;clear hn13 hT13 hV13 hx13)
 refine ordNext.mk X13.out ?_
 have c3:=(HS8.out.bk.ext (XD.trans X13.out)).cell 3
 have f3:=(HS8.out.bk.ext (XD.trans X13.out)).free 3
 have hlt3:=(HS8.out.bk.ext (XD.trans X13.out)).lt
 have HP:=Lib.hid (HS8.out.put_u (XD.trans X13.out) HT13.out)
 rw [← HN13.out] at HP
 (refine ord_flo (pick_cons rfl (pick_cons rfl pick_nil)) ?_;(repeat (go_big_quiet_step (fail)));refine wpQuiet_nil ?_;show ordWalk _ _ _ _ _ _ _)
 refine ord_one (pick_cons rfl pick_nil) ?_;intro K_ hK_
 go_wp2
 refine ord_fin ?_
 go_wp2
 go_ret
 have hq:=HQ.out
 rw [if_pos HB5.out] at hq
 rw [hq]
 exact SpCall.two (Upd.ext (X2.out.trans X8.out)) (HP.out.1.wide fun k _ hk=>hk.imp .inl id) (HP.out.2.mono fun k _ hk => .inl hk) rfl (by show SpM.v _=_;rw [← HV13.out];rfl)
set_option maxRecDepth 100000 in
set_option maxHeartbeats 4000000 in
theorem spIns_f {q:Int × SV} (gs:Nat) (m:SpM) (R:Nat→Prop) (AL:Option Addr) (cL n:Nat) (L:List Ud) (AX:Option Addr) (cX nX:Nat) (X:List Tm) (w:World) (hq:Hid (insV m.v (L.map Ud.uv) (X.map Tm.v)=q)) (HM:Hid (SpR w R gs m)) (hn:Hid (n=L.length)) (hL:Hid (Uin w AL cL L)) (h9:n≤1000000) (hin:Hid (∀ x∈L,InU x)) (hnX:Hid (nX=X.length)) (hX:Hid (∀ W,Upd R w W→Tin W AX cX X)) (hf:Hid (Few1 X)) (hb9:m.bs.length≤1000000) (G:Hid (Good w)) (HB1:Hid (flatV (X.map Tm.v)=true)) (HB2:Hid ((L.any fun x=>formV x.uv)=false)) (HB3:Hid ((L.any fun x=>earlyV (m.U.map Tm.v) (X.map Tm.v) x.uv)=false)) (HB4:Hid (leqV (m.U.map Tm.v) (X.map Tm.v)=true)) (HB5:Hid (UdS.sumV (L.map Ud.uv)≠[])) :
  Calls Tryz.prog 44 #[.pointer (some ⟨gs,0,none⟩), .slice AL n cL, .slice AX nX cX] w (SpCall w R gs q):=by
 have HQ:Hid (q=(0,{ m.v with bs:=if UdS.sumV (L.map Ud.uv)=[] then m.v.bs else m.v.bs++[UdS.sumV (L.map Ud.uv)],U:=ofV (X.map Tm.v) })):=Lib.hid (by rw [← hq.out,insV_5 HB1.out (by rw [← any_uv];exact HB2.out) (by rw [← any_uv];exact HB3.out) HB4.out])
 clear hq
 obtain ⟨w2,hw2⟩ : ∃ w2,w2=(w.alloc (.cells #[.pointer (some ⟨gs,0,none⟩)] 76)).alloc (.cells #[.slice AX nX cX] 27):=⟨_,rfl⟩
 obtain ⟨g1,hg1⟩ : ∃ g1,g1=w.heap.size:=⟨_,rfl⟩
 obtain ⟨g2,hg2⟩ : ∃ g2,g2=w.heap.size+1:=⟨_,rfl⟩
 have X2:Hid (Ext w w2):=Lib.hid (by rw [hw2];exact ((Ext.refl _).alloc _).alloc _)
 have B1:Hid (Bk w2 g1 76 #[.pointer (some ⟨gs,0,none⟩)]):=Lib.hid (by rw [hw2,hg1];exact (Bk.new _ _ _).alloc _)
 have B2:Hid (Bk w2 g2 27 #[.slice AX nX cX]):=Lib.hid (by rw [hw2,hg2];exact Bk.at (by simp))
 have HXT:Hid (∀ W,Ext w W→Tin W AX cX X):=Lib.hid (fun W x=>hX.out W (Upd.ext x))
 obtain ⟨nU,hnU⟩ : ∃ k,k=m.U.length:=⟨_,rfl⟩
 have HNU:=Lib.hid hnU
 have HC:Hid (∀ W,Ext w W→W.cell? ⟨gs,3,none⟩=some (.slice m.uA nU m.uc)):=Lib.hid (fun W x=>by have:=(HM.out.bk.ext x).cell 3;rw [hnU];exact this)
 have HTU:Hid (Tin w m.uA m.uc m.U):=Lib.hid HM.out.b.up.t.tin
 have P1:Hid (UPred0 153 #[] (fun x=>formV x.uv) L w):=Lib.hid (fun W x hx y=>form1_any x W (Lib.hid ((hL.out.ls x hx).ext y)) (Lib.hid (hin.out x hx)) (G.out.ext y))
 have P2:Hid (UPred2 155 #[.pointer (some ⟨g1,0,none⟩), .pointer (some ⟨g2,0,none⟩)] (fun x=>earlyV (m.U.map Tm.v) (X.map Tm.v) x.uv) L w2):=Lib.hid (fun W x hx y=>early2_any x g1 g2 gs m.uA nU m.uc m.U AX nX cX X W (Lib.hid ((hL.out.ls x hx).ext (X2.out.trans y))) (Lib.hid (B1.out.ext y)) (Lib.hid (B2.out.ext y)) (Lib.hid (HC.out W (X2.out.trans y))) HNU (Lib.hid (HTU.out.ext (X2.out.trans y))) hnX (Lib.hid (HXT.out W (X2.out.trans y))))
 clear hnU
 have hw2s : ∀ y:Xt w2,y.W.cell? ⟨g2,0,none⟩=some (.slice AX nX cX):=fun y=>(B2.out.ext y.x).cell 0
 have m1:True:=trivial
 go_enter Tryz.func44,Tryz.ntmps44
 go_upto_region 7 with (first
  | (go_at_call 156;have mk:=m1;clear m1 mk;refine (flat_any AX cX nX X _ HB1 hnX (Lib.hid (HXT.out _ (by rw [← hw2];exact X2.out)))).mono ?_;rintro r w3 ⟨rfl,x3⟩;have X3:Hid (Ext w2 w3):=Lib.hid (by rw [hw2];exact x3);clear x3;have m2:True:=trivial)
  | (go_at_call 157;have mk:=m2;clear m2 mk;refine (contains_uds0 _ 153 enters_form1 AL cL n L _ hn (Lib.hid (hL.out.ext (X2.out.trans X3.out))) (Lib.hid (fun W x hx y=>P1.out W x hx ((X2.out.trans X3.out).trans y)))).mono ?_;rw [HB2.out];rintro r w4 ⟨rfl,x4⟩;have X4:Hid (Ext w2 w4):=Lib.hid (X3.out.trans x4);clear x4;have m3:True:=trivial)
  | (go_at_call 157;have mk:=m3;clear m3 mk;refine (contains_uds2 _ 155 _ _ enters_early2 AL cL n L _ hn (Lib.hid (hL.out.ext (X2.out.trans X4.out))) (Lib.hid (fun W x hx y=>by have:=P2.out W x hx (X4.out.trans y);rw [hg1,hg2] at this;exact this))).mono ?_;rw [HB3.out];rintro r w5 ⟨rfl,x5⟩;have X5:Hid (Ext w2 w5):=Lib.hid (X4.out.trans x5);clear x5;have m4:True:=trivial)
  | fail)
 rw [← hg2, ← hg1]
 have HG1:=Lib.hid hg1
 have HG2:=Lib.hid hg2
 clear hg1 hg2 hw2 hw2s
 have X6:Hid (Ext w2 w5.drew):=Lib.hid X5.out.drew
 have XD:Ext w5 w5.drew:=(Ext.refl w5).drew
 have Q0 : ∀ y:Xt w5.drew,y.W.cell? ⟨g1,0,none⟩=some (.pointer (some ⟨gs,0,none⟩)):=fun y=>(B1.out.ext (X6.out.trans y.x)).cell 0
 have Q1 : ∀ y:Xt w5.drew,y.W.cell? ⟨g2,0,none⟩=some (.slice AX nX cX):=fun y=>(B2.out.ext (X6.out.trans y.x)).cell 0
 have Q2 : ∀ y:Xt w5.drew,y.W.cell? ⟨gs,3,none⟩=some (.slice m.uA nU m.uc):=fun y=>HC.out _ ((X2.out.trans X6.out).trans y.x)
 refine wp_region_ord [0,1,3,7,0,31,63,127] (.flo [0,1,2,3,4] (.one 5 (.flo [6,7] (.fin)))) (by kernel_rfl) (by kernel_rfl) (by intro _ _ d _ _ h;cases d<;>exact h) ?_
 (refine ord_flo (pick_cons rfl (pick_cons rfl (pick_cons rfl (pick_cons rfl (pick_cons rfl pick_nil))))) ?_;(repeat (go_big_quiet_step (fail)));refine wpQuiet_nil ?_;show ordWalk _ _ _ _ _ _ _)
 refine ord_one (pick_cons rfl pick_nil) ?_;intro K_ hK_
 go_wp2_with (go_at_call 158;refine (chleq_any m.uA AX m.uc cX nU nX m.U X _ HNU hnX (Lib.hid (HTU.out.ext (X2.out.trans X6.out))) (Lib.hid (HXT.out _ (X2.out.trans X6.out)))).mono ?_;rw [HB4.out];rintro r w7 ⟨rfl,x7⟩;have X7:Hid (Ext w2 w7):=Lib.hid (X6.out.trans x7);clear x7)
 clear Q0 Q1 Q2 XD
 (refine ord_flo (pick_cons rfl (pick_cons rfl pick_nil)) ?_;(repeat (go_big_quiet_step (fail)));refine wpQuiet_nil ?_;show ordWalk _ _ _ _ _ _ _)
 refine ord_fin ?_
 go_upto_region 11 with (first
  | (go_at_call 16;have mk:=m4;clear m4 mk;refine (UdS.dsum_any AL cL n L _ hn (Lib.hid (hL.out.ext (X2.out.trans X7.out))) h9 (Lib.hid (fun x hx=>(hin.out x hx).num)) (Lib.hid (fun x hx=>(hin.out x hx).lens))).mono ?_;rintro r w8 hres;obtain ⟨A8,m8,R8,rfl,hm8,hu8,hv8,hx8⟩:=hres;have HM8:=Lib.hid hm8;have HU8:=Lib.hid hu8;have HV8:=Lib.hid hv8;have X8:Hid (Ext w2 w8):=Lib.hid (X7.out.trans hx8);have XS8:=Lib.hid hx8;have hz8:(0:Int)<(m8:Int):=(by have h:=congrArg List.length hv8;rw [List.length_map, ← hm8] at h;have h2:=HB5.out;have h3:=List.length_pos_iff.2 h2;omega);clear hm8 hu8 hv8 hx8)
  | fail)
 obtain ⟨nb,hnb⟩ : ∃ k,k=m.bs.length:=⟨_,rfl⟩
 have HNB:=Lib.hid hnb
 have HS8:Hid (SpR w8 R gs m):=Lib.hid (HM.out.ext (X2.out.trans X8.out))
 have hg1m : ¬ LBlk m g1:=fun e=>(by have h1:=(HM.out.b.ow.lt g1 e).2;rw [HG1.out] at h1;omega)
 have hgsm : ¬ LBlk m gs:=HM.out.not_gs
 have HL0:Hid (∀ W,Upd (LBlk m) w8 W→W.cell? ⟨gs,0,none⟩=some (.slice m.A nb m.c)):=Lib.hid (fun W u=>by have:=(HS8.out.bk.upd u hgsm).cell 0;rw [hnb];exact this)
 clear hnb
 have U0:Upd (LBlk m) w8 w8.drew:=Upd.ext (Ext.refl w8).drew
 have Q0 : ∀ y:Yt (LBlk m) w8.drew,y.W.cell? ⟨g1,0,none⟩=some (.pointer (some ⟨gs,0,none⟩)):=fun y=>((B1.out.ext X8.out).upd (U0.trans y.x) hg1m).cell 0
 have Q1 : ∀ y:Yt (LBlk m) w8.drew,y.W.cell? ⟨gs,0,none⟩=some (.slice m.A nb m.c):=fun y=>HL0.out y.W (U0.trans y.x)
 refine wp_region_ordU (S:=LBlk m) [0,0,2,6,14,0,32,96,224,510,1023,2047,4095] (.flo [0,1,2,3,4,5,6] (.ext 7 (.ext 8 (.ext 9 (.flo [10,11] (.one 12 (.fin))))))) (by kernel_rfl) (by kernel_rfl) (by intro _ _ d _ _ h;cases d<;>exact h) ?_
 (refine ord_floU (pick_cons rfl (pick_cons rfl (pick_cons rfl (pick_cons rfl (pick_cons rfl (pick_cons rfl (pick_cons rfl pick_nil))))))) ?_;(repeat (go_big_quiet_step (fail)));refine wpQuiet_nil ?_;show ordWalkU _ _ _ _ _ _ _ _)
 refine ord_extU (pick_cons rfl pick_nil) ?_;intro K_ hK_
 go_wp2
 refine ordNextU.mk (Upd.ext ((Ext.refl _).alloc _)) ?_
 refine ord_extU (pick_cons rfl pick_nil) ?_;intro K_ hK_
 go_wp2
 refine ordNextU.mk (Upd.ext ((Ext.refl _).alloc _)) ?_
 refine ord_extU (pick_cons rfl pick_nil) ?_;intro K_ hK_
 have XW:Hid (Ext w7 (((w8.alloc (.cells #[.slice A8 m8 m8] 197)).alloc (.cells #[.pointer (some ⟨w8.heap.size,0,none⟩)] 195)).drew)):=Lib.hid (((XS8.out.alloc _).alloc _).drew)
 have HS7:Hid (SpR w7 R gs m):=Lib.hid (HM.out.ext (X2.out.trans X7.out))
 have HOW:Hid (Own (((w8.alloc (.cells #[.slice A8 m8 m8] 197)).alloc (.cells #[.pointer (some ⟨w8.heap.size,0,none⟩)] 195)).drew) 0 195 1 m.A nb m.c (m.bs.map Bt.p)):=Lib.hid (by rw [HNB.out];exact HS7.out.b.ow.ext XW.out)
 have HBB:Hid (Bk (((w8.alloc (.cells #[.slice A8 m8 m8] 197)).alloc (.cells #[.pointer (some ⟨w8.heap.size,0,none⟩)] 195)).drew) w8.heap.size 197 #[.slice A8 R8.length m8]):=Lib.hid (by rw [← HM8.out];exact (Bk.new w8 _ _).alloc _)
 clear Q0 Q1
 go_wp2_with (at_builtin;refine wpList_append_two _ elem_bt 0 _ _ rfl rfl m.A nb m.c (m.bs.map Bt.p) rfl HOW.out (some ⟨w8.heap.size+1,0,none⟩) 1 1 [.pointer (some ⟨w8.heap.size,0,none⟩)] rfl (by have:=Sl.one (w8.alloc (.cells #[.slice A8 m8 m8] 197)) #[.pointer (some ⟨w8.heap.size,0,none⟩)] 195 1 rfl;simpa using this.drew) (by intro u hu;simp at hu;subst hu;rfl) (by have:=HNB.out;omega) (by decide) (Nat.zero_le _) ?_;intro A9 c9 w9 o9 g9 x9;have HO9:=Lib.hid o9;have HG9:=Lib.hid g9;have HX9:=Lib.hid x9;clear o9 g9 x9)
 go_simp
 have U9:Upd (LBlk m) (((w8.alloc (.cells #[.slice A8 m8 m8] 197)).alloc (.cells #[.pointer (some ⟨w8.heap.size,0,none⟩)] 195)).drew) w9:=(Upd.refl _ _).grown HG9.out (fun k hk => .inl hk)
 refine ordNextU.mk U9 ?_
 have bk9:Bk w9 gs 192 (headC m):=(HS7.out.bk.ext XW.out).upd U9 hgsm
 have k9:=bk9.cell 0
 have f9:=bk9.free 0
 have l9:=bk9.lt
 have HP:=Lib.hid (HS7.out.put_b XW.out (b:=⟨w8.heap.size,A8,m8,R8⟩) HBB.out (by exact XS8.out.size) (HU8.out.ext ((((Ext.refl w8).alloc _).alloc _).drew)) (by rw [← HNB.out];exact HO9.out) HG9.out HX9.out)
 have HU9:=Lib.hid ((Upd.ext (S:=fun k=>LBlk m k∨k=gs) XW.out).trans (U9.mono fun k _ hk => .inl hk))
 rw [← HNB.out] at HP
 clear bk9 U9 U0
 (refine ord_floU (pick_cons rfl (pick_cons rfl pick_nil)) ?_;(repeat (go_big_quiet_step (fail)));refine wpQuiet_nil ?_;show ordWalkU _ _ _ _ _ _ _ _)
 refine ord_oneU (pick_cons rfl pick_nil) ?_;intro K_ hK_
 go_wp2
 refine ord_finU ?_
 go_wp2
 obtain ⟨w11,hw11⟩ : ∃ w11,w11=w9.setCell ⟨gs,0,none⟩ (.slice A9 (nb+1) c9):=⟨_,rfl⟩
 rw [← hw11] at HP ⊢
 have HU11:Hid (Upd (fun k=>LBlk m k∨k=gs) w7 w11):=Lib.hid (by rw [hw11];exact HU9.out.setCell (p:=⟨gs,0,none⟩) (.inl (.inr rfl)) _)
 clear hw11
 have HUW:Hid (Upd R w w11):=Lib.hid ((Upd.ext (X2.out.trans X7.out)).trans HP.out.2)
 have HS11:Hid (SpR w11 (Rg R w w11) gs { m with A:=A9,c:=c9,bs:=m.bs++[⟨w8.heap.size,A8,m8,R8⟩] }):=Lib.hid (HP.out.1.wide fun k _ hk=>hk.imp id fun h=>⟨Nat.le_trans (X2.out.trans X7.out).size h.1,h.2⟩)
 have hg1g : ¬ (LBlk m g1∨g1=gs):=fun e=>e.elim hg1m (fun e=>by have:=HM.out.bk.lt;rw [← e,HG1.out] at this;omega)
 have hg2g : ¬ (LBlk m g2∨g2=gs):=fun e=>e.elim (fun e=>by have h1:=(HM.out.b.ow.lt g2 e).2;rw [HG2.out] at h1;omega) (fun e=>by have:=HM.out.bk.lt;rw [← e,HG2.out] at this;omega)
 have C1:Hid (Bk w11 g1 76 #[.pointer (some ⟨gs,0,none⟩)]):=Lib.hid ((B1.out.ext X7.out).upd HU11.out hg1g)
 have C2:Hid (Bk w11 g2 27 #[.slice AX nX cX]):=Lib.hid ((B2.out.ext X7.out).upd HU11.out hg2g)
 have CX:Hid (Tin w11 AX cX X):=Lib.hid (hX.out w11 HUW.out)
 clear HP hg1g hg2g hg1m
 have XD:Ext w11 w11.drew:=(Ext.refl w11).drew
 have Q0 : ∀ y:Xt w11.drew,y.W.cell? ⟨g1,0,none⟩=some (.pointer (some ⟨gs,0,none⟩)):=fun y=>(C1.out.ext (XD.trans y.x)).cell 0
 have Q1 : ∀ y:Xt w11.drew,y.W.cell? ⟨g2,0,none⟩=some (.slice AX nX cX):=fun y=>(C2.out.ext (XD.trans y.x)).cell 0
 refine wp_region_ord [0,0,2,7,15,31] (.flo [0,1] (.ext 2 (.flo [3,4] (.one 5 (.fin))))) (by kernel_rfl) (by kernel_rfl) (by intro _ _ d _ _ h;cases d<;>exact h) ?_
 (refine ord_flo (pick_cons rfl (pick_cons rfl pick_nil)) ?_;(repeat (go_big_quiet_step (fail)));refine wpQuiet_nil ?_;show ordWalk _ _ _ _ _ _ _)
 refine ord_ext (pick_cons rfl pick_nil) ?_;intro K_ hK_
 go_wp2_with (go_at_call 137;refine (of_any AX cX nX X _ hnX (Lib.hid (CX.out.ext XD)) (Lib.hid hf.out.2) (by rw [hnX.out];exact hf.out.1)).mono ?_;rintro r w13 hres;obtain ⟨A13,c13,n13,M13,rfl,hn13,hT13,hV13,hx13⟩:=hres;have HN13:=Lib.hid hn13;have HT13:=Lib.hid hT13;have HV13:=Lib.hid hV13;have X13:=Lib.hid hx13;clear hn13 hT13 hV13 hx13)
 refine ordNext.mk X13.out ?_
 have c3:=(HS11.out.bk.ext (XD.trans X13.out)).cell 3
 have f3:=(HS11.out.bk.ext (XD.trans X13.out)).free 3
 have hlt3:=(HS11.out.bk.ext (XD.trans X13.out)).lt
 have HP:=Lib.hid (HS11.out.put_u (XD.trans X13.out) HT13.out)
 rw [← HN13.out] at HP
 (refine ord_flo (pick_cons rfl (pick_cons rfl pick_nil)) ?_;(repeat (go_big_quiet_step (fail)));refine wpQuiet_nil ?_;show ordWalk _ _ _ _ _ _ _)
 refine ord_one (pick_cons rfl pick_nil) ?_;intro K_ hK_
 go_wp2
 refine ord_fin ?_
 go_wp2
 go_ret
 have hq:=HQ.out
 rw [if_neg HB5.out] at hq
 rw [hq]
 refine SpCall.two HUW.out HP.out.1 HP.out.2 rfl ?_
 show SpM.v _=_
 rw [← HV13.out, ← HV8.out]
 unfold SpM.v
 simp only [List.map_append]
 rfl
/-- INSERT -/
theorem spIns_any {q:Int × SV} (gs:Nat) (m:SpM) (R:Nat→Prop) (AL:Option Addr) (cL n:Nat) (L:List Ud) (AX:Option Addr) (cX nX:Nat) (X:List Tm) (w:World) (hq:Hid (insV m.v (L.map Ud.uv) (X.map Tm.v)=q)) (HM:Hid (SpR w R gs m)) (hn:Hid (n=L.length)) (hL:Hid (Uin w AL cL L)) (h9:n≤1000000) (hin:Hid (∀ x∈L,InU x)) (hnX:Hid (nX=X.length)) (hX:Hid (∀ W,Upd R w W→Tin W AX cX X)) (hf:Hid (Few1 X)) (hb9:m.bs.length≤1000000) (G:Hid (Good w)) :
  Calls Tryz.prog 44 #[.pointer (some ⟨gs,0,none⟩), .slice AL n cL, .slice AX nX cX] w (SpCall w R gs q):=by
 cases h1:flatV (X.map Tm.v) with
 | false=>exact spIns_a gs m R AL cL n L AX cX nX X w hq HM hn hL h9 hin hnX hX hf hb9 G (Lib.hid h1)
 | true =>
  cases h2:(L.any fun x=>formV x.uv) with
  | true=>exact spIns_b gs m R AL cL n L AX cX nX X w hq HM hn hL h9 hin hnX hX hf hb9 G (Lib.hid h1) (Lib.hid h2)
  | false =>
   cases h3:(L.any fun x=>earlyV (m.U.map Tm.v) (X.map Tm.v) x.uv) with
   | true=>exact spIns_c gs m R AL cL n L AX cX nX X w hq HM hn hL h9 hin hnX hX hf hb9 G (Lib.hid h1) (Lib.hid h2) (Lib.hid h3)
   | false =>
    cases h4:leqV (m.U.map Tm.v) (X.map Tm.v) with
    | false=>exact spIns_d gs m R AL cL n L AX cX nX X w hq HM hn hL h9 hin hnX hX hf hb9 G (Lib.hid h1) (Lib.hid h2) (Lib.hid h3) (Lib.hid h4)
    | true =>
     by_cases h5:UdS.sumV (L.map Ud.uv)=[]
     ·exact spIns_e gs m R AL cL n L AX cX nX X w hq HM hn hL h9 hin hnX hX hf hb9 G (Lib.hid h1) (Lib.hid h2) (Lib.hid h3) (Lib.hid h4) (Lib.hid h5)
     ·exact spIns_f gs m R AL cL n L AX cX nX X w hq HM hn hL h9 hin hnX hX hf hb9 G (Lib.hid h1) (Lib.hid h2) (Lib.hid h3) (Lib.hid h4) (Lib.hid h5)
open Go.RowKit
theorem nodup_ne {l:List Bt} {i k:Nat} (nd:(l.map Bt.g).Nodup) (hi:i<l.length) (hk:k<l.length) (h:i≠k):(getB l i).g≠(getB l k).g:=by
 unfold getB
 rw [List.getD_eq_getElem?_getD,List.getD_eq_getElem?_getD,List.getElem?_eq_getElem hi,List.getElem?_eq_getElem hk]
 have hp:=List.pairwise_iff_getElem.1 nd
 rcases Nat.lt_or_gt_of_ne h with q | q
 ·have:=hp i k (by simpa using hi) (by simpa using hk) q
  simpa using this
 ·have:=hp k i (by simpa using hk) (by simpa using hi) q
  simpa using this.symm
theorem info_batch : ∃ j,Tryz.prog.info? 197=some j∧j.size≠0:=by
 have h:(Tryz.prog.info? 197).map (·.size)=some 1:=by kernel_rfl
 cases hj:Tryz.prog.info? 197 with
 | none=>rw [hj] at h;cases h
 | some j =>
  rw [hj] at h
  injection h with h
  exact ⟨j,rfl,by rw [show j.size=1 from h];decide⟩
theorem sl_b {w:World} {A:Option Addr} {n c:Nat} {l:List Bt} (h:Sl w 1 A n c (l.map Bt.p)) {i:Nat} (hi:i<l.length) : ∃ ad,A=some ad∧w.cell? (ad.add i)=some (getB l i).p:=by
 have hl:=h.1
 rw [List.length_map] at hl
 obtain ⟨ad,h1,h2⟩:=h.2.2.2.2 (by omega)
 exact ⟨ad,h1,h2 i _ (getB_p hi)⟩
set_option maxRecDepth 100000 in
set_option maxHeartbeats 1000000 in
theorem indexB_any (A:Option Addr) (c n:Nat) (l:List Bt) (k gk:Nat) (w:World) (hgk:Hid ((getB l k).g=gk)) (hn:Hid (n=l.length)) (hk:Hid (k<l.length)) (nd:Hid ((l.map Bt.g).Nodup)) (h:Hid (Sl w 1 A n c (l.map Bt.p))) (hb:Hid (∀ b∈l, ∃ cs,Bk w b.g 197 cs)) :
  Calls Tryz.prog 214 #[.slice A n c, .pointer (some ⟨gk,0,none⟩)] w fun e w'=>e = .returned (.int .i64 k)∧w=w':=by
 have hbig:n≤9223372036854775807:=h.out.le
 go_enter Tryz.func214,Tryz.ntmps214
 go_wp2
 go_loopg [8] n (fun z u wr => ∃ i:Nat,z=n - i∧i≤k∧u = .int .i64 i∧w=wr)
 case atStart=>exact ⟨0,rfl,Nat.zero_le _,rfl,rfl⟩
 case round =>
  obtain ⟨i,rfl,hi,rfl,rfl⟩:=hrel
  have hil:i<l.length:=by have:=hk.out;omega
  have hin:i<n:=by rw [hn.out];exact hil
  obtain ⟨ad,rfl,p0⟩:=sl_b h.out hil
  by_cases hik:i=k
  ·subst hik
   rw [show (getB l i).p = .pointer (some ⟨gk,0,none⟩) by rw [← hgk.out]] at p0
   obtain ⟨jj,hj1,_⟩:=info_batch
   have e0:(binOp .eql 195 (.pointer (some ⟨gk,0,none⟩)) (.pointer (some ⟨gk,0,none⟩))).run Tryz.prog w = .ok (.bool true) w:=run_eql_ptr_same w _ Tryz.underlying195 hj1
   go_wp2
   go_ret
   exact ⟨rfl,rfl⟩
  ·have hne:(getB l i).g≠gk:=by rw [← hgk.out];exact nodup_ne nd.out hil hk.out hik
   obtain ⟨gi,hgi⟩ : ∃ gi,(getB l i).g=gi:=⟨_,rfl⟩
   rw [show (getB l i).p = .pointer (some ⟨gi,0,none⟩) by rw [← hgi]] at p0
   rw [hgi] at hne
   obtain ⟨jj,hj1,hj2⟩:=info_batch
   obtain ⟨ca,hca⟩:=hb.out _ (getB_mem hk.out)
   obtain ⟨cb,hcb⟩:=hb.out _ (getB_mem hil)
   rw [hgk.out] at hca
   rw [hgi] at hcb
   have e0:(binOp .eql 195 (.pointer (some ⟨gk,0,none⟩)) (.pointer (some ⟨gi,0,none⟩))).run Tryz.prog w = .ok (.bool false) w:=run_eql_ptr_other w (a:=⟨gk,0,none⟩) (b:=⟨gi,0,none⟩) Tryz.underlying195 hj1 hj2 (fun e=>hne (congrArg Addr.block e).symm) hca hcb
   clear hgi hil hca hcb hne
   go_wp2
   go_roundg (n - (i+1))
   case measure=>omega
   case rel=>exact ⟨i+1,rfl,by omega,by go_num,rfl⟩
theorem own_past {w:World} {B s n c g:Nat} {e:TypeId} {xs:List Value} (h:Own w B e s (some ⟨g,0,none⟩) n c xs) (hc:0<c) {t:Nat} (ht:t<c * s):(w.cell? ⟨g,t,none⟩).isSome=true∧w.frozen? ⟨g,t,none⟩=false:=by
 rcases h.2 with ⟨h1,_⟩ | ⟨g',cur,e,hb,hg,hnc,hcm,hcs,htake⟩
 ·omega
 ·cases e
  refine ⟨?_,by simp [World.frozen?,hg]⟩
  rw [cell_of_row w g t cur _ (0,0) hg,Array.getElem?_eq_getElem (Nat.lt_of_lt_of_le ht hcs)]
  rfl
theorem own_sets1 {B g n c:Nat} {e:TypeId} {s:Nat} {xs:List Value} : ∀ (vs:List Value) (w:World) (k:Nat),Own w B e s (some ⟨g,0,none⟩) n c xs→xs.length≤k→Own (w.setCells g k vs) B e s (some ⟨g,0,none⟩) n c xs
 | [],_,_,h,_=>h
 | v :: vs,w,k,h,hk=>own_sets1 vs _ (k+1) (by have:=h.put k v;rwa [List.set_eq_of_length_le hk] at this) (by omega)
theorem zero_bt (w:World):(zeroValue 195).run Tryz.prog w = .ok (.pointer none) w:=Tryz.zeroValue195 w
theorem clear_past {w:World} {B k m c g:Nat} {xs:List Value} (h:Own w B 195 1 (some ⟨g,0,none⟩) k c xs) (hk:k<m) (hm:m≤c) :
  ∃ vs, ∀ ty,(Builtin.clear_ #[189] ty #[.slice (some ⟨g,k,none⟩) (m - k) (c - k)]).run Tryz.prog w = .ok (.tuple #[]) (w.setCells g k vs) :=
 ⟨_,fun ty=>Lib.run_clear_slice (P:=Tryz.prog) w 189 195 ty (.pointer none) Tryz.underlying189 zero_bt rfl rfl g k (m - k) (c - k) (by omega) (fun t ht=>(own_past h (by omega) (by omega)).1) (fun t ht=>(own_past h (by omega) (by omega)).2)⟩
set_option maxRecDepth 100000 in
set_option maxHeartbeats 2000000 in
theorem delB_any (g c n i j:Nat) (xs:List Value) (w:World) (h:Hid (Own w 0 195 1 (some ⟨g,0,none⟩) n c xs)) (h1:Hid (∀ u∈xs,u.oneCell'=true)) (hij:i<j) (hj:j≤n) :
  Calls Tryz.prog 216 #[.slice (some ⟨g,0,none⟩) n c, .int .i64 i, .int .i64 j] w fun e w'=>e = .returned (.slice (some ⟨g,0,none⟩) (i+(n - j)) c)∧Own w' 0 195 1 (some ⟨g,0,none⟩) (i+(n - j)) c (xs.take i++xs.drop j)∧w.grownBy w' (some g):=by
 have hle:=h.out.le
 have hbig:n≤9223372036854775807:=by omega
 have hnc:=hle.1
 clear hle
 go_enter Tryz.func216,Tryz.ntmps216
 have hjc:j≤c:=by omega
 have hic:i≤c:=by omega
 have hin:i≤n:=by omega
 have HT:Hid (Own w.drew 0 195 1 (some ⟨g,0,none⟩) i c (xs.take i)):=Lib.hid (by
  have:=h.out.drew
  obtain ⟨q1,q2⟩:=this
  refine ⟨by rw [List.length_take,q1];omega,?_⟩
  rcases q2 with ⟨q3,q4⟩ | ⟨g',cur,e,hb,hg,hnc,hcm,hcs,ht⟩
  ·omega
  ·refine .inr ⟨g',cur,e,hb,hg,hic,hcm,hcs,?_⟩
   rw [← ht,List.take_take]
   congr 1
   omega)
 have HS:Hid (Sl w.drew 1 (if c=j then some ⟨g,0,none⟩ else some ⟨g,j,none⟩) (n - j) (c - j) (xs.drop j)):=Lib.hid (by
  have:=h.out.drew.sl.drop (k:=j) hj
  rw [Nat.mul_one] at this
  by_cases hcj:c=j
  ·rw [if_pos hcj] at this ⊢;exact this
  ·rw [if_neg hcj] at this ⊢
   have e:(Option.map (·.add j) (some (⟨g,0,none⟩:Addr)))=some ⟨g,j,none⟩:=by
    show some ((⟨g,0,none⟩:Addr).add j)=_
    unfold Addr.add
    split<;>simp_all
   rw [e] at this
   exact this)
 obtain ⟨k,hk⟩ : ∃ k,i+(n - j)=k:=⟨_,rfl⟩
 have hkn:k<n:=by omega
 have hkc : ¬ c=k:=by omega
 have hkz:(k:Int)≤(n:Int):=by omega
 have hn2:n - k≤c - k:=by omega
 rw [hk]
 by_cases hcj:c=j
 ·have e1:n=c:=by omega
  have e2:j=n:=by omega
  rw [if_pos hcj] at HS
  clear hcj
  subst e1
  subst e2
  go_upto_region 5 with fail
  refine wp_region_ord [0,0,3,0,0,24,63,127] (.flo [0,1,2,3,4,5] (.one 6 (.flo [7] (.fin)))) (by kernel_rfl) (by kernel_rfl) (by intro _ _ d _ _ h;cases d<;>exact h) ?_
  (refine ord_flo (pick_cons rfl (pick_cons rfl (pick_cons rfl (pick_cons rfl (pick_cons rfl (pick_cons rfl pick_nil)))))) ?_;(repeat (go_big_quiet_step (fail)));refine wpQuiet_nil ?_;show ordWalk _ _ _ _ _ _ _)
  refine ord_one (pick_cons rfl pick_nil) ?_;intro K_ hK_
  go_wp2_with (at_builtin;refine wpList_append_fit _ elem_bt 0 _ _ rfl rfl g i j (xs.take i) rfl HT.out (by omega) _ (j - j) (j - j) (xs.drop j) (by simp [Act.eval,Act.put]) HS.out (fun u hu=>h1.out u (List.mem_of_mem_drop hu)) (by omega) ?_;intro w1 o1 g1;rw [hk] at o1 ⊢;have HO1:=Lib.hid o1;have HG1:=Lib.hid g1;clear o1 g1)
  go_simp
  (refine ord_flo (pick_cons rfl pick_nil) ?_;(repeat (go_big_quiet_step (fail)));refine wpQuiet_nil ?_;show ordWalk _ _ _ _ _ _ _)
  refine ord_fin ?_
  obtain ⟨vs,hcl⟩:=clear_past HO1.out (m:=j) hkn hnc
  go_wp2
  go_ret
  exact ⟨rfl,own_sets1 vs w1 _ HO1.out (by have:=HO1.out.1;omega),((upd_ext (Ext.refl w).drew g).trans HG1.out).trans (upd_sets g vs w1 _)⟩
 ·rw [if_neg hcj] at HS
  go_upto_region 5 with fail
  refine wp_region_ord [0,0,3,0,0,24,63,127] (.flo [0,1,2,3,4,5] (.one 6 (.flo [7] (.fin)))) (by kernel_rfl) (by kernel_rfl) (by intro _ _ d _ _ h;cases d<;>exact h) ?_
  (refine ord_flo (pick_cons rfl (pick_cons rfl (pick_cons rfl (pick_cons rfl (pick_cons rfl (pick_cons rfl pick_nil)))))) ?_;(repeat (go_big_quiet_step (fail)));refine wpQuiet_nil ?_;show ordWalk _ _ _ _ _ _ _)
  refine ord_one (pick_cons rfl pick_nil) ?_;intro K_ hK_
  go_wp2_with (at_builtin;refine wpList_append_fit _ elem_bt 0 _ _ rfl rfl g i c (xs.take i) rfl HT.out (by omega) _ (n - j) (c - j) (xs.drop j) (by simp [Act.eval,Act.put]) HS.out (fun u hu=>h1.out u (List.mem_of_mem_drop hu)) (by omega) ?_;intro w1 o1 g1;rw [hk] at o1 ⊢;have HO1:=Lib.hid o1;have HG1:=Lib.hid g1;clear o1 g1)
  go_simp
  (refine ord_flo (pick_cons rfl pick_nil) ?_;(repeat (go_big_quiet_step (fail)));refine wpQuiet_nil ?_;show ordWalk _ _ _ _ _ _ _)
  refine ord_fin ?_
  obtain ⟨vs,hcl⟩:=clear_past HO1.out (m:=n) hkn hnc
  go_wp2
  go_ret
  exact ⟨rfl,own_sets1 vs w1 _ HO1.out (by have:=HO1.out.1;omega),((upd_ext (Ext.refl w).drew g).trans HG1.out).trans (upd_sets g vs w1 _)⟩
open Go.RowKit
set_option maxRecDepth 100000 in
theorem run_append_zeros {P:Program} (w:World) (t u ty e:TypeId) (i:TypeInfo) (z:Value) (ht:P.underlying t=some (.slice e)) (hu:P.underlying u=some (.int .i64)) (hi:P.info? e=some i) (hz:i.zero=some z) (hs:0<i.size)
  (n:Nat) (h0:0<n) (h63:(n:Int)≤9223372036854775807) (h48:n * i.bytes≤281474976710656) :
  (Builtin.append_ #[t,u] ty #[.slice none 0 0, .int .i64 n]).run P w =
   .ok (.slice (some ⟨w.heap.size,0,none⟩) n (grownCap w n 0 e)) (w.drew.alloc (.cells (Builtin.zeroCells z.cells n++Builtin.zeroCells z.cells (grownCap w n 0 e - n)) e)):=by
 have hn:n≠0:=by omega
 have hw:IntKind.i64.wrap (n:Int)=n:=IntWalk.i64_in _ (by omega)
 have hneg : ¬ ((n:Int)<0):=by omega
 have h63' : ¬ (9223372036854775807<(n:Int)):=by omega
 have h48' : ¬ (281474976710656<Builtin.nextslicecap n 0 * i.bytes):=by rw [nextslicecap_zero h0];omega
 have h48z : ¬ (281474976710656<(n:Int) * (i.bytes:Int)):=by rw [← Int.natCast_mul];omega
 have hsz : ¬ (i.size=0):=by omega
 simp [Builtin.append_,asInt,asIntOf,run_underlying ht,run_underlying hu,sizeOf,typeInfo,zeroValue,hi,hz,hw,hneg,hn,h63',h48',h48z,hsz,Question.forced,run_firstCells_none,newRow,grownCap]
 intro h
 have:=Nat.mul_pos h0 hs
 omega
theorem run_grow {n:Nat} (w:World) (ty:TypeId) (h0:0<n) (h9:n≤1000000) : ∃ g c w',(Builtin.append_ #[22,3] ty #[.slice none 0 0, .int .i64 n]).run Tryz.prog w = .ok (.slice (some ⟨g,0,none⟩) n c) w'∧n≤c∧Own w' w.heap.size 95 4 (some ⟨g,0,none⟩) 0 c []∧Ext w w':=by
 obtain ⟨i,hi,hz,hs,hby⟩:=info_parts elem_ud.info
 have hr:=run_append_zeros (P:=Tryz.prog) w 22 3 ty 95 i _ elem_ud.under Tryz.underlying3 hi hz (by omega) n h0 (by omega) (by rw [hby];omega)
 have hge:=grownCap_ge w n 0 95
 have hcm:grownCap w n 0 95≤maxLen:=grownCap_le_maxLen w n 0 95 (by unfold maxLen;omega)
 refine ⟨w.heap.size,_,_,hr,hge,⟨rfl, .inr ⟨w.heap.size,_,rfl,Nat.le_refl _,heap_alloc_new w.drew _,Nat.zero_le _,hcm,?_,rfl⟩⟩,((Ext.refl w).drew).alloc _⟩
 refine Nat.le_of_eq (Eq.symm ?_)
 simp only [Array.size_append,size_zeroCells,elem_ud.zsize]
 rw [← Nat.add_mul,Nat.add_sub_cancel' hge]
theorem wpList_grow (w:World) {ops:Array Oper} {rest:List Oper} {o:Oper} {a:Act} {Q:Exit→Act→World→Prop} (s x:Operand)
  (ho:o.op = .call { callee := .builtin .append,args := #[s,x],argTypes := #[22,3] }) (hgd:o.guard=none) {n:Nat} (hs:a.eval s = .slice none 0 0) (hx:a.eval x = .int .i64 n) (h0:0<n) (h9:n≤1000000)
  (h : ∀ g c w',n≤c→Own w' w.heap.size 95 4 (some ⟨g,0,none⟩) 0 c []→Ext w w'→wpList Tryz.prog ops Q rest (a.put o.dst (.slice (some ⟨g,0,none⟩) n c)) w'):wpList Tryz.prog ops Q (o :: rest) a w :=
 wpList_plain hgd fun _ hK=>by
  obtain ⟨g,c,w',hrun,h1,h2,h3⟩:=run_grow (n:=n) w o.type h0 h9
  unfold Oper.wp execOp
  simp only [ho,resolve,invoke,builtin,Sem.run_bind,Sem.run_pure,Result.andThen_ok,List.map_toArray,List.map_cons,List.map_nil,hs,hx,hrun]
  exact hK _ _ (h g c w' h1 h2 h3)
/-- what Grow leaves -/
def GrowOut (w:World) (e:Ending) (w':World):Prop := ∃ A c,e = .returned (.slice A 0 c)∧Own w' w.heap.size 95 4 A 0 c []∧Ext w w'
set_option maxRecDepth 100000 in
set_option maxHeartbeats 1000000 in
theorem grow_any (n:Nat) (w:World) (h9:n≤1000000):Calls Tryz.prog 249 #[.slice none 0 0, .int .i64 n] w (GrowOut w):=by
 go_enter Tryz.func249,Tryz.ntmps249
 rcases Nat.eq_zero_or_pos n with h0 | h0
 ·subst h0
  go_wp2
  go_ret
  exact ⟨none,0,rfl,Own.nil _ _ _ _,Ext.refl w⟩
 ·have h0z:(0:Int)<(n:Int):=by omega
  have hneg : ¬ ((n:Int)<0):=by omega
  go_wp2_with (at_builtin;refine wpList_grow _ _ _ rfl rfl (n:=n) rfl rfl h0 h9 ?_;intro g c w1 hc o1 x1;have HO1:=Lib.hid o1;have HX1:=Lib.hid x1;clear o1 x1)
  go_ret
  exact ⟨_,_,rfl,HO1.out,HX1.out⟩
/-- what Concat leaves -/
def CatOut (w:World) (L:List Ud) (e:Ending) (w':World):Prop := ∃ A n c,e = .returned (.slice A n c)∧n=L.length∧Own w' w.heap.size 95 4 A n c (udsC L)∧Ext w w'
set_option maxRecDepth 100000 in
set_option maxHeartbeats 4000000 in
theorem concat_any (g n1 n2 c1 c2:Nat) (A1 A2:Option Addr) (L1 L2:List Ud) (w:World) (hb:Hid (Bk w g 22 #[.slice A1 n1 c1, .slice A2 n2 c2])) (h1:Hid (n1=L1.length)) (h2:Hid (n2=L2.length)) (s1:Hid (Sl w 4 A1 n1 c1 (udsC L1))) (s2:Hid (Sl w 4 A2 n2 c2 (udsC L2))) (h9:n1+n2≤1000000) :
  Calls Tryz.prog 215 #[.slice (some ⟨g,0,none⟩) 2 2] w (CatOut w (L1++L2)):=by
 have q0:w.cell? ⟨g,0,none⟩=some (.slice A1 n1 c1):=hb.out.cell 0
 have q1:w.cell? ⟨g,1,none⟩=some (.slice A2 n2 c2):=hb.out.cell 1
 have w1:IntKind.i64.wrap ((n1:Int)+(n2:Int))=((n1+n2:Nat):Int):=by rw [← Int.natCast_add];exact IntWalk.i64_in _ (by omega)
 have p1 : ¬ ((n1:Int)<0):=by omega
 have p2 : ¬ (((n1+n2:Nat):Int)<0):=by omega
 go_enter Tryz.func215,Tryz.ntmps215
 go_wp2
 refine wp_loop_rounds 3 ?_
 rw [rounds_succ]
 go_wp2
 rw [rounds_succ]
 go_wp2
 rw [rounds_succ]
 have m1:True:=trivial
 go_wp2_with (go_at_call 249;have mk:=m1;clear m1 mk;refine (grow_any (n1+n2) _ h9).mono ?_;rintro r w3 ⟨A3,c3,rfl,o3,x3⟩;have HO3:=Lib.hid o3;have X3:=Lib.hid x3;have q0:=x3.cell q0;have q1:=x3.cell q1;clear o3 x3)
 have m2:True:=trivial
 refine wp_loop_rounds 3 ?_
 rw [rounds_succ]
 go_wp2_with (at_builtin;have mk:=m2;clear m2 mk;refine wpList_append_two _ elem_ud w.heap.size _ _ rfl rfl A3 0 c3 [] rfl HO3.out A1 n1 c1 (udsC L1) rfl (s1.out.ext X3.out) (udsC_one _) (by omega) (by decide) X3.out.size ?_;intro A4 c4 w4 o4 g4 x4;rw [Nat.zero_add,List.nil_append] at o4;rw [Nat.zero_add];have HO4:=Lib.hid o4;have X4:=Lib.hid (X3.out.grown g4 (fun k hk=>(HO3.out.lt k hk).1));have q0:=X4.out.cell (hb.out.cell 0);have q1:=X4.out.cell (hb.out.cell 1);clear o4 g4 x4)
 have m3:True:=trivial
 rw [rounds_succ]
 go_wp2_with (at_builtin;have mk:=m3;clear m3 mk;refine wpList_append_two _ elem_ud w.heap.size _ _ rfl rfl A4 n1 c4 (udsC L1) rfl HO4.out A2 n2 c2 (udsC L2) rfl (s2.out.ext X4.out) (udsC_one _) (by omega) (by decide) X4.out.size ?_;intro A5 c5 w5 o5 g5 x5;have HO5:=Lib.hid o5;have X5:=Lib.hid (X4.out.grown g5 (fun k hk=>(HO4.out.lt k hk).1));clear o5 g5 x5)
 rw [rounds_succ]
 go_wp2
 go_ret
 exact ⟨_,_,_,rfl,by rw [List.length_append,h1.out,h2.out],by rw [udsC_append];exact HO5.out,X5.out⟩
end Go.Proofs.YtdgbkpoickbidaaGreatDoor
