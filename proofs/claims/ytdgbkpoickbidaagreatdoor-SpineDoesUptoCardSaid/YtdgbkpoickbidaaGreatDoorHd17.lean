/- Parts of the proof, put together. Conditions: each theorem states its own. -/
import Derived.Test.YtdgbkpoickbidaaGreatDoorHd16
set_option maxRecDepth 100000
set_option maxHeartbeats 8000000
open Go.RowKit
namespace Go.Proofs.YtdgbkpoickbidaaGreatDoor
theorem wL{w0 w:World}{K:Nat->Prop}{bs:List Rb}{R:List Ct}(bt:∀b∈bs,RbR w0 w K b)(p:∀y∈R,∃x∈Dx bs,y.A=x.A/\y.c=x.c/\y.l=x.l):∀y∈R,Rw w0 y.A y.c y.l:=fun y hy=>by
 obtain⟨x,hx,q1,q2,q3⟩:=p y hy;obtain⟨b,hb,hxb⟩:=DH.1 hx;rw[q1,q2,q3];exact((bt b hb).ls x hxb).r
def zE(w0 w:World)(q:Int×List (List Dat×Int))(e:Ending)(w':World):Prop:=∃A n c R,e=.returned (.tuple #[.slice A n c,.int .i64 q.1])/\n=R.length/\Own w' w.heap.size 154 2 A n c (Bg R)/\(∀y∈R,Rw w0 y.A y.c y.l)/\R.map Am=q.2/\Ext w w'
theorem lK{q:Int×List (List Dat×Int)}(w0:World)(gs:Nat)(m:RSM)(R:Nat->Prop)(e:Int)(A:Option Addr)(n c:Nat)(l:List Int)(w:World)(hq:Hid (atS m.v (e,l)=q))(HM:Hid (RSR w0 w R gs m))(ok:Hid (OkV m.v))(hn:Hid (n=l.length))(ht:Hid (Sl w 1 A n c (wds l))) :
  Calls Tryz.prog 62 #[.pointer (some ⟨gs,0,none⟩),.agg #[.int .u64 e,.slice A n c]] w (zE w0 w q):=by
 obtain⟨nS,hnS⟩:∃k,k=m.S.length:=⟨_,rfl⟩;obtain⟨nU,hnU⟩:∃k,k=m.U.length:=⟨_,rfl⟩;have HNS:=hid hnS;have HNU:=hid hnU;have HC:Hid (∀W,Ext w W->W.cell? ⟨gs,3,none⟩=some (.slice m.sA nS m.sc)/\W.cell? ⟨gs,4,none⟩=some (.slice m.uA nU m.uc)):=hid (fun W x=>⟨by have:=(HM.out.bk.ext x).cell 3;rw[hnS];exact this,by have:=(HM.out.bk.ext x).cell 4;rw[hnU];exact this⟩);have HTS:Hid (Tin w m.sA m.sc m.S):=hid (HM.out.b.sn.tin HM.out.b.ex);have HTU:Hid (Tin w m.uA m.uc m.U):=hid (HM.out.b.up.tin HM.out.b.ex);clear hnS hnU;by_cases h0:0<n
 ·have h0z:(0:Int)<(n:Int):=by omega
  have hat:atS m.v (e,l)=(110,[]):=by unfold atS;rw[if_pos (by show 0<l.length;rw[<-hn.out];exact h0)]
  have HA:Hid (q=(110,[])):=hid (hq.out.symm.trans hat);clear hat hq;go_enter Tryz.func62,Tryz.ntmps62;go_wp2;go_returns;rw[HA.out];exact⟨_,_,_,[],rfl,rfl,Own.nil _ _ _ _,fun y hy=>(nomatch hy),rfl,(Ext.refl w).alloc _⟩
 ·have h0z:¬(0:Int)<(n:Int):=by omega
  obtain⟨b1,hb1⟩:∃b,Aj (m.S.map Tm.v) (e,l)=b:=⟨_,rfl⟩;obtain⟨b2,hb2⟩:∃b,Aj (m.U.map Tm.v) (e,l)=b:=⟨_,rfl⟩;have HB1:=hid hb1;have HB2:=hid hb2;have hat:atS m.v (e,l)=if b1=false then (111,[]) else if b2=true then (111,[]) else (0,sumV (atV (m.v.bs.flatten) (e,l))):=by
   unfold atS;rw[if_neg (by show ¬ 0<l.length;have:=hn.out;omega),<-hb1,<-hb2];rfl
  have HA:Hid (q=if b1=false then (111,[]) else if b2=true then (111,[]) else (0,sumV (atV (m.v.bs.flatten) (e,l)))):=hid (hq.out.symm.trans hat);clear hat hb1 hb2 hq;go_enter Tryz.func62,Tryz.ntmps62
  go_upto_region 3 with fail
  obtain⟨wb,hwb⟩:∃wb,wb=w.alloc (.cells #[.int .u64 e,.slice A n c] 26):=⟨_,rfl⟩;have XB:Hid (Ext w wb):=hid (by rw[hwb];exact(Ext.refl _).alloc _);have BT:Hid (Bk wb w.heap.size 26 #[.int .u64 e,.slice A n c]):=hid (by rw[hwb];exact Bk.new _ _ _);rw[<-hwb];clear hwb;obtain⟨gt,hgt⟩:∃k,k=w.heap.size:=⟨_,rfl⟩;rw[<-hgt]at BT ⊢;clear hgt;have X:Ext wb wb.drew:=(Ext.refl wb).drew;have P2:∀y:Xt wb.drew,y.W.cell? ⟨gs,3,none⟩=some (.slice m.sA nS m.sc):=fun y=>(HC.out _ ((XB.out.trans X).trans y.x)).1;have P3:∀y:Xt wb.drew,y.W.cell? ⟨gs,4,none⟩=some (.slice m.uA nU m.uc):=fun y=>(HC.out _ ((XB.out.trans X).trans y.x)).2;have Q0:∀y:Xt wb.drew,y.W.cell? ⟨gt,0,none⟩=some (.int .u64 e):=fun y=>(BT.out.ext (X.trans y.x)).cell 0;have Q1:∀y:Xt wb.drew,y.W.cell? ⟨gt,1,none⟩=some (.slice A n c):=fun y=>(BT.out.ext (X.trans y.x)).cell 1;cases b1 with
  | false =>
   refine wro [0,1,3,7,0,31,63,127,255,511,1023,2047,255,8191,16383] (.flo [0,1,2,3,4] (.one 5 (.flo [6,7,8,9,10,11,12] (.one 13 (.flo [14] (.fin)))))) ?_
   (refine Aa (pks rfl) ?_;(repeat (go_big_quiet_step (fail)));refine oq ?_)
   refine Ac (pks rfl) ?_;intro K_ hK_;go_wp2_with (go_at_call 96;refine(Ef m.sA m.sc nS m.S e A n c l _ HB1 HNS (hid (HTS.out.ext (XB.out.trans X))) (hid (ht.out.ext (XB.out.trans X)))).mono ?_;rintro r w1 ⟨rfl,x1⟩;have X1:=hid (X.trans x1))
   clear P2 P3 Q0 Q1
   (refine Aa (pks rfl) ?_;(repeat (go_big_quiet_step (fail)));refine oq ?_)
   refine Ac (pks rfl) ?_;intro K_ hK_;go_wp2
   (refine Aa (pks rfl) ?_;(repeat (go_big_quiet_step (fail)));refine oq ?_)
   refine Ad ?_;go_wp2;go_returns;have hA:q=(111,[]):=by have:=HA.out;simpa using this
   rw[hA];exact⟨_,_,_,[],rfl,rfl,Own.nil _ _ _ _,fun y hy=>(nomatch hy),rfl,XB.out.trans X1.out⟩
  | true =>
   refine wro [0,1,3,7,0,31,63,127,255,511,1023,2047,255,8191,16383] (.flo [0,1,2,3,4] (.one 5 (.flo [6,7,8,9,10,11,12] (.one 13 (.flo [14] (.fin)))))) ?_
   (refine Aa (pks rfl) ?_;(repeat (go_big_quiet_step (fail)));refine oq ?_)
   refine Ac (pks rfl) ?_;intro K_ hK_;go_wp2_with (go_at_call 96;refine(Ef m.sA m.sc nS m.S e A n c l _ HB1 HNS (hid (HTS.out.ext (XB.out.trans X))) (hid (ht.out.ext (XB.out.trans X)))).mono ?_;rintro r w1 ⟨rfl,x1⟩;have X1:=hid (X.trans x1))
   have P3:∀y:Xt w1,y.W.cell? ⟨gs,4,none⟩=some (.slice m.uA nU m.uc):=fun y=>(HC.out _ ((XB.out.trans X1.out).trans y.x)).2;have Q0:∀y:Xt w1,y.W.cell? ⟨gt,0,none⟩=some (.int .u64 e):=fun y=>(BT.out.ext (X1.out.trans y.x)).cell 0;have Q1:∀y:Xt w1,y.W.cell? ⟨gt,1,none⟩=some (.slice A n c):=fun y=>(BT.out.ext (X1.out.trans y.x)).cell 1
   (refine Aa (pks rfl) ?_;(repeat (go_big_quiet_step (fail)));refine oq ?_)
   refine Ac (pks rfl) ?_;intro K_ hK_;go_wp2_with (go_at_call 96;refine(Ef m.uA m.uc nU m.U e A n c l _ HB2 HNU (hid (HTU.out.ext (XB.out.trans X1.out))) (hid (ht.out.ext (XB.out.trans X1.out)))).mono ?_;rintro r w2 ⟨rfl,x2⟩;have X2:=hid (X1.out.trans x2))
   (refine Aa (pks rfl) ?_;(repeat (go_big_quiet_step (fail)));refine oq ?_)
   refine Ad ?_;clear P2 P3 Q0 Q1;cases b2 with
   | true =>
    go_wp2;go_returns;have hA:q=(111,[]):=by have:=HA.out;simpa using this
    rw[hA];exact⟨_,_,_,[],rfl,rfl,Own.nil _ _ _ _,fun y hy=>(nomatch hy),rfl,XB.out.trans X2.out⟩
   | false =>
    go_wp2;have X3:Ext wb w2.drew:=X2.out.drew;have XX3:=hid X3;have Q0:∀y:Xt w2.drew,y.W.cell? ⟨gt,0,none⟩=some (.int .u64 e):=fun y=>(BT.out.ext (X3.trans y.x)).cell 0;have Q1:∀y:Xt w2.drew,y.W.cell? ⟨gt,1,none⟩=some (.slice A n c):=fun y=>(BT.out.ext (X3.trans y.x)).cell 1;refine wro [0,1,0,7,15,31] (.flo [0,2] (.ext 1 (.one 3 (.flo [4,5] (.fin))))) ?_
    (refine Aa (pks rfl) ?_;(repeat (go_big_quiet_step (fail)));refine oq ?_)
    refine Bi (pks rfl) ?_;intro K_ hK_;go_wp2_with (go_at_call 170;refine(Mz w0 gs m R _ (hid (HM.out.ext (XB.out.trans XX3.out))) (by have:=Hd ok.out;omega) (by have:=Hd ok.out;omega)).mono ?_;rintro r w4 ⟨A4,n4,c4,rfl,e4,o4,x4⟩;have HN4:=hid e4;have HO4:=hid o4;have X4:=hid x4;clear e4 o4 x4)
    refine Aq.mk X4.out ?_;have hU:Hid (Uin w4 A4 c4 (Dx m.bs)):=hid ⟨HN4.out▸HO4.out.sl,fun x hx=>by
     obtain⟨b,hb,hxb⟩:=DH.1 hx;exact((HM.out.b.bt b hb).ls x hxb).ext (HM.out.b.ex.trans ((XB.out.trans XX3.out).trans X4.out))⟩
    have hn49:n4<=1000000:=by have:=Hd ok.out;rw[HN4.out];omega
    have HVV:Hid (sumV (atV ((Dx m.bs).map Ud.uv) (e,l))=sumV (atV (m.v.bs.flatten) (e,l))):=hid (by rw[Yc];rfl);refine Ac (pks rfl) ?_;intro K_ hK_;go_wp2_with (go_at_call 26;refine(dW (U:=sumV (atV (m.v.bs.flatten) (e,l))) A4 c4 n4 (Dx m.bs) e A n c l _ HVV HN4 hU (by omega) (hid (ht.out.ext ((XB.out.trans XX3.out).trans X4.out)))).mono ?_;rintro r w5 ⟨A5,m5,c5,R5,rfl,h5,o5,p5,v5,x5⟩;have H5:=hid h5;have I5:=hid (o5.mono ((XB.out.trans XX3.out).trans X4.out).size);have P5:Hid (∀y∈R5,Rw w0 y.A y.c y.l):=hid (wL HM.out.b.bt p5);have V5:=hid v5;have X5:=hid (((XB.out.trans XX3.out).trans X4.out).trans x5);clear h5 o5 p5 v5 x5)
    (refine Aa (pks rfl) ?_;(repeat (go_big_quiet_step (fail)));refine oq ?_)
    refine Ad ?_;go_wp2;go_returns;have hA:q=(0,sumV (atV (m.v.bs.flatten) (e,l))):=by have:=HA.out;simpa using this
    rw[hA];exact⟨_,_,_,_,rfl,H5.out,I5.out,P5.out,V5.out,X5.out⟩
theorem Ub{V:List UV}(w0:World)(gs:Nat)(m:RSM)(R:Nat->Prop)(w:World)(hV:Hid (Mr m.v=V))(HM:Hid (RSR w0 w R gs m))(ok:Hid (OkV m.v)) :
  Calls Tryz.prog 63 #[.pointer (some ⟨gs,0,none⟩)] w (xZ w V):=by
 obtain⟨nS,hnS⟩:∃k,k=m.S.length:=⟨_,rfl⟩;have HNS:=hid hnS;have HC:Hid (∀W,Ext w W->W.cell? ⟨gs,3,none⟩=some (.slice m.sA nS m.sc)):=hid (fun W x=>by have:=(HM.out.bk.ext x).cell 3;rw[hnS];exact this);have HTS:Hid (Tin w m.sA m.sc m.S):=hid (HM.out.b.sn.tin HM.out.b.ex);have c2:=HC.out w (Ext.refl w);clear hnS;rcases CL nS with h0|h0
 ·subst h0;have HV:Hid (V=[]):=hid (by rw[<-hV.out];unfold Mr;rw[if_pos];show m.S.map Tm.v=[];rw[AG HNS.out.symm];rfl);clear hV;go_enter Tryz.func63,Tryz.ntmps63;go_wp2;go_ret;rw[HV.out];exact⟨none,0,0,[],rfl,rfl,Uin.nil _,rfl,Ext.refl w⟩
 ·have h0z:¬((nS:Int)=0):=by omega
  have HV:Hid (UdS.sumV (((Dx m.bs).map Ud.uv).map (Bp (m.S.map Tm.v)))=V):=hid (by
   rw[<-hV.out,Yc];unfold Mr;rw[if_neg]
   ·rfl
   ·intro e;have e2:=congrArg List.length e;have:=HNS.out;simp[RSM.v]at e2;rw[e2]at this;simp at this;omega)
  clear hV;go_enter Tryz.func63,Tryz.ntmps63
  go_upto_region 3 with fail
  clear c2;have X:Ext w w.drew:=(Ext.refl w).drew;have P2:∀y:Xt w.drew,y.W.cell? ⟨gs,3,none⟩=some (.slice m.sA nS m.sc):=fun y=>HC.out _ (X.trans y.x);refine wro [0,1,0,4,12,28,63,127] (.flo [0,2,3,4,5] (.ext 1 (.one 6 (.flo [7] (.fin))))) ?_
  (refine Aa (pks rfl) ?_;(repeat (go_big_quiet_step (fail)));refine oq ?_)
  refine Bi (pks rfl) ?_;intro K_ hK_;go_wp2_with (go_at_call 170;refine(Mz w0 gs m R _ (hid (HM.out.ext X)) (by have:=Hd ok.out;omega) (by have:=Hd ok.out;omega)).mono ?_;rintro r w4 ⟨A4,n4,c4,rfl,e4,o4,x4⟩;have HN4:=hid e4;have HO4:=hid o4;have X4:=hid x4;clear e4 o4 x4)
  refine Aq.mk X4.out ?_;have hU:Hid (Uin w4 A4 c4 (Dx m.bs)):=hid ⟨HN4.out▸HO4.out.sl,fun x hx=>by
   obtain⟨b,hb,hxb⟩:=DH.1 hx;exact((HM.out.b.bt b hb).ls x hxb).ext (HM.out.b.ex.trans (X.trans X4.out))⟩
  have hn49:n4<=1000000:=by have:=Hd ok.out;rw[HN4.out];omega
  have HIN:Hid (∀x∈Dx m.bs,InU x):=hid (fun x hx=>(fU ok.out x hx).1);have HFS:Hid (Nx m.S):=hid (Dt ok.out.fs).1;have hnS9:nS<=1:=by rw[HNS.out];exact(Dt ok.out.fs).2
  refine Ac (pks rfl) ?_;intro K_ hK_;go_wp2_with (go_at_call 27;refine(Zk (V:=V) A4 c4 n4 (Dx m.bs) m.sA m.sc nS m.S _ HV HN4 hU (by omega) HIN HNS (hid ((HTS.out.ext X).ext X4.out)) HFS (by omega)).mono ?_;rintro r w5 ⟨A5,m5,c5,R5,rfl,h5,u5,v5,x5⟩;have H5:=hid h5;have U5:=hid u5;have V5:=hid v5;have X5:=hid ((X.trans X4.out).trans x5);clear h5 u5 v5 x5)
  (refine Aa (pks rfl) ?_;(repeat (go_big_quiet_step (fail)));refine oq ?_)
  refine Ad ?_;go_wp2;go_ret;exact⟨_,_,_,_,rfl,H5.out,U5.out,V5.out,X5.out⟩
theorem gO{V:List UV}(w0:World)(gs:Nat)(m:RSM)(R:Nat->Prop)(rA:Option Addr)(rc rn:Nat)(r:List Dat)(w:World)(hV:Hid (Mr m.v=V))(HM:Hid (RSR w0 w R gs m))(ok:Hid (OkV m.v))(hrn:Hid (rn=r.length))(hr:Hid (Rw w rA rc r))(h9:V.length<=1000000) :
  Calls Tryz.prog 64 #[.pointer (some ⟨gs,0,none⟩),.slice rA rn rc] w (Osx w (uE V r)):=by
 go_enter Tryz.func64,Tryz.ntmps64;go_wp2_with (first
  | (go_at_call 63;refine(Ub (V:=V) w0 gs m R _ hV HM ok).mono ?_;rintro r w1 ⟨A1,n,cL,L,rfl,h1,u1,e1,x1⟩;have HN:=hid h1;have HU:=hid u1;have HE:=hid e1;have X1:=hid x1;clear h1 u1 e1 x1)
  | fail)
 have hn9:n<=1000000:=by rw[HN.out];have:=congrArg List.length HE.out;rw[AN]at this;omega
 have HP0:Hid (Fw w1 w1 L r 0 none 0 0):=hid ⟨rfl,Own.nil _ _ _ _,Ext.refl _⟩
 go_loopg [5,7] n (fun z u v wr=>∃(i m c3:Nat) (A3:Option Addr),z=n-i/\i<=n/\m<=i/\u=.slice A3 m c3/\v=.int .i64 i/\Hid (Fw w1 wr L r i A3 m c3))
 case atStart=>exact⟨0,0,0,none,rfl,AE _,AD _,rfl,rfl,HP0⟩
 case round =>
  clear HP0;obtain⟨i,k,c3,A3,rfl,hi,hki,rfl,rfl,HP⟩:=hrel;by_cases hlt:i<n
  ·have hil:i<L.length:=by rw[<-HN.out];exact hlt
   obtain⟨ad,rfl,p0,p1,p2,p3⟩:=(HU.out.ext HP.out.ext).at hil;have hm:=Ar hil;obtain⟨x,hx⟩:∃x,L.getD i Ud.zero=x:=⟨_,rfl⟩;rw[hx]at p0 p1 p2 p3 hm;obtain⟨nx,hnx⟩:∃nx,nx=x.l.length:=⟨_,rfl⟩;obtain⟨tx,htx⟩:∃tx,tx=x.t.l.length:=⟨_,rfl⟩;rw[<-hnx]at p0;rw[<-htx]at p2;have HNX:=hid hnx;have HTX:=hid htx;have HX:=hid hx;have HIL:=hid hil;have HR1:Hid (Rw wr x.A x.c x.l):=hid ((HU.out.ls x hm).r.ext HP.out.ext);have HR2:Hid (Rw wr rA rc r):=hid (hr.out.ext (X1.out.trans HP.out.ext));obtain⟨b,hb⟩:∃b,As x.l r=b:=⟨_,rfl⟩;have HB:=hid hb;clear hil hm hx hnx htx hb;by_cases hb0:b=0
   ·subst hb0
    go_upto_region 7 with (go_at_call 53;refine(Cy x.A rA x.c rc nx rn x.l r _ HB HNX hrn HR1 HR2).mono ?_;rintro r_ w2 ⟨rfl,x2⟩;have X2:=hid x2;clear x2)
    have Y:Ext w2 w2.drew:=(Ext.refl w2).drew;have P1:∀z:Xt w2.drew,z.W.cell? ⟨(ad.add (i*4)).block,(ad.add (i*4)).off+1,none⟩=some (.int .u64 x.t.e):=fun z=>(X2.out.trans (Y.trans z.x)).cell p1;have P2:∀z:Xt w2.drew,z.W.cell? ⟨(ad.add (i*4)).block,(ad.add (i*4)).off+2,none⟩=some (.slice x.t.A tx x.t.c):=fun z=>(X2.out.trans (Y.trans z.x)).cell p2;have P3:∀z:Xt w2.drew,z.W.cell? ⟨(ad.add (i*4)).block,(ad.add (i*4)).off+3,none⟩=some (.int .i64 x.d):=fun z=>(X2.out.trans (Y.trans z.x)).cell p3;have hw2:w1.heap.size<=w2.heap.size:=(HP.out.ext.trans X2.out).size;refine wro [0,0,0,6,14,30,0,0,192,448,960,2046,4094,8191,16383] (.pur [0] (.flo [1,2,3,4,5,6,7,8,9,10,11] (.one 12 (.one 13 (.flo [14] (.fin)))))) ?_
    (refine Bv (pks rfl) ?_;(repeat (go_big_quiet_step (fail)));refine oq ?_)
    (refine Aa (pks rfl) ?_;(repeat (go_big_quiet_step (fail)));refine oq ?_)
    refine Ac (pks rfl) ?_;intro K_ hK_;go_wp2;refine Ac (pks rfl) ?_;intro K_ hK_;go_wp2_with (at_builtin;refine Ab _ kD w1.heap.size _ _ rfl rfl A3 k c3 (Rh (Kr (L.take i) r)) rfl ((HP.out.own.ext (X2.out.trans Y)).alloc _) (some ⟨w2.heap.size,0,none⟩) 1 1 [.int .u64 x.t.e,.slice x.t.A tx x.t.c,.int .i64 x.d] rfl (xK _ _ _ _ _ _) (by intro u hu;simp at hu;rcases hu with rfl|rfl|rfl<;>rfl) (by omega) (by decide) (by simp;omega) ?_;intro A6 c6 w6 o6 g6 h6;clear h6;have HQ6:Hid (Fw w1 w6 L r (i+1) A6 (k+1) c6):=hid (HP.out.more HIL.out HX.out HB.out rfl (by have:=o6;rwa [HTX.out]at this) (((HP.out.ext.trans (X2.out.trans Y)).alloc _).grown g6 (fun k e=>(HP.out.own.lt k e).1)));clear o6 g6)
    go_simp
    (refine Aa (pks rfl) ?_;(repeat (go_big_quiet_step (fail)));refine oq ?_)
    refine Ad ?_;go_wp2
    go_roundg (n-(i+1))
    case measure=>omega
    case rel=>exact⟨i+1,k+1,c6,A6,rfl,by omega,by omega,rfl,by go_num,HQ6⟩
   ·have hbz:(b==0)=false:=by simp[hb0]
    go_wp2_with (go_at_call 53;refine(Cy x.A rA x.c rc nx rn x.l r _ HB HNX hrn HR1 HR2).mono ?_;rintro r_ w2 ⟨rfl,x2⟩;have HQ6:Hid (Fw w1 w2 L r (i+1) A3 k c3):=hid (HP.out.skip HIL.out HX.out (by rw[HB.out];exact hb0) x2);clear x2)
    go_roundg (n-(i+1))
    case measure=>omega
    case rel=>exact⟨i+1,k,c3,A3,rfl,by omega,by omega,rfl,by go_num,HQ6⟩
  ·obtain rfl:i=n:=by omega
   have ea:Kr (L.take i) r=Kr L r:=by rw[AT (by rw[<-HN.out];exact AD _)]
   have HEA:=hid ea;clear ea;go_wp2;go_ret;have h1:=HP.out.len;have h2:=HP.out.own;rw[HEA.out]at h1 h2;exact⟨_,_,_,_,rfl,h1,h2.mono X1.out.size,fun y hy=>by
    obtain⟨x,hx,rfl⟩:=AW.1 hy;exact(HU.out.ls x (BV.1 hx).1).t.ext HP.out.ext,by rw[cZ,HE.out],X1.out.trans HP.out.ext⟩
theorem lF(gr:Nat)(z:Int)(w:World)(hz:z<1):Calls Tryz.prog 60 #[.pointer (some ⟨gr,0,none⟩),.int .i64 z] w fun e w'=>e=.returned (.int .i64 0)/\w=w':=by
 go_enter Tryz.func60,Tryz.ntmps60;go_wp2;go_ret;exact⟨rfl,rfl⟩
theorem lG(w0:World)(gr:Nat)(z:Int)(m:RSM)(K:Nat->Prop)(w:World)(x0:Hid (Ext w0 w))(HM:Hid (RSR w0 w K gr m))(ok:Hid (OkV m.v))(hz:z<=9223372036854775807):Calls Tryz.prog 60 #[.pointer (some ⟨gr,0,none⟩),.int .i64 z] w (qA w0 w K gr m.v z):=by
 by_cases h:z<1
 ·refine(lF gr z w h).mono fun e w' ⟨he,hw⟩=>?_;subst hw;exact⟨m,0,by rw[he];rfl,HM.out.wide fun _ _ hk=>.inl hk,.inl ⟨rfl,rfl,h⟩,ok.out,Upd.refl _ _⟩
 ·obtain⟨n,rfl⟩:∃n:Nat,z=n:=⟨z.toNat,by omega⟩;exact lH w0 gr n m K w x0 HM ok (by omega) (by omega)
theorem gA{s a b:SV}{z:Int}{r t:Nat}(h:(a=s/\r=0/\z<1)\/∃n:Nat,z=n/\0<n/\Cz s n a r)(k:(b=s/\t=0/\z<1)\/∃n:Nat,z=n/\0<n/\Cz s n b t):a=b/\r=t:=by
 rcases h with ⟨h1,h2,h3⟩|⟨n,h1,h2,h3⟩<;>rcases k with ⟨k1,k2,k3⟩|⟨l,k1,k2,k3⟩
 ·exact⟨h1.trans k1.symm,h2.trans k2.symm⟩
 ·omega
 ·omega
 ·obtain rfl:n=l:=by omega
  exact h3.det k3
def Ak(i:Int)(k:Nat):List Value:=[.int .u32 (IntKind.u32.wrap (i*1000+(k:Int)))]
theorem Dg(i:Int)(k:Nat):(Ak i k).length=1:=rfl
theorem Ve(i:Int)(k:Nat):∀u∈Ak i k,u.oneCell'=true:=by intro u hu;simp[Ak]at hu;rcases hu with rfl<;>rfl
theorem Ma:Gj Tryz.prog 40 24 1 24 (.slice none 0 0):=⟨by kernel_rfl,by kernel_rfl,rfl,by decide⟩
theorem Zp(OA:Option Addr)(oc m B:Nat)(L:List En)(f:Nat->List Value)(w:World)(hm:Hid (m=L.length))(hs:Hid (Sl w 1 OA m oc (Di L)))(hl:Hid (Ew w B 180 1 L f))(hf:Hid (∀k,blk OA oc=some k->¬Bm L k/\k<w.heap.size))(hm9:m<=100000)(hn:Hid (∀i,i<L.length->(ena L i).n<=1000000))(hBw:Hid (B<=w.heap.size)) :
  Calls Tryz.prog 126 #[.slice OA m oc] w fun e w'=>e=.returned (.bool true)/\Upd (Bm L) w w':=by
 have HP0:Hid (Ph1 Ak w w B 180 1 L 0 f):=hid ⟨hl.out,fun j hj=>by omega,Upd.refl _ _⟩;have hcell:Hid (∀(wr:World) (i:Nat),Upd (Bm L) w wr->i<m->∃ad,OA=some ad/\wr.cell? (ad.add i)=some (ena L i).v):=hid (fun wr i hu hi=>Ez (hs.out.upd hu (fun k hk=>(hf.out k hk).1)) hi);go_enter Tryz.func126,Tryz.ntmps126;go_wp2
 go_loopg [3] m (fun z v wr=>∃(i:Nat) (f:Nat->List Value),z=m-i/\i<=m/\v=.int .i64 i/\Hid (Ph1 Ak w wr B 180 1 L i f))
 case atStart=>exact⟨0,f,rfl,AE _,rfl,HP0⟩
 case round =>
  clear HP0;obtain⟨i,f,rfl,hi,rfl,HP⟩:=hrel;obtain⟨wo,hwo⟩:∃wo:World,wo=wr:=⟨_,rfl⟩;rw[<-hwo]at HP ⊢;clear hwo;by_cases hlt:i<m
  ·have hil:i<L.length:=by rw[<-hm.out];exact hlt
   obtain⟨ad,rfl,p0⟩:=hcell.out wo i HP.out.upd hlt;have hn9:=hn.out i hil;have HIL:=hid hil;obtain⟨x,hx⟩:∃x,ena L i=x:=⟨_,rfl⟩;rw[hx]at p0 hn9;obtain⟨A,n,c⟩:=x;have HXN:Hid ((ena L i).n=n):=hid (by rw[hx]);have HX:=hid hx;clear hil hx;replace p0:wo.cell? (ad.add i)=some (.slice A n c):=p0;replace hn9:n<=1000000:=hn9;have HI:=hid HP.out.enter;go_wp2
   go_loopg [4] n (fun z v wi=>∃(k:Nat) (f:Nat->List Value),z=n-k/\k<=n/\v=.int .i64 k/\Hid (It Ak w wi B 180 1 L i k f))
   case atStart=>exact⟨0,f,rfl,AE _,rfl,HI⟩
   case round =>
    clear HI;obtain⟨k,f,rfl,hk,rfl,HI⟩:=hrel;obtain⟨wi,hwi⟩:∃wi:World,wi=wr:=⟨_,rfl⟩;rw[<-hwi]at HI ⊢;clear hwi;obtain⟨ad2,e2,p1⟩:=hcell.out wi i HI.out.ph.upd hlt;cases e2;rw[HX.out]at p1;replace p1:wi.cell? (ad.add i)=some (.slice A n c):=p1;by_cases hkn:k<n
    ·have o1:=HI.out.ph.ls.own i HIL.out;rw[HX.out]at o1;obtain⟨g,eA,hb,_,_,hc,hfz⟩:=o1.form (show 0<n by omega);have hA:(ena L i).A=some ⟨g,0,none⟩:=by rw[HX.out];exact eA
     have hbm:(ena L i).b=some g:=by unfold En.b;rw[HX.out];exact hb
     have hfl:(f i).length=n*1:=o1.1;subst eA;have q0:wi.cell? ⟨g,k,none⟩=some ((f i)[k]'(by omega)):=hc _ _ (AC (by omega));have z0:=hfz (k);obtain⟨f',hf'⟩:=HI.out.put1 HIL.out (by rw[HXN.out];exact hkn) hA hbm (show Ak i k=[.int .u32 ((i:Int)*1000+(k:Int))]from by show [Value.int .u32 (IntKind.u32.wrap ((i:Int)*1000+(k:Int)))]=_;rw[show IntKind.u32.wrap ((i:Int)*1000+(k:Int))=((i:Int)*1000+(k:Int))from by rw[GZ];omega]);have wz0:IntKind.i64.wrap ((i:Int)*1000)=(i:Int)*1000:=by rw[AY];omega
     have wz1:IntKind.i64.wrap ((i:Int)*1000+(k:Int))=(i:Int)*1000+(k:Int):=by rw[AY];omega
     have HF:=hid hf';clear hf' o1 hc hfz hb hA hbm;go_wp2
     go_roundg (n-(k+1))
     case measure=>omega
     case rel=>exact⟨k+1,f',rfl,by omega,by go_num,HF⟩
    ·obtain rfl:k=n:=by omega
     go_wp2
     go_roundg (m-(i+1))
     case measure=>omega
     case rel=>exact⟨i+1,f,rfl,by omega,by go_num,hid ((show It Ak w wi B 180 1 L i (ena L i).n f from HXN.out▸HI.out).leave HIL.out)⟩
  ·obtain rfl:i=m:=by omega
   have HU1:=hid HP.out.upd;have HQ0:Hid (Ph2 Ak wo wo B 180 24 1 L 0 [] none 0):=hid (Ph2.start 24 (show Ph1 Ak w wo B 180 1 L L.length f from hm.out▸HP.out));have hcell2:Hid (∀(wr:World) (j:Nat),Upd (Bm L) wo wr->j<i->∃ad,OA=some ad/\wr.cell? (ad.add j)=some (ena L j).v):=hid (fun wr j hu hj=>hcell.out wr j (HU1.out.trans hu) hj);clear HP;go_wp2
   go_loopg [5,6] i (fun z u v wr=>∃(j:Nat) (G:List En) (LA:Option Addr) (lc:Nat),z=i-j/\j<=i/\v=.int .i64 j/\u=.slice LA j lc/\Hid (Ph2 Ak wo wr B 180 24 1 L j G LA lc))
   case atStart=>exact⟨0,[],none,0,rfl,AE _,rfl,rfl,HQ0⟩
   case round =>
    clear HQ0;obtain⟨j,G,LA,lc,rfl,hj,rfl,rfl,HP⟩:=hrel;obtain⟨w2,hw2⟩:∃w2:World,w2=wr:=⟨_,rfl⟩;rw[<-hw2]at HP ⊢;clear hw2;by_cases hlt2:j<i
    ·have hjl:j<L.length:=by rw[<-hm.out];exact hlt2
     obtain⟨ad,rfl,p0⟩:=hcell2.out w2 j HP.out.upd hlt2;have hn9:=hn.out j hjl;have HJL:=hid hjl;obtain⟨x,hx⟩:∃x,ena L j=x:=⟨_,rfl⟩;rw[hx]at p0 hn9;obtain⟨A,n,c⟩:=x;have HXN:Hid ((ena L j).n=n):=hid (by rw[hx]);have HXA:Hid ((ena L j).A=A/\(ena L j).c=c):=hid (by rw[hx];exact⟨rfl,rfl⟩);clear hjl hx;replace p0:w2.cell? (ad.add j)=some (.slice A n c):=p0;replace hn9:n<=1000000:=hn9;have HI:Hid (Hq Ak w2 w2 B 180 1 L j 0 A c):=hid (by have:=HP.out.enter HJL.out;rwa [HXA.out.1,HXA.out.2]at this);go_wp2
     go_loopg [7,8] 8 (fun z u v wi=>∃(k:Nat) (A':Option Addr) (c':Nat),z=8-k/\k<=8/\v=.int .i64 k/\u=.slice A' (n+k) c'/\Hid (Hq Ak w2 wi B 180 1 L j k A' c'))
     case atStart=>exact⟨0,A,c,rfl,AE _,rfl,rfl,HI⟩
     case round =>
      clear HI;obtain⟨k,A',c',rfl,hk,rfl,rfl,HI⟩:=hrel;by_cases hk8:k<8
      ·have wy:IntKind.i64.wrap (-1-(j:Int)) = -1-(j:Int):=by rw[AY];omega
       have wz0:IntKind.i64.wrap ((-1-(j:Int))*1000)=(-1-(j:Int))*1000:=by rw[AY];omega
       have wz1:IntKind.i64.wrap ((-1-(j:Int))*1000+(k:Int))=(-1-(j:Int))*1000+(k:Int):=by rw[AY];omega
       have HO:Hid (Own wr B 180 1 A' (n+k) c' (Ap Ak j (ena L j).n++Ap Ak (-1-j) k)):=hid (by have:=HI.out.own;rwa [HXN.out]at this ⊢);have hB:B<=(wr.alloc (.cells (#[.int .u32 (IntKind.u32.wrap ((-1-(j:Int))*1000+(k:Int)))]:Array Value) 180)).heap.size:=by
        have h1:=HI.out.upd.size;have h2:=((Ext.refl wr).alloc (.cells (#[.int .u32 (IntKind.u32.wrap ((-1-(j:Int))*1000+(k:Int)))]:Array Value) 180)).size;have h3:=HP.out.upd.size;have h4:=HU1.out.size;have h5:=hBw.out;omega
       go_wp2_with (at_builtin;refine Ab _ Ei B _ _ rfl rfl A' (n+k) c' _ rfl (HO.out.alloc _) (some ⟨wr.heap.size,0,none⟩) 1 1 (Ak (-1-(j:Int)) k) rfl (Sl.one wr #[.int .u32 (IntKind.u32.wrap ((-1-(j:Int))*1000+(k:Int)))] 180 1 rfl) (Ve _ _) (by omega) (by decide) hB ?_;intro A3 c3 w3 o3 g3 x3;have HN3:Hid (Hq Ak w2 w3 B 180 1 L j (k+1) A3 c3):=hid (HI.out.step Dg _ (by have:=o3;rwa [<-HXN.out]at this) g3 x3);clear o3 g3 x3)
       go_roundg (8-(k+1))
       case measure=>omega
       case rel=>exact⟨k+1,A3,c3,rfl,by omega,by go_num,rfl,HN3⟩
      ·obtain rfl:k=8:=by omega
       have hlst:∀wr:World,Hq Ak w2 wr B 180 1 L j 8 A' c'->Own wr wo.heap.size 24 1 LA j lc (Di G):=fun wr h=>HP.out.lst.upd h.upd (fun q hq e=>by
        have h1:=HP.out.foot q ⟨j,HJL.out,e⟩;have h2:=(HP.out.lst.lt q hq).1;omega)
       go_wp2_with (at_builtin;refine Ab _ Ma wo.heap.size _ _ rfl rfl LA j lc (Di G) rfl ((hlst wr HI.out).alloc _) (some ⟨wr.heap.size,0,none⟩) 1 1 [.slice A' (n+8) c'] rfl (Sl.one wr #[.slice A' (n+8) c'] 24 1 rfl) (Fa [⟨A',n+8,c'⟩]) (by omega) (by decide) (by have h1:=HI.out.upd.size;have h2:=HP.out.upd.size;have h3:=((Ext.refl wr).alloc (.cells (#[.slice A' (n+8) c']:Array Value) 24)).size;omega) ?_;intro LA4 lc4 w4 o4 g4 x4;have HN4:Hid (Ph2 Ak wo w4 B 180 24 1 L (j+1) (G++[⟨A',(ena L j).n+8,c'⟩]) LA4 lc4):=hid (HP.out.next HJL.out HI.out _ (by have:=o4;rwa [<-HXN.out]at this) g4 x4);clear o4 g4 x4)
       go_roundg (i-(j+1))
       case measure=>omega
       case rel=>exact⟨j+1,_,LA4,lc4,rfl,by omega,by go_num,rfl,HN4⟩
    ·obtain rfl:j=i:=by omega
     have hjm:j=L.length:=hm.out;have hG:∀t,t<j->∃ad,LA=some ad/\w2.cell? (ad.add t)=some (ena G t).v:=fun t ht=>Ez HP.out.lst.sl ht;have HG:=hid hG;clear hG hjm;go_wp2
     go_loopg [9] j (fun z v wr=>∃t:Nat,z=j-t/\t<=j/\v=.int .i64 t/\Hid (wr=w2))
     case atStart=>exact⟨0,rfl,AE _,rfl,hid rfl⟩
     case round =>
      obtain⟨t,rfl,ht,rfl,HW⟩:=hrel;have hW:=HW.out;subst hW;by_cases htj:t<j
      ·have htl:t<L.length:=by rw[<-hm.out];exact htj
       obtain⟨ad,rfl,p0⟩:=hcell2.out wr t HP.out.upd htj;obtain⟨ad2,rfl,p1⟩:=HG.out t htj;have hn9:=hn.out t htl;have hrd:=HP.out.read t htj;obtain⟨hln,hlo⟩:=HP.out.long t htj;obtain⟨x,hx⟩:∃x,ena L t=x:=⟨_,rfl⟩;obtain⟨y,hy⟩:∃y,ena G t=y:=⟨_,rfl⟩;rw[hx]at p0 hn9 hrd hln hlo;rw[hy]at p1 hln hlo;obtain⟨A,n,c⟩:=x;obtain⟨A2,n2,c2⟩:=y;replace p0:wr.cell? (ad.add t)=some (.slice A n c):=p0;replace p1:wr.cell? (ad2.add t)=some (.slice A2 n2 c2):=p1;replace hn9:n<=1000000:=hn9;obtain rfl:n2=n+8:=hln;have HR:Hid (Sl wr 1 A n c (Ap Ak t n)):=hid hrd;have HLo:Hid (Sl wr 1 A2 (n+8) c2 (Ap Ak t n++Ap Ak (-1-t) 8)):=hid hlo.sl;clear hrd hlo hx hy htl;go_wp2
       go_loopg [11] n (fun z v wq=>∃k:Nat,z=n-k/\k<=n/\v=.int .i64 k/\Hid (wq=wr))
       case atStart=>exact⟨0,rfl,AE _,rfl,hid rfl⟩
       case round =>
        obtain⟨k,rfl,hk,rfl,HW2⟩:=hrel;have hW2:=HW2.out;subst hW2;by_cases hkn:k<n
        ·obtain⟨ad3,rfl,r0⟩:=Yi HR.out hkn (show Ak t k=[.int .u32 ((t:Int)*1000+(k:Int))]from by show [Value.int .u32 (IntKind.u32.wrap ((t:Int)*1000+(k:Int)))]=_;rw[show IntKind.u32.wrap ((t:Int)*1000+(k:Int))=((t:Int)*1000+(k:Int))from by rw[GZ];omega]) (fun q hq=>Bx Dg t hq n k hkn);obtain⟨ad4,rfl,l0⟩:=Yi HLo.out (show k<n+8 by omega) (show Ak t k=[.int .u32 ((t:Int)*1000+(k:Int))]from by show [Value.int .u32 (IntKind.u32.wrap ((t:Int)*1000+(k:Int)))]=_;rw[show IntKind.u32.wrap ((t:Int)*1000+(k:Int))=((t:Int)*1000+(k:Int))from by rw[GZ];omega]) (fun q hq=>by rw[BI (by rw[Ce Dg];have:(k+1)*1<=n*1:=CT _ hkn;omega)];exact Bx Dg t hq n k hkn);have wz0:IntKind.i64.wrap ((t:Int)*1000)=(t:Int)*1000:=by rw[AY];omega
         have wz1:IntKind.i64.wrap ((t:Int)*1000+(k:Int))=(t:Int)*1000+(k:Int):=by rw[AY];omega
         go_wp2
         go_roundg (n-(k+1))
         case measure=>omega
         case rel=>exact⟨k+1,rfl,by omega,by go_num,hid rfl⟩
        ·obtain rfl:k=n:=by omega
         go_wp2
         go_loopg [12] 8 (fun z v wq=>∃q:Nat,z=8-q/\q<=8/\v=.int .i64 q/\Hid (wq=wr))
         case atStart=>exact⟨0,rfl,AE _,rfl,hid rfl⟩
         case round =>
          obtain⟨q,rfl,hq,rfl,HW3⟩:=hrel;have hW3:=HW3.out;subst hW3;by_cases hq8:q<8
          ·obtain⟨ad4,rfl,l0⟩:=Yi HLo.out (show k+q<k+8 by omega) (show Ak (-1-(t:Int)) q=[.int .u32 (IntKind.u32.wrap ((-1-(t:Int))*1000+(q:Int)))]from rfl) (fun z hz=>by rw[show(k+q)*1+z=(Ap Ak (t:Int) k).length+(q*1+z)by rw[Ce Dg,DE];omega,BD (FP _ _),CR];exact Bx Dg _ hz 8 q hq8);have wy:IntKind.i64.wrap (-1-(t:Int)) = -1-(t:Int):=by rw[AY];omega
           have wz0:IntKind.i64.wrap ((-1-(t:Int))*1000)=(-1-(t:Int))*1000:=by rw[AY];omega
           have wz1:IntKind.i64.wrap ((-1-(t:Int))*1000+(q:Int))=(-1-(t:Int))*1000+(q:Int):=by rw[AY];omega
           go_wp2
           go_roundg (8-(q+1))
           case measure=>omega
           case rel=>exact⟨q+1,rfl,by omega,by go_num,hid rfl⟩
          ·obtain rfl:q=8:=by omega
           go_wp2
           go_roundg (j-(t+1))
           case measure=>omega
           case rel=>exact⟨t+1,rfl,by omega,by go_num,hid rfl⟩
      ·obtain rfl:t=j:=by omega
       go_wp2;go_ret;exact⟨rfl,HU1.out.trans HP.out.upd⟩
def Be(i:Int)(k:Nat):List Value:=[.int .u8 0,.bool false,.int .i64 (i*1000+(k:Int)),.string ⟨#[]⟩]
theorem El(i:Int)(k:Nat):(Be i k).length=4:=rfl
theorem Zw(i:Int)(k:Nat):∀u∈Be i k,u.oneCell'=true:=by intro u hu;simp[Be]at hu;rcases hu with rfl|rfl|rfl|rfl<;>rfl
theorem Oz:Gj Tryz.prog 41 78 1 24 (.slice none 0 0):=⟨by kernel_rfl,by kernel_rfl,rfl,by decide⟩
theorem iD(OA:Option Addr)(oc m B:Nat)(L:List En)(f:Nat->List Value)(w:World)(hm:Hid (m=L.length))(hs:Hid (Sl w 1 OA m oc (Di L)))(hl:Hid (Ew w B 204 4 L f))(hf:Hid (∀k,blk OA oc=some k->¬Bm L k/\k<w.heap.size))(hm9:m<=100000)(hn:Hid (∀i,i<L.length->(ena L i).n<=1000000))(hBw:Hid (B<=w.heap.size)) :
  Calls Tryz.prog 127 #[.slice OA m oc] w fun e w'=>e=.returned (.bool true)/\Upd (Bm L) w w':=by
 have HP0:Hid (Ph1 Be w w B 204 4 L 0 f):=hid ⟨hl.out,fun j hj=>by omega,Upd.refl _ _⟩;have hcell:Hid (∀(wr:World) (i:Nat),Upd (Bm L) w wr->i<m->∃ad,OA=some ad/\wr.cell? (ad.add i)=some (ena L i).v):=hid (fun wr i hu hi=>Ez (hs.out.upd hu (fun k hk=>(hf.out k hk).1)) hi);go_enter Tryz.func127,Tryz.ntmps127;go_wp2
 go_loopg [3] m (fun z v wr=>∃(i:Nat) (f:Nat->List Value),z=m-i/\i<=m/\v=.int .i64 i/\Hid (Ph1 Be w wr B 204 4 L i f))
 case atStart=>exact⟨0,f,rfl,AE _,rfl,HP0⟩
 case round =>
  clear HP0;obtain⟨i,f,rfl,hi,rfl,HP⟩:=hrel;obtain⟨wo,hwo⟩:∃wo:World,wo=wr:=⟨_,rfl⟩;rw[<-hwo]at HP ⊢;clear hwo;by_cases hlt:i<m
  ·have hil:i<L.length:=by rw[<-hm.out];exact hlt
   obtain⟨ad,rfl,p0⟩:=hcell.out wo i HP.out.upd hlt;have hn9:=hn.out i hil;have HIL:=hid hil;obtain⟨x,hx⟩:∃x,ena L i=x:=⟨_,rfl⟩;rw[hx]at p0 hn9;obtain⟨A,n,c⟩:=x;have HXN:Hid ((ena L i).n=n):=hid (by rw[hx]);have HX:=hid hx;clear hil hx;replace p0:wo.cell? (ad.add i)=some (.slice A n c):=p0;replace hn9:n<=1000000:=hn9;have HI:=hid HP.out.enter;go_wp2
   go_loopg [4] n (fun z v wi=>∃(k:Nat) (f:Nat->List Value),z=n-k/\k<=n/\v=.int .i64 k/\Hid (It Be w wi B 204 4 L i k f))
   case atStart=>exact⟨0,f,rfl,AE _,rfl,HI⟩
   case round =>
    clear HI;obtain⟨k,f,rfl,hk,rfl,HI⟩:=hrel;obtain⟨wi,hwi⟩:∃wi:World,wi=wr:=⟨_,rfl⟩;rw[<-hwi]at HI ⊢;clear hwi;obtain⟨ad2,e2,p1⟩:=hcell.out wi i HI.out.ph.upd hlt;cases e2;rw[HX.out]at p1;replace p1:wi.cell? (ad.add i)=some (.slice A n c):=p1;by_cases hkn:k<n
    ·have o1:=HI.out.ph.ls.own i HIL.out;rw[HX.out]at o1;obtain⟨g,eA,hb,_,_,hc,hfz⟩:=o1.form (show 0<n by omega);have hA:(ena L i).A=some ⟨g,0,none⟩:=by rw[HX.out];exact eA
     have hbm:(ena L i).b=some g:=by unfold En.b;rw[HX.out];exact hb
     have hfl:(f i).length=n*4:=o1.1;subst eA;have q0:wi.cell? ⟨g,k*4,none⟩=some ((f i)[k*4]'(by omega)):=hc _ _ (AC (by omega));have z0:=hfz (k*4);have q1:wi.cell? ⟨g,k*4+1,none⟩=some ((f i)[k*4+1]'(by omega)):=hc _ _ (AC (by omega));have z1:=hfz (k*4+1);have q2:wi.cell? ⟨g,k*4+2,none⟩=some ((f i)[k*4+2]'(by omega)):=hc _ _ (AC (by omega));have z2:=hfz (k*4+2);have q3:wi.cell? ⟨g,k*4+3,none⟩=some ((f i)[k*4+3]'(by omega)):=hc _ _ (AC (by omega));have z3:=hfz (k*4+3);obtain⟨f',hf'⟩:=HI.out.put4 HIL.out (by rw[HXN.out];exact hkn) hA hbm (show Be i k=[.int .u8 0,.bool false,.int .i64 ((i:Int)*1000+(k:Int)),.string ⟨#[]⟩]from rfl);have wz0:IntKind.i64.wrap ((i:Int)*1000)=(i:Int)*1000:=by rw[AY];omega
     have wz1:IntKind.i64.wrap ((i:Int)*1000+(k:Int))=(i:Int)*1000+(k:Int):=by rw[AY];omega
     have HF:=hid hf';clear hf' o1 hc hfz hb hA hbm;go_wp2
     go_roundg (n-(k+1))
     case measure=>omega
     case rel=>exact⟨k+1,f',rfl,by omega,by go_num,HF⟩
    ·obtain rfl:k=n:=by omega
     go_wp2
     go_roundg (m-(i+1))
     case measure=>omega
     case rel=>exact⟨i+1,f,rfl,by omega,by go_num,hid ((show It Be w wi B 204 4 L i (ena L i).n f from HXN.out▸HI.out).leave HIL.out)⟩
  ·obtain rfl:i=m:=by omega
   have HU1:=hid HP.out.upd;have HQ0:Hid (Ph2 Be wo wo B 204 78 4 L 0 [] none 0):=hid (Ph2.start 78 (show Ph1 Be w wo B 204 4 L L.length f from hm.out▸HP.out));have hcell2:Hid (∀(wr:World) (j:Nat),Upd (Bm L) wo wr->j<i->∃ad,OA=some ad/\wr.cell? (ad.add j)=some (ena L j).v):=hid (fun wr j hu hj=>hcell.out wr j (HU1.out.trans hu) hj);clear HP;go_wp2
   go_loopg [5,6] i (fun z u v wr=>∃(j:Nat) (G:List En) (LA:Option Addr) (lc:Nat),z=i-j/\j<=i/\v=.int .i64 j/\u=.slice LA j lc/\Hid (Ph2 Be wo wr B 204 78 4 L j G LA lc))
   case atStart=>exact⟨0,[],none,0,rfl,AE _,rfl,rfl,HQ0⟩
   case round =>
    clear HQ0;obtain⟨j,G,LA,lc,rfl,hj,rfl,rfl,HP⟩:=hrel;obtain⟨w2,hw2⟩:∃w2:World,w2=wr:=⟨_,rfl⟩;rw[<-hw2]at HP ⊢;clear hw2;by_cases hlt2:j<i
    ·have hjl:j<L.length:=by rw[<-hm.out];exact hlt2
     obtain⟨ad,rfl,p0⟩:=hcell2.out w2 j HP.out.upd hlt2;have hn9:=hn.out j hjl;have HJL:=hid hjl;obtain⟨x,hx⟩:∃x,ena L j=x:=⟨_,rfl⟩;rw[hx]at p0 hn9;obtain⟨A,n,c⟩:=x;have HXN:Hid ((ena L j).n=n):=hid (by rw[hx]);have HXA:Hid ((ena L j).A=A/\(ena L j).c=c):=hid (by rw[hx];exact⟨rfl,rfl⟩);clear hjl hx;replace p0:w2.cell? (ad.add j)=some (.slice A n c):=p0;replace hn9:n<=1000000:=hn9;have HI:Hid (Hq Be w2 w2 B 204 4 L j 0 A c):=hid (by have:=HP.out.enter HJL.out;rwa [HXA.out.1,HXA.out.2]at this);go_wp2
     go_loopg [7,8] 8 (fun z u v wi=>∃(k:Nat) (A':Option Addr) (c':Nat),z=8-k/\k<=8/\v=.int .i64 k/\u=.slice A' (n+k) c'/\Hid (Hq Be w2 wi B 204 4 L j k A' c'))
     case atStart=>exact⟨0,A,c,rfl,AE _,rfl,rfl,HI⟩
     case round =>
      clear HI;obtain⟨k,A',c',rfl,hk,rfl,rfl,HI⟩:=hrel;by_cases hk8:k<8
      ·have wy:IntKind.i64.wrap (-1-(j:Int)) = -1-(j:Int):=by rw[AY];omega
       have wz0:IntKind.i64.wrap ((-1-(j:Int))*1000)=(-1-(j:Int))*1000:=by rw[AY];omega
       have wz1:IntKind.i64.wrap ((-1-(j:Int))*1000+(k:Int))=(-1-(j:Int))*1000+(k:Int):=by rw[AY];omega
       have HO:Hid (Own wr B 204 4 A' (n+k) c' (Ap Be j (ena L j).n++Ap Be (-1-j) k)):=hid (by have:=HI.out.own;rwa [HXN.out]at this ⊢);have hB:B<=(wr.alloc (.cells (#[.int .u8 0,.bool false,.int .i64 ((-1-(j:Int))*1000+(k:Int)),.string ⟨#[]⟩]:Array Value) 204)).heap.size:=by
        have h1:=HI.out.upd.size;have h2:=((Ext.refl wr).alloc (.cells (#[.int .u8 0,.bool false,.int .i64 ((-1-(j:Int))*1000+(k:Int)),.string ⟨#[]⟩]:Array Value) 204)).size;have h3:=HP.out.upd.size;have h4:=HU1.out.size;have h5:=hBw.out;omega
       go_wp2_with (at_builtin;refine Ab _ Io B _ _ rfl rfl A' (n+k) c' _ rfl (HO.out.alloc _) (some ⟨wr.heap.size,0,none⟩) 1 1 (Be (-1-(j:Int)) k) rfl (Sl.one wr #[.int .u8 0,.bool false,.int .i64 ((-1-(j:Int))*1000+(k:Int)),.string ⟨#[]⟩] 204 4 rfl) (Zw _ _) (by omega) (by decide) hB ?_;intro A3 c3 w3 o3 g3 x3;have HN3:Hid (Hq Be w2 w3 B 204 4 L j (k+1) A3 c3):=hid (HI.out.step El _ (by have:=o3;rwa [<-HXN.out]at this) g3 x3);clear o3 g3 x3)
       go_roundg (8-(k+1))
       case measure=>omega
       case rel=>exact⟨k+1,A3,c3,rfl,by omega,by go_num,rfl,HN3⟩
      ·obtain rfl:k=8:=by omega
       have hlst:∀wr:World,Hq Be w2 wr B 204 4 L j 8 A' c'->Own wr wo.heap.size 78 1 LA j lc (Di G):=fun wr h=>HP.out.lst.upd h.upd (fun q hq e=>by
        have h1:=HP.out.foot q ⟨j,HJL.out,e⟩;have h2:=(HP.out.lst.lt q hq).1;omega)
       go_wp2_with (at_builtin;refine Ab _ Oz wo.heap.size _ _ rfl rfl LA j lc (Di G) rfl ((hlst wr HI.out).alloc _) (some ⟨wr.heap.size,0,none⟩) 1 1 [.slice A' (n+8) c'] rfl (Sl.one wr #[.slice A' (n+8) c'] 78 1 rfl) (Fa [⟨A',n+8,c'⟩]) (by omega) (by decide) (by have h1:=HI.out.upd.size;have h2:=HP.out.upd.size;have h3:=((Ext.refl wr).alloc (.cells (#[.slice A' (n+8) c']:Array Value) 78)).size;omega) ?_;intro LA4 lc4 w4 o4 g4 x4;have HN4:Hid (Ph2 Be wo w4 B 204 78 4 L (j+1) (G++[⟨A',(ena L j).n+8,c'⟩]) LA4 lc4):=hid (HP.out.next HJL.out HI.out _ (by have:=o4;rwa [<-HXN.out]at this) g4 x4);clear o4 g4 x4)
       go_roundg (i-(j+1))
       case measure=>omega
       case rel=>exact⟨j+1,_,LA4,lc4,rfl,by omega,by go_num,rfl,HN4⟩
    ·obtain rfl:j=i:=by omega
     have hjm:j=L.length:=hm.out;have hG:∀t,t<j->∃ad,LA=some ad/\w2.cell? (ad.add t)=some (ena G t).v:=fun t ht=>Ez HP.out.lst.sl ht;have HG:=hid hG;clear hG hjm;go_wp2
     go_loopg [9] j (fun z v wr=>∃t:Nat,z=j-t/\t<=j/\v=.int .i64 t/\Hid (wr=w2))
     case atStart=>exact⟨0,rfl,AE _,rfl,hid rfl⟩
     case round =>
      obtain⟨t,rfl,ht,rfl,HW⟩:=hrel;have hW:=HW.out;subst hW;by_cases htj:t<j
      ·have htl:t<L.length:=by rw[<-hm.out];exact htj
       obtain⟨ad,rfl,p0⟩:=hcell2.out wr t HP.out.upd htj;obtain⟨ad2,rfl,p1⟩:=HG.out t htj;have hn9:=hn.out t htl;have hrd:=HP.out.read t htj;obtain⟨hln,hlo⟩:=HP.out.long t htj;obtain⟨x,hx⟩:∃x,ena L t=x:=⟨_,rfl⟩;obtain⟨y,hy⟩:∃y,ena G t=y:=⟨_,rfl⟩;rw[hx]at p0 hn9 hrd hln hlo;rw[hy]at p1 hln hlo;obtain⟨A,n,c⟩:=x;obtain⟨A2,n2,c2⟩:=y;replace p0:wr.cell? (ad.add t)=some (.slice A n c):=p0;replace p1:wr.cell? (ad2.add t)=some (.slice A2 n2 c2):=p1;replace hn9:n<=1000000:=hn9;obtain rfl:n2=n+8:=hln;have HR:Hid (Sl wr 4 A n c (Ap Be t n)):=hid hrd;have HLo:Hid (Sl wr 4 A2 (n+8) c2 (Ap Be t n++Ap Be (-1-t) 8)):=hid hlo.sl;clear hrd hlo hx hy htl;go_wp2
       go_loopg [11] n (fun z v wq=>∃k:Nat,z=n-k/\k<=n/\v=.int .i64 k/\Hid (wq=wr))
       case atStart=>exact⟨0,rfl,AE _,rfl,hid rfl⟩
       case round =>
        obtain⟨k,rfl,hk,rfl,HW2⟩:=hrel;have hW2:=HW2.out;subst hW2;by_cases hkn:k<n
        ·obtain⟨ad3,rfl,r0,r1,r2,r3⟩:=Iv HR.out hkn (show Be t k=[.int .u8 0,.bool false,.int .i64 ((t:Int)*1000+(k:Int)),.string ⟨#[]⟩]from rfl) (fun q hq=>Bx El t hq n k hkn);obtain⟨ad4,rfl,l0,l1,l2,l3⟩:=Iv HLo.out (show k<n+8 by omega) (show Be t k=[.int .u8 0,.bool false,.int .i64 ((t:Int)*1000+(k:Int)),.string ⟨#[]⟩]from rfl) (fun q hq=>by rw[BI (by rw[Ce El];have:(k+1)*4<=n*4:=CT _ hkn;omega)];exact Bx El t hq n k hkn);have wz0:IntKind.i64.wrap ((t:Int)*1000)=(t:Int)*1000:=by rw[AY];omega
         have wz1:IntKind.i64.wrap ((t:Int)*1000+(k:Int))=(t:Int)*1000+(k:Int):=by rw[AY];omega
         go_wp2
         go_roundg (n-(k+1))
         case measure=>omega
         case rel=>exact⟨k+1,rfl,by omega,by go_num,hid rfl⟩
        ·obtain rfl:k=n:=by omega
         go_wp2
         go_loopg [12] 8 (fun z v wq=>∃q:Nat,z=8-q/\q<=8/\v=.int .i64 q/\Hid (wq=wr))
         case atStart=>exact⟨0,rfl,AE _,rfl,hid rfl⟩
         case round =>
          obtain⟨q,rfl,hq,rfl,HW3⟩:=hrel;have hW3:=HW3.out;subst hW3;by_cases hq8:q<8
          ·obtain⟨ad4,rfl,l0,l1,l2,l3⟩:=Iv HLo.out (show k+q<k+8 by omega) (show Be (-1-(t:Int)) q=[.int .u8 0,.bool false,.int .i64 ((-1-(t:Int))*1000+(q:Int)),.string ⟨#[]⟩]from rfl) (fun z hz=>by rw[show(k+q)*4+z=(Ap Be (t:Int) k).length+(q*4+z)by rw[Ce El,DE];omega,BD (FP _ _),CR];exact Bx El _ hz 8 q hq8);have wy:IntKind.i64.wrap (-1-(t:Int)) = -1-(t:Int):=by rw[AY];omega
           have wz0:IntKind.i64.wrap ((-1-(t:Int))*1000)=(-1-(t:Int))*1000:=by rw[AY];omega
           have wz1:IntKind.i64.wrap ((-1-(t:Int))*1000+(q:Int))=(-1-(t:Int))*1000+(q:Int):=by rw[AY];omega
           go_wp2
           go_roundg (8-(q+1))
           case measure=>omega
           case rel=>exact⟨q+1,rfl,by omega,by go_num,hid rfl⟩
          ·obtain rfl:q=8:=by omega
           go_wp2
           go_roundg (j-(t+1))
           case measure=>omega
           case rel=>exact⟨t+1,rfl,by omega,by go_num,hid rfl⟩
      ·obtain rfl:t=j:=by omega
       go_wp2;go_ret;exact⟨rfl,HU1.out.trans HP.out.upd⟩
def Bf(i:Int)(k:Nat):List Value:=[.slice none 0 0,.int .i64 (i*1000+(k:Int))]
theorem Em(i:Int)(k:Nat):(Bf i k).length=2:=rfl
theorem Zx(i:Int)(k:Nat):∀u∈Bf i k,u.oneCell'=true:=by intro u hu;simp[Bf]at hu;rcases hu with rfl|rfl<;>rfl
theorem Pa:Gj Tryz.prog 46 31 1 24 (.slice none 0 0):=⟨by kernel_rfl,by kernel_rfl,rfl,by decide⟩
theorem iE(OA:Option Addr)(oc m B:Nat)(L:List En)(f:Nat->List Value)(w:World)(hm:Hid (m=L.length))(hs:Hid (Sl w 1 OA m oc (Di L)))(hl:Hid (Ew w B 154 2 L f))(hf:Hid (∀k,blk OA oc=some k->¬Bm L k/\k<w.heap.size))(hm9:m<=100000)(hn:Hid (∀i,i<L.length->(ena L i).n<=1000000))(hBw:Hid (B<=w.heap.size)) :
  Calls Tryz.prog 132 #[.slice OA m oc] w fun e w'=>e=.returned (.bool true)/\Upd (Bm L) w w':=by
 have HP0:Hid (Ph1 Bf w w B 154 2 L 0 f):=hid ⟨hl.out,fun j hj=>by omega,Upd.refl _ _⟩;have hcell:Hid (∀(wr:World) (i:Nat),Upd (Bm L) w wr->i<m->∃ad,OA=some ad/\wr.cell? (ad.add i)=some (ena L i).v):=hid (fun wr i hu hi=>Ez (hs.out.upd hu (fun k hk=>(hf.out k hk).1)) hi);go_enter Tryz.func132,Tryz.ntmps132;go_wp2
 go_loopg [3] m (fun z v wr=>∃(i:Nat) (f:Nat->List Value),z=m-i/\i<=m/\v=.int .i64 i/\Hid (Ph1 Bf w wr B 154 2 L i f))
 case atStart=>exact⟨0,f,rfl,AE _,rfl,HP0⟩
 case round =>
  clear HP0;obtain⟨i,f,rfl,hi,rfl,HP⟩:=hrel;obtain⟨wo,hwo⟩:∃wo:World,wo=wr:=⟨_,rfl⟩;rw[<-hwo]at HP ⊢;clear hwo;by_cases hlt:i<m
  ·have hil:i<L.length:=by rw[<-hm.out];exact hlt
   obtain⟨ad,rfl,p0⟩:=hcell.out wo i HP.out.upd hlt;have hn9:=hn.out i hil;have HIL:=hid hil;obtain⟨x,hx⟩:∃x,ena L i=x:=⟨_,rfl⟩;rw[hx]at p0 hn9;obtain⟨A,n,c⟩:=x;have HXN:Hid ((ena L i).n=n):=hid (by rw[hx]);have HX:=hid hx;clear hil hx;replace p0:wo.cell? (ad.add i)=some (.slice A n c):=p0;replace hn9:n<=1000000:=hn9;have HI:=hid HP.out.enter;go_wp2
   go_loopg [4] n (fun z v wi=>∃(k:Nat) (f:Nat->List Value),z=n-k/\k<=n/\v=.int .i64 k/\Hid (It Bf w wi B 154 2 L i k f))
   case atStart=>exact⟨0,f,rfl,AE _,rfl,HI⟩
   case round =>
    clear HI;obtain⟨k,f,rfl,hk,rfl,HI⟩:=hrel;obtain⟨wi,hwi⟩:∃wi:World,wi=wr:=⟨_,rfl⟩;rw[<-hwi]at HI ⊢;clear hwi;obtain⟨ad2,e2,p1⟩:=hcell.out wi i HI.out.ph.upd hlt;cases e2;rw[HX.out]at p1;replace p1:wi.cell? (ad.add i)=some (.slice A n c):=p1;by_cases hkn:k<n
    ·have o1:=HI.out.ph.ls.own i HIL.out;rw[HX.out]at o1;obtain⟨g,eA,hb,_,_,hc,hfz⟩:=o1.form (show 0<n by omega);have hA:(ena L i).A=some ⟨g,0,none⟩:=by rw[HX.out];exact eA
     have hbm:(ena L i).b=some g:=by unfold En.b;rw[HX.out];exact hb
     have hfl:(f i).length=n*2:=o1.1;subst eA;have q0:wi.cell? ⟨g,k*2,none⟩=some ((f i)[k*2]'(by omega)):=hc _ _ (AC (by omega));have z0:=hfz (k*2);have q1:wi.cell? ⟨g,k*2+1,none⟩=some ((f i)[k*2+1]'(by omega)):=hc _ _ (AC (by omega));have z1:=hfz (k*2+1);obtain⟨f',hf'⟩:=HI.out.put2 HIL.out (by rw[HXN.out];exact hkn) hA hbm (show Bf i k=[.slice none 0 0,.int .i64 ((i:Int)*1000+(k:Int))]from rfl);have wz0:IntKind.i64.wrap ((i:Int)*1000)=(i:Int)*1000:=by rw[AY];omega
     have wz1:IntKind.i64.wrap ((i:Int)*1000+(k:Int))=(i:Int)*1000+(k:Int):=by rw[AY];omega
     have HF:=hid hf';clear hf' o1 hc hfz hb hA hbm;go_wp2
     go_roundg (n-(k+1))
     case measure=>omega
     case rel=>exact⟨k+1,f',rfl,by omega,by go_num,HF⟩
    ·obtain rfl:k=n:=by omega
     go_wp2
     go_roundg (m-(i+1))
     case measure=>omega
     case rel=>exact⟨i+1,f,rfl,by omega,by go_num,hid ((show It Bf w wi B 154 2 L i (ena L i).n f from HXN.out▸HI.out).leave HIL.out)⟩
  ·obtain rfl:i=m:=by omega
   have HU1:=hid HP.out.upd;have HQ0:Hid (Ph2 Bf wo wo B 154 31 2 L 0 [] none 0):=hid (Ph2.start 31 (show Ph1 Bf w wo B 154 2 L L.length f from hm.out▸HP.out));have hcell2:Hid (∀(wr:World) (j:Nat),Upd (Bm L) wo wr->j<i->∃ad,OA=some ad/\wr.cell? (ad.add j)=some (ena L j).v):=hid (fun wr j hu hj=>hcell.out wr j (HU1.out.trans hu) hj);clear HP;go_wp2
   go_loopg [5,6] i (fun z u v wr=>∃(j:Nat) (G:List En) (LA:Option Addr) (lc:Nat),z=i-j/\j<=i/\v=.int .i64 j/\u=.slice LA j lc/\Hid (Ph2 Bf wo wr B 154 31 2 L j G LA lc))
   case atStart=>exact⟨0,[],none,0,rfl,AE _,rfl,rfl,HQ0⟩
   case round =>
    clear HQ0;obtain⟨j,G,LA,lc,rfl,hj,rfl,rfl,HP⟩:=hrel;obtain⟨w2,hw2⟩:∃w2:World,w2=wr:=⟨_,rfl⟩;rw[<-hw2]at HP ⊢;clear hw2;by_cases hlt2:j<i
    ·have hjl:j<L.length:=by rw[<-hm.out];exact hlt2
     obtain⟨ad,rfl,p0⟩:=hcell2.out w2 j HP.out.upd hlt2;have hn9:=hn.out j hjl;have HJL:=hid hjl;obtain⟨x,hx⟩:∃x,ena L j=x:=⟨_,rfl⟩;rw[hx]at p0 hn9;obtain⟨A,n,c⟩:=x;have HXN:Hid ((ena L j).n=n):=hid (by rw[hx]);have HXA:Hid ((ena L j).A=A/\(ena L j).c=c):=hid (by rw[hx];exact⟨rfl,rfl⟩);clear hjl hx;replace p0:w2.cell? (ad.add j)=some (.slice A n c):=p0;replace hn9:n<=1000000:=hn9;have HI:Hid (Hq Bf w2 w2 B 154 2 L j 0 A c):=hid (by have:=HP.out.enter HJL.out;rwa [HXA.out.1,HXA.out.2]at this);go_wp2
     go_loopg [7,8] 8 (fun z u v wi=>∃(k:Nat) (A':Option Addr) (c':Nat),z=8-k/\k<=8/\v=.int .i64 k/\u=.slice A' (n+k) c'/\Hid (Hq Bf w2 wi B 154 2 L j k A' c'))
     case atStart=>exact⟨0,A,c,rfl,AE _,rfl,rfl,HI⟩
     case round =>
      clear HI;obtain⟨k,A',c',rfl,hk,rfl,rfl,HI⟩:=hrel;by_cases hk8:k<8
      ·have wy:IntKind.i64.wrap (-1-(j:Int)) = -1-(j:Int):=by rw[AY];omega
       have wz0:IntKind.i64.wrap ((-1-(j:Int))*1000)=(-1-(j:Int))*1000:=by rw[AY];omega
       have wz1:IntKind.i64.wrap ((-1-(j:Int))*1000+(k:Int))=(-1-(j:Int))*1000+(k:Int):=by rw[AY];omega
       have HO:Hid (Own wr B 154 2 A' (n+k) c' (Ap Bf j (ena L j).n++Ap Bf (-1-j) k)):=hid (by have:=HI.out.own;rwa [HXN.out]at this ⊢);have hB:B<=(wr.alloc (.cells (#[.slice none 0 0,.int .i64 ((-1-(j:Int))*1000+(k:Int))]:Array Value) 154)).heap.size:=by
        have h1:=HI.out.upd.size;have h2:=((Ext.refl wr).alloc (.cells (#[.slice none 0 0,.int .i64 ((-1-(j:Int))*1000+(k:Int))]:Array Value) 154)).size;have h3:=HP.out.upd.size;have h4:=HU1.out.size;have h5:=hBw.out;omega
       go_wp2_with (at_builtin;refine Ab _ Br B _ _ rfl rfl A' (n+k) c' _ rfl (HO.out.alloc _) (some ⟨wr.heap.size,0,none⟩) 1 1 (Bf (-1-(j:Int)) k) rfl (Sl.one wr #[.slice none 0 0,.int .i64 ((-1-(j:Int))*1000+(k:Int))] 154 2 rfl) (Zx _ _) (by omega) (by decide) hB ?_;intro A3 c3 w3 o3 g3 x3;have HN3:Hid (Hq Bf w2 w3 B 154 2 L j (k+1) A3 c3):=hid (HI.out.step Em _ (by have:=o3;rwa [<-HXN.out]at this) g3 x3);clear o3 g3 x3)
       go_roundg (8-(k+1))
       case measure=>omega
       case rel=>exact⟨k+1,A3,c3,rfl,by omega,by go_num,rfl,HN3⟩
      ·obtain rfl:k=8:=by omega
       have hlst:∀wr:World,Hq Bf w2 wr B 154 2 L j 8 A' c'->Own wr wo.heap.size 31 1 LA j lc (Di G):=fun wr h=>HP.out.lst.upd h.upd (fun q hq e=>by
        have h1:=HP.out.foot q ⟨j,HJL.out,e⟩;have h2:=(HP.out.lst.lt q hq).1;omega)
       go_wp2_with (at_builtin;refine Ab _ Pa wo.heap.size _ _ rfl rfl LA j lc (Di G) rfl ((hlst wr HI.out).alloc _) (some ⟨wr.heap.size,0,none⟩) 1 1 [.slice A' (n+8) c'] rfl (Sl.one wr #[.slice A' (n+8) c'] 31 1 rfl) (Fa [⟨A',n+8,c'⟩]) (by omega) (by decide) (by have h1:=HI.out.upd.size;have h2:=HP.out.upd.size;have h3:=((Ext.refl wr).alloc (.cells (#[.slice A' (n+8) c']:Array Value) 31)).size;omega) ?_;intro LA4 lc4 w4 o4 g4 x4;have HN4:Hid (Ph2 Bf wo w4 B 154 31 2 L (j+1) (G++[⟨A',(ena L j).n+8,c'⟩]) LA4 lc4):=hid (HP.out.next HJL.out HI.out _ (by have:=o4;rwa [<-HXN.out]at this) g4 x4);clear o4 g4 x4)
       go_roundg (i-(j+1))
       case measure=>omega
       case rel=>exact⟨j+1,_,LA4,lc4,rfl,by omega,by go_num,rfl,HN4⟩
    ·obtain rfl:j=i:=by omega
     have hjm:j=L.length:=hm.out;have hG:∀t,t<j->∃ad,LA=some ad/\w2.cell? (ad.add t)=some (ena G t).v:=fun t ht=>Ez HP.out.lst.sl ht;have HG:=hid hG;clear hG hjm;go_wp2
     go_loopg [9] j (fun z v wr=>∃t:Nat,z=j-t/\t<=j/\v=.int .i64 t/\Hid (wr=w2))
     case atStart=>exact⟨0,rfl,AE _,rfl,hid rfl⟩
     case round =>
      obtain⟨t,rfl,ht,rfl,HW⟩:=hrel;have hW:=HW.out;subst hW;by_cases htj:t<j
      ·have htl:t<L.length:=by rw[<-hm.out];exact htj
       obtain⟨ad,rfl,p0⟩:=hcell2.out wr t HP.out.upd htj;obtain⟨ad2,rfl,p1⟩:=HG.out t htj;have hn9:=hn.out t htl;have hrd:=HP.out.read t htj;obtain⟨hln,hlo⟩:=HP.out.long t htj;obtain⟨x,hx⟩:∃x,ena L t=x:=⟨_,rfl⟩;obtain⟨y,hy⟩:∃y,ena G t=y:=⟨_,rfl⟩;rw[hx]at p0 hn9 hrd hln hlo;rw[hy]at p1 hln hlo;obtain⟨A,n,c⟩:=x;obtain⟨A2,n2,c2⟩:=y;replace p0:wr.cell? (ad.add t)=some (.slice A n c):=p0;replace p1:wr.cell? (ad2.add t)=some (.slice A2 n2 c2):=p1;replace hn9:n<=1000000:=hn9;obtain rfl:n2=n+8:=hln;have HR:Hid (Sl wr 2 A n c (Ap Bf t n)):=hid hrd;have HLo:Hid (Sl wr 2 A2 (n+8) c2 (Ap Bf t n++Ap Bf (-1-t) 8)):=hid hlo.sl;clear hrd hlo hx hy htl;go_wp2
       go_loopg [11] n (fun z v wq=>∃k:Nat,z=n-k/\k<=n/\v=.int .i64 k/\Hid (wq=wr))
       case atStart=>exact⟨0,rfl,AE _,rfl,hid rfl⟩
       case round =>
        obtain⟨k,rfl,hk,rfl,HW2⟩:=hrel;have hW2:=HW2.out;subst hW2;by_cases hkn:k<n
        ·obtain⟨ad3,rfl,r0,r1⟩:=Hw HR.out hkn (show Bf t k=[.slice none 0 0,.int .i64 ((t:Int)*1000+(k:Int))]from rfl) (fun q hq=>Bx Em t hq n k hkn);obtain⟨ad4,rfl,l0,l1⟩:=Hw HLo.out (show k<n+8 by omega) (show Bf t k=[.slice none 0 0,.int .i64 ((t:Int)*1000+(k:Int))]from rfl) (fun q hq=>by rw[BI (by rw[Ce Em];have:(k+1)*2<=n*2:=CT _ hkn;omega)];exact Bx Em t hq n k hkn);have wz0:IntKind.i64.wrap ((t:Int)*1000)=(t:Int)*1000:=by rw[AY];omega
         have wz1:IntKind.i64.wrap ((t:Int)*1000+(k:Int))=(t:Int)*1000+(k:Int):=by rw[AY];omega
         go_wp2
         go_roundg (n-(k+1))
         case measure=>omega
         case rel=>exact⟨k+1,rfl,by omega,by go_num,hid rfl⟩
        ·obtain rfl:k=n:=by omega
         go_wp2
         go_loopg [12] 8 (fun z v wq=>∃q:Nat,z=8-q/\q<=8/\v=.int .i64 q/\Hid (wq=wr))
         case atStart=>exact⟨0,rfl,AE _,rfl,hid rfl⟩
         case round =>
          obtain⟨q,rfl,hq,rfl,HW3⟩:=hrel;have hW3:=HW3.out;subst hW3;by_cases hq8:q<8
          ·obtain⟨ad4,rfl,l0,l1⟩:=Hw HLo.out (show k+q<k+8 by omega) (show Bf (-1-(t:Int)) q=[.slice none 0 0,.int .i64 ((-1-(t:Int))*1000+(q:Int))]from rfl) (fun z hz=>by rw[show(k+q)*2+z=(Ap Bf (t:Int) k).length+(q*2+z)by rw[Ce Em,DE];omega,BD (FP _ _),CR];exact Bx Em _ hz 8 q hq8);have wy:IntKind.i64.wrap (-1-(t:Int)) = -1-(t:Int):=by rw[AY];omega
           have wz0:IntKind.i64.wrap ((-1-(t:Int))*1000)=(-1-(t:Int))*1000:=by rw[AY];omega
           have wz1:IntKind.i64.wrap ((-1-(t:Int))*1000+(q:Int))=(-1-(t:Int))*1000+(q:Int):=by rw[AY];omega
           go_wp2
           go_roundg (8-(q+1))
           case measure=>omega
           case rel=>exact⟨q+1,rfl,by omega,by go_num,hid rfl⟩
          ·obtain rfl:q=8:=by omega
           go_wp2
           go_roundg (j-(t+1))
           case measure=>omega
           case rel=>exact⟨t+1,rfl,by omega,by go_num,hid rfl⟩
      ·obtain rfl:t=j:=by omega
       go_wp2;go_ret;exact⟨rfl,HU1.out.trans HP.out.upd⟩
def Au(i:Int)(k:Nat):List Value:=[.slice none 0 0,.int .u64 0,.slice none 0 0,.int .i64 (i*1000+(k:Int))]
theorem Du(i:Int)(k:Nat):(Au i k).length=4:=rfl
theorem Vt(i:Int)(k:Nat):∀u∈Au i k,u.oneCell'=true:=by intro u hu;simp[Au]at hu;rcases hu with rfl|rfl|rfl|rfl<;>rfl
theorem Nc:Gj Tryz.prog 47 22 1 24 (.slice none 0 0):=⟨by kernel_rfl,by kernel_rfl,rfl,by decide⟩
theorem eE(OA:Option Addr)(oc m B:Nat)(L:List En)(f:Nat->List Value)(w:World)(hm:Hid (m=L.length))(hs:Hid (Sl w 1 OA m oc (Di L)))(hl:Hid (Ew w B 95 4 L f))(hf:Hid (∀k,blk OA oc=some k->¬Bm L k/\k<w.heap.size))(hm9:m<=100000)(hn:Hid (∀i,i<L.length->(ena L i).n<=1000000))(hBw:Hid (B<=w.heap.size)) :
  Calls Tryz.prog 133 #[.slice OA m oc] w fun e w'=>e=.returned (.bool true)/\Upd (Bm L) w w':=by
 have HP0:Hid (Ph1 Au w w B 95 4 L 0 f):=hid ⟨hl.out,fun j hj=>by omega,Upd.refl _ _⟩;have hcell:Hid (∀(wr:World) (i:Nat),Upd (Bm L) w wr->i<m->∃ad,OA=some ad/\wr.cell? (ad.add i)=some (ena L i).v):=hid (fun wr i hu hi=>Ez (hs.out.upd hu (fun k hk=>(hf.out k hk).1)) hi);go_enter Tryz.func133,Tryz.ntmps133;go_wp2
 go_loopg [3] m (fun z v wr=>∃(i:Nat) (f:Nat->List Value),z=m-i/\i<=m/\v=.int .i64 i/\Hid (Ph1 Au w wr B 95 4 L i f))
 case atStart=>exact⟨0,f,rfl,AE _,rfl,HP0⟩
 case round =>
  clear HP0;obtain⟨i,f,rfl,hi,rfl,HP⟩:=hrel;obtain⟨wo,hwo⟩:∃wo:World,wo=wr:=⟨_,rfl⟩;rw[<-hwo]at HP ⊢;clear hwo;by_cases hlt:i<m
  ·have hil:i<L.length:=by rw[<-hm.out];exact hlt
   obtain⟨ad,rfl,p0⟩:=hcell.out wo i HP.out.upd hlt;have hn9:=hn.out i hil;have HIL:=hid hil;obtain⟨x,hx⟩:∃x,ena L i=x:=⟨_,rfl⟩;rw[hx]at p0 hn9;obtain⟨A,n,c⟩:=x;have HXN:Hid ((ena L i).n=n):=hid (by rw[hx]);have HX:=hid hx;clear hil hx;replace p0:wo.cell? (ad.add i)=some (.slice A n c):=p0;replace hn9:n<=1000000:=hn9;have HI:=hid HP.out.enter;go_wp2
   go_loopg [4] n (fun z v wi=>∃(k:Nat) (f:Nat->List Value),z=n-k/\k<=n/\v=.int .i64 k/\Hid (It Au w wi B 95 4 L i k f))
   case atStart=>exact⟨0,f,rfl,AE _,rfl,HI⟩
   case round =>
    clear HI;obtain⟨k,f,rfl,hk,rfl,HI⟩:=hrel;obtain⟨wi,hwi⟩:∃wi:World,wi=wr:=⟨_,rfl⟩;rw[<-hwi]at HI ⊢;clear hwi;obtain⟨ad2,e2,p1⟩:=hcell.out wi i HI.out.ph.upd hlt;cases e2;rw[HX.out]at p1;replace p1:wi.cell? (ad.add i)=some (.slice A n c):=p1;by_cases hkn:k<n
    ·have o1:=HI.out.ph.ls.own i HIL.out;rw[HX.out]at o1;obtain⟨g,eA,hb,_,_,hc,hfz⟩:=o1.form (show 0<n by omega);have hA:(ena L i).A=some ⟨g,0,none⟩:=by rw[HX.out];exact eA
     have hbm:(ena L i).b=some g:=by unfold En.b;rw[HX.out];exact hb
     have hfl:(f i).length=n*4:=o1.1;subst eA;have q0:wi.cell? ⟨g,k*4,none⟩=some ((f i)[k*4]'(by omega)):=hc _ _ (AC (by omega));have z0:=hfz (k*4);have q1:wi.cell? ⟨g,k*4+1,none⟩=some ((f i)[k*4+1]'(by omega)):=hc _ _ (AC (by omega));have z1:=hfz (k*4+1);have q2:wi.cell? ⟨g,k*4+2,none⟩=some ((f i)[k*4+2]'(by omega)):=hc _ _ (AC (by omega));have z2:=hfz (k*4+2);have q3:wi.cell? ⟨g,k*4+3,none⟩=some ((f i)[k*4+3]'(by omega)):=hc _ _ (AC (by omega));have z3:=hfz (k*4+3);obtain⟨f',hf'⟩:=HI.out.put4 HIL.out (by rw[HXN.out];exact hkn) hA hbm (show Au i k=[.slice none 0 0,.int .u64 0,.slice none 0 0,.int .i64 ((i:Int)*1000+(k:Int))]from rfl);have wz0:IntKind.i64.wrap ((i:Int)*1000)=(i:Int)*1000:=by rw[AY];omega
     have wz1:IntKind.i64.wrap ((i:Int)*1000+(k:Int))=(i:Int)*1000+(k:Int):=by rw[AY];omega
     have HF:=hid hf';clear hf' o1 hc hfz hb hA hbm;go_wp2
     go_roundg (n-(k+1))
     case measure=>omega
     case rel=>exact⟨k+1,f',rfl,by omega,by go_num,HF⟩
    ·obtain rfl:k=n:=by omega
     go_wp2
     go_roundg (m-(i+1))
     case measure=>omega
     case rel=>exact⟨i+1,f,rfl,by omega,by go_num,hid ((show It Au w wi B 95 4 L i (ena L i).n f from HXN.out▸HI.out).leave HIL.out)⟩
  ·obtain rfl:i=m:=by omega
   have HU1:=hid HP.out.upd;have HQ0:Hid (Ph2 Au wo wo B 95 22 4 L 0 [] none 0):=hid (Ph2.start 22 (show Ph1 Au w wo B 95 4 L L.length f from hm.out▸HP.out));have hcell2:Hid (∀(wr:World) (j:Nat),Upd (Bm L) wo wr->j<i->∃ad,OA=some ad/\wr.cell? (ad.add j)=some (ena L j).v):=hid (fun wr j hu hj=>hcell.out wr j (HU1.out.trans hu) hj);clear HP;go_wp2
   go_loopg [5,6] i (fun z u v wr=>∃(j:Nat) (G:List En) (LA:Option Addr) (lc:Nat),z=i-j/\j<=i/\v=.int .i64 j/\u=.slice LA j lc/\Hid (Ph2 Au wo wr B 95 22 4 L j G LA lc))
   case atStart=>exact⟨0,[],none,0,rfl,AE _,rfl,rfl,HQ0⟩
   case round =>
    clear HQ0;obtain⟨j,G,LA,lc,rfl,hj,rfl,rfl,HP⟩:=hrel;obtain⟨w2,hw2⟩:∃w2:World,w2=wr:=⟨_,rfl⟩;rw[<-hw2]at HP ⊢;clear hw2;by_cases hlt2:j<i
    ·have hjl:j<L.length:=by rw[<-hm.out];exact hlt2
     obtain⟨ad,rfl,p0⟩:=hcell2.out w2 j HP.out.upd hlt2;have hn9:=hn.out j hjl;have HJL:=hid hjl;obtain⟨x,hx⟩:∃x,ena L j=x:=⟨_,rfl⟩;rw[hx]at p0 hn9;obtain⟨A,n,c⟩:=x;have HXN:Hid ((ena L j).n=n):=hid (by rw[hx]);have HXA:Hid ((ena L j).A=A/\(ena L j).c=c):=hid (by rw[hx];exact⟨rfl,rfl⟩);clear hjl hx;replace p0:w2.cell? (ad.add j)=some (.slice A n c):=p0;replace hn9:n<=1000000:=hn9;have HI:Hid (Hq Au w2 w2 B 95 4 L j 0 A c):=hid (by have:=HP.out.enter HJL.out;rwa [HXA.out.1,HXA.out.2]at this);go_wp2
     go_loopg [7,8] 8 (fun z u v wi=>∃(k:Nat) (A':Option Addr) (c':Nat),z=8-k/\k<=8/\v=.int .i64 k/\u=.slice A' (n+k) c'/\Hid (Hq Au w2 wi B 95 4 L j k A' c'))
     case atStart=>exact⟨0,A,c,rfl,AE _,rfl,rfl,HI⟩
     case round =>
      clear HI;obtain⟨k,A',c',rfl,hk,rfl,rfl,HI⟩:=hrel;by_cases hk8:k<8
      ·have wy:IntKind.i64.wrap (-1-(j:Int)) = -1-(j:Int):=by rw[AY];omega
       have wz0:IntKind.i64.wrap ((-1-(j:Int))*1000)=(-1-(j:Int))*1000:=by rw[AY];omega
       have wz1:IntKind.i64.wrap ((-1-(j:Int))*1000+(k:Int))=(-1-(j:Int))*1000+(k:Int):=by rw[AY];omega
       have HO:Hid (Own wr B 95 4 A' (n+k) c' (Ap Au j (ena L j).n++Ap Au (-1-j) k)):=hid (by have:=HI.out.own;rwa [HXN.out]at this ⊢);have hB:B<=(wr.alloc (.cells (#[.slice none 0 0,.int .u64 0,.slice none 0 0,.int .i64 ((-1-(j:Int))*1000+(k:Int))]:Array Value) 95)).heap.size:=by
        have h1:=HI.out.upd.size;have h2:=((Ext.refl wr).alloc (.cells (#[.slice none 0 0,.int .u64 0,.slice none 0 0,.int .i64 ((-1-(j:Int))*1000+(k:Int))]:Array Value) 95)).size;have h3:=HP.out.upd.size;have h4:=HU1.out.size;have h5:=hBw.out;omega
       go_wp2_with (at_builtin;refine Ab _ Aw B _ _ rfl rfl A' (n+k) c' _ rfl (HO.out.alloc _) (some ⟨wr.heap.size,0,none⟩) 1 1 (Au (-1-(j:Int)) k) rfl (Sl.one wr #[.slice none 0 0,.int .u64 0,.slice none 0 0,.int .i64 ((-1-(j:Int))*1000+(k:Int))] 95 4 rfl) (Vt _ _) (by omega) (by decide) hB ?_;intro A3 c3 w3 o3 g3 x3;have HN3:Hid (Hq Au w2 w3 B 95 4 L j (k+1) A3 c3):=hid (HI.out.step Du _ (by have:=o3;rwa [<-HXN.out]at this) g3 x3);clear o3 g3 x3)
       go_roundg (8-(k+1))
       case measure=>omega
       case rel=>exact⟨k+1,A3,c3,rfl,by omega,by go_num,rfl,HN3⟩
      ·obtain rfl:k=8:=by omega
       have hlst:∀wr:World,Hq Au w2 wr B 95 4 L j 8 A' c'->Own wr wo.heap.size 22 1 LA j lc (Di G):=fun wr h=>HP.out.lst.upd h.upd (fun q hq e=>by
        have h1:=HP.out.foot q ⟨j,HJL.out,e⟩;have h2:=(HP.out.lst.lt q hq).1;omega)
       go_wp2_with (at_builtin;refine Ab _ Nc wo.heap.size _ _ rfl rfl LA j lc (Di G) rfl ((hlst wr HI.out).alloc _) (some ⟨wr.heap.size,0,none⟩) 1 1 [.slice A' (n+8) c'] rfl (Sl.one wr #[.slice A' (n+8) c'] 22 1 rfl) (Fa [⟨A',n+8,c'⟩]) (by omega) (by decide) (by have h1:=HI.out.upd.size;have h2:=HP.out.upd.size;have h3:=((Ext.refl wr).alloc (.cells (#[.slice A' (n+8) c']:Array Value) 22)).size;omega) ?_;intro LA4 lc4 w4 o4 g4 x4;have HN4:Hid (Ph2 Au wo w4 B 95 22 4 L (j+1) (G++[⟨A',(ena L j).n+8,c'⟩]) LA4 lc4):=hid (HP.out.next HJL.out HI.out _ (by have:=o4;rwa [<-HXN.out]at this) g4 x4);clear o4 g4 x4)
       go_roundg (i-(j+1))
       case measure=>omega
       case rel=>exact⟨j+1,_,LA4,lc4,rfl,by omega,by go_num,rfl,HN4⟩
    ·obtain rfl:j=i:=by omega
     have hjm:j=L.length:=hm.out;have hG:∀t,t<j->∃ad,LA=some ad/\w2.cell? (ad.add t)=some (ena G t).v:=fun t ht=>Ez HP.out.lst.sl ht;have HG:=hid hG;clear hG hjm;go_wp2
     go_loopg [9] j (fun z v wr=>∃t:Nat,z=j-t/\t<=j/\v=.int .i64 t/\Hid (wr=w2))
     case atStart=>exact⟨0,rfl,AE _,rfl,hid rfl⟩
     case round =>
      obtain⟨t,rfl,ht,rfl,HW⟩:=hrel;have hW:=HW.out;subst hW;by_cases htj:t<j
      ·have htl:t<L.length:=by rw[<-hm.out];exact htj
       obtain⟨ad,rfl,p0⟩:=hcell2.out wr t HP.out.upd htj;obtain⟨ad2,rfl,p1⟩:=HG.out t htj;have hn9:=hn.out t htl;have hrd:=HP.out.read t htj;obtain⟨hln,hlo⟩:=HP.out.long t htj;obtain⟨x,hx⟩:∃x,ena L t=x:=⟨_,rfl⟩;obtain⟨y,hy⟩:∃y,ena G t=y:=⟨_,rfl⟩;rw[hx]at p0 hn9 hrd hln hlo;rw[hy]at p1 hln hlo;obtain⟨A,n,c⟩:=x;obtain⟨A2,n2,c2⟩:=y;replace p0:wr.cell? (ad.add t)=some (.slice A n c):=p0;replace p1:wr.cell? (ad2.add t)=some (.slice A2 n2 c2):=p1;replace hn9:n<=1000000:=hn9;obtain rfl:n2=n+8:=hln;have HR:Hid (Sl wr 4 A n c (Ap Au t n)):=hid hrd;have HLo:Hid (Sl wr 4 A2 (n+8) c2 (Ap Au t n++Ap Au (-1-t) 8)):=hid hlo.sl;clear hrd hlo hx hy htl;go_wp2
       go_loopg [11] n (fun z v wq=>∃k:Nat,z=n-k/\k<=n/\v=.int .i64 k/\Hid (wq=wr))
       case atStart=>exact⟨0,rfl,AE _,rfl,hid rfl⟩
       case round =>
        obtain⟨k,rfl,hk,rfl,HW2⟩:=hrel;have hW2:=HW2.out;subst hW2;by_cases hkn:k<n
        ·obtain⟨ad3,rfl,r0,r1,r2,r3⟩:=Iv HR.out hkn (show Au t k=[.slice none 0 0,.int .u64 0,.slice none 0 0,.int .i64 ((t:Int)*1000+(k:Int))]from rfl) (fun q hq=>Bx Du t hq n k hkn);obtain⟨ad4,rfl,l0,l1,l2,l3⟩:=Iv HLo.out (show k<n+8 by omega) (show Au t k=[.slice none 0 0,.int .u64 0,.slice none 0 0,.int .i64 ((t:Int)*1000+(k:Int))]from rfl) (fun q hq=>by rw[BI (by rw[Ce Du];have:(k+1)*4<=n*4:=CT _ hkn;omega)];exact Bx Du t hq n k hkn);have wz0:IntKind.i64.wrap ((t:Int)*1000)=(t:Int)*1000:=by rw[AY];omega
         have wz1:IntKind.i64.wrap ((t:Int)*1000+(k:Int))=(t:Int)*1000+(k:Int):=by rw[AY];omega
         go_wp2
         go_roundg (n-(k+1))
         case measure=>omega
         case rel=>exact⟨k+1,rfl,by omega,by go_num,hid rfl⟩
        ·obtain rfl:k=n:=by omega
         go_wp2
         go_loopg [12] 8 (fun z v wq=>∃q:Nat,z=8-q/\q<=8/\v=.int .i64 q/\Hid (wq=wr))
         case atStart=>exact⟨0,rfl,AE _,rfl,hid rfl⟩
         case round =>
          obtain⟨q,rfl,hq,rfl,HW3⟩:=hrel;have hW3:=HW3.out;subst hW3;by_cases hq8:q<8
          ·obtain⟨ad4,rfl,l0,l1,l2,l3⟩:=Iv HLo.out (show k+q<k+8 by omega) (show Au (-1-(t:Int)) q=[.slice none 0 0,.int .u64 0,.slice none 0 0,.int .i64 ((-1-(t:Int))*1000+(q:Int))]from rfl) (fun z hz=>by rw[show(k+q)*4+z=(Ap Au (t:Int) k).length+(q*4+z)by rw[Ce Du,DE];omega,BD (FP _ _),CR];exact Bx Du _ hz 8 q hq8);have wy:IntKind.i64.wrap (-1-(t:Int)) = -1-(t:Int):=by rw[AY];omega
           have wz0:IntKind.i64.wrap ((-1-(t:Int))*1000)=(-1-(t:Int))*1000:=by rw[AY];omega
           have wz1:IntKind.i64.wrap ((-1-(t:Int))*1000+(q:Int))=(-1-(t:Int))*1000+(q:Int):=by rw[AY];omega
           go_wp2
           go_roundg (8-(q+1))
           case measure=>omega
           case rel=>exact⟨q+1,rfl,by omega,by go_num,hid rfl⟩
          ·obtain rfl:q=8:=by omega
           go_wp2
           go_roundg (j-(t+1))
           case measure=>omega
           case rel=>exact⟨t+1,rfl,by omega,by go_num,hid rfl⟩
      ·obtain rfl:t=j:=by omega
       go_wp2;go_ret;exact⟨rfl,HU1.out.trans HP.out.upd⟩
def Al(i:Int)(k:Nat):List Value:=[.int .u64 (1099511627776+i*1000+(k:Int)),.slice none 0 0]
theorem Dh(i:Int)(k:Nat):(Al i k).length=2:=rfl
theorem Vf(i:Int)(k:Nat):∀u∈Al i k,u.oneCell'=true:=by intro u hu;simp[Al]at hu;rcases hu with rfl|rfl<;>rfl
theorem Mb:Gj Tryz.prog 48 27 1 24 (.slice none 0 0):=⟨by kernel_rfl,by kernel_rfl,rfl,by decide⟩
theorem Zq(OA:Option Addr)(oc m B:Nat)(L:List En)(f:Nat->List Value)(w:World)(hm:Hid (m=L.length))(hs:Hid (Sl w 1 OA m oc (Di L)))(hl:Hid (Ew w B 26 2 L f))(hf:Hid (∀k,blk OA oc=some k->¬Bm L k/\k<w.heap.size))(hm9:m<=100000)(hn:Hid (∀i,i<L.length->(ena L i).n<=1000000))(hBw:Hid (B<=w.heap.size)) :
  Calls Tryz.prog 134 #[.slice OA m oc] w fun e w'=>e=.returned (.bool true)/\Upd (Bm L) w w':=by
 have HP0:Hid (Ph1 Al w w B 26 2 L 0 f):=hid ⟨hl.out,fun j hj=>by omega,Upd.refl _ _⟩;have hcell:Hid (∀(wr:World) (i:Nat),Upd (Bm L) w wr->i<m->∃ad,OA=some ad/\wr.cell? (ad.add i)=some (ena L i).v):=hid (fun wr i hu hi=>Ez (hs.out.upd hu (fun k hk=>(hf.out k hk).1)) hi);go_enter Tryz.func134,Tryz.ntmps134;go_wp2
 go_loopg [3] m (fun z v wr=>∃(i:Nat) (f:Nat->List Value),z=m-i/\i<=m/\v=.int .i64 i/\Hid (Ph1 Al w wr B 26 2 L i f))
 case atStart=>exact⟨0,f,rfl,AE _,rfl,HP0⟩
 case round =>
  clear HP0;obtain⟨i,f,rfl,hi,rfl,HP⟩:=hrel;obtain⟨wo,hwo⟩:∃wo:World,wo=wr:=⟨_,rfl⟩;rw[<-hwo]at HP ⊢;clear hwo;by_cases hlt:i<m
  ·have hil:i<L.length:=by rw[<-hm.out];exact hlt
   obtain⟨ad,rfl,p0⟩:=hcell.out wo i HP.out.upd hlt;have hn9:=hn.out i hil;have HIL:=hid hil;obtain⟨x,hx⟩:∃x,ena L i=x:=⟨_,rfl⟩;rw[hx]at p0 hn9;obtain⟨A,n,c⟩:=x;have HXN:Hid ((ena L i).n=n):=hid (by rw[hx]);have HX:=hid hx;clear hil hx;replace p0:wo.cell? (ad.add i)=some (.slice A n c):=p0;replace hn9:n<=1000000:=hn9;have HI:=hid HP.out.enter;go_wp2
   go_loopg [4] n (fun z v wi=>∃(k:Nat) (f:Nat->List Value),z=n-k/\k<=n/\v=.int .i64 k/\Hid (It Al w wi B 26 2 L i k f))
   case atStart=>exact⟨0,f,rfl,AE _,rfl,HI⟩
   case round =>
    clear HI;obtain⟨k,f,rfl,hk,rfl,HI⟩:=hrel;obtain⟨wi,hwi⟩:∃wi:World,wi=wr:=⟨_,rfl⟩;rw[<-hwi]at HI ⊢;clear hwi;obtain⟨ad2,e2,p1⟩:=hcell.out wi i HI.out.ph.upd hlt;cases e2;rw[HX.out]at p1;replace p1:wi.cell? (ad.add i)=some (.slice A n c):=p1;by_cases hkn:k<n
    ·have o1:=HI.out.ph.ls.own i HIL.out;rw[HX.out]at o1;obtain⟨g,eA,hb,_,_,hc,hfz⟩:=o1.form (show 0<n by omega);have hA:(ena L i).A=some ⟨g,0,none⟩:=by rw[HX.out];exact eA
     have hbm:(ena L i).b=some g:=by unfold En.b;rw[HX.out];exact hb
     have hfl:(f i).length=n*2:=o1.1;subst eA;have q0:wi.cell? ⟨g,k*2,none⟩=some ((f i)[k*2]'(by omega)):=hc _ _ (AC (by omega));have z0:=hfz (k*2);have q1:wi.cell? ⟨g,k*2+1,none⟩=some ((f i)[k*2+1]'(by omega)):=hc _ _ (AC (by omega));have z1:=hfz (k*2+1);obtain⟨f',hf'⟩:=HI.out.put2 HIL.out (by rw[HXN.out];exact hkn) hA hbm (show Al i k=[.int .u64 (1099511627776+(i:Int)*1000+(k:Int)),.slice none 0 0]from rfl);have wz0:IntKind.i64.wrap ((i:Int)*1000)=(i:Int)*1000:=by rw[AY];omega
     have wz1:IntKind.i64.wrap (1099511627776+(i:Int)*1000)=1099511627776+(i:Int)*1000:=by rw[AY];omega
     have wz2:IntKind.i64.wrap (1099511627776+(i:Int)*1000+(k:Int))=1099511627776+(i:Int)*1000+(k:Int):=by rw[AY];omega
     have wz3:IntKind.u64.wrap (1099511627776+(i:Int)*1000+(k:Int))=1099511627776+(i:Int)*1000+(k:Int):=by rw[EX];omega
     have HF:=hid hf';clear hf' o1 hc hfz hb hA hbm;go_wp2
     go_roundg (n-(k+1))
     case measure=>omega
     case rel=>exact⟨k+1,f',rfl,by omega,by go_num,HF⟩
    ·obtain rfl:k=n:=by omega
     go_wp2
     go_roundg (m-(i+1))
     case measure=>omega
     case rel=>exact⟨i+1,f,rfl,by omega,by go_num,hid ((show It Al w wi B 26 2 L i (ena L i).n f from HXN.out▸HI.out).leave HIL.out)⟩
  ·obtain rfl:i=m:=by omega
   have HU1:=hid HP.out.upd;have HQ0:Hid (Ph2 Al wo wo B 26 27 2 L 0 [] none 0):=hid (Ph2.start 27 (show Ph1 Al w wo B 26 2 L L.length f from hm.out▸HP.out));have hcell2:Hid (∀(wr:World) (j:Nat),Upd (Bm L) wo wr->j<i->∃ad,OA=some ad/\wr.cell? (ad.add j)=some (ena L j).v):=hid (fun wr j hu hj=>hcell.out wr j (HU1.out.trans hu) hj);clear HP;go_wp2
   go_loopg [5,6] i (fun z u v wr=>∃(j:Nat) (G:List En) (LA:Option Addr) (lc:Nat),z=i-j/\j<=i/\v=.int .i64 j/\u=.slice LA j lc/\Hid (Ph2 Al wo wr B 26 27 2 L j G LA lc))
   case atStart=>exact⟨0,[],none,0,rfl,AE _,rfl,rfl,HQ0⟩
   case round =>
    clear HQ0;obtain⟨j,G,LA,lc,rfl,hj,rfl,rfl,HP⟩:=hrel;obtain⟨w2,hw2⟩:∃w2:World,w2=wr:=⟨_,rfl⟩;rw[<-hw2]at HP ⊢;clear hw2;by_cases hlt2:j<i
    ·have hjl:j<L.length:=by rw[<-hm.out];exact hlt2
     obtain⟨ad,rfl,p0⟩:=hcell2.out w2 j HP.out.upd hlt2;have hn9:=hn.out j hjl;have HJL:=hid hjl;obtain⟨x,hx⟩:∃x,ena L j=x:=⟨_,rfl⟩;rw[hx]at p0 hn9;obtain⟨A,n,c⟩:=x;have HXN:Hid ((ena L j).n=n):=hid (by rw[hx]);have HXA:Hid ((ena L j).A=A/\(ena L j).c=c):=hid (by rw[hx];exact⟨rfl,rfl⟩);clear hjl hx;replace p0:w2.cell? (ad.add j)=some (.slice A n c):=p0;replace hn9:n<=1000000:=hn9;have HI:Hid (Hq Al w2 w2 B 26 2 L j 0 A c):=hid (by have:=HP.out.enter HJL.out;rwa [HXA.out.1,HXA.out.2]at this);go_wp2
     go_loopg [7,8] 8 (fun z u v wi=>∃(k:Nat) (A':Option Addr) (c':Nat),z=8-k/\k<=8/\v=.int .i64 k/\u=.slice A' (n+k) c'/\Hid (Hq Al w2 wi B 26 2 L j k A' c'))
     case atStart=>exact⟨0,A,c,rfl,AE _,rfl,rfl,HI⟩
     case round =>
      clear HI;obtain⟨k,A',c',rfl,hk,rfl,rfl,HI⟩:=hrel;by_cases hk8:k<8
      ·have wy:IntKind.i64.wrap (-1-(j:Int)) = -1-(j:Int):=by rw[AY];omega
       have wz0:IntKind.i64.wrap ((-1-(j:Int))*1000)=(-1-(j:Int))*1000:=by rw[AY];omega
       have wz1:IntKind.i64.wrap (1099511627776+(-1-(j:Int))*1000)=1099511627776+(-1-(j:Int))*1000:=by rw[AY];omega
       have wz2:IntKind.i64.wrap (1099511627776+(-1-(j:Int))*1000+(k:Int))=1099511627776+(-1-(j:Int))*1000+(k:Int):=by rw[AY];omega
       have wz3:IntKind.u64.wrap (1099511627776+(-1-(j:Int))*1000+(k:Int))=1099511627776+(-1-(j:Int))*1000+(k:Int):=by rw[EX];omega
       have HO:Hid (Own wr B 26 2 A' (n+k) c' (Ap Al j (ena L j).n++Ap Al (-1-j) k)):=hid (by have:=HI.out.own;rwa [HXN.out]at this ⊢);have hB:B<=(wr.alloc (.cells (#[.int .u64 (1099511627776+(-1-(j:Int))*1000+(k:Int)),.slice none 0 0]:Array Value) 26)).heap.size:=by
        have h1:=HI.out.upd.size;have h2:=((Ext.refl wr).alloc (.cells (#[.int .u64 (1099511627776+(-1-(j:Int))*1000+(k:Int)),.slice none 0 0]:Array Value) 26)).size;have h3:=HP.out.upd.size;have h4:=HU1.out.size;have h5:=hBw.out;omega
       go_wp2_with (at_builtin;refine Ab _ Gv B _ _ rfl rfl A' (n+k) c' _ rfl (HO.out.alloc _) (some ⟨wr.heap.size,0,none⟩) 1 1 (Al (-1-(j:Int)) k) rfl (Sl.one wr #[.int .u64 (1099511627776+(-1-(j:Int))*1000+(k:Int)),.slice none 0 0] 26 2 rfl) (Vf _ _) (by omega) (by decide) hB ?_;intro A3 c3 w3 o3 g3 x3;have HN3:Hid (Hq Al w2 w3 B 26 2 L j (k+1) A3 c3):=hid (HI.out.step Dh _ (by have:=o3;rwa [<-HXN.out]at this) g3 x3);clear o3 g3 x3)
       go_roundg (8-(k+1))
       case measure=>omega
       case rel=>exact⟨k+1,A3,c3,rfl,by omega,by go_num,rfl,HN3⟩
      ·obtain rfl:k=8:=by omega
       have hlst:∀wr:World,Hq Al w2 wr B 26 2 L j 8 A' c'->Own wr wo.heap.size 27 1 LA j lc (Di G):=fun wr h=>HP.out.lst.upd h.upd (fun q hq e=>by
        have h1:=HP.out.foot q ⟨j,HJL.out,e⟩;have h2:=(HP.out.lst.lt q hq).1;omega)
       go_wp2_with (at_builtin;refine Ab _ Mb wo.heap.size _ _ rfl rfl LA j lc (Di G) rfl ((hlst wr HI.out).alloc _) (some ⟨wr.heap.size,0,none⟩) 1 1 [.slice A' (n+8) c'] rfl (Sl.one wr #[.slice A' (n+8) c'] 27 1 rfl) (Fa [⟨A',n+8,c'⟩]) (by omega) (by decide) (by have h1:=HI.out.upd.size;have h2:=HP.out.upd.size;have h3:=((Ext.refl wr).alloc (.cells (#[.slice A' (n+8) c']:Array Value) 27)).size;omega) ?_;intro LA4 lc4 w4 o4 g4 x4;have HN4:Hid (Ph2 Al wo w4 B 26 27 2 L (j+1) (G++[⟨A',(ena L j).n+8,c'⟩]) LA4 lc4):=hid (HP.out.next HJL.out HI.out _ (by have:=o4;rwa [<-HXN.out]at this) g4 x4);clear o4 g4 x4)
       go_roundg (i-(j+1))
       case measure=>omega
       case rel=>exact⟨j+1,_,LA4,lc4,rfl,by omega,by go_num,rfl,HN4⟩
    ·obtain rfl:j=i:=by omega
     have hjm:j=L.length:=hm.out;have hG:∀t,t<j->∃ad,LA=some ad/\w2.cell? (ad.add t)=some (ena G t).v:=fun t ht=>Ez HP.out.lst.sl ht;have HG:=hid hG;clear hG hjm;go_wp2
     go_loopg [9] j (fun z v wr=>∃t:Nat,z=j-t/\t<=j/\v=.int .i64 t/\Hid (wr=w2))
     case atStart=>exact⟨0,rfl,AE _,rfl,hid rfl⟩
     case round =>
      obtain⟨t,rfl,ht,rfl,HW⟩:=hrel;have hW:=HW.out;subst hW;by_cases htj:t<j
      ·have htl:t<L.length:=by rw[<-hm.out];exact htj
       obtain⟨ad,rfl,p0⟩:=hcell2.out wr t HP.out.upd htj;obtain⟨ad2,rfl,p1⟩:=HG.out t htj;have hn9:=hn.out t htl;have hrd:=HP.out.read t htj;obtain⟨hln,hlo⟩:=HP.out.long t htj;obtain⟨x,hx⟩:∃x,ena L t=x:=⟨_,rfl⟩;obtain⟨y,hy⟩:∃y,ena G t=y:=⟨_,rfl⟩;rw[hx]at p0 hn9 hrd hln hlo;rw[hy]at p1 hln hlo;obtain⟨A,n,c⟩:=x;obtain⟨A2,n2,c2⟩:=y;replace p0:wr.cell? (ad.add t)=some (.slice A n c):=p0;replace p1:wr.cell? (ad2.add t)=some (.slice A2 n2 c2):=p1;replace hn9:n<=1000000:=hn9;obtain rfl:n2=n+8:=hln;have HR:Hid (Sl wr 2 A n c (Ap Al t n)):=hid hrd;have HLo:Hid (Sl wr 2 A2 (n+8) c2 (Ap Al t n++Ap Al (-1-t) 8)):=hid hlo.sl;clear hrd hlo hx hy htl;go_wp2
       go_loopg [11] n (fun z v wq=>∃k:Nat,z=n-k/\k<=n/\v=.int .i64 k/\Hid (wq=wr))
       case atStart=>exact⟨0,rfl,AE _,rfl,hid rfl⟩
       case round =>
        obtain⟨k,rfl,hk,rfl,HW2⟩:=hrel;have hW2:=HW2.out;subst hW2;by_cases hkn:k<n
        ·obtain⟨ad3,rfl,r0,r1⟩:=Hw HR.out hkn (show Al t k=[.int .u64 (1099511627776+(t:Int)*1000+(k:Int)),.slice none 0 0]from rfl) (fun q hq=>Bx Dh t hq n k hkn);obtain⟨ad4,rfl,l0,l1⟩:=Hw HLo.out (show k<n+8 by omega) (show Al t k=[.int .u64 (1099511627776+(t:Int)*1000+(k:Int)),.slice none 0 0]from rfl) (fun q hq=>by rw[BI (by rw[Ce Dh];have:(k+1)*2<=n*2:=CT _ hkn;omega)];exact Bx Dh t hq n k hkn);have wz0:IntKind.i64.wrap ((t:Int)*1000)=(t:Int)*1000:=by rw[AY];omega
         have wz1:IntKind.i64.wrap (1099511627776+(t:Int)*1000)=1099511627776+(t:Int)*1000:=by rw[AY];omega
         have wz2:IntKind.i64.wrap (1099511627776+(t:Int)*1000+(k:Int))=1099511627776+(t:Int)*1000+(k:Int):=by rw[AY];omega
         have wz3:IntKind.u64.wrap (1099511627776+(t:Int)*1000+(k:Int))=1099511627776+(t:Int)*1000+(k:Int):=by rw[EX];omega
         go_wp2
         go_roundg (n-(k+1))
         case measure=>omega
         case rel=>exact⟨k+1,rfl,by omega,by go_num,hid rfl⟩
        ·obtain rfl:k=n:=by omega
         go_wp2
         go_loopg [12] 8 (fun z v wq=>∃q:Nat,z=8-q/\q<=8/\v=.int .i64 q/\Hid (wq=wr))
         case atStart=>exact⟨0,rfl,AE _,rfl,hid rfl⟩
         case round =>
          obtain⟨q,rfl,hq,rfl,HW3⟩:=hrel;have hW3:=HW3.out;subst hW3;by_cases hq8:q<8
          ·obtain⟨ad4,rfl,l0,l1⟩:=Hw HLo.out (show k+q<k+8 by omega) (show Al (-1-(t:Int)) q=[.int .u64 (1099511627776+(-1-(t:Int))*1000+(q:Int)),.slice none 0 0]from rfl) (fun z hz=>by rw[show(k+q)*2+z=(Ap Al (t:Int) k).length+(q*2+z)by rw[Ce Dh,DE];omega,BD (FP _ _),CR];exact Bx Dh _ hz 8 q hq8);have wy:IntKind.i64.wrap (-1-(t:Int)) = -1-(t:Int):=by rw[AY];omega
           have wz0:IntKind.i64.wrap ((-1-(t:Int))*1000)=(-1-(t:Int))*1000:=by rw[AY];omega
           have wz1:IntKind.i64.wrap (1099511627776+(-1-(t:Int))*1000)=1099511627776+(-1-(t:Int))*1000:=by rw[AY];omega
           have wz2:IntKind.i64.wrap (1099511627776+(-1-(t:Int))*1000+(q:Int))=1099511627776+(-1-(t:Int))*1000+(q:Int):=by rw[AY];omega
           have wz3:IntKind.u64.wrap (1099511627776+(-1-(t:Int))*1000+(q:Int))=1099511627776+(-1-(t:Int))*1000+(q:Int):=by rw[EX];omega
           go_wp2
           go_roundg (8-(q+1))
           case measure=>omega
           case rel=>exact⟨q+1,rfl,by omega,by go_num,hid rfl⟩
          ·obtain rfl:q=8:=by omega
           go_wp2
           go_roundg (j-(t+1))
           case measure=>omega
           case rel=>exact⟨t+1,rfl,by omega,by go_num,hid rfl⟩
      ·obtain rfl:t=j:=by omega
       go_wp2;go_ret;exact⟨rfl,HU1.out.trans HP.out.upd⟩
end Go.Proofs.YtdgbkpoickbidaaGreatDoor
