/- Parts of the proof, put together. Conditions: each theorem states its own. -/
import Derived.Test.YtdgbkpoickbidaaGreatDoorHd11
set_option maxRecDepth 100000
set_option maxHeartbeats 4000000
open Go.RowKit
namespace Go.Proofs.YtdgbkpoickbidaaGreatDoor
def Ch(s:SV)(i:Nat):List UV:=UdS.sumV ((s.bs.getD i []++s.bs.getD (i+1) []).map (Bp s.S))
def Ir(s:SV):SV :=
 match s.un with
 | none=>s
 | some (i,_)=>{ s with bs:=s.bs.take i++(if Ch s i=[] then [] else [Ch s i])++s.bs.drop (i+2),un:=none }
theorem sU(gs n:Nat)(m:SpM)(p:Pr)(R:Nat->Prop)(w:World)(hp:m.un=some p)(HM:Hid (SpR w R gs m))(hl:0<p.left):Calls Tryz.prog 162 #[.pointer (some ⟨gs,0,none⟩),.int .i64 n] w (Fi w R gs n true m.v):=by
 obtain⟨pg,pi,pl⟩:=p;have c1:w.cell? ⟨gs,1,none⟩=some (.pointer (some ⟨pg,0,none⟩)):=by have:=HM.out.bk.cell 1;unfold Nz at this;rw[hp]at this;exact this
 have k2:w.cell? ⟨pg,2,none⟩=some (.int .i64 pl):=(HM.out.b.un _ hp).bk.cell 2;have hlz:(0:Int)<(pl:Int):=by simp only at hl;omega
 go_enter Tryz.func162,Tryz.ntmps162;go_wp2;go_returns;exact Fi.stay HM.out (Ext.refl w) rfl
section
variable{w wE:World}{R R':Nat->Prop}{gs:Nat}{m:SpM}
theorem SpR.relist{bs':List Bt}{A:Option Addr}{c:Nat}(h:SpR w R gs m)(hR:∀k,k<wE.heap.size->R k->R' k)(x:Upd (fun k=>Fs m k\/k=gs) w wE)
  (bk:Bk wE gs 192 #[.slice A bs'.length c,.pointer none,.slice m.sA m.S.length m.sc,.slice m.uA m.U.length m.uc]) (o:Own wE 0 195 1 A bs'.length c (bs'.map Bt.p)) (hA:A=m.A/\c=m.c)
  (hb:∀b∈bs',b∈m.bs\/BtR wE R' b) (nd:(bs'.map Bt.g).Nodup):SpR wE R' gs { m with A:=A,c:=c,bs:=bs',un:=none }:=by
 have hS:∀k,k<w.heap.size->(Fs m k\/k=gs)->Ks w k:=fun k _ hk=>hk.elim h.own_ fun e=>by subst e;exact .inl h.bk.ty
 have hz:=x.size;refine⟨bk,hR _ bk.lt h.rg,o,fun k hk=>?_,fun b hb'=>?_,nd,(fun p hp=>by cases hp),(h.b.sn.safe x hS).wide hR,(h.b.up.safe x hS).wide hR⟩
 ·exact hR k (o.lt k hk).2 (h.b.ro k (by rw[<-hA.1,<-hA.2];exact hk))
 ·rcases hb b hb' with q|q
  ·exact((h.b.bt b q).safe x hS).wide hR
  ·exact q
end
theorem yI{l:List Bt}{i:Nat}(h:i+1<l.length):l=l.take i++Cc l i::Cc l (i+1)::l.drop (i+2):=by
 have h0:i<l.length:=by omega
 have e1:l.drop i=Cc l i::l.drop (i+1):=by
  unfold Cc;rw[BY h0,AB,AC h0];rfl
 have e2:l.drop (i+1)=Cc l (i+1)::l.drop (i+2):=by
  unfold Cc;rw[BY h,AB,AC h];rfl
 rw[<-e2,<-e1,CE]
theorem yF{l:List Bt}{i:Nat}(h:i+1<l.length):(Cc l i).l.length+(Cc l (i+1)).l.length<=(Ep l).length:=by
 have e:=congrArg (fun x=>(Ep x).length) (yI h);simp only[Ep,CS,BM,AA]at e ⊢;omega
theorem qQ{l:List Bt}{i:Nat}(h:i+1<l.length)(x:Bt):(l.take (i+1)++l.drop (i+2)).set i x=l.take i++x::l.drop (i+2):=by
 have hl:(l.take i).length=i:=by rw[CA];omega
 rw[fT (by omega),AJ,CG _ _ (by omega),hl,DG];rfl
theorem iF{l:List Bt}{i q:Nat}{A:Option Addr}{c:Nat}{L:List Ud}(nd:(l.map Bt.g).Nodup)(hq:∀b∈l,b.g<q):((l.take i++⟨q,A,c,L⟩::l.drop (i+2)).map Bt.g).Nodup:=by
 have hs:(l.take i++l.drop (i+2)).Sublist l:=by
  have h2:(l.drop (i+2)).Sublist (l.drop i):=by
   rw[<-List.drop_drop];exact List.drop_sublist _ _
  have:=(List.Sublist.refl (l.take i)).append h2
  rwa [CE]at this
 have n1:((l.take i++l.drop (i+2)).map Bt.g).Nodup:=nd.sublist (hs.map _);have hp:((l.take i++⟨q,A,c,L⟩::l.drop (i+2)).map Bt.g).Perm (q::(l.take i++l.drop (i+2)).map Bt.g):=(List.perm_middle (a:=(⟨q,A,c,L⟩:Bt)) (l₁:=l.take i) (l₂:=l.drop (i+2))).map Bt.g;rw[hp.nodup_iff,List.nodup_cons];refine⟨fun hm=>?_,n1⟩;obtain⟨b,hb,e⟩:=AW.1 hm;have:=hq b (hs.subset hb);omega
theorem mC{l:List Bt}{i:Nat}(nd:(l.map Bt.g).Nodup):((l.take i++l.drop (i+2)).map Bt.g).Nodup:=by
 have h2:(l.drop (i+2)).Sublist (l.drop i):=by
  rw[<-List.drop_drop];exact List.drop_sublist _ _
 have hs:=(List.Sublist.refl (l.take i)).append h2;rw[CE]at hs;exact nd.sublist (hs.map _)
theorem wF{l:List Bt}{i:Nat}(h:i<=l.length){x:Bt}:(l.take i++x::l.drop (i+2)).take i++(l.take i++x::l.drop (i+2)).drop (i+1)=l.take i++l.drop (i+2):=by
 have hl:(l.take i).length=i:=by rw[CA];omega
 rw[List.take_append_of_le_length (by omega),AT (by omega),GX,DN (by omega),hl,BC];rw[show i+1-i=1 by omega];rfl
theorem kE(g c n i j:Nat)(iz jz:Int)(xs:List Value)(w:World)(hi:Hid (iz=i))(hj:Hid (jz=j))(h:Hid (Own w 0 195 1 (some ⟨g,0,none⟩) n c xs))(h1:Hid (∀u∈xs,u.oneCell'=true))(hij:i<j)(hjn:j<=n) :
  Calls Tryz.prog 216 #[.slice (some ⟨g,0,none⟩) n c,.int .i64 iz,.int .i64 jz] w fun e w'=>e=.returned (.slice (some ⟨g,0,none⟩) (i+(n-j)) c)/\Own w' 0 195 1 (some ⟨g,0,none⟩) (i+(n-j)) c (xs.take i++xs.drop j)/\w.grownBy w' (some g):=by
 rw[hi.out,hj.out];exact tD g c n i j xs w h h1 hij hjn
theorem cF{l:List Bt}{i:Nat}(h:i<l.length):(l.map Bt.v).getD i []=(Cc l i).v:=by
 unfold Cc;rw[AB,AB,CI,AC h];rfl
theorem pQ(l:List Bt):∀u∈l.map Bt.p,u.oneCell'=true:=fun u hu=>by
 obtain⟨b,_,rfl⟩:=AW.1 hu;rfl
theorem sT(gs n:Nat)(m:SpM)(p:Pr)(R:Nat->Prop)(w:World)(hp:m.un=some p)(HM:Hid (SpR w R gs m))(ok:Hid (oO m))(hl:p.left=0):Calls Tryz.prog 162 #[.pointer (some ⟨gs,0,none⟩),.int .i64 n] w (Fi w R gs n true (Ir m.v)):=by
 have hu:=HM.out.b.un _ hp;obtain⟨pg,i,pl⟩:=p;simp only at hl;subst hl;have hlt:i+1<m.bs.length:=hu.lt;obtain⟨g,hg⟩:=HM.out.b.ow.lit (by omega);obtain⟨N,hN⟩:∃N,N=m.bs.length:=⟨_,rfl⟩;obtain⟨a,ha⟩:∃a,Cc m.bs i=a:=⟨_,rfl⟩;obtain⟨b,hb⟩:∃b,Cc m.bs (i+1)=b:=⟨_,rfl⟩;have HAm:Hid (a∈m.bs):=hid (ha▸Hm (by omega));have HBm:Hid (b∈m.bs):=hid (hb▸Hm hlt);obtain⟨na,hna⟩:∃k,k=a.l.length:=⟨_,rfl⟩;obtain⟨nb,hnb⟩:∃k,k=b.l.length:=⟨_,rfl⟩;obtain⟨nS,hnS⟩:∃k,k=m.S.length:=⟨_,rfl⟩;have HG:Hid (∀W,Ext w W->W.cell? ⟨gs,0,none⟩=some (.slice (some ⟨g,0,none⟩) N m.c)/\W.cell? ⟨gs,1,none⟩=some (.pointer (some ⟨pg,0,none⟩))/\W.cell? ⟨gs,2,none⟩=some (.slice m.sA nS m.sc)):=hid (fun W x=>by
  have hb:=HM.out.bk.ext x;have h0:=hb.cell 0;have h1:=hb.cell 1;have h2:=hb.cell 2;unfold Nz at h0 h1 h2;rw[hg,<-hN]at h0;rw[hp]at h1;rw[<-hnS]at h2;exact⟨h0,h1,h2⟩)
 have HPR:Hid (∀W,Ext w W->W.cell? ⟨pg,0,none⟩=some a.p/\W.cell? ⟨pg,1,none⟩=some b.p/\W.cell? ⟨pg,2,none⟩=some (.int .i64 0)):=hid (fun W x=>by
  have hb':=hu.bk.ext x;have h0:=hb'.cell 0;have h1:=hb'.cell 1;have h2:=hb'.cell 2;simp only[ha,hb]at h0 h1;exact⟨h0,h1,h2⟩)
 have HBC:Hid (∀W,Ext w W->W.cell? ⟨a.g,0,none⟩=some (.slice a.A na a.c)/\W.cell? ⟨b.g,0,none⟩=some (.slice b.A nb b.c)):=hid (fun W x=>by
  have h0:=((HM.out.b.bt a HAm.out).bk.ext x).cell 0;have h1:=((HM.out.b.bt b HBm.out).bk.ext x).cell 0;rw[hna,hnb];exact⟨h0,h1⟩)
 obtain⟨_,c1,_⟩:=HG.out w (Ext.refl w);obtain⟨_,_,k2⟩:=HPR.out w (Ext.refl w);have HN:=hid hN;have Hg:=hid hg;have Ha:=hid ha;have Hb:=hid hb;have HNA:=hid hna;have HNB:=hid hnb;have HNS:=hid hnS;have HI:Hid (i<m.bs.length):=hid (by omega);have HLT:=hid hlt;have HP:=hid hp;have HND:Hid ((m.bs.map Bt.g).Nodup):=hid HM.out.b.nd;have HSL:Hid (Sl w 1 (some ⟨g,0,none⟩) N m.c (m.bs.map Bt.p)):=hid (by have:=HM.out.b.ow.sl;rw[hg,<-hN]at this;exact this);have HGK:Hid ((Cc m.bs i).g=a.g):=hid (by rw[ha]);clear hu hN ha hb hna hnb hnS hg hlt hp;go_enter Tryz.func162,Tryz.ntmps162
 go_upto_region 4 with fail
 have X:Ext w w.drew:=(Ext.refl w).drew;have C0:∀y:Xt w.drew,y.W.cell? ⟨gs,0,none⟩=some (.slice (some ⟨g,0,none⟩) N m.c):=fun y=>(HG.out _ (X.trans y.x)).1;have P0:∀y:Xt w.drew,y.W.cell? ⟨pg,0,none⟩=some a.p:=fun y=>(HPR.out _ (X.trans y.x)).1;refine wro [0,1,3,7,0,16,48,112,255,511] (.flo [0,1,2,3,4,5,6,7] (.one 8 (.flo [9] (.fin)))) ?_
 (refine Aa (pks rfl) ?_;(repeat (go_big_quiet_step (fail)));refine oq ?_)
 refine Ac (pks rfl) ?_;intro K_ hK_;go_wp2_with (go_at_call 214;refine(iP (some ⟨g,0,none⟩) m.c N m.bs i a.g _ HGK HN HI HND (hid (HSL.out.ext X)) (hid (fun b hb=>⟨_,(HM.out.b.bt b hb).bk.ext X⟩))).mono ?_;rintro r w1 ⟨rfl,rfl⟩)
 clear C0 P0
 (refine Aa (pks rfl) ?_;(repeat (go_big_quiet_step (fail)));refine oq ?_)
 refine Ad ?_;go_wp2;obtain⟨wa,hwa⟩:∃wa,wa=w.drew:=⟨_,rfl⟩;rw[<-hwa]at X ⊢;clear hwa c1 k2;have XA:=hid X;clear X;have X:Ext w wa.drew:=XA.out.drew;have P0:∀y:Xt wa.drew,y.W.cell? ⟨pg,0,none⟩=some a.p:=fun y=>(HPR.out _ (X.trans y.x)).1;have P1:∀y:Xt wa.drew,y.W.cell? ⟨pg,1,none⟩=some b.p:=fun y=>(HPR.out _ (X.trans y.x)).2.1;have C2:∀y:Xt wa.drew,y.W.cell? ⟨gs,2,none⟩=some (.slice m.sA nS m.sc):=fun y=>(HG.out _ (X.trans y.x)).2.2;have A0:∀y:Xt wa.drew,y.W.cell? ⟨a.g,0,none⟩=some (.slice a.A na a.c):=fun y=>(HBC.out _ (X.trans y.x)).1;have B0:∀y:Xt wa.drew,y.W.cell? ⟨b.g,0,none⟩=some (.slice b.A nb b.c):=fun y=>(HBC.out _ (X.trans y.x)).2;have HU1:Hid (Cl w 0 a.A a.c a.l):=hid (HM.out.b.bt a HAm.out).u;have HU2:Hid (Cl w 0 b.A b.c b.l):=hid (HM.out.b.bt b HBm.out).u;have HSA:Hid (Sl w 4 a.A na a.c (Ah a.l)):=hid (by rw[HNA.out];exact HU1.out.own.sl);have HSB:Hid (Sl w 4 b.A nb b.c (Ah b.l)):=hid (by rw[HNB.out];exact HU2.out.own.sl);have hle:na+nb<=1000000:=by
  have h2:=yF HLT.out;rw[Ha.out,Hb.out,<-HNA.out,<-HNB.out]at h2;exact AQ h2 ok.out.na
 have HXB:Hid (Ext w (wa.alloc (.cells #[.slice a.A na a.c,.slice b.A nb b.c] 22)).drew):=hid ((XA.out.alloc _).drew);have HIN:Hid (∀x∈a.l++b.l,InU x):=hid (fun x hx=>ok.out.ins x (by
  rcases AR.1 hx with q|q
  ·exact DH.2 ⟨a,HAm.out,q⟩
  ·exact DH.2 ⟨b,HBm.out,q⟩))
 obtain⟨V,hV⟩:∃V,UdS.sumV (((a.l++b.l).map Ud.uv).map (Bp (m.S.map Tm.v)))=V:=⟨_,rfl⟩;have HV:=hid hV;clear hV X;refine wro [0,1,3,7,15,31,63,0,128,384,896,1920,3968,8064,16383,32767,0,65536,196608,458752,1048575,2097151] (.flo [0,1,2,3,4,5,6,7,8,9,10,11,12,13,16,17,18,19] (.ext 14 (.ext 15 (.one 20 (.flo [21] (.fin)))))) ?_
 (refine Aa (pks rfl) ?_;(repeat (go_big_quiet_step (fail)));refine oq ?_)
 refine Bi (pks rfl) ?_;intro K_ hK_;go_wp2;refine Aq.mk ((Ext.refl _).alloc _) ?_;clear P0 P1 C2 A0 B0;refine Bi (pks rfl) ?_;intro K_ hK_;go_wp2_with (go_at_call 215;refine(iU wa.heap.size na nb a.c b.c a.A b.A a.l b.l _ (hid (by exact Bk.new wa _ _)) HNA HNB (hid (HSA.out.ext HXB.out)) (hid (HSB.out.ext HXB.out)) hle).mono ?_;rintro r w4 ⟨A4,n4,c4,rfl,e4,o4,x4⟩;have HN4:=hid e4;have HO4:=hid o4;have X4:=hid x4;clear e4 o4 x4)
 refine Aq.mk X4.out ?_;have HX4:Hid (Ext w w4):=hid (HXB.out.trans X4.out);have HU4:Hid (Uin w4 A4 c4 (a.l++b.l)):=hid ⟨HN4.out▸HO4.out.sl,fun x hx=>by
  rcases AR.1 hx with q|q
  ·exact(HU1.out.uin.ls x q).ext HX4.out
  ·exact(HU2.out.uin.ls x q).ext HX4.out⟩
 refine Ac (pks rfl) ?_;intro K_ hK_;go_wp2_with (go_at_call 18;refine(cQ A4 c4 n4 (a.l++b.l) m.sA m.sc nS m.S _ HV HN4 HU4 (by rw[HN4.out,AA,<-HNA.out,<-HNB.out];exact hle) HIN HNS (hid (HM.out.b.sn.t.tin.ext HX4.out)) (hid ok.out.ss) (by rw[HNS.out];exact ok.out.fs)).mono ?_;rintro r w5 ⟨A5,m5,R5,rfl,hm5,hu5,hv5,hx5⟩;have HM5:=hid hm5;have HU5:=hid (hu5.mono HX4.out.size);have HV5:=hid hv5;have HX5:=hid (HX4.out.trans hx5);clear hm5 hu5 hv5 hx5)
 (refine Aa (pks rfl) ?_;(repeat (go_big_quiet_step (fail)));refine oq ?_)
 refine Ad ?_;clear HXB HU1 HU2 HIN X4 HO4 HU4 hle HSA HSB;have HS5:Hid (SpR w5 R gs m):=hid (HM.out.ext HX5.out);have hi9:i+2<=1000000:=by have h1:=HLT.out;have h2:=ok.out.nb;omega
 have hiN:i+2<=N:=by rw[HN.out];exact HLT.out
 have HLG:Hid (Fs m g):=hid (by
  show blk m.A m.c=some g;rw[Hg.out];have h1:=HM.out.b.ow.le.1;obtain⟨q,hq⟩:∃q,m.c=q+1:=⟨m.c-1,by have:=HLT.out;omega⟩;rw[hq];rfl)
 have HOW:Hid (Own w5 0 195 1 (some ⟨g,0,none⟩) N m.c (m.bs.map Bt.p)):=hid (by have:=HS5.out.b.ow;rw[Hg.out,<-HN.out]at this;exact this);obtain⟨K,hK⟩:∃K,i+1+(N-(i+2))=K:=⟨_,rfl⟩;have hKN:K+1=N:=by omega
 obtain⟨LB,hLB⟩:∃LB,LB=m.bs.take (i+1)++m.bs.drop (i+2):=⟨_,rfl⟩;have HLB:=hid hLB;have HKN:=hid hKN;have hLK:Hid (LB.length=K):=hid (by rw[hLB,AA,CA,CQ,<-HN.out];omega);obtain⟨c0,_,_⟩:=HG.out w5 HX5.out;clear hLB
 go_upto_region 7 with (go_at_call 216;refine(kE g m.c N (i+1) (i+2) _ _ (m.bs.map Bt.p) _ (hid (by omega)) (hid (by omega)) HOW (hid (pQ _)) (by omega) hiN).mono ?_;rintro r w6 ⟨rfl,o6,g6⟩;rw[hK]at o6 ⊢;have HO6:=hid o6;have HG6:=hid g6;have b6:=HS5.out.bk.upd ((Upd.refl (Fs m) w5).grown g6 (fun k e=>.inl (by cases e;exact HLG.out))) HS5.out.not_gs;have c6:=b6.cell 0;have f6:=b6.free 0;have l6:=b6.lt;have HB6:=hid b6;clear o6 g6 b6)
 obtain⟨w7,hw7⟩:∃w7,w7=w6.setCell ⟨gs,0,none⟩ (.slice (some ⟨g,0,none⟩) K m.c):=⟨_,rfl⟩;rw[<-hw7];have HU7:Hid (Upd (fun k=>Fs m k\/k=gs) w5 w7):=hid (by
  rw[hw7];exact(((Upd.refl (Fs m) w5).grown HG6.out (fun k e=>.inl (by cases e;exact HLG.out))).mono fun k _ hk=>.inl hk).setCell (p:=⟨gs,0,none⟩) (.inl (.inr rfl)) _)
 have hgg:blk (some (⟨g,0,none⟩:Addr)) m.c≠some gs:=fun e=>HS5.out.not_gs (by show blk m.A m.c=some gs;rw[Hg.out];exact e);have HGG:=hid hgg;have HB7:Hid (Bk w7 gs 192 #[.slice (some ⟨g,0,none⟩) K m.c,unV m.un,.slice m.sA m.S.length m.sc,.slice m.uA m.U.length m.uc]):=hid (by rw[hw7];exact HB6.out.set 0 _);have HO7:Hid (Own w7 0 195 1 (some ⟨g,0,none⟩) K m.c (LB.map Bt.p)):=hid (by
  rw[hw7];have:=HO6.out.far (p:=⟨gs,0,none⟩) hgg (.slice (some ⟨g,0,none⟩) K m.c)
  rwa [<-EQ,<-FB,<-AO,<-HLB.out]at this)
 clear hw7 c6 f6 l6 c0 hgg;have c7:w7.cell? ⟨gs,0,none⟩=some (.slice (some ⟨g,0,none⟩) K m.c):=HB7.out.cell 0;have iK:i<K:=by omega
 obtain⟨v8,k8⟩:∃v,(w7.alloc (.cells #[.slice A5 m5 m5] 197)).cell? ⟨g,i,none⟩=some v:=by
  obtain⟨g',e1,_,_,_,h5,_⟩:=(HO7.out.alloc (.cells #[.slice A5 m5 m5] 197)).form (by omega);cases e1;exact⟨_,h5 i _ (fX (by rw[hLK.out];exact iK))⟩
 have f8:(w7.alloc (.cells #[.slice A5 m5 m5] 197)).frozen? ⟨g,i,none⟩=false:=by
  obtain⟨g',e1,_,_,_,_,h6⟩:=(HO7.out.alloc (.cells #[.slice A5 m5 m5] 197)).form (by omega);cases e1;exact h6 i
 have l8:g<(w7.alloc (.cells #[.slice A5 m5 m5] 197)).heap.size:=by
  obtain⟨g',e1,_,_,h4,_,_⟩:=(HO7.out.alloc (.cells #[.slice A5 m5 m5] 197)).form (by omega);cases e1;exact h4
 go_upto_region 8 with fail
 obtain⟨w9,hw9⟩:∃w9,w9=(w7.alloc (.cells #[.slice A5 m5 m5] 197)).setCell ⟨g,i,none⟩ (.pointer (some ⟨w7.heap.size,0,none⟩)):=⟨_,rfl⟩;rw[<-hw9];have HU9:Hid (Upd (fun k=>Fs m k\/k=gs) w5 w9):=hid (by
  rw[hw9];exact(HU7.out.alloc _).setCell (p:=⟨g,i,none⟩) (.inl (.inl HLG.out)) _)
 have hgn:g≠w7.heap.size:=fun e=>by
  obtain⟨g',e1,_,_,h4,_,_⟩:=HO7.out.form (by omega);cases e1;omega
 have hggs:g≠gs:=fun e=>HS5.out.not_gs (e▸HLG.out);have HB9:Hid (Bk w9 gs 192 #[.slice (some ⟨g,0,none⟩) K m.c,unV m.un,.slice m.sA m.S.length m.sc,.slice m.uA m.U.length m.uc]):=hid (by
  have x:Upd (fun k=>k=g) w7 w9:=by rw[hw9];exact((Upd.refl (fun k=>k=g) w7).alloc _).setCell (p:=⟨g,i,none⟩) (.inl rfl) _
  exact HB7.out.upd x fun e=>hggs e.symm)
 have HN9:Hid (Bk w9 w7.heap.size 197 #[.slice A5 R5.length m5]):=hid (by
  have x:Upd (fun k=>k=g) (w7.alloc (.cells #[.slice A5 m5 m5] 197)) w9:=by rw[hw9];exact(Upd.refl (fun k=>k=g) _).setCell (p:=⟨g,i,none⟩) (.inl rfl) _
  rw[<-HM5.out];exact(Bk.new w7 _ _).upd x fun e=>hgn e.symm)
 have HO9:Hid (Own w9 0 195 1 (some ⟨g,0,none⟩) K m.c ((LB.set i ⟨w7.heap.size,A5,m5,R5⟩).map Bt.p)):=hid (by
  rw[hw9,List.map_set];exact(HO7.out.alloc _).put i _)
 have HZ9:Hid (w.heap.size<=w7.heap.size/\w7.heap.size<w9.heap.size):=hid ⟨AQ HX5.out.size HU7.out.size,HN9.out.lt⟩;clear hw9 k8 f8 l8 c7 hgn;have HGS:Hid (g≠gs):=hid hggs;have HNT:Hid (¬Ks w5 gs->False):=hid fun h=>h (.inl HS5.out.bk.ty);have HVE:Hid (m.v.un=some (i,0)):=hid (by unfold SpM.v;rw[HP.out];rfl);have HBV:Hid (Ch m.v i=V):=hid (by
  rw[<-HV.out];unfold Ch
  congr 1
  have e1:m.v.bs.getD i []=a.v:=by rw[<-Ha.out];exact cF HI.out
  have e2:m.v.bs.getD (i+1) []=b.v:=by rw[<-Hb.out];exact cF HLT.out
  rw[e1,e2];rw[show(a.l++b.l).map Ud.uv=a.v++b.v from AO];rfl)
 have HMID:Hid (LB.set i ⟨w7.heap.size,A5,m5,R5⟩=m.bs.take i++⟨w7.heap.size,A5,m5,R5⟩::m.bs.drop (i+2)):=hid (by rw[HLB.out];exact qQ HLT.out _);have HGE:Hid (∀b∈m.bs,b.g<w7.heap.size):=hid (fun b hb=>BF (HS5.out.b.bt b hb).bk.lt HU7.out.size);have HRG:Hid (∀wE:World,∀k,k<wE.heap.size->R k->Rg R w wE k):=hid (fun _ k _ hk=>.inl hk);have HUW:Hid (∀wE,Upd (fun k=>Fs m k\/k=gs) w5 wE->Upd R w wE):=hid (fun wE x=>(Upd.ext HX5.out).trans (x.mono fun k _ hk=>hk.elim (HS5.out.b.ro k) fun e=>e▸HS5.out.rg));have HBT:Hid (∀wE,Upd (fun k=>k=gs) w9 wE->BtR wE (Rg R w wE) ⟨w7.heap.size,A5,m5,R5⟩):=hid (fun wE x=>by
  have hx:Upd (fun k=>Fs m k\/k=gs) w5 wE:=HU9.out.trans (x.mono fun k _ e=>.inr e);refine⟨HN9.out.upd x fun e=>?_,.inr ⟨HZ9.out.1,BF HZ9.out.2 x.size⟩,(HU5.out.mono (AE _)).updB hx fun k hk q=>?_,fun k hk=>.inr ⟨(HU5.out.lt hk).1,BF (HU5.out.lt hk).2 hx.size⟩⟩
  ·exact absurd ((e▸HN9.out.ty:Ty w9 gs _).ne HB9.out.ty) (by decide)
  ·exact aS.not HU5.out hk (q.elim HS5.out.own_ fun e=>by subst e;exact .inl HS5.out.bk.ty))
 by_cases h5:m5=0
 ·subst h5;have h5V:V=[]:=by
   have h1:=congrArg List.length HV5.out;rw[AN,<-HM5.out]at h1;exact AG h1.symm
  have H5V:=hid h5V;clear h5V;have c9:=HB9.out.cell 0;obtain⟨K2,hK2⟩:∃K2,i+(K-(i+1))=K2:=⟨_,rfl⟩;have HK2:=hid hK2
  go_upto_region 10 with (go_at_call 216;refine(kE g m.c K i (i+1) _ _ ((LB.set i ⟨w7.heap.size,A5,0,R5⟩).map Bt.p) _ (hid rfl) (hid (by omega)) HO9 (hid (pQ _)) (by omega) (by omega)).mono ?_;rintro r w10 ⟨rfl,o10,g10⟩;rw[hK2]at o10 ⊢;have HO10:=hid o10;have HG10:=hid g10;have b10:=HB9.out.upd ((Upd.refl (fun k=>k=g) w9).grown g10 (fun k e=>.inl (by cases e;rfl))) (fun e=>HGS.out e.symm);have c10:=b10.cell 0;have f10:=b10.free 0;have l10:=b10.lt;have HB10:=hid b10;clear o10 g10 b10)
  obtain⟨w11,hw11⟩:∃w11,w11=w10.setCell ⟨gs,0,none⟩ (.slice (some ⟨g,0,none⟩) K2 m.c):=⟨_,rfl⟩;rw[<-hw11];have HB11:Hid (Bk w11 gs 192 #[.slice (some ⟨g,0,none⟩) K2 m.c,unV m.un,.slice m.sA m.S.length m.sc,.slice m.uA m.U.length m.uc]):=hid (by rw[hw11];exact HB10.out.set 0 _);have HU11:Hid (Upd (fun k=>Fs m k\/k=gs) w5 w11):=hid (by
   rw[hw11];exact(HU9.out.grown HG10.out (fun k e=>.inl (.inl (by cases e;exact HLG.out)))).setCell (p:=⟨gs,0,none⟩) (.inl (.inr rfl)) _)
  have HO11:Hid (Own w11 0 195 1 (some ⟨g,0,none⟩) K2 m.c ((m.bs.take i++m.bs.drop (i+2)).map Bt.p)):=hid (by
   rw[hw11];have:=HO10.out.far (p:=⟨gs,0,none⟩) HGG.out (.slice (some ⟨g,0,none⟩) K2 m.c);rw[HMID.out,<-EQ,<-FB,<-AO,wF (by have:=HI.out;omega)]at this;exact this)
  clear hw11 c10 f10 l10 c9;have c11:=HB11.out.cell 1;have f11:=HB11.out.free 1;have l11:=HB11.out.lt;go_wp2;go_returns;have x1:Upd (fun k=>k=gs) w11 (w11.setCell ⟨gs,1,none⟩ (.pointer none)):=(Upd.refl (fun k=>k=gs) w11).setCell (p:=⟨gs,1,none⟩) (.inl rfl) _;have x5:Upd (fun k=>Fs m k\/k=gs) w5 (w11.setCell ⟨gs,1,none⟩ (.pointer none)):=HU11.out.trans (x1.mono fun k _ e=>.inr e);have hlen:(m.bs.take i++m.bs.drop (i+2)).length=K2:=by
   rw[AA,CA,CQ,<-HN.out];have:=HK2.out;have:=HKN.out;omega
  have hSP:=HS5.out.relist (R':=Rg R w (w11.setCell ⟨gs,1,none⟩ (.pointer none))) (bs':=m.bs.take i++m.bs.drop (i+2)) (A:=some ⟨g,0,none⟩) (c:=m.c) (HRG.out _) x5 (by rw[hlen];exact HB11.out.set 1 _)
   (by rw[hlen];exact HO11.out.far (p:=⟨gs,1,none⟩) HGG.out _) ⟨Hg.out.symm,rfl⟩ (fun b hb=>.inl ((AR.1 hb).elim CF CP)) (mC HND.out)
  refine⟨_,rfl,hSP,?_,HUW.out _ x5⟩;unfold Ir;rw[HVE.out];simp only;rw[HBV.out,if_pos H5V.out];unfold SpM.v;simp only;rw[AO,EQ,FB,AP];rfl
 ·have h5z:¬((m5:Int)=0):=by omega
  have c9:=HB9.out.cell 1;have f9:=HB9.out.free 1;have l9:=HB9.out.lt;have h5V:V≠[]:=fun e=>h5 (by have h1:=congrArg List.length HV5.out;rw[e,AN,<-HM5.out]at h1;exact h1);have H5V:=hid h5V;clear h5V;go_wp2;go_returns;have x1:Upd (fun k=>k=gs) w9 (w9.setCell ⟨gs,1,none⟩ (.pointer none)):=(Upd.refl (fun k=>k=gs) w9).setCell (p:=⟨gs,1,none⟩) (.inl rfl) _;have x5:Upd (fun k=>Fs m k\/k=gs) w5 (w9.setCell ⟨gs,1,none⟩ (.pointer none)):=HU9.out.trans (x1.mono fun k _ e=>.inr e);have hlen:(LB.set i ⟨w7.heap.size,A5,m5,R5⟩).length=K:=by rw[DY];exact hLK.out
  have hSP:=HS5.out.relist (R':=Rg R w (w9.setCell ⟨gs,1,none⟩ (.pointer none))) (bs':=LB.set i ⟨w7.heap.size,A5,m5,R5⟩) (A:=some ⟨g,0,none⟩) (c:=m.c) (HRG.out _) x5 (by rw[hlen];exact HB9.out.set 1 _)
   (by rw[hlen];exact HO9.out.far (p:=⟨gs,1,none⟩) HGG.out _) ⟨Hg.out.symm,rfl⟩ (fun b hb=>by
    rw[HMID.out]at hb;rcases AR.1 hb with q|q
    ·exact .inl (CF q)
    ·rcases AZ.1 q with q|q
     ·exact .inr (q▸HBT.out _ x1)
     ·exact .inl (CP q)) (by rw[HMID.out];exact iF HND.out HGE.out)
  refine⟨_,rfl,hSP,?_,HUW.out _ x5⟩;unfold Ir;rw[HVE.out];simp only;rw[HBV.out,if_neg H5V.out,<-HV5.out];unfold SpM.v;simp only[HMID.out];rw[AO,CN,EQ,FB,AJ];rfl
end Go.Proofs.YtdgbkpoickbidaaGreatDoor
namespace Go.Proofs.YtdgbkpoickbidaaGreatDoor.UdS
def nzV(x:V):Bool:=!(x.2==0)
def Canon(D:List V):Prop:=∀x∈D,∀y∈D,cmpV x y=0->x.1=y.1
theorem alike_filter(c:V)(p:V->Bool)(l:List V):Af cmpV c (l.filter p)=(Af cmpV c l).filter p:=by
 unfold Af;rw[CW,CW]
 congr 1
 funext a;rw[Bool.and_comm]
theorem sumV_spec{D:List V}(hin:∀x∈D,InN x):(sumV D).Pairwise (fun x y=>cmpV x y<0)/\∀c,Af cmpV c (sumV D)=(sumClass (Af cmpV c D)).filter nzV:=by
 have h:=Summed.all D hin;refine⟨h.sorted.filter _,fun c=>?_⟩;show Af cmpV c ((sumAll D).filter nzV)=_;rw[alike_filter,h.same]
theorem cmpV_self(x:V):cmpV x x=0:=cmpV_tot.refl x
theorem sumV_mem{D:List V}(hin:∀x∈D,InN x){x:V}(hx:x∈sumV D):InN x/\nzV x=true/\∃y∈D,y.1=x.1:=by
 have h:x∈Af cmpV x (sumV D):=BV.2 ⟨hx,by rw[beq_iff_eq];exact cmpV_self x⟩;rw[(sumV_spec hin).2]at h;obtain⟨h1,h2⟩:=BV.1 h;refine⟨?_,h2,?_⟩
 ·cases hl:Af cmpV x D with
  | nil=>rw[hl]at h1;cases h1
  | cons y l =>
   rw[hl]at h1;rw[AH.1 h1];exact Sf _
 ·cases hl:Af cmpV x D with
  | nil=>rw[hl]at h1;cases h1
  | cons y l =>
   have hy:y∈Af cmpV x D:=by rw[hl];exact BE ..
   rw[hl]at h1;exact⟨y,(BV.1 hy).1,by rw[AH.1 h1]⟩
theorem Oi{a b:Int}(h:w64 a=w64 b)(c:Int):w64 (a+c)=w64 (b+c):=by rw[<-Of a,h,Of]
theorem kS{a b c d:Int}(h:w64 a=w64 b)(k:w64 c=w64 d):w64 (a+c)=w64 (b+d):=by rw[Oi h c,GY,Oi k b,GY]
def tot(P:UK->Bool):List V->Int
 | []=>0
 | x::l=>(if P x.1 then x.2 else 0)+tot P l
theorem Kd(P:UK->Bool):∀a b:List V,tot P (a++b)=tot P a+tot P b
 | [],b=>by show _=0+_;rw[Int.zero_add];rfl
 | x::a,b=>by
  show(if P x.1 then x.2 else 0)+tot P (a++b)=(if P x.1 then x.2 else 0)+tot P a+tot P b;rw[Kd P a b,Int.add_assoc]
theorem Yg(P:UK->Bool)(f:UK->UK):∀l:List V,tot P (l.map fun x=>(f x.1,x.2))=tot (fun k=>P (f k)) l
 | []=>rfl
 | x::l=>by
  show(if P (f x.1) then x.2 else 0)+tot P (l.map fun x=>(f x.1,x.2))=_;rw[Yg P f l];rfl
theorem fR(P:UK->Bool):∀l:List V,tot P (l.filter nzV)=tot P l
 | []=>rfl
 | x::l=>by
  rw[FO];by_cases h:x.2=0
  ·have e:nzV x=false:=by simp[nzV,h]
   rw[e];show tot P (l.filter nzV)=(if P x.1 then x.2 else 0)+tot P l;rw[fR P l,h];split<;>omega
  ·have e:nzV x=true:=by simp[nzV,h]
   rw[e];show(if P x.1 then x.2 else 0)+tot P (l.filter nzV)=_;rw[fR P l];rfl
theorem bC(P:UK->Bool)(x:V):∀R:List V,(∀y∈R,cmpV y x=0->P y.1=P x.1)->w64 (tot P (addV R x))=w64 (tot P R+(if P x.1 then x.2 else 0))
 | [],_=>by
  show w64 ((if P x.1 then x.2 else 0)+0)=w64 (0+_);rw[GY]
 | y::R,h=>by
  unfold addV;split
  ·show w64 ((if P y.1 then y.2 else 0)+tot P (addV R x))=w64 ((if P y.1 then y.2 else 0)+tot P R+_);rw[GY,Oi (bC P x R fun z hz=>h z (BN _ hz))]
   congr 1
   omega
  ·split
   ·rename_i h0;have hp:=h y (BE ..) h0;show w64 ((if P y.1 then w64 (y.2+x.2) else 0)+tot P R)=w64 ((if P y.1 then y.2 else 0)+tot P R+(if P x.1 then x.2 else 0));rw[<-hp];cases P y.1 with
    | true =>
     simp only[if_true];rw[Of]
     congr 1
     omega
    | false=>simp
   ·show w64 ((if P x.1 then x.2 else 0)+((if P y.1 then y.2 else 0)+tot P R))=w64 ((if P y.1 then y.2 else 0)+tot P R+_)
    congr 1
    omega
theorem gH{D:List V}(hin:∀x∈D,InN x){x:V}(hx:x∈sumAll D):∃y∈D,y.1=x.1:=by
 have h:x∈Af cmpV x (sumAll D):=BV.2 ⟨hx,by rw[beq_iff_eq];exact cmpV_self x⟩;rw[(Summed.all D hin).same]at h;cases hl:Af cmpV x D with
 | nil=>rw[hl]at h;cases h
 | cons y l =>
  have hy:y∈Af cmpV x D:=by rw[hl];exact BE ..
  rw[hl]at h;exact⟨y,(BV.1 hy).1,by rw[AH.1 h]⟩
theorem gD(P:UK->Bool)(L:List V):(∀x∈L,InN x)->Canon L->w64 (tot P (sumAll L))=w64 (tot P L):=by
 refine Jm (p:=fun L=>(∀x∈L,InN x)->Canon L->w64 (tot P (sumAll L))=w64 (tot P L)) (fun _ _=>rfl) (fun L x ih hin hc=>?_) L;have hin':∀y∈L,InN y:=fun y hy=>hin y (BH _ hy);have e:sumAll (L++[x])=addV (sumAll L) x:=by unfold sumAll;rw[DT];rfl
 rw[e,bC P x _ (fun y hy h0=>?_),Oi (ih hin' fun a ha b hb=>hc a (BH _ ha) b (BH _ hb)),Kd]
 ·show w64 (tot P L+_)=w64 (tot P L+(_+0));rw[GJ]
 ·obtain⟨z,hz,hzy⟩:=gH hin' hy;have h1:cmpV z x=0:=by
   have:cmpV z x=cmpV y x:=by show Hp z.1 x.1=Hp y.1 x.1;rw[hzy]
   rw[this,h0]
  rw[<-hzy,hc z (BH _ hz) x (by simp) h1]
def Nh(D E:List V):Prop:=∀P:UK->Bool,w64 (tot P D)=w64 (tot P E)
theorem Nh.refl(D:List V):Nh D D:=fun _=>rfl
theorem Nh.trans{D E F:List V}(h:Nh D E)(k:Nh E F):Nh D F:=fun P=>(h P).trans (k P)
theorem Nh.append{D E D' E':List V}(h:Nh D E)(k:Nh D' E'):Nh (D++D') (E++E'):=fun P=>by rw[Kd,Kd];exact kS (h P) (k P)
theorem Nh.map{D E:List V}(h:Nh D E)(f:UK->UK):Nh (D.map fun x=>(f x.1,x.2)) (E.map fun x=>(f x.1,x.2)):=fun P=>by rw[Yg,Yg];exact h _
theorem Nh.sum{D:List V}(hin:∀x∈D,InN x)(hc:Canon D):Nh (sumV D) D:=fun P=>by
 show w64 (tot P ((sumAll D).filter nzV))=_;rw[fR,gD P D hin hc]
end Go.Proofs.YtdgbkpoickbidaaGreatDoor.UdS
namespace Go.Proofs.YtdgbkpoickbidaaGreatDoor
structure Pg (u:UV):Prop where
 txt:Od u.1.1
 int:Oe u.1.1
 num:UdS.InN u
 len:u.1.1.length<=1000000
 tu:U32 u.1.2.2
 tn:u.1.2.2.length<=100000
 te:0<=u.1.2.1/\u.1.2.1<=18446744073709551615
theorem InU.uv{x:Ud}(h:InU x):Pg x.uv:=⟨h.row.txt,h.row.int,h.row.num,h.row.len,h.tu,h.tn,h.te⟩
theorem Pg.u{x:Ud}(h:Pg x.uv):InU x:=⟨⟨h.txt,h.int,h.num,h.len⟩,h.tu,h.tn,h.te⟩
theorem Pg.key{u v:UV}(h:Pg u)(e:u.1=v.1)(hn:UdS.InN v):Pg v:=by
 obtain⟨k,d⟩:=u;obtain⟨k',d'⟩:=v;simp only at e;subst e;exact⟨h.txt,h.int,hn,h.len,h.tu,h.tn,h.te⟩
theorem Ic{S:List TV}(h:Bn S=true):S=[]\/∃e,S=[(e,[])]:=by
 unfold Bn at h;rw[Bool.and_eq_true]at h;obtain⟨h1,h2⟩:=h;have h1:=of_decide_eq_true h1;cases S with
 | nil=>exact .inl rfl
 | cons t S =>
  cases S with
  | cons u S=>simp at h1
  | nil =>
   refine .inr ⟨t.1,?_⟩;have:t.2=[]:=by
    have h3:decide (0<t.2.length)=false:=by simpa using h2
    exact AG (by have:=of_decide_eq_false h3;omega)
   rw[show t=(t.1,t.2)from rfl,this]
theorem Yy(e0 e:Int):Fg [(e0,[])] (e,[])=(max e e0,[]):=by
 show(Cv (e,[]) none (e0,[])).getD (e,[])=_;unfold Cv;rw[if_pos (by rfl)];rfl
theorem yP(t:TV):ofV [t]=[t]:=by
 have h:=pE [t];have hm:t∈ofV [t]:=(h.mem t).2 ⟨by simp,fun u hu _=>by rw[AH.1 hu]⟩;have ha:∀v∈ofV [t],v=t:=fun v hv=>AH.1 ((h.mem v).1 hv).1;have hr:=h.rising;unfold Ik at hr;cases ho:ofV [t]with
 | nil=>rw[ho]at hm;cases hm
 | cons a l =>
  rw[ho]at ha hr;have e1:=ha a (BE ..);cases l with
  | nil=>rw[e1]
  | cons b l =>
   have e2:=ha b (by simp);have h3:=(BS.1 hr).1 b (BE ..);rw[e1,e2]at h3;exact absurd h3 (by have:=(Co (x:=t) (y:=t)).2 rfl;omega)
theorem Fy{S:List TV}(h:Bn S=true):ofV S=S:=by
 rcases Ic h with rfl|⟨e,rfl⟩
 ·rfl
 ·exact yP _
structure OkV (s:SV):Prop where
 nb:s.bs.flatten.length+s.bs.length<=1000000
 ins:∀u∈s.bs.flatten,Pg u/\u.1.2.2=[]/\Bl u.1.1=0
 pos:∀b∈s.bs,b≠[]
 un:∀i l,s.un=some (i,l)->i+1<s.bs.length/\0<l/\l<=1000000
 fs:Bn s.S=true
 fu:Bn s.U=true
 es:∀t∈s.S,0<=t.1/\t.1<=18446744073709551615
 eu:∀t∈s.U,0<=t.1/\t.1<=18446744073709551615
theorem Yj:OkV aQ:=⟨by decide,fun u hu=>(nomatch hu),fun b hb=>(nomatch hb),fun i l h=>(nomatch h),by rfl,by rfl,fun t ht=>by rw[AH.1 ht];decide,fun t ht=>by rw[AH.1 ht];decide⟩
theorem Dt{L:List Tm}(h:Bn (L.map Tm.v)=true):Nx L/\L.length<=1:=by
 rcases Ic h with e|⟨t,e⟩
 ·have:=List.map_eq_nil_iff.1 e;subst this;exact⟨fun x hx=>(nomatch hx),by decide⟩
 ·refine⟨fun x hx=>?_,by have:=congrArg List.length e;simp at this;omega⟩;have hv:x.v∈L.map Tm.v:=AW.2 ⟨x,hx,rfl⟩;rw[e]at hv;have:=congrArg Prod.snd (AH.1 hv);have hl:x.l=[]:=this;rw[hl];exact⟨fun y hy=>(nomatch hy),by decide⟩
theorem OkV.sp{m:SpM}(h:OkV m.v):oO m:=by
 have ha:=congrArg List.length (Yd m.bs);rw[AN]at ha;have hb:m.v.bs.length=m.bs.length:=AN ..;have hn:=h.nb;rw[hb]at hn;have hn':(Ep m.bs).length+m.bs.length<=1000000:=by rw[ha];exact hn
 refine⟨by omega,by omega,fun x hx=>?_,?_,?_,(Dt h.fs).1,(Dt h.fu).1⟩
 ·have hu:x.uv∈m.v.bs.flatten:=by
   show x.uv∈(m.bs.map Bt.v).flatten;rw[<-Yd];exact AW.2 ⟨x,hx,rfl⟩
  exact(h.ins _ hu).1.u
 ·have:=(Dt h.fs).2;omega
 ·have:=(Dt h.fu).2;omega
def Gn(u:UV):Prop:=Pg u/\u.1.2.2=[]/\Bl u.1.1=0
theorem Tv(x:UV):∀R:List UV,(UdS.addV R x).length<=R.length+1
 | []=>by simp[UdS.addV]
 | y::R=>by
  unfold UdS.addV;split
  ·have:=Tv x R;simp only[AI];omega
  ·split<;>simp
theorem Zf(L:List UV):(UdS.sumAll L).length<=L.length:=by
 refine Jm (p:=fun L=>(UdS.sumAll L).length<=L.length) (AD _) (fun L x ih=>?_) L;have e:UdS.sumAll (L++[x])=UdS.addV (UdS.sumAll L) x:=by unfold UdS.sumAll;rw[DT];rfl
 rw[e,AA];have:=Tv x (UdS.sumAll L);simp only[AK];omega
theorem Hz(L:List UV):(UdS.sumV L).length<=L.length:=AQ (GH _ _) (Zf L)
theorem Sm{D:List UV}(h:∀u∈D,Gn u):∀u∈UdS.sumV D,Gn u:=fun u hu=>by
 obtain⟨h1,_,y,hy,e⟩:=UdS.sumV_mem (fun x hx=>(h x hx).1.num) hu;obtain⟨a,b,c⟩:=h y hy;exact⟨a.key e h1,by rw[<-e];exact b,by rw[<-e];exact c⟩
theorem Tp{S:List TV}(hf:Bn S=true)(he:∀t∈S,0<=t.1/\t.1<=18446744073709551615){u:UV}(h:Gn u):Gn (Bp S u):=by
 obtain⟨⟨l,e,c⟩,d⟩:=u;obtain⟨a,b,k⟩:=h;simp only at b k;subst b;rcases Ic hf with rfl|⟨t,rfl⟩
 ·exact⟨a,rfl,k⟩
 ·have e1:Bp [(t,[])] ((l,e,[]),d)=((l,max e t,[]),d):=by unfold Bp;rw[Yy]
  rw[e1];have:=he (t,[]) (AH.2 rfl);have h2:=a.te;simp only at this h2;exact⟨⟨a.txt,a.int,a.num,a.len,a.tu,a.tn,by simp only;omega⟩,rfl,k⟩
theorem oB{s:SV}(h:OkV s)(i:Nat):∀u∈Ch s i,Gn u:=by
 refine Sm fun u hu=>?_;obtain⟨v,hv,rfl⟩:=AW.1 hu;refine Tp h.fs h.es ?_;have hg:∀j,∀v∈s.bs.getD j [],Gn v:=fun j v hv=>by
  rw[AB]at hv;cases hj:s.bs[j]? with
  | none=>rw[hj]at hv;cases hv
  | some b =>
   rw[hj]at hv;exact h.ins v (GE.2 ⟨b,List.mem_of_getElem? hj,hv⟩)
 rcases AR.1 hv with q|q
 ·exact hg i v q
 ·exact hg (i+1) v q
theorem Mf{l:List (List UV)}{i:Nat}(h:i+1<l.length):l=l.take i++l.getD i []::l.getD (i+1) []::l.drop (i+2):=by
 have h0:i<l.length:=by omega
 have e1:l.drop i=l.getD i []::l.drop (i+1):=by rw[BY h0,AB,AC h0];rfl
 have e2:l.drop (i+1)=l.getD (i+1) []::l.drop (i+2):=by rw[BY h,AB,AC h];rfl
 rw[<-e2,<-e1,CE]
theorem Qq{s:SV}{X:List TV}(h:OkV s)(hX:∀t∈X,0<=t.1/\t.1<=18446744073709551615):OkV (Bw s X).2:=by
 unfold Bw;split
 ·exact h
 ·rename_i h1;split
  ·exact h
  ·have hf:Bn X=true:=by simpa using h1
   exact⟨h.nb,h.ins,h.pos,h.un,by show Bn (ofV X)=true;rw[Fy hf];exact hf,h.fu,by show ∀t∈ofV X,_;rw[Fy hf];exact hX,h.eu⟩
theorem Yk{s:SV}{l:List UV}{X:List TV}(h:OkV s)(hl:∀u∈l,Pg u)(hX:∀t∈X,0<=t.1/\t.1<=18446744073709551615)(hn:s.bs.flatten.length+s.bs.length+l.length+1<=1000000):OkV (Cq s l X).2:=by
 unfold Cq;split
 ·exact h
 ·rename_i h1;split
  ·exact h
  ·rename_i h2;split
   ·exact h
   ·split
    ·exact h
    ·have hf:Bn X=true:=by simpa using h1
     have hg:∀u∈l,Gn u:=fun u hu=>by
      have q:Cf u=false:=by
       have:=GA.1 (by simpa using h2:l.any Cf=false) u hu;simpa using this
      unfold Cf at q;rw[Bool.or_eq_false_iff]at q;exact⟨hl u hu,AG (by have:=of_decide_eq_false q.1;omega),by simpa using q.2⟩
     have hs:=Sm hg;have hlen:=Hz l;by_cases h5:UdS.sumV l=[]
     ·simp only[if_pos h5];exact⟨h.nb,h.ins,h.pos,h.un,h.fs,by show Bn (ofV X)=true;rw[Fy hf];exact hf,h.es,by show ∀t∈ofV X,_;rw[Fy hf];exact hX⟩
     ·simp only[if_neg h5];refine⟨?_,fun u hu=>?_,fun b hb=>?_,fun i k hk=>?_,h.fs,by show Bn (ofV X)=true;rw[Fy hf];exact hf,h.es,by show ∀t∈ofV X,_;rw[Fy hf];exact hX⟩
      ·show(s.bs++[UdS.sumV l]).flatten.length+(s.bs++[UdS.sumV l]).length<=1000000;rw[CJ,AA,AA];simp only[DO,AK];omega
      ·rw[CJ]at hu;rcases AR.1 hu with q|q
       ·exact h.ins u q
       ·simp only[DO]at q;exact hs u q
      ·rcases AR.1 hb with q|q
       ·exact h.pos b q
       ·rw[AH.1 q];exact h5
      ·have:=h.un i k hk;refine⟨?_,this.2⟩;show i+1<(s.bs++[UdS.sumV l]).length;rw[AA];have:=this.1;omega
theorem pP:∀{k:Nat} {bs:List (List UV)} {i:Nat},Fe k bs=some i->i<k
 | 0,_,_,h=>nomatch h
 | k+1,bs,i,h=>by
  unfold Fe at h;split at h
  ·injection h with h;omega
  ·have:=pP h;omega
theorem sI{s:SV}(h:OkV s){i:Nat}(hi:i+1<s.bs.length):0<(s.bs.getD i []).length+(s.bs.getD (i+1) []).length/\(s.bs.getD i []).length+(s.bs.getD (i+1) []).length<=1000000:=by
 have e:=congrArg List.flatten (Mf hi);have e2:=congrArg List.length e;simp only[CJ,GB,AA]at e2;have hn:=h.nb;have hm:s.bs.getD i []∈s.bs:=by rw[AB,AC (by omega)];exact BP _
 have:=EA.2 (h.pos _ hm);omega
theorem Jr{s:SV}(h:OkV s):OkV (Bo s).1:=by
 unfold Bo;split
 ·exact h
 ·split
  ·rename_i i hd;refine⟨h.nb,h.ins,h.pos,fun j l hj=>?_,h.fs,h.fu,h.es,h.eu⟩;have hi:=pP hd;have hi2:i+1<s.bs.length:=by omega
   injection hj with hj;injection hj with h1 h2;subst h1;subst h2;exact⟨hi2,sI h hi2⟩
  ·exact h
theorem jQ{s:SV}{i l k:Nat}(h:OkV s)(hu:s.un=some (i,l))(hk:k<l):OkV { s with un:=some (i,l-k) }:=by
 refine⟨h.nb,h.ins,h.pos,fun j q hj=>?_,h.fs,h.fu,h.es,h.eu⟩;have:=h.un i l hu;injection hj with hj;injection hj with h1 h2;subst h1;subst h2;exact⟨this.1,by omega,by omega⟩
theorem Yl{s:SV}{i l k:Nat}(h:OkV s)(hu:s.un=some (i,l)):OkV (Ir { s with un:=some (i,k) }):=by
 have hi:=(h.un i l hu).1;have hg:=oB h i;have hlen:(Ch s i).length<=(s.bs.getD i []).length+(s.bs.getD (i+1) []).length:=by
  unfold Ch;refine AQ (Hz _) ?_;rw[AN,AA];exact AD _
 have e:=congrArg List.flatten (Mf hi);have e2:=congrArg List.length e;have e3:=congrArg List.length (Mf hi);simp only[CJ,GB,AA,AI]at e2 e3;have hn:=h.nb;have hb:Ch { s with un:=some (i,k) } i=Ch s i:=rfl;unfold Ir;simp only[hb];refine⟨?_,fun u hu=>?_,fun b hb'=>?_,fun j q hj=>(nomatch hj),h.fs,h.fu,h.es,h.eu⟩
 ·show(s.bs.take i++(if Ch s i=[] then [] else [Ch s i])++s.bs.drop (i+2)).flatten.length+(s.bs.take i++(if Ch s i=[] then [] else [Ch s i])++s.bs.drop (i+2)).length<=1000000;split
  ·simp only[CJ,AA,List.flatten_nil,CB];omega
  ·simp only[CJ,AA,DO,AK];omega
 ·have hu':u∈(s.bs.take i).flatten\/u∈Ch s i\/u∈(s.bs.drop (i+2)).flatten:=by
   have hu2:u∈(s.bs.take i++(if Ch s i=[] then [] else [Ch s i])++s.bs.drop (i+2)).flatten:=hu;rw[CJ,CJ]at hu2;rcases AR.1 hu2 with q|q
   ·rcases AR.1 q with q|q
    ·exact .inl q
    ·split at q
     ·cases q
     ·simp only[DO]at q;exact .inr (.inl q)
   ·exact .inr (.inr q)
  have hm:∀bs':List (List UV),(∀b∈bs',b∈s.bs)->u∈bs'.flatten->Gn u:=fun bs' h1 h2=>by
   obtain⟨b,hb,hub⟩:=GE.1 h2;exact h.ins u (GE.2 ⟨b,h1 b hb,hub⟩)
  rcases hu' with q|q|q
  ·exact hm _ (fun b hb=>CF hb) q
  ·exact hg u q
  ·exact hm _ (fun b hb=>CP hb) q
 ·have hb2:b∈s.bs.take i++(if Ch s i=[] then [] else [Ch s i])++s.bs.drop (i+2):=hb';rcases AR.1 hb2 with q|q
  ·rcases AR.1 q with q|q
   ·exact h.pos b (CF q)
   ·split at q
    ·cases q
    ·rename_i h5;rw[AH.1 q];exact h5
  ·exact h.pos b (CP q)
def Gq(s:SV)(n:Nat):SV×Nat :=
 match s.un with
 | none=>(s,n)
 | some (i,l)=>(if l-min n l=0 then Ir { s with un:=some (i,l-min n l) } else { s with un:=some (i,l-min n l) },n-min n l)
inductive Cz:SV->Nat->SV->Nat->Prop
 | done (s:SV):Cz s 0 s 0
 | stop {s s1:SV} {n:Nat} (h:0<n) (hb:Bo s=(s1,false)):Cz s n s1 n
 | step {s s1 s2 t:SV} {n n2 r:Nat} (h:0<n) (hb:Bo s=(s1,true)) (hp:Gq s1 n=(s2,n2)) (k:Cz s2 n2 t r):Cz s n t r
def zD(w:World)(R:Nat->Prop)(gs n:Nat)(s:SV)(e:Ending)(w':World):Prop:=∃m' r,e=.returned (.int .i64 (r:Nat))/\SpR w' (Rg R w w') gs m'/\Cz s n m'.v r/\OkV m'.v/\Upd R w w'
structure Sd (w wr:World) (R:Nat->Prop) (gs n k:Nat) (s:SV) (m:SpM):Prop where
 sp:SpR wr (Rg R w wr) gs m
 ok:OkV m.v
 up:Upd R w wr
 wk:∀t r,Cz m.v k t r->Cz s n t r
theorem vX{l:List Bt}{b:Bt}(h:b∈l):b.l.length<=(l.flatMap Bt.l).length:=by
 induction l with
 | nil=>cases h
 | cons a l ih =>
  rw[BM,AA];rcases AZ.1 h with rfl|h
  ·omega
  ·have:=ih h;omega
theorem Xl(gs n:Nat)(m:SpM)(R:Nat->Prop)(w:World)(HM:Hid (SpR w R gs m))(ok:Hid (OkV m.v)):Calls Tryz.prog 160 #[.pointer (some ⟨gs,0,none⟩),.int .i64 n] w (Fi w R gs n (Bo m.v).2 (Bo m.v).1):=by
 cases hu:m.un with
 | none=>exact jA gs n m R w hu HM ok.out.sp.nb (hid fun b hb=>AQ (by unfold Ep;exact vX hb) ok.out.sp.na)
 | some p =>
  have e:Bo m.v=(m.v,true):=by unfold Bo;rw[show m.v.un=some (p.i,p.left)by unfold SpM.v;rw[hu];rfl]
  rw[e];exact iZ gs n m p R w hu HM
theorem uN{w wr wa w1:World}{R:Nat->Prop}{gs n:Nat}{b:Bool}{s:SV}{e:Ending}(up:Upd R w wr)(x:Ext wr wa)(h:Fi wa (Rg R w wr) gs n b s e w1):∃m1,e=.returned (.tuple #[.int .i64 n,.bool b])/\SpR w1 (Rg R w w1) gs m1/\m1.v=s/\Upd R w w1:=by
 obtain⟨m1,he,hs,hv,hu⟩:=h;have hx:=x.size;have h1:=up.size;have h2:=hu.size;refine⟨m1,he,hs.wide fun k _ hk=>?_,hv,?_⟩
 ·rcases hk with (q|q)|q
  ·exact .inl q
  ·exact .inr ⟨q.1,by omega⟩
  ·exact .inr ⟨by omega,q.2⟩
 ·exact oX up ((Upd.ext x).trans hu)
theorem To{s s1:SV}(h:Bo s=(s1,true)):∃i l,s1.un=some (i,l):=by
 unfold Bo at h;split at h
 ·rename_i p hp;injection h with h _;rw[<-h,hp];exact⟨p.1,p.2,rfl⟩
 ·split at h
  ·injection h with h _;rw[<-h];exact⟨_,_,rfl⟩
  ·injection h with _ h;cases h
theorem Sj{w a b:World}{R R':Nat->Prop}(h:Upd R w a)(k:Upd R' a b)(hr:∀q,q<w.heap.size->R' q->R q):Upd R w b :=
 ⟨k.os.trans h.os,k.tape.trans h.tape,k.output.trans h.output,AQ h.size k.size,fun q hq hn=>(k.block q (BF hq h.size) (fun e=>hn (hr q hq e))).trans (h.block q hq hn)⟩
theorem Sd.next{w wr wa w1 w2 w3:World}{R:Nat->Prop}{gs n k j:Nat}{s s1 s2:SV}{m m3:SpM}(h:Sd w wr R gs n k s m)(hk:0<k)(hb:Bo m.v=(s1,true))(hp:Gq s1 k=(s2,j))(_hR:∀q,R q->q<w.heap.size)(x:Ext wr wa)
  (u1:Upd (Rg R w wr) wa w1) (u2:Upd (Rg (Rg R w wr) wa w1) w1 w2) (u3:Upd (Rg (Rg (Rg R w wr) wa w1) w1 w2) w2 w3) (s3:SpR w3 (Rg (Rg (Rg (Rg R w wr) wa w1) w1 w2) w2 w3) gs m3) (hv:m3.v=s2) (ok:OkV m3.v):Sd w w3 R gs n j s m3:=by
 have z0:=h.up.size;have z1:=x.size;have z2:=u1.size;have z3:=u2.size;have z4:=u3.size;have q1:∀q,q<w.heap.size->Rg R w wr q->R q:=fun q hq e=>e.elim id fun e=>by omega
 have q2:∀q,q<w.heap.size->Rg (Rg R w wr) wa w1 q->R q:=fun q hq e=>e.elim (q1 q hq) fun e=>by omega
 have q3:∀q,q<w.heap.size->Rg (Rg (Rg R w wr) wa w1) w1 w2 q->R q:=fun q hq e=>e.elim (q2 q hq) fun e=>by omega
 refine⟨s3.wide fun q _ hq=>?_,ok,Sj (Sj (Sj (h.up.trans (Upd.ext x)) u1 q1) u2 q2) u3 q3,fun t r ht=>h.wk t r (Cz.step hk hb hp (hv▸ht))⟩;rcases hq with (((q|q)|q)|q)|q
 ·exact .inl q
 ·exact .inr ⟨q.1,by omega⟩
 ·exact .inr ⟨by omega,by omega⟩
 ·exact .inr ⟨by omega,by omega⟩
 ·exact .inr ⟨by omega,q.2⟩
theorem aZ(gs n:Nat)(m:SpM)(R:Nat->Prop)(w:World)(HM:Hid (SpR w R gs m))(ok:Hid (OkV m.v))(hn:0<n)(hn9:n<=9223372036854775807)(hR:Hid (∀k,R k->k<w.heap.size)):Calls Tryz.prog 47 #[.pointer (some ⟨gs,0,none⟩),.int .i64 n] w (zD w R gs n m.v):=by
 have h1:¬((n:Int)<1):=by omega
 have HI0:Hid (Sd w w R gs n n m.v m):=hid ⟨HM.out.wide fun _ _ hk=>.inl hk,ok.out,Upd.refl R w,fun t r h=>h⟩;go_enter Tryz.func47,Tryz.ntmps47;go_wp2
 go_loopg [1] n (fun z u wr=>∃(k:Nat) (m':SpM),z=k/\k<=n/\u=.int .i64 k/\Hid (Sd w wr R gs n k m.v m'))
 case atStart=>exact⟨n,m,rfl,AD _,rfl,HI0⟩
 case round =>
  obtain⟨k,m',hz,hk,rfl,HI⟩:=hrel;by_cases hk0:k=0
  ·subst hk0;go_wp2;go_ret;exact⟨m',0,rfl,HI.out.sp,HI.out.wk _ _ (Cz.done _),HI.out.ok,HI.out.up⟩
  ·have hkz:(0:Int)<(k:Int):=by omega
   obtain⟨s1,hs1⟩:∃s1,(Bo m'.v).1=s1:=⟨_,rfl⟩;obtain⟨b1,hb1⟩:∃b1,(Bo m'.v).2=b1:=⟨_,rfl⟩;have HE:Hid (Bo m'.v=(s1,b1)):=hid (by rw[<-hs1,<-hb1]);have HO1:Hid (OkV s1):=hid (hs1▸Jr HI.out.ok);have XA:Hid (Ext wr (wr.alloc (.cells #[.func (.func 160) #[.pointer (some ⟨gs,0,none⟩)] #[],.func (.func 161) #[.pointer (some ⟨gs,0,none⟩)] #[],.func (.func 162) #[.pointer (some ⟨gs,0,none⟩)] #[]] 198))):=hid ((Ext.refl wr).alloc _);have HSP:Hid (Fi (wr.alloc (.cells #[.func (.func 160) #[.pointer (some ⟨gs,0,none⟩)] #[],.func (.func 161) #[.pointer (some ⟨gs,0,none⟩)] #[],.func (.func 162) #[.pointer (some ⟨gs,0,none⟩)] #[]] 198)) (Rg R w wr) gs k b1 s1=Fi (wr.alloc (.cells #[.func (.func 160) #[.pointer (some ⟨gs,0,none⟩)] #[],.func (.func 161) #[.pointer (some ⟨gs,0,none⟩)] #[],.func (.func 162) #[.pointer (some ⟨gs,0,none⟩)] #[]] 198)) (Rg R w wr) gs k (Bo m'.v).2 (Bo m'.v).1):=hid (by rw[hs1,hb1]);clear hs1 hb1;cases b1 with
   | false =>
    go_wp2;refine wp_loop_rounds 4 ?_;rw[rounds_succ];go_wp2_with (go_at_call 160;refine(Xl gs k m' (Rg R w wr) _ (hid (HI.out.sp.ext XA.out)) (hid HI.out.ok)).mono ?_;rw[<-HSP.out];rintro r w1 hres;have HR1:=hid (uN HI.out.up XA.out hres);obtain⟨m1,rfl,_⟩:=hres)
    go_ret;obtain⟨m1,_,h2,h3,h4⟩:=HR1.out;exact⟨m1,k,rfl,h2,HI.out.wk _ _ (h3▸Cz.stop (by omega) HE.out),h3▸HO1.out,h4⟩
   | true =>
    obtain⟨i,l,hil⟩:=To HE.out;have hu1:=HO1.out.un i l hil;have HIL:=hid hil;have HUL:=hid hu1;obtain⟨gF,hgF⟩:∃g,g=wr.heap.size:=⟨_,rfl⟩;have HGF:=hid hgF;have hF0:¬Rg R w wr gF:=fun q=>by
     have h1:=HI.out.up.size;rcases q with q|q
     ·have:=hR.out gF q;omega
     ·omega
    have HF0:=hid hF0;clear hil hu1 hF0;go_wp2;refine wp_loop_rounds 4 ?_;rw[rounds_succ];go_wp2_with (go_at_call 160;refine(Xl gs k m' (Rg R w wr) _ (hid (HI.out.sp.ext XA.out)) (hid HI.out.ok)).mono ?_;rw[<-HSP.out];rintro r w1 ⟨m1,rfl,s1_,v1_,u1_⟩;have HS1:=hid s1_;have HV1:=hid v1_;have HU1:=hid u1_;clear s1_ v1_ u1_)
    have HF1:Hid (¬Rg (Rg R w wr) (wr.alloc (.cells #[.func (.func 160) #[.pointer (some ⟨gs,0,none⟩)] #[],.func (.func 161) #[.pointer (some ⟨gs,0,none⟩)] #[],.func (.func 162) #[.pointer (some ⟨gs,0,none⟩)] #[]] 198)) w1 gF):=hid (fun q=>by
     rcases q with q|q
     ·exact HF0.out q
     ·have:=q.1;simp at this;have:=HGF.out;omega)
    have HB1:Hid (Bk w1 gF 198 _):=hid ((Bk.at (w:=wr) (cs:=#[.func (.func 160) #[.pointer (some ⟨gs,0,none⟩)] #[],.func (.func 161) #[.pointer (some ⟨gs,0,none⟩)] #[],.func (.func 162) #[.pointer (some ⟨gs,0,none⟩)] #[]]) hgF).upd HU1.out HF0.out);have c1:=HB1.out.cell 1;rw[hgF]at c1;rw[rounds_succ];obtain⟨p,hp1,hpi,hpl⟩:∃p,m1.un=some p/\p.i=i/\p.left=l:=by
     have h:=HIL.out;rw[<-HV1.out]at h;unfold SpM.v at h;cases hm:m1.un with
     | none=>simp only[hm]at h;cases h
     | some p =>
      simp only[hm,FC,ER,Prod.mk.injEq]at h;exact⟨p,rfl,h.1,h.2⟩
    go_wp2_with (go_at_call 161;refine(vB gs k m1 p _ _ hp1 HS1 (by omega) (by have:=HUL.out.2.2;omega)).mono ?_;rintro r w2 ⟨m2,rfl,s2_,v2_,u2_⟩;have HS2:=hid s2_;have HV2:=hid v2_;have HU2:=hid u2_;clear s2_ v2_ u2_)
    have HV2':Hid (m2.v={ s1 with un:=some (i,l-min k l) }):=hid (by rw[HV2.out,HV1.out,hpi,hpl]);have HF2:Hid (¬Rg (Rg (Rg R w wr) (wr.alloc (.cells #[.func (.func 160) #[.pointer (some ⟨gs,0,none⟩)] #[],.func (.func 161) #[.pointer (some ⟨gs,0,none⟩)] #[],.func (.func 162) #[.pointer (some ⟨gs,0,none⟩)] #[]] 198)) w1) w1 w2 gF):=hid (fun q=>by
     rcases q with q|q
     ·exact HF1.out q
     ·have h1:=q.1;have h2:=HB1.out.lt;omega)
    have HB2:=hid (HB1.out.upd HU2.out HF1.out);have c2:=HB2.out.cell 2;rw[hgF]at c2;obtain⟨p2,hp2,hp2i,hp2l⟩:∃p,m2.un=some p/\p.i=i/\p.left=l-min k l:=by
     have h:=congrArg SV.un HV2'.out;unfold SpM.v at h;cases hm:m2.un with
     | none=>simp only[hm]at h;cases h
     | some p =>
      simp only[hm,FC,ER,Prod.mk.injEq]at h;exact⟨p,rfl,h.1,h.2⟩
    have HPE:Hid (Gq s1 k=(if l-min k l=0 then Ir m2.v else m2.v,k-min k l)):=hid (by unfold Gq;rw[HIL.out];simp only;rw[HV2'.out]);obtain⟨j,hj⟩:∃j,k-min k l=j:=⟨_,rfl⟩;rw[hj]at HPE ⊢;have hjk:j<k:=by have:=HUL.out.2.1;omega
    clear hj c1;rw[rounds_succ];have HOK:Hid (oO m2):=hid (by
     have h0:OkV { s1 with un:=none }:=⟨HO1.out.nb,HO1.out.ins,HO1.out.pos,fun _ _ h=>(nomatch h),HO1.out.fs,HO1.out.fu,HO1.out.es,HO1.out.eu⟩;have h1:OkV ({ m2 with un:=none }:SpM).v:=by
      have e:({ m2 with un:=none }:SpM).v={ m2.v with un:=none }:=rfl;rw[e,HV2'.out];exact h0
     have h2:=h1.sp;exact⟨h2.nb,h2.na,h2.ins,h2.fs,h2.fu,h2.ss,h2.uu⟩)
    by_cases hz0:l-min k l=0
    ·rw[if_pos hz0]at HPE;go_wp2_with (go_at_call 162;refine(sT gs j m2 p2 _ _ hp2 HS2 HOK (hp2l.trans hz0)).mono ?_;rintro r w3 ⟨m3,rfl,s3_,v3_,u3_⟩;have HS3:=hid s3_;have HV3:=hid v3_;have HU3:=hid u3_;clear s3_ v3_ u3_)
     rw[rounds_succ];go_wp2
     go_roundg j
     case measure=>omega
     case rel=>exact⟨j,m3,rfl,by omega,rfl,hid (Sd.next HI.out (by omega) HE.out HPE.out  hR.out XA.out HU1.out HU2.out HU3.out HS3.out (by rw[HV3.out]) (by rw[HV3.out];rw[HV2'.out];exact Yl HO1.out HIL.out))⟩
    ·rw[if_neg hz0]at HPE;go_wp2_with (go_at_call 162;refine(sU gs j m2 p2 _ _ hp2 HS2 (by rw[hp2l];omega)).mono ?_;rintro r w3 ⟨m3,rfl,s3_,v3_,u3_⟩;have HS3:=hid s3_;have HV3:=hid v3_;have HU3:=hid u3_;clear s3_ v3_ u3_)
     rw[rounds_succ];go_wp2
     go_roundg j
     case measure=>omega
     case rel=>exact⟨j,m3,rfl,by omega,rfl,hid (Sd.next HI.out (by omega) HE.out HPE.out  hR.out XA.out HU1.out HU2.out HU3.out HS3.out (by rw[HV3.out]) (by rw[HV3.out];rw[HV2'.out];exact jQ HO1.out HIL.out (by omega)))⟩
def wY(w:World)(R:Nat->Prop)(gs:Nat)(s:SV)(z:Int)(e:Ending)(w':World):Prop:=∃(m':SpM) (r:Nat),e=.returned (.int .i64 r)/\SpR w' (Rg R w w') gs m'/\((m'.v=s/\r=0/\z<1)\/∃n:Nat,z=n/\0<n/\Cz s n m'.v r)/\OkV m'.v/\Upd R w w'
theorem qC(gs:Nat)(z:Int)(w:World)(hz:z<1):Calls Tryz.prog 47 #[.pointer (some ⟨gs,0,none⟩),.int .i64 z] w fun e w'=>e=.returned (.int .i64 0)/\Ext w w':=by
 go_enter Tryz.func47,Tryz.ntmps47;go_wp2;go_ret;exact⟨rfl,Ext.refl w⟩
theorem qE(gs:Nat)(z:Int)(m:SpM)(R:Nat->Prop)(w:World)(HM:Hid (SpR w R gs m))(ok:Hid (OkV m.v))(hz:z<=9223372036854775807)(hR:Hid (∀k,R k->k<w.heap.size)):Calls Tryz.prog 47 #[.pointer (some ⟨gs,0,none⟩),.int .i64 z] w (wY w R gs m.v z):=by
 by_cases h1:z<1
 ·refine(qC gs z w h1).mono ?_;rintro e w' ⟨rfl,x⟩;exact⟨m,0,rfl,(HM.out.ext x).wide fun _ _ hk=>.inl hk,.inl ⟨rfl,rfl,h1⟩,ok.out,Upd.ext x⟩
 ·obtain⟨n,rfl⟩:∃n:Nat,z=n:=⟨z.toNat,by omega⟩;refine(aZ gs n m R w HM ok (by omega) (by omega) hR).mono ?_;rintro e w' ⟨m',r,he,s,k,o,u⟩;exact⟨m',r,he,s,.inr ⟨n,rfl,by omega,k⟩,o,u⟩
namespace UdS
theorem addV_split:∀(P R:List V) (x:V),(∀y∈P,cmpV y x<0)->addV (P++R) x=P++addV R x
 | [],_,_,_=>rfl
 | y::P,R,x,h=>by
  show(if cmpV y x<0 then y::addV (P++R) x else _)=_;rw[if_pos (h y (BE ..)),addV_split P R x (fun z hz=>h z (BN _ hz))];rfl
theorem addV_eq(y x:V)(R:List V)(h:cmpV y x=0):addV (y::R) x=(y.1,w64 (y.2+x.2))::R:=by
 show(if cmpV y x<0 then _ else if cmpV y x=0 then _ else _)=_;rw[if_neg (by omega),if_pos h]
theorem addV_gt(y x:V)(R:List V)(h:0<cmpV y x):addV (y::R) x=x::y::R:=by
 show(if cmpV y x<0 then _ else if cmpV y x=0 then _ else _)=_;rw[if_neg (by omega),if_neg (by omega)]
theorem addV_len:∀(R:List V) (x:V),(addV R x).length<=R.length+1
 | [],_=>AD _
 | y::R,x=>by
  unfold addV;split
  ·rw[AI,AI];have:=addV_len R x;omega
  ·split
   ·rw[AI,AI];omega
   ·rw[AI,AI];omega
def Srt(L:List Ud):Prop:=L.Pairwise fun a b=>Hp a.k b.k<0
theorem Srt.of{L:List Ud}(h:(L.map Ud.uv).Pairwise fun a b=>cmpV a b<0):Srt L:=DL.1 h
theorem Srt.below{L:List Ud}(h:Srt L){k:Nat}(hk:k<L.length){x:Ud}(hx:Hp (L.getD k Ud.zero).k x.k<=0):∀z∈L.take k,Hp z.k x.k<0:=fun z hz=>by
 have hp:Srt (L.take (k+1)):=List.Pairwise.sublist (List.take_sublist _ _) h;rw[Ig hk]at hp;exact Jo.lt_of_lt_le ((BG.1 hp).2.2 z hz _ (by simp)) hx
theorem zM{L:List Ud}(h:Srt L){k:Nat}(hk:k<L.length){x y:Ud}(hy:L.getD k Ud.zero=y)(hx:Hp y.k x.k=0){s:Int}(hs:w64 (y.d+x.d)=s):(L.set k ⟨y.A,y.c,y.l,y.t,s⟩).map Ud.uv=addV (L.map Ud.uv) x.uv:=by
 have e:L=L.take k++y::L.drop (k+1):=by rw[<-hy,<-Wf hk,CE]
 have hb:=h.below hk (x:=x) (by rw[hy,hx];exact EL _);have hl:(L.take k).length=k:=by rw[CA];omega
 have e2:L.set k ⟨y.A,y.c,y.l,y.t,s⟩=L.take k++⟨y.A,y.c,y.l,y.t,s⟩::L.drop (k+1):=by
  have q:L.set k (⟨y.A,y.c,y.l,y.t,s⟩:Ud)=(L.take k++y::L.drop (k+1)).set k ⟨y.A,y.c,y.l,y.t,s⟩:=congrArg (fun l=>List.set l k (⟨y.A,y.c,y.l,y.t,s⟩:Ud)) e;rw[q,CG _ _ (by rw[hl];exact AD _),hl,DG,List.set_cons_zero]
 rw[e2];have e3:L.map Ud.uv=(L.take k).map Ud.uv++y.uv::(L.drop (k+1)).map Ud.uv:=by
  have q:=congrArg (List.map Ud.uv) e
  rwa [AO,CN]at q
 rw[e3,addV_split _ _ _ (fun z hz=>by obtain⟨q,hq,rfl⟩:=AW.1 hz;exact hb q hq),addV_eq _ _ _ (show cmpV y.uv x.uv=0 from hx),AO,CN,<-hs];rfl
theorem zK{L:List Ud}(h:Srt L){k:Nat}(hk:k<=L.length){x z:Ud}(hz:z.uv=x.uv)(h1:∀j,k=j+1->Hp (L.getD j Ud.zero).k x.k<0)(h2:∀y,(L.drop k).head?=some y->0<Hp y.k x.k):(L.take k++z::L.drop k).map Ud.uv=addV (L.map Ud.uv) x.uv:=by
 have hb:∀y∈L.take k,Hp y.k x.k<0:=by
  cases k with
  | zero=>intro y hy;simp at hy
  | succ j =>
   intro y hy;have hj:=h1 j rfl;rw[Ig (show j<L.length by omega)]at hy;rcases AR.1 hy with hy|hy
   ·exact h.below (by omega) (EB hj) y hy
   ·rw[AH.1 hy];exact hj
 have e3:L.map Ud.uv=(L.take k).map Ud.uv++(L.drop k).map Ud.uv:=by rw[<-AO,CE]
 rw[e3,addV_split _ _ _ (fun z hz=>by obtain⟨q,hq,rfl⟩:=AW.1 hz;exact hb q hq),AO,CN,hz]
 congr 1
 cases hd:L.drop k with
 | nil=>rfl
 | cons y R =>
  rw[CN,addV_gt _ _ _ (show 0<cmpV y.uv x.uv from h2 y (by rw[hd];rfl))]
def Fh(L:List Ud)(i:Nat):List V:=((L.take i).map Ud.uv).foldl addV []
theorem Qi{L:List Ud}{i:Nat}{x:Ud}(hi:i<L.length)(hx:L.getD i Ud.zero=x):Fh L (i+1)=addV (Fh L i) x.uv:=by
 unfold Fh;rw[Ig hi,hx,AO,DT];rfl
theorem gB(L:List Ud):∀i,(Fh L i).length<=i
 | 0=>by unfold Fh;simp
 | i+1=>by
  have ih:=gB L i;by_cases hi:i<L.length
  ·rw[Qi hi rfl];have:=addV_len (Fh L i) (L.getD i Ud.zero).uv;omega
  ·have e:Fh L (i+1)=Fh L i:=by unfold Fh;rw[AT (by omega),AT (by omega)]
   rw[e];omega
theorem zJ{L:List Ud}(hin:∀x∈L,InN x.uv)(i:Nat):(Fh L i).Pairwise fun a b=>cmpV a b<0 :=
 (Summed.all ((L.take i).map Ud.uv) (fun y hy=>by obtain⟨x,hx,rfl⟩:=AW.1 hy;exact hin x (CF hx))).sorted
theorem zL(L:List Ud)(k:Nat)(y:Ud)(s:Int)(hk:k<L.length)(hy:L.getD k Ud.zero=y):(Ah L).set (k*4+3) (.int .i64 s)=Ah (L.set k ⟨y.A,y.c,y.l,y.t,s⟩):=by
 have e:L=L.take k++y::L.drop (k+1):=by rw[<-hy,<-Wf hk,CE]
 have hl:(L.take k).length=k:=by rw[CA];omega
 have e2:L.set k ⟨y.A,y.c,y.l,y.t,s⟩=L.take k++⟨y.A,y.c,y.l,y.t,s⟩::L.drop (k+1):=by
  have q:L.set k (⟨y.A,y.c,y.l,y.t,s⟩:Ud)=(L.take k++y::L.drop (k+1)).set k ⟨y.A,y.c,y.l,y.t,s⟩:=congrArg (fun l=>List.set l k (⟨y.A,y.c,y.l,y.t,s⟩:Ud)) e;rw[q,CG _ _ (by rw[hl];exact AD _),hl,DG,List.set_cons_zero]
 rw[e2];have e3:Ah L=Ah (L.take k)++(udC y++Ah (L.drop (k+1))):=by
  have q:=congrArg Ah e;rw[Bb]at q;exact q
 rw[e3,CG _ _ (by rw[Cw,hl];omega),Cw,hl,CR,Bb];rfl
end UdS
theorem lO(e1 e2:Int)(A1 A2:Option Addr)(n1 n2 c1 c2:Nat)(w:World)(hne:((n1:Int) != (n2:Int))=true) :
  Calls Tryz.prog 119 #[.agg #[.int .u64 e1,.slice A1 n1 c1],.agg #[.int .u64 e2,.slice A2 n2 c2]] w fun e w'=>e=.returned (.bool false)/\Ext w w':=by
 go_enter Tryz.func119,Tryz.ntmps119;go_wp2;go_ret;exact⟨rfl,((Ext.refl w).alloc _).alloc _⟩
theorem lN(e1 e2:Int)(A1 A2:Option Addr)(n c1 c2:Nat)(w:World)(hlt:e2<e1) :
  Calls Tryz.prog 119 #[.agg #[.int .u64 e1,.slice A1 n c1],.agg #[.int .u64 e2,.slice A2 n c2]] w fun e w'=>e=.returned (.bool false)/\Ext w w':=by
 have he:((n:Int) != (n:Int))=false:=by simp
 go_enter Tryz.func119,Tryz.ntmps119;go_wp2;go_ret;exact⟨rfl,((Ext.refl w).alloc _).alloc _⟩
theorem lM(e1 e2:Int)(A1 A2:Option Addr)(n c1 c2:Nat)(l1 l2:List Int)(w:World)(h1:Sl w 1 A1 n c1 (wds l1))(h2:Sl w 1 A2 n c2 (wds l2))(hle:e1<=e2) :
  Calls Tryz.prog 119 #[.agg #[.int .u64 e1,.slice A1 n c1],.agg #[.int .u64 e2,.slice A2 n c2]] w fun e w'=>e=.returned (.bool (decide (∀k,k<n->l1.getD k 0<=l2.getD k 0)))/\Ext w w':=by
 have hm:=h1.le;have he:((n:Int) != (n:Int))=false:=by simp
 go_enter Tryz.func119,Tryz.ntmps119;go_wp2;obtain⟨w0,hw0⟩:∃w0,w0=(w.alloc (Obj.cells #[Value.int IntKind.u64 e1,Value.slice A1 n c1] 26)).alloc (Obj.cells #[Value.int IntKind.u64 e2,Value.slice A2 n c2] 26):=⟨_,rfl⟩;have e0:Ext w w0:=hw0▸((Ext.refl w).alloc _).alloc _;have b1:w0.cell? ⟨w.heap.size,1,none⟩=some (Value.slice A1 n c1):=by subst hw0;go_simp
 have b2:w0.cell? ⟨w.heap.size+1,1,none⟩=some (Value.slice A2 n c2):=by subst hw0;go_simp
 rw[<-hw0];clear hw0
 go_loopw [5] (fun v wr=>∃k:Nat,k<=n/\v=.int .i64 k/\(∀j,j<k->l1.getD j 0<=l2.getD j 0)/\∃m,wr=w0.drewN m) (fun v _=>n-(intOf v).toNat)
 case atStart=>exact⟨0,AE _,rfl,fun j hj=>absurd hj (by omega),0,rfl⟩
 case round =>
  obtain⟨k,hk,rfl,hall,m,rfl⟩:=hrel;have H:=hid hall;clear hall;by_cases hlt:k<n
  ·obtain⟨a1,ha1,hc1,_⟩:=(h1.ext e0).word hlt;obtain⟨a2,ha2,hc2,_⟩:=(h2.ext e0).word hlt;go_wp2;go_quiet (fail);go_wp2
   ·have hv:l2[k]?.getD 0<l1[k]?.getD 0:=by assumption
    go_ret;refine⟨Cb (Eq.symm (decide_eq_false fun hh=>?_)),(e0.drewN _).drewN _⟩;have:=hh k hlt;simp only[AB]at this;omega
   ·have hv:l1[k]?.getD 0<=l2[k]?.getD 0:=by assumption
    go_roundw
    case rel =>
     refine⟨k+1,by omega,by go_num,fun j hj=>?_,_,rfl⟩;by_cases hjk:j<k
     ·exact H.out j hjk
     ·obtain rfl:j=k:=by omega
      simpa only[AB] using hv
    case measure=>simp[intOf];omega
  ·go_wp2;go_ret;refine⟨Cb (Eq.symm (decide_eq_true fun j hj=>H.out j (by omega))),e0.drewN _⟩
theorem bL(e1 e2:Int)(A1 A2:Option Addr)(n1 n2 c1 c2:Nat)(l1 l2:List Int)(w:World)(h1:Sl w 1 A1 n1 c1 (wds l1))(h2:Sl w 1 A2 n2 c2 (wds l2)) :
  Calls Tryz.prog 119 #[.agg #[.int .u64 e1,.slice A1 n1 c1],.agg #[.int .u64 e2,.slice A2 n2 c2]] w fun e w'=>e=.returned (.bool (Iq e1 l1 e2 l2))/\Ext w w':=by
 have hl1:=h1.wlen;have hl2:=h2.wlen;by_cases hn:n1=n2
 ·subst hn;by_cases hlt:e2<e1
  ·have hf:Iq e1 l1 e2 l2=false:=decide_eq_false fun hh=>by have:=hh.2.1;omega
   rw[hf];exact lN e1 e2 A1 A2 n1 c1 c2 w hlt
  ·refine(lM e1 e2 A1 A2 n1 c1 c2 l1 l2 w h1 h2 (by omega)).mono fun e w' ⟨he,hx⟩=>⟨he.trans (Cb ?_),hx⟩;unfold Iq;rw[decide_eq_decide,hl1,hl2];exact⟨fun h=>⟨rfl,by omega,h⟩,fun h=>h.2.2⟩
 ·have hf:Iq e1 l1 e2 l2=false:=decide_eq_false fun hh=>by have:=hh.1;omega
  rw[hf];exact lO e1 e2 A1 A2 n1 n2 c1 c2 w (by simp;omega)
theorem lL(x y:Int)(w:World):Calls Tryz.prog 210 #[.int .u64 x,.int .u64 y] w fun e w'=>e=.returned (.int .i64 (Bz x y))/\w=w':=by
 rcases DK x y with h|h|h
 ·rw[Rt h];go_enter Tryz.func210,Tryz.ntmps210;go_wp2;go_ret;exact⟨rfl,rfl⟩
 ·subst h;rw[Ej];go_enter Tryz.func210,Tryz.ntmps210;go_wp2;go_ret;exact⟨rfl,rfl⟩
 ·rw[Rv h];have h2:¬x<y:=by omega
  go_enter Tryz.func210,Tryz.ntmps210;go_wp2;go_ret;exact⟨rfl,rfl⟩
theorem Ok{v:Int}(x y:Int)(w:World)(h:Hid (Bz x y=v)):Calls Tryz.prog 210 #[.int .u64 x,.int .u64 y] w fun e w'=>e=.returned (.int .i64 v)/\w=w':=h.out▸lL x y w
def Oa(l1 l2:List Int)(k:Nat)(v:Int):Int:=if v=0 then Dy (l1.drop k) (l2.drop k) else v
theorem qY(e1 e2:Int)(A1 A2:Option Addr)(n1 n2 c1 c2:Nat)(w:World)(v:Int)(hv:Hid (Bz n1 n2=v))(v0:(v==0)=false)(hn1:n1<=1000000)(hn2:n2<=1000000) :
  Calls Tryz.prog 149 #[.agg #[.int .u64 e1,.slice A1 n1 c1],.agg #[.int .u64 e2,.slice A2 n2 c2]] w fun e w'=>e=.returned (.int .i64 v)/\Ext w w':=by
 have w1_:IntKind.u64.wrap (n1:Int)=n1:=EV _ (by omega);have w2_:IntKind.u64.wrap (n2:Int)=n2:=EV _ (by omega);go_enter Tryz.func149,Tryz.ntmps149;go_wp2_with (go_at_call 210;refine(Ok _ _ _ hv).mono ?_;rintro r w1 ⟨rfl,rfl⟩)
 refine wp_loop_rounds 1 ?_;rw[rounds_succ];go_wp2;all_goals go_ret
 all_goals exact⟨rfl,((Ext.refl w).alloc _).alloc _⟩
theorem lQ(e1 e2:Int)(A1 A2:Option Addr)(n c1 c2:Nat)(l1 l2:List Int)(w:World)(h1:Sl w 1 A1 n c1 (wds l1))(h2:Sl w 1 A2 n c2 (wds l2))(u1:U32 l1)(u2:U32 l2)(hn:n<=1000000) :
  Calls Tryz.prog 149 #[.agg #[.int .u64 e1,.slice A1 n c1],.agg #[.int .u64 e2,.slice A2 n c2]] w fun e w'=>e=.returned (.int .i64 (Oa l1 l2 0 (Bz e1 e2)))/\Ext w w':=by
 have HL1:=hid h1.wlen;have HL2:=hid h2.wlen;have HU1:=hid u1;have HU2:=hid u2;have w1_:IntKind.u64.wrap (n:Int)=n:=EV _ (by omega);have hs:Hid (Bz n n=0):=hid (Ej _);obtain⟨R,hR⟩:∃R,Oa l1 l2 0 (Bz e1 e2)=R:=⟨_,rfl⟩;rw[hR];have HR:=hid hR;obtain⟨v,hv⟩:∃v,Bz e1 e2=v:=⟨_,rfl⟩;have hv1:=hid hv;have HV:Hid (Oa l1 l2 0 v=R):=hid (by rw[<-hv];exact hR);clear hR hv u1 u2;have m1:True:=trivial;go_enter Tryz.func149,Tryz.ntmps149;go_wp2_with (first
  | (go_at_call 210;have mk:=m1;clear m1 mk;refine(Ok _ _ _ hs).mono ?_;rintro r w1 ⟨rfl,rfl⟩;have m2:True:=trivial)
  | (go_at_call 210;have mk:=m2;clear m2 mk;refine(Ok _ _ _ hv1).mono ?_;rintro r w1 ⟨rfl,rfl⟩))
 obtain⟨w0,hw0⟩:∃w0,w0=(w.alloc (Obj.cells #[Value.int IntKind.u64 e1,Value.slice A1 n c1] 26)).alloc (Obj.cells #[Value.int IntKind.u64 e2,Value.slice A2 n c2] 26):=⟨_,rfl⟩;have x0:Ext w w0:=hw0▸((Ext.refl w).alloc _).alloc _;have b1:w0.cell? ⟨w.heap.size,1,none⟩=some (Value.slice A1 n c1):=by subst hw0;go_simp
 have b2:w0.cell? ⟨w.heap.size+1,1,none⟩=some (Value.slice A2 n c2):=by subst hw0;go_simp
 rw[<-hw0];clear hw0
 go_loopw [5,6] (fun u v wr=>∃(k:Nat) (z:Int),k<=n/\v=.int .i64 k/\u=.int .i64 z/\Hid (Oa l1 l2 k z=R)/\Ext w0 wr) (fun _ v _=>n-(intOf v).toNat)
 case atStart=>exact⟨0,v,AE _,rfl,rfl,HV,Ext.refl _⟩
 case round =>
  obtain⟨k,z,hk,rfl,rfl,HZ,er⟩:=hrel;have d1:wr.cell? ⟨w.heap.size,1,none⟩=some (Value.slice A1 n c1):=er.cell b1;have d2:wr.cell? ⟨w.heap.size+1,1,none⟩=some (Value.slice A2 n c2):=er.cell b2;by_cases hlt:k<n
  ·by_cases hz:z=0
   ·subst hz;obtain⟨a1,ha1,hc1,_⟩:=(h1.ext (x0.trans er)).word hlt;obtain⟨a2,ha2,hc2,_⟩:=(h2.ext (x0.trans er)).word hlt;obtain⟨x,hx⟩:∃x,l1.getD k 0=x:=⟨_,rfl⟩;obtain⟨y,hy⟩:∃y,l2.getD k 0=y:=⟨_,rfl⟩;obtain⟨q,hq⟩:∃q,Bz x y=q:=⟨_,rfl⟩;have ux:=HU1.out.getD k;have uy:=HU2.out.getD k;rw[hx]at ux hc1;rw[hy]at uy hc2;have wx:IntKind.u64.wrap x=x:=EV _ (by omega);have wy:IntKind.u64.wrap y=y:=EV _ (by omega);have HN:Hid (Oa l1 l2 (k+1) q=R):=hid (by
     have h:=HZ.out;have e1:=HL1.out;have e2:=HL2.out;unfold Oa at h ⊢;rw[if_pos rfl,Wv k l1 l2 (by omega) (by omega),hx,hy,hq]at h;exact h)
    have HQ:=hid hq;clear hq hx hy HZ;go_wp2;have X:Ext wr wr.drew:=(Ext.refl wr).drew;have q1:∀y:Xt wr.drew,y.W.cell? ⟨w.heap.size,1,none⟩=some (.slice A1 n c1):=fun y=>y.x.cell (X.cell d1);have q2:∀y:Xt wr.drew,y.W.cell? ⟨w.heap.size+1,1,none⟩=some (.slice A2 n c2):=fun y=>y.x.cell (X.cell d2);have q3:∀y:Xt wr.drew,y.W.cell? (a1.add k)=some (.int .u32 x):=fun y=>y.x.cell (X.cell hc1);have q4:∀z:Xt wr.drew,z.W.cell? (a2.add k)=some (.int .u32 y):=fun z=>z.x.cell (X.cell hc2);refine wro [0,1,0,7,15,31,0,64,0,448,960,1984,4095,8191] (.flo [0,1,2,3,4,5,6,7,8,9,10,11] (.one 12 (.flo [13] (.fin)))) ?_
    (refine Aa (pks rfl) ?_;(repeat (go_big_quiet_step (fail)));refine oq ?_)
    refine Ac (pks rfl) ?_;intro K_ hK_;go_wp2_with (go_at_call 210;refine(Ok _ _ _ HQ).mono ?_;rintro r w1 ⟨rfl,rfl⟩)
    (refine Aa (pks rfl) ?_;(repeat (go_big_quiet_step (fail)));refine oq ?_)
    refine Ad ?_;go_wp2;rw[<-ha1,<-ha2]
    go_roundw
    case rel=>exact⟨k+1,q,by omega,by go_num,rfl,HN,er.trans X⟩
    case measure=>simp[intOf];omega
   ·have z0:(z==0)=false:=by simpa using hz
    have HF:Hid (z=R):=hid (by have h:=HZ.out;unfold Oa at h;rwa [if_neg hz]at h);clear hz HZ;go_wp2;go_ret;exact⟨by rw[<-HF.out];rfl,x0.trans er⟩
  ·obtain rfl:k=n:=by omega
   have HF:Hid (z=R):=hid (by
    have h:=HZ.out;have e1:=HL1.out;have e2:=HL2.out;unfold Oa at h;split at h
    ·rename_i h0;rw[CM (by omega),CM (by omega)]at h;rw[h0];exact h
    ·exact h)
   clear HZ;go_wp2;all_goals go_ret
   all_goals exact⟨by rw[<-HF.out];rfl,x0.trans er⟩
theorem rF(e1 e2:Int)(A1 A2:Option Addr)(n1 n2 c1 c2:Nat)(l1 l2:List Int)(w:World)(h1:Sl w 1 A1 n1 c1 (wds l1))(h2:Sl w 1 A2 n2 c2 (wds l2))(u1:U32 l1)(u2:U32 l2)(hn1:n1<=1000000)(hn2:n2<=1000000) :
  Calls Tryz.prog 149 #[.agg #[.int .u64 e1,.slice A1 n1 c1],.agg #[.int .u64 e2,.slice A2 n2 c2]] w fun e w'=>e=.returned (.int .i64 (Gl e1 l1 e2 l2))/\Ext w w':=by
 have hl1:=h1.wlen;have hl2:=h2.wlen;unfold Gl;rw[hl1,hl2];by_cases h:n1=n2
 ·subst h;rw[show orT (Bz n1 n1) (Bz e1 e2) (Dy l1 l2)=Oa l1 l2 0 (Bz e1 e2)by
   rw[Ej];rfl]
  exact lQ e1 e2 A1 A2 n1 c1 c2 l1 l2 w h1 h2 u1 u2 hn1
 ·have h9:Bz n1 n2≠0:=fun h9=>h (by have:=Gw.1 h9;omega);rw[show orT (Bz n1 n2) (Bz e1 e2) (Dy l1 l2)=Bz n1 n2 from if_neg h9];exact qY e1 e2 A1 A2 n1 n2 c1 c2 w _ (hid rfl) (by simpa using h9) hn1 hn2
theorem pB{v:Bool}(e1 e2:Int)(A1 A2:Option Addr)(n1 n2 c1 c2:Nat)(l1 l2:List Int)(w:World)(hr:Hid (Gp (e1,l1) (e2,l2)=v))(h1:Hid (Sl w 1 A1 n1 c1 (wds l1)))(h2:Hid (Sl w 1 A2 n2 c2 (wds l2))) :
  Calls Tryz.prog 119 #[.agg #[.int .u64 e1,.slice A1 n1 c1],.agg #[.int .u64 e2,.slice A2 n2 c2]] w fun e w'=>e=.returned (.bool v)/\Ext w w':=hr.out▸bL e1 e2 A1 A2 n1 n2 c1 c2 l1 l2 w h1.out h2.out
theorem yK{v:Int}(e1 e2:Int)(A1 A2:Option Addr)(n1 n2 c1 c2:Nat)(l1 l2:List Int)(w:World)(hr:Hid (Cp (e1,l1) (e2,l2)=v))(h1:Hid (Sl w 1 A1 n1 c1 (wds l1)))(h2:Hid (Sl w 1 A2 n2 c2 (wds l2)))(u1:Hid (U32 l1))(u2:Hid (U32 l2))(hn1:n1<=1000000)(hn2:n2<=1000000) :
  Calls Tryz.prog 149 #[.agg #[.int .u64 e1,.slice A1 n1 c1],.agg #[.int .u64 e2,.slice A2 n2 c2]] w fun e w'=>e=.returned (.int .i64 v)/\Ext w w':=hr.out▸rF e1 e2 A1 A2 n1 n2 c1 c2 l1 l2 w h1.out h2.out u1.out u2.out hn1 hn2
structure a0j (wr:World) (A:Option Addr) (k:Nat) (e:Int) (B:Option Addr) (n c:Nat) (l:List Int) (ad:Addr):Prop where
 addr:A=some ad
 c0:∀y:Xt wr,y.W.cell? (ad.add (k*2))=some (.int .u64 e)
 c1:∀y:Xt wr,y.W.cell? ⟨(ad.add (k*2)).block,(ad.add (k*2)).off+1,none⟩=some (.slice B n c)
 sl:∀y:Xt wr,Hid (Sl y.W 1 B n c (wds l))
theorem Tin.tmAt{wr:World}{A:Option Addr}{c:Nat}{L:List Tm}(h:Tin wr A c L){k:Nat}(hk:k<L.length):∃e B n cc l ad,a0j wr A k e B n cc l ad/\L.getD k Tm.zero=⟨e,B,cc,l⟩/\n=l.length:=by
 obtain⟨ad,rfl,q0,q1⟩:=h.at hk;have hs:=h.ls _ (Bj hk);obtain⟨x,hx⟩:∃x,L.getD k Tm.zero=x:=⟨_,rfl⟩;rw[hx]at q0 q1 hs;obtain⟨e,B,cc,l⟩:=x;exact⟨e,B,l.length,cc,l,ad,⟨rfl,fun y=>y.x.cell q0,fun y=>y.x.cell q1,fun y=>hid (hs.ext y.x)⟩,hx,rfl⟩
def zR(l s:Bool):Int:=if l then -1 else if s then 0 else 1
theorem Dq(l s:Bool)(w:World):Calls Tryz.prog 219 #[.bool l,.bool s] w fun e w'=>e=.returned (.int .i64 (zR l s))/\w=w':=by
 cases l<;>cases s;all_goals
  go_enter Tryz.func219,Tryz.ntmps219;go_wp2;go_ret;exact⟨rfl,rfl⟩
theorem rD(ka na kb nb:Int)(ba bb:Bool)(sa sb:ByteArray)(w:World)(h:ka<kb):Calls Tryz.prog 165 #[.agg #[.int .u8 (ka),.bool (ba),.int .i64 (na),.string (sa)],.agg #[.int .u8 (kb),.bool (bb),.int .i64 (nb),.string (sb)]] w fun e w'=>e=.returned (.int .i64 (-1))/\Ext w w':=by
 have z:(ka != kb)=true:=by simp;omega
 go_enter Tryz.func165,Tryz.ntmps165;go_wp2_with (go_at_call 219;refine(Dq _ _ _).mono ?_;rintro e w1 ⟨rfl,rfl⟩)
 go_ret;exact⟨rfl,((Ext.refl w).alloc _).alloc _⟩
theorem rE(ka na kb nb:Int)(ba bb:Bool)(sa sb:ByteArray)(w:World)(h:kb<ka):Calls Tryz.prog 165 #[.agg #[.int .u8 (ka),.bool (ba),.int .i64 (na),.string (sa)],.agg #[.int .u8 (kb),.bool (bb),.int .i64 (nb),.string (sb)]] w fun e w'=>e=.returned (.int .i64 (1))/\Ext w w':=by
 have z:(ka != kb)=true:=by simp;omega
 have z2:decide (ka<kb)=false:=by simp;omega
 go_enter Tryz.func165,Tryz.ntmps165;go_wp2_with (go_at_call 219;refine(Dq _ _ _).mono ?_;rintro e w1 ⟨rfl,rfl⟩)
 go_ret;exact⟨rfl,((Ext.refl w).alloc _).alloc _⟩
theorem Ns(na nb:Int)(sa sb:ByteArray)(w:World)  : Calls Tryz.prog 165 #[.agg #[.int .u8 (2),.bool (false),.int .i64 (na),.string (sa)],.agg #[.int .u8 (2),.bool (false),.int .i64 (nb),.string (sb)]] w fun e w'=>e=.returned (.int .i64 (0))/\Ext w w':=by
 go_enter Tryz.func165,Tryz.ntmps165;go_wp2_with (go_at_call 219;refine(Dq _ _ _).mono ?_;rintro e w1 ⟨rfl,rfl⟩)
 go_ret;exact⟨rfl,((Ext.refl w).alloc _).alloc _⟩
theorem Pe(na nb:Int)(sa sb:ByteArray)(w:World)  : Calls Tryz.prog 165 #[.agg #[.int .u8 (2),.bool (false),.int .i64 (na),.string (sa)],.agg #[.int .u8 (2),.bool (true),.int .i64 (nb),.string (sb)]] w fun e w'=>e=.returned (.int .i64 (-1))/\Ext w w':=by
 go_enter Tryz.func165,Tryz.ntmps165;go_wp2_with (go_at_call 219;refine(Dq _ _ _).mono ?_;rintro e w1 ⟨rfl,rfl⟩)
 go_ret;exact⟨rfl,((Ext.refl w).alloc _).alloc _⟩
theorem Pd(na nb:Int)(sa sb:ByteArray)(w:World)  : Calls Tryz.prog 165 #[.agg #[.int .u8 (2),.bool (true),.int .i64 (na),.string (sa)],.agg #[.int .u8 (2),.bool (false),.int .i64 (nb),.string (sb)]] w fun e w'=>e=.returned (.int .i64 (1))/\Ext w w':=by
 go_enter Tryz.func165,Tryz.ntmps165;go_wp2_with (go_at_call 219;refine(Dq _ _ _).mono ?_;rintro e w1 ⟨rfl,rfl⟩)
 go_ret;exact⟨rfl,((Ext.refl w).alloc _).alloc _⟩
theorem Qc(na nb:Int)(sa sb:ByteArray)(w:World)  : Calls Tryz.prog 165 #[.agg #[.int .u8 (2),.bool (true),.int .i64 (na),.string (sa)],.agg #[.int .u8 (2),.bool (true),.int .i64 (nb),.string (sb)]] w fun e w'=>e=.returned (.int .i64 (0))/\Ext w w':=by
 go_enter Tryz.func165,Tryz.ntmps165;go_wp2_with (go_at_call 219;refine(Dq _ _ _).mono ?_;rintro e w1 ⟨rfl,rfl⟩)
 go_ret;exact⟨rfl,((Ext.refl w).alloc _).alloc _⟩
theorem qZ(na nb:Int)(ba bb:Bool)(sa sb:ByteArray)(w:World)(h:na<nb):Calls Tryz.prog 165 #[.agg #[.int .u8 (3),.bool (ba),.int .i64 (na),.string (sa)],.agg #[.int .u8 (3),.bool (bb),.int .i64 (nb),.string (sb)]] w fun e w'=>e=.returned (.int .i64 (-1))/\Ext w w':=by
 have z:(na==nb)=false:=by simp;omega
 go_enter Tryz.func165,Tryz.ntmps165;go_wp2_with (go_at_call 219;refine(Dq _ _ _).mono ?_;rintro e w1 ⟨rfl,rfl⟩)
 go_ret;exact⟨rfl,((Ext.refl w).alloc _).alloc _⟩
theorem rC(na:Int)(ba bb:Bool)(sa sb:ByteArray)(w:World)  : Calls Tryz.prog 165 #[.agg #[.int .u8 (3),.bool (ba),.int .i64 (na),.string (sa)],.agg #[.int .u8 (3),.bool (bb),.int .i64 (na),.string (sb)]] w fun e w'=>e=.returned (.int .i64 (0))/\Ext w w':=by
 have z2:decide (na<na)=false:=by simp
 go_enter Tryz.func165,Tryz.ntmps165;go_wp2_with (go_at_call 219;refine(Dq _ _ _).mono ?_;rintro e w1 ⟨rfl,rfl⟩)
 go_ret;exact⟨rfl,((Ext.refl w).alloc _).alloc _⟩
theorem rB(na nb:Int)(ba bb:Bool)(sa sb:ByteArray)(w:World)(h:nb<na):Calls Tryz.prog 165 #[.agg #[.int .u8 (3),.bool (ba),.int .i64 (na),.string (sa)],.agg #[.int .u8 (3),.bool (bb),.int .i64 (nb),.string (sb)]] w fun e w'=>e=.returned (.int .i64 (1))/\Ext w w':=by
 have z:(na==nb)=false:=by simp;omega
 have z2:decide (na<nb)=false:=by simp;omega
 go_enter Tryz.func165,Tryz.ntmps165;go_wp2_with (go_at_call 219;refine(Dq _ _ _).mono ?_;rintro e w1 ⟨rfl,rfl⟩)
 go_ret;exact⟨rfl,((Ext.refl w).alloc _).alloc _⟩
theorem qU(na nb:Int)(ba bb:Bool)(sa sb:ByteArray)(w:World)(h:Op.bytesLess sa.toList sb.toList=true):Calls Tryz.prog 165 #[.agg #[.int .u8 (4),.bool (ba),.int .i64 (na),.string (sa)],.agg #[.int .u8 (4),.bool (bb),.int .i64 (nb),.string (sb)]] w fun e w'=>e=.returned (.int .i64 (-1))/\Ext w w':=by
 go_enter Tryz.func165,Tryz.ntmps165;go_wp2_with (go_at_call 219;refine(Dq _ _ _).mono ?_;rintro e w1 ⟨rfl,rfl⟩)
 go_ret;exact⟨rfl,((Ext.refl w).alloc _).alloc _⟩
theorem qW(na nb:Int)(ba bb:Bool)(sa sb:ByteArray)(w:World)(h:Op.bytesLess sa.toList sb.toList=false)(h2:(sa.toList==sb.toList)=true):Calls Tryz.prog 165 #[.agg #[.int .u8 (4),.bool (ba),.int .i64 (na),.string (sa)],.agg #[.int .u8 (4),.bool (bb),.int .i64 (nb),.string (sb)]] w fun e w'=>e=.returned (.int .i64 (0))/\Ext w w':=by
 go_enter Tryz.func165,Tryz.ntmps165;go_wp2_with (go_at_call 219;refine(Dq _ _ _).mono ?_;rintro e w1 ⟨rfl,rfl⟩)
 go_ret;exact⟨rfl,((Ext.refl w).alloc _).alloc _⟩
theorem qV(na nb:Int)(ba bb:Bool)(sa sb:ByteArray)(w:World)(h:Op.bytesLess sa.toList sb.toList=false)(h2:(sa.toList==sb.toList)=false):Calls Tryz.prog 165 #[.agg #[.int .u8 (4),.bool (ba),.int .i64 (na),.string (sa)],.agg #[.int .u8 (4),.bool (bb),.int .i64 (nb),.string (sb)]] w fun e w'=>e=.returned (.int .i64 (1))/\Ext w w':=by
 go_enter Tryz.func165,Tryz.ntmps165;go_wp2_with (go_at_call 219;refine(Dq _ _ _).mono ?_;rintro e w1 ⟨rfl,rfl⟩)
 go_ret;exact⟨rfl,((Ext.refl w).alloc _).alloc _⟩
theorem qX(k:Int)(na nb:Int)(ba bb:Bool)(sa sb:ByteArray)(w:World)(h2:¬k=2)(h3:¬k=3)(h4:¬k=4):Calls Tryz.prog 165 #[.agg #[.int .u8 (k),.bool (ba),.int .i64 (na),.string (sa)],.agg #[.int .u8 (k),.bool (bb),.int .i64 (nb),.string (sb)]] w fun e w'=>e=.returned (.int .i64 (0))/\Ext w w':=by
 have z:(k != k)=false:=by simp
 have z2:(k==2)=false:=by simpa using h2
 have z3:(k==3)=false:=by simpa using h3
 have z4:(k==4)=false:=by simpa using h4
 go_enter Tryz.func165,Tryz.ntmps165;go_wp2;go_ret;exact⟨rfl,((Ext.refl w).alloc _).alloc _⟩
theorem lP(ka na kb nb:Int)(ba bb:Bool)(sa sb:ByteArray)(w:World):Calls Tryz.prog 165 #[.agg #[.int .u8 (ka),.bool (ba),.int .i64 (na),.string (sa)],.agg #[.int .u8 (kb),.bool (bb),.int .i64 (nb),.string (sb)]] w fun e w'=>e=.returned (.int .i64 (Dj ⟨ka,ba,na,sa⟩ ⟨kb,bb,nb,sb⟩))/\Ext w w':=by
 unfold Dj;simp only;by_cases h:ka=kb
 ·subst h;rw[if_pos rfl];by_cases h2:ka=2
  ·subst h2;rw[if_pos rfl];cases ba<;>cases bb
   ·exact Ns na nb sa sb w
   ·exact Pe na nb sa sb w
   ·exact Pd na nb sa sb w
   ·exact Qc na nb sa sb w
  rw[if_neg h2];by_cases h3:ka=3
  ·subst h3;rw[if_pos rfl];rcases DK na nb with h|h|h
   ·rw[Ga h];exact qZ na nb ba bb sa sb w h
   ·subst h;rw[Ie];exact rC na ba bb sa sb w
   ·rw[Hy h];exact rB na nb ba bb sa sb w h
  rw[if_neg h3];by_cases h4:ka=4
  ·subst h4;rw[if_pos rfl];unfold Ng;cases h1:Op.bytesLess sa.toList sb.toList
   ·cases h2:(sa.toList==sb.toList)
    ·exact qV na nb ba bb sa sb w h1 h2
    ·exact qW na nb ba bb sa sb w h1 h2
   ·exact qU na nb ba bb sa sb w h1
  rw[if_neg h4];exact qX ka na nb ba bb sa sb w h2 h3 h4
 ·rw[if_neg h];rcases Int.lt_or_gt_of_ne h with h|h
  ·rw[Ga h];exact rD ka na kb nb ba bb sa sb w h
  ·rw[Hy h];exact rE ka na kb nb ba bb sa sb w h
theorem uW{c:Int}(ka na kb nb:Int)(ba bb:Bool)(sa sb:ByteArray)(w:World)(h:Hid (Dj ⟨ka,ba,na,sa⟩ ⟨kb,bb,nb,sb⟩=c)):Calls Tryz.prog 165 #[.agg #[.int .u8 (ka),.bool (ba),.int .i64 (na),.string (sa)],.agg #[.int .u8 (kb),.bool (bb),.int .i64 (nb),.string (sb)]] w fun e w'=>e=.returned (.int .i64 c)/\Ext w w':=h.out▸lP ka na kb nb ba bb sa sb w
theorem Wr{v:Int}(ka na kb nb:Int)(ba bb:Bool)(sa sb:ByteArray)(w:World)(h:Hid (Dj ⟨ka,ba,na,sa⟩ ⟨kb,bb,nb,sb⟩=v)) :
  Calls Tryz.prog 165 #[.agg #[.int .u8 ka,.bool ba,.int .i64 na,.string sa],.agg #[.int .u8 kb,.bool bb,.int .i64 nb,.string sb]] w fun e w'=>e=.returned (.int .i64 v)/\Ext w w':=uW _ _ _ _ _ _ _ _ _ h
end Go.Proofs.YtdgbkpoickbidaaGreatDoor
