/- Parts of the proof. Conditions: as stated. -/
import Derived.Test.YtdgbkpoickbidaaGreatDoorHx11
set_option maxRecDepth 100000
set_option maxHeartbeats 4000000
open Go.RowKit Go.Proofs.Tryz
set_option linter.defProp false
namespace Go.Proofs.YtdgbkpoickbidaaGreatDoor
def Cc(s:SV)(i:Nat):List UV:=UdS.sumV ((s.bs.getD i []++s.bs.getD (i+1) []).map (Bm s.S))
def Jo(s:SV):SV :=
 match s.un with
 | none=>s
 | some (i,_)=>{ s with bs:=s.bs.take i++(if Cc s i=[] then [] else [Cc s i])++s.bs.drop (i+2),un:=none }
def wX(gs n:Nat)(m:SpM)(p:Pr)(R:Nat->Prop)(w:World)(hp:m.un=some p)(HM:H0 (SpR w R gs m))(hl:0<p.left):C3 162 #[.pointer (some ⟨gs,0,none⟩),.int .i64 n] w (Fi w R gs n true m.v):=by
 obtain⟨pg,pi,pl⟩:=p;have c1:w.cell? ⟨gs,1,none⟩=some (.pointer (some ⟨pg,0,none⟩)):=by have:=HM.o.bk.cell 1;unfold Ov at this;rw[hp]at this;exact this
 have k2:w.cell? ⟨pg,2,none⟩=some (.int .i64 pl):=(HM.o.b.un _ hp).bk.cell 2;have a:(0:Int)<(pl:Int):=by simp only at hl;omega
 go_enter func162,ntmps162;go_wp2;go_returns;exact Fi.stay HM.o (Ext.refl w) rfl
section
variable{w wE:World}{R R':Nat->Prop}{gs:Nat}{m:SpM}
def SpR.relist{bs':List Bt}{A:Option Addr}{c:Nat}(h:SpR w R gs m)(hR:∀k,k<wE.heap.size->R k->R' k)(x:Upd (λk=>Ft m k\/k=gs) w wE)
  (bk:Bk wE gs 192 #[.slice A bs'.length c,.pointer none,.slice m.sA m.S.length m.sc,.slice m.uA m.U.length m.uc]) (o:Own wE 0 195 1 A bs'.length c (bs'.map Bt.p)) (hA:A=m.A/\c=m.c)
  (hb:∀b∈bs',b∈m.bs\/BtR wE R' b) (nd:(bs'.map Bt.g).Nodup):SpR wE R' gs { m with A:=A,c:=c,bs:=bs',un:=none }:=by
 have hS:∀k,k<w.heap.size->(Ft m k\/k=gs)->Lh w k:=λk _ hk=>hk.elim h.own_ λe=>by subst e;exact .inl h.bk.ty
 have hz:=x.size;refine⟨bk,hR _ bk.lt h.rg,o,λk hk=>?_,λb hb'=>?_,nd,(λp hp=>by cases hp),(h.b.sn.safe x hS).wide hR,(h.b.up.safe x hS).wide hR⟩
 ·exact hR k (o.lt k hk).2 (h.b.ro k (by rw[<-hA.1,<-hA.2];exact hk))
 ·rcases hb b hb' with q|q
  ·exact((h.b.bt b q).safe x hS).wide hR
  ·exact q
end
def a1y{l:List Bt}{i:Nat}(h:i+1<l.length):l=l.take i++Ci l i::Ci l (i+1)::l.drop (i+2):=by
 have h0:i<l.length:=by omega
 have e1:l.drop i=Ci l i::l.drop (i+1):=by
  unfold Ci;rw[BY h0,AB,AC h0];rfl
 have e2:l.drop (i+1)=Ci l (i+1)::l.drop (i+2):=by
  unfold Ci;rw[BY h,AB,AC h];rfl
 rw[<-e2,<-e1,CF]
def a1u{l:List Bt}{i:Nat}(h:i+1<l.length):(Ci l i).l.length+(Ci l (i+1)).l.length<=(Dz l).length:=by
 have e:=congrArg (λx=>(Dz x).length) (a1y h);simp only[Dz,DF,BQ,AA]at e ⊢;omega
def uE{l:List Bt}{i:Nat}(h:i+1<l.length)(x:Bt):(l.take (i+1)++l.drop (i+2)).set i x=l.take i++x::l.drop (i+2):=by
 have hl:(l.take i).length=i:=by rw[CE];omega
 rw[sE (by omega),AK,CL _ _ (by omega),hl,DQ];rfl
def jX{l:List Bt}{i q:Nat}{A:Option Addr}{c:Nat}{L:List Ud}(nd:(l.map Bt.g).Nodup)(hq:∀b∈l,b.g<q):((l.take i++⟨q,A,c,L⟩::l.drop (i+2)).map Bt.g).Nodup:=by
 have hs:(l.take i++l.drop (i+2)).Sublist l:=by
  have h2:(l.drop (i+2)).Sublist (l.drop i):=by
   rw[<-List.drop_drop];exact List.drop_sublist _ _
  have:=(GZ (l.take i)).append h2
  rwa [CF]at this
 have n1:((l.take i++l.drop (i+2)).map Bt.g).Nodup:=nd.sublist (hs.map _);have hp:((l.take i++⟨q,A,c,L⟩::l.drop (i+2)).map Bt.g).Perm (q::(l.take i++l.drop (i+2)).map Bt.g):=(List.perm_middle (a:=(⟨q,A,c,L⟩:Bt)) (l₁:=l.take i) (l₂:=l.drop (i+2))).map Bt.g;rw[hp.nodup_iff,FZ];refine⟨λhm=>?_,n1⟩;have⟨b,hb,e⟩:=AP.1 hm;have:=hq b (hs.subset hb);omega
def pB{l:List Bt}{i:Nat}(nd:(l.map Bt.g).Nodup):((l.take i++l.drop (i+2)).map Bt.g).Nodup:=by
 have h2:(l.drop (i+2)).Sublist (l.drop i):=by
  rw[<-List.drop_drop];exact List.drop_sublist _ _
 have hs:=(GZ (l.take i)).append h2;rw[CF]at hs;exact nd.sublist (hs.map _)
def a0c{l:List Bt}{i:Nat}(h:i<=l.length){x:Bt}:(l.take i++x::l.drop (i+2)).take i++(l.take i++x::l.drop (i+2)).drop (i+1)=l.take i++l.drop (i+2):=by
 have hl:(l.take i).length=i:=by rw[CE];omega
 rw[List.take_append_of_le_length (by omega),AW (by omega),IB,DS (by omega),hl,BD];rw[show i+1-i=1 by omega];rfl
def mS(g c n i j:Nat)(iz jz:Int)(xs:List Value)(w:World)(hi:H0 (iz=i))(hj:H0 (jz=j))(h:H0 (Own w 0 195 1 (some ⟨g,0,none⟩) n c xs))(h1:H0 (∀u∈xs,u.oneCell'=true))(hij:i<j)(hjn:j<=n) :
  C3 216 #[.slice (some ⟨g,0,none⟩) n c,.int .i64 iz,.int .i64 jz] w λe w'=>e=.returned (.slice (some ⟨g,0,none⟩) (i+(n-j)) c)/\Own w' 0 195 1 (some ⟨g,0,none⟩) (i+(n-j)) c (xs.take i++xs.drop j)/\w.grownBy w' (some g):=by
 rw[hi.o,hj.o];exact xC g c n i j xs w h h1 hij hjn
def dN{l:List Bt}{i:Nat}(h:i<l.length):(l.map Bt.v).getD i []=(Ci l i).v:=by
 unfold Ci;rw[AB,AB,CG,AC h];rfl
def tB(l:List Bt):∀u∈l.map Bt.p,u.oneCell'=true:=λu hu=>by
 obtain⟨b,_,rfl⟩:=AP.1 hu;rfl
def wW(gs n:Nat)(m:SpM)(p:Pr)(R:Nat->Prop)(w:World)(hp:m.un=some p)(HM:H0 (SpR w R gs m))(ok:H0 (rR m))(hl:p.left=0):C3 162 #[.pointer (some ⟨gs,0,none⟩),.int .i64 n] w (Fi w R gs n true (Jo m.v)):=by
 have hu:=HM.o.b.un _ hp;obtain⟨pg,i,pl⟩:=p;simp only at hl;subst hl;have c8:i+1<m.bs.length:=hu.lt;have⟨g,hg⟩:=HM.o.b.ow.lit (by omega);have⟨N,hN⟩:=E9 m.bs.length;have⟨a,ha⟩:=tz (Ci m.bs i);have⟨b,hb⟩:=tz (Ci m.bs (i+1));have O:H0 (a∈m.bs):=j6 (ha▸Ht (by omega));have P:H0 (b∈m.bs):=j6 (hb▸Ht c8);have⟨na,d1⟩:=E9 a.l.length;have⟨nb,d2⟩:=E9 b.l.length;have⟨nS,d0⟩:=E9 m.S.length;have HG:H0 (∀W,Ext w W->W.cell? ⟨gs,0,none⟩=some (.slice (some ⟨g,0,none⟩) N m.c)/\W.cell? ⟨gs,1,none⟩=some (.pointer (some ⟨pg,0,none⟩))/\W.cell? ⟨gs,2,none⟩=some (.slice m.sA nS m.sc)):=j6 (λW x=>by
  have hb:=HM.o.bk.ext x;have h0:=hb.cell 0;have h1:=hb.cell 1;have h2:=hb.cell 2;unfold Ov at h0 h1 h2;rw[hg,<-hN]at h0;rw[hp]at h1;rw[<-d0]at h2;exact⟨h0,h1,h2⟩)
 have Y:H0 (∀W,Ext w W->W.cell? ⟨pg,0,none⟩=some a.p/\W.cell? ⟨pg,1,none⟩=some b.p/\W.cell? ⟨pg,2,none⟩=some (.int .i64 0)):=j6 (λW x=>by
  have b8:=hu.bk.ext x;have h0:=b8.cell 0;have h1:=b8.cell 1;have h2:=b8.cell 2;simp only[ha,hb]at h0 h1;exact⟨h0,h1,h2⟩)
 have d5:H0 (∀W,Ext w W->W.cell? ⟨a.g,0,none⟩=some (.slice a.A na a.c)/\W.cell? ⟨b.g,0,none⟩=some (.slice b.A nb b.c)):=j6 (λW x=>by
  have h0:=((HM.o.b.bt a O.o).bk.ext x).cell 0;have h1:=((HM.o.b.bt b P.o).bk.ext x).cell 0;rw[d1,d2];exact⟨h0,h1⟩)
 have⟨_,c1,_⟩:=HG.o w (Ext.refl w);have⟨_,_,k2⟩:=Y.o w (Ext.refl w);have HN:=j6 hN;have Hg:=j6 hg;have Ha:=j6 ha;have Hb:=j6 hb;have Q:=j6 d1;have T:=j6 d2;have i3:=j6 d0;have HI:H0 (i<m.bs.length):=j6 (by omega);have C:=j6 c8;have HP:=j6 hp;have a7:H0 ((m.bs.map Bt.g).Nodup):=j6 HM.o.b.nd;have i6:H0 (Sl w 1 (some ⟨g,0,none⟩) N m.c (m.bs.map Bt.p)):=j6 (by have:=HM.o.b.ow.sl;rw[hg,<-hN]at this;exact this);have h9:H0 ((Ci m.bs i).g=a.g):=j6 (by rw[ha]);clear hu hN ha hb d1 d2 d0 hg c8 hp;go_enter func162,ntmps162
 go_upto_region 4 with fail
 have X:Ext w w.drew:=(Ext.refl w).drew;have C0:∀y:Xt w.drew,y.W.cell? ⟨gs,0,none⟩=some (.slice (some ⟨g,0,none⟩) N m.c):=λy=>(HG.o _ (X.trans y.x)).1;have P0:∀y:Xt w.drew,y.W.cell? ⟨pg,0,none⟩=some a.p:=λy=>(Y.o _ (X.trans y.x)).1;refine wro [0,1,3,7,0,16,48,112,255,511] (.flo [0,1,2,3,4,5,6,7] (.one 8 (.flo [9] (.fin)))) ?_
 (refine Aa (pks rfl) ?_;(repeat (go_big_quiet_step (fail)));refine oq ?_)
 refine Ac (pks rfl) ?_;intro K_ b4;go_wp2_with (go_at_call 214;refine(kK (some ⟨g,0,none⟩) m.c N m.bs i a.g _ h9 HN HI a7 (j6 (i6.o.ext X)) (j6 (λb hb=>⟨_,(HM.o.b.bt b hb).bk.ext X⟩))).mono ?_;rintro r w1 ⟨rfl,rfl⟩)
 clear C0 P0
 (refine Aa (pks rfl) ?_;(repeat (go_big_quiet_step (fail)));refine oq ?_)
 refine Ad ?_;go_wp2;have⟨wa,g1⟩:=E9 w.drew;rw[<-g1]at X ⊢;clear g1 c1 k2;have XA:=j6 X;clear X;have X:Ext w wa.drew:=XA.o.drew;have P0:∀y:Xt wa.drew,y.W.cell? ⟨pg,0,none⟩=some a.p:=λy=>(Y.o _ (X.trans y.x)).1;have P1:∀y:Xt wa.drew,y.W.cell? ⟨pg,1,none⟩=some b.p:=λy=>(Y.o _ (X.trans y.x)).2.1;have C2:∀y:Xt wa.drew,y.W.cell? ⟨gs,2,none⟩=some (.slice m.sA nS m.sc):=λy=>(HG.o _ (X.trans y.x)).2.2;have A0:∀y:Xt wa.drew,y.W.cell? ⟨a.g,0,none⟩=some (.slice a.A na a.c):=λy=>(d5.o _ (X.trans y.x)).1;have B0:∀y:Xt wa.drew,y.W.cell? ⟨b.g,0,none⟩=some (.slice b.A nb b.c):=λy=>(d5.o _ (X.trans y.x)).2;have a8:H0 (Bu w 0 a.A a.c a.l):=j6 (HM.o.b.bt a O.o).u;have a9:H0 (Bu w 0 b.A b.c b.l):=j6 (HM.o.b.bt b P.o).u;have e6:H0 (Sl w 4 a.A na a.c (Ah a.l)):=j6 (by rw[Q.o];exact a8.o.own.sl);have e7:H0 (Sl w 4 b.A nb b.c (Ah b.l)):=j6 (by rw[T.o];exact a9.o.own.sl);have c5:na+nb<=1000000:=by
  have h2:=a1u C.o;rw[Ha.o,Hb.o,<-Q.o,<-T.o]at h2;exact AR h2 ok.o.na
 have a1:H0 (Ext w (wa.alloc (.cells #[.slice a.A na a.c,.slice b.A nb b.c] 22)).drew):=j6 ((XA.o.alloc _).drew);have d8:H0 (∀x∈a.l++b.l,InU x):=j6 (λx hx=>ok.o.ins x (by
  rcases AQ.1 hx with q|q
  ·exact DC.2 ⟨a,O.o,q⟩
  ·exact DC.2 ⟨b,P.o,q⟩))
 have d7:H0 (∀x∈a.l++b.l,x.t.l=[]):=j6 (λx hx=>ok.o.ft x (by
  rcases AQ.1 hx with q|q
  ·exact DC.2 ⟨a,O.o,q⟩
  ·exact DC.2 ⟨b,P.o,q⟩))
 have⟨V,hV⟩:=tz (UdS.sumV (((a.l++b.l).map Ud.uv).map (Bm (m.S.map Tm.v))));have HV:=j6 hV;clear hV X;refine wro [0,1,3,7,15,31,63,0,128,384,896,1920,3968,8064,16383,32767,0,65536,196608,458752,1048575,2097151] (.flo [0,1,2,3,4,5,6,7,8,9,10,11,12,13,16,17,18,19] (.ext 14 (.ext 15 (.one 20 (.flo [21] (.fin)))))) ?_
 (refine Aa (pks rfl) ?_;(repeat (go_big_quiet_step (fail)));refine oq ?_)
 refine Ar (pks rfl) ?_;intro K_ b4;go_wp2;refine An.mk ((Ext.refl _).alloc _) ?_;clear P0 P1 C2 A0 B0;refine Ar (pks rfl) ?_;intro K_ b4;go_wp2_with (go_at_call 215;refine(kS wa.heap.size na nb a.c b.c a.A b.A a.l b.l _ (j6 (by exact Bk.new wa _ _)) Q T (j6 (e6.o.ext a1.o)) (j6 (e7.o.ext a1.o)) c5).mono ?_;rintro r w4 ⟨A4,n4,c4,rfl,e4,o4,x4⟩;have a5:=j6 e4;have e0:=j6 o4;have X4:=j6 x4;clear e4 o4 x4)
 refine An.mk X4.o ?_;have I:H0 (Ext w w4):=j6 (a1.o.trans X4.o);have e8:H0 (Uin w4 A4 c4 (a.l++b.l)):=j6 ⟨a5.o▸e0.o.sl,λx hx=>by
  rcases AQ.1 hx with q|q
  ·exact(a8.o.uin.ls x q).ext I.o
  ·exact(a9.o.uin.ls x q).ext I.o⟩
 refine Ac (pks rfl) ?_;intro K_ b4;go_wp2_with (go_at_call 18;refine(Yj A4 c4 n4 (a.l++b.l) m.sA m.sc nS m.S _ HV a5 e8 (by rw[a5.o,AA,<-Q.o,<-T.o];exact c5) d8 i3 (j6 (HM.o.b.sn.t.tin.ext I.o)) (j6 ok.o.fl) d7).mono ?_;rintro r w5 ⟨A5,m5,R5,rfl,f5,f7,g0,g2⟩;have a4:=j6 f5;have Z:=j6 (f7.mono I.o.size);have b2:=j6 g0;have a0:=j6 (I.o.trans g2);clear f5 f7 g0 g2)
 (refine Aa (pks rfl) ?_;(repeat (go_big_quiet_step (fail)));refine oq ?_)
 refine Ad ?_;clear a1 a8 a9 d8 d7 X4 e0 e8 c5 e6 e7;have d:H0 (SpR w5 R gs m):=j6 (HM.o.ext a0.o);have j8:i+2<=1000000:=by have h1:=C.o;have h2:=ok.o.nb;omega
 have j0:i+2<=N:=by rw[HN.o];exact C.o
 have G:H0 (Ft m g):=j6 (by
  show blk m.A m.c=some g;rw[Hg.o];have h1:=HM.o.b.ow.le.1;obtain⟨q,hq⟩:∃q,m.c=q+1:=⟨m.c-1,by have:=C.o;omega⟩;rw[hq];rfl)
 have i5:H0 (Own w5 0 195 1 (some ⟨g,0,none⟩) N m.c (m.bs.map Bt.p)):=j6 (by have:=d.o.b.ow;rw[Hg.o,<-HN.o]at this;exact this);have⟨K,hK⟩:=tz (i+1+(N-(i+2)));have i9:K+1=N:=by omega
 have⟨LB,b5⟩:=E9 (m.bs.take (i+1)++m.bs.drop (i+2));have d9:=j6 b5;have i2:=j6 i9;have f3:H0 (LB.length=K):=j6 (by rw[b5,AA,CE,CZ,<-HN.o];omega);have⟨c0,_,_⟩:=HG.o w5 a0.o;clear b5
 go_upto_region 7 with (go_at_call 216;refine(mS g m.c N (i+1) (i+2) _ _ (m.bs.map Bt.p) _ (j6 (by omega)) (j6 (by omega)) i5 (j6 (tB _)) (by omega) j0).mono ?_;rintro r w6 ⟨rfl,o6,g6⟩;rw[hK]at o6 ⊢;have i4:=j6 o6;have h7:=j6 g6;have b6:=d.o.bk.upd ((Upd.refl (Ft m) w5).grown g6 (λk e=>.inl (by cases e;exact G.o))) d.o.not_gs;have c6:=b6.cell 0;have f6:=b6.free 0;have l6:=b6.lt;have g9:=j6 b6;clear o6 g6 b6)
 have⟨w7,M⟩:=E9 (w6.setCell ⟨gs,0,none⟩ (.slice (some ⟨g,0,none⟩) K m.c));rw[<-M];have b0:H0 (Upd (λk=>Ft m k\/k=gs) w5 w7):=j6 (by
  rw[M];exact(((Upd.refl (Ft m) w5).grown h7.o (λk e=>.inl (by cases e;exact G.o))).mono λk _ hk=>.inl hk).setCell (p:=⟨gs,0,none⟩) (.inl (.inr rfl)) _)
 have b9:blk (some (⟨g,0,none⟩:Addr)) m.c≠some gs:=λe=>d.o.not_gs (by show blk m.A m.c=some gs;rw[Hg.o];exact e);have a3:=j6 b9;have d4:H0 (Bk w7 gs 192 #[.slice (some ⟨g,0,none⟩) K m.c,unV m.un,.slice m.sA m.S.length m.sc,.slice m.uA m.U.length m.uc]):=j6 (by rw[M];exact g9.o.set 0 _);have H:H0 (Own w7 0 195 1 (some ⟨g,0,none⟩) K m.c (LB.map Bt.p)):=j6 (by
  rw[M];have:=i4.o.far (p:=⟨gs,0,none⟩) b9 (.slice (some ⟨g,0,none⟩) K m.c)
  rwa [<-EW,<-FG,<-AI,<-d9.o]at this)
 clear M c6 f6 l6 c0 b9;have c7:w7.cell? ⟨gs,0,none⟩=some (.slice (some ⟨g,0,none⟩) K m.c):=d4.o.cell 0;have iK:i<K:=by omega
 obtain⟨v8,k8⟩:∃v,(w7.alloc (.cells #[.slice A5 m5 m5] 197)).cell? ⟨g,i,none⟩=some v:=by
  have⟨g',e1,_,_,_,h5,_⟩:=(H.o.alloc (.cells #[.slice A5 m5 m5] 197)).form (by omega);cases e1;exact⟨_,h5 i _ (iE (by rw[f3.o];exact iK))⟩
 have f8:(w7.alloc (.cells #[.slice A5 m5 m5] 197)).frozen? ⟨g,i,none⟩=false:=by
  have⟨g',e1,_,_,_,_,h6⟩:=(H.o.alloc (.cells #[.slice A5 m5 m5] 197)).form (by omega);cases e1;exact h6 i
 have l8:g<(w7.alloc (.cells #[.slice A5 m5 m5] 197)).heap.size:=by
  have⟨g',e1,_,_,h4,_,_⟩:=(H.o.alloc (.cells #[.slice A5 m5 m5] 197)).form (by omega);cases e1;exact h4
 go_upto_region 8 with fail
 have⟨w9,D⟩:=E9 ((w7.alloc (.cells #[.slice A5 m5 m5] 197)).setCell ⟨g,i,none⟩ (.pointer (some ⟨w7.heap.size,0,none⟩)));rw[<-D];have b1:H0 (Upd (λk=>Ft m k\/k=gs) w5 w9):=j6 (by
  rw[D];exact(b0.o.alloc _).setCell (p:=⟨g,i,none⟩) (.inl (.inl G.o)) _)
 have f4:g≠w7.heap.size:=λe=>by
  have⟨g',e1,_,_,h4,_,_⟩:=H.o.form (by omega);cases e1;omega
 have c3:g≠gs:=λe=>d.o.not_gs (e▸G.o);have j:H0 (Bk w9 gs 192 #[.slice (some ⟨g,0,none⟩) K m.c,unV m.un,.slice m.sA m.S.length m.sc,.slice m.uA m.U.length m.uc]):=j6 (by
  have x:Upd (λk=>k=g) w7 w9:=by rw[D];exact((Upd.refl (λk=>k=g) w7).alloc _).setCell (p:=⟨g,i,none⟩) (.inl rfl) _
  exact d4.o.upd x λe=>c3 e.symm)
 have a6:H0 (Bk w9 w7.heap.size 197 #[.slice A5 R5.length m5]):=j6 (by
  have x:Upd (λk=>k=g) (w7.alloc (.cells #[.slice A5 m5 m5] 197)) w9:=by rw[D];exact(Upd.refl (λk=>k=g) _).setCell (p:=⟨g,i,none⟩) (.inl rfl) _
  rw[<-a4.o];exact(Bk.new w7 _ _).upd x λe=>f4 e.symm)
 have e3:H0 (Own w9 0 195 1 (some ⟨g,0,none⟩) K m.c ((LB.set i ⟨w7.heap.size,A5,m5,R5⟩).map Bt.p)):=j6 (by
  rw[D,List.map_set];exact(H.o.alloc _).put i _)
 have f1:H0 (w.heap.size<=w7.heap.size/\w7.heap.size<w9.heap.size):=j6 ⟨AR a0.o.size b0.o.size,a6.o.lt⟩;clear D k8 f8 l8 c7 f4;have i0:H0 (g≠gs):=j6 c3;have j3:H0 (¬Lh w5 gs->False):=j6 λh=>h (.inl d.o.bk.ty);have f0:H0 (m.v.un=some (i,0)):=j6 (by unfold SpM.v;rw[HP.o];rfl);have d6:H0 (Cc m.v i=V):=j6 (by
  rw[<-HV.o];unfold Cc
  congr 1
  have e1:m.v.bs.getD i []=a.v:=by rw[<-Ha.o];exact dN HI.o
  have e2:m.v.bs.getD (i+1) []=b.v:=by rw[<-Hb.o];exact dN C.o
  rw[e1,e2];rw[show(a.l++b.l).map Ud.uv=a.v++b.v from AI];rfl)
 have F:H0 (LB.set i ⟨w7.heap.size,A5,m5,R5⟩=m.bs.take i++⟨w7.heap.size,A5,m5,R5⟩::m.bs.drop (i+2)):=j6 (by rw[d9.o];exact uE C.o _);have h8:H0 (∀b∈m.bs,b.g<w7.heap.size):=j6 (λb hb=>AZ (d.o.b.bt b hb).bk.lt b0.o.size);have e5:H0 (∀wE:World,∀k,k<wE.heap.size->R k->Rg R w wE k):=j6 (λ_ k _ hk=>.inl hk);have e9:H0 (∀wE,Upd (λk=>Ft m k\/k=gs) w5 wE->Upd R w wE):=j6 (λwE x=>(Upd.ext a0.o).trans (x.mono λk _ hk=>hk.elim (d.o.b.ro k) λe=>e▸d.o.rg));have h3:H0 (∀wE,Upd (λk=>k=gs) w9 wE->BtR wE (Rg R w wE) ⟨w7.heap.size,A5,m5,R5⟩):=j6 (λwE x=>by
  have hx:Upd (λk=>Ft m k\/k=gs) w5 wE:=b1.o.trans (x.mono λk _ e=>.inr e);refine⟨a6.o.upd x λe=>?_,.inr ⟨f1.o.1,AZ f1.o.2 x.size⟩,(Z.o.mono (AG _)).updB hx λk hk q=>?_,λk hk=>.inr ⟨(Z.o.lt hk).1,AZ (Z.o.lt hk).2 hx.size⟩⟩
  ·exact absurd ((e▸a6.o.ty:Ty w9 gs _).ne j.o.ty) (by decide)
  ·exact Zc.not Z.o hk (q.elim d.o.own_ λe=>by subst e;exact .inl d.o.bk.ty))
 by_cases h5:m5=0
 ·subst h5;have L:V=[]:=by
   have h1:=congrArg List.length b2.o;rw[AN,<-a4.o]at h1;exact AH h1.symm
  have a2:=j6 L;clear L;have c9:=j.o.cell 0;have⟨K2,f2⟩:=tz (i+(K-(i+1)));have i1:=j6 f2
  go_upto_region 10 with (go_at_call 216;refine(mS g m.c K i (i+1) _ _ ((LB.set i ⟨w7.heap.size,A5,0,R5⟩).map Bt.p) _ (j6 rfl) (j6 (by omega)) e3 (j6 (tB _)) (by omega) (by omega)).mono ?_;rintro r j2 ⟨rfl,d3,b3⟩;rw[f2]at d3 ⊢;have g5:=j6 d3;have g4:=j6 b3;have J:=j.o.upd ((Upd.refl (λk=>k=g) w9).grown b3 (λk e=>.inl (by cases e;rfl))) (λe=>i0.o e.symm);have i7:=J.cell 0;have i8:=J.free 0;have j1:=J.lt;have g3:=j6 J;clear d3 b3 J)
  have⟨f,B⟩:=E9 (j2.setCell ⟨gs,0,none⟩ (.slice (some ⟨g,0,none⟩) K2 m.c));rw[<-B];have E:H0 (Bk f gs 192 #[.slice (some ⟨g,0,none⟩) K2 m.c,unV m.un,.slice m.sA m.S.length m.sc,.slice m.uA m.U.length m.uc]):=j6 (by rw[B];exact g3.o.set 0 _);have g8:H0 (Upd (λk=>Ft m k\/k=gs) w5 f):=j6 (by
   rw[B];exact(b1.o.grown g4.o (λk e=>.inl (.inl (by cases e;exact G.o)))).setCell (p:=⟨gs,0,none⟩) (.inl (.inr rfl)) _)
  have g7:H0 (Own f 0 195 1 (some ⟨g,0,none⟩) K2 m.c ((m.bs.take i++m.bs.drop (i+2)).map Bt.p)):=j6 (by
   rw[B];have:=g5.o.far (p:=⟨gs,0,none⟩) a3.o (.slice (some ⟨g,0,none⟩) K2 m.c);rw[F.o,<-EW,<-FG,<-AI,a0c (by have:=HI.o;omega)]at this;exact this)
  clear B i7 i8 j1 c9;have j4:=E.o.cell 1;have j5:=E.o.free 1;have j9:=E.o.lt;go_wp2;go_returns;have x1:Upd (λk=>k=gs) f (f.setCell ⟨gs,1,none⟩ (.pointer none)):=(Upd.refl (λk=>k=gs) f).setCell (p:=⟨gs,1,none⟩) (.inl rfl) _;have x5:Upd (λk=>Ft m k\/k=gs) w5 (f.setCell ⟨gs,1,none⟩ (.pointer none)):=g8.o.trans (x1.mono λk _ e=>.inr e);have z:(m.bs.take i++m.bs.drop (i+2)).length=K2:=by
   rw[AA,CE,CZ,<-HN.o];have:=i1.o;have:=i2.o;omega
  have b7:=d.o.relist (R':=Rg R w (f.setCell ⟨gs,1,none⟩ (.pointer none))) (bs':=m.bs.take i++m.bs.drop (i+2)) (A:=some ⟨g,0,none⟩) (c:=m.c) (e5.o _) x5 (by rw[z];exact E.o.set 1 _)
   (by rw[z];exact g7.o.far (p:=⟨gs,1,none⟩) a3.o _) ⟨Hg.o.symm,rfl⟩ (λb hb=>.inl ((AQ.1 hb).elim CK CY)) (pB a7.o)
  refine⟨_,rfl,b7,?_,e9.o _ x5⟩;unfold Jo;rw[f0.o];simp only;rw[d6.o,if_pos a2.o];unfold SpM.v;simp only;rw[AI,EW,FG,AV];rfl
 ·have j7:¬((m5:Int)=0):=by omega
  have c9:=j.o.cell 1;have f9:=j.o.free 1;have l9:=j.o.lt;have L:V≠[]:=λe=>h5 (by have h1:=congrArg List.length b2.o;rw[e,AN,<-a4.o]at h1;exact h1);have a2:=j6 L;clear L;go_wp2;go_returns;have x1:Upd (λk=>k=gs) w9 (w9.setCell ⟨gs,1,none⟩ (.pointer none)):=(Upd.refl (λk=>k=gs) w9).setCell (p:=⟨gs,1,none⟩) (.inl rfl) _;have x5:Upd (λk=>Ft m k\/k=gs) w5 (w9.setCell ⟨gs,1,none⟩ (.pointer none)):=b1.o.trans (x1.mono λk _ e=>.inr e);have z:(LB.set i ⟨w7.heap.size,A5,m5,R5⟩).length=K:=by rw[ED];exact f3.o
  have b7:=d.o.relist (R':=Rg R w (w9.setCell ⟨gs,1,none⟩ (.pointer none))) (bs':=LB.set i ⟨w7.heap.size,A5,m5,R5⟩) (A:=some ⟨g,0,none⟩) (c:=m.c) (e5.o _) x5 (by rw[z];exact j.o.set 1 _)
   (by rw[z];exact e3.o.far (p:=⟨gs,1,none⟩) a3.o _) ⟨Hg.o.symm,rfl⟩ (λb hb=>by
    rw[F.o]at hb;rcases AQ.1 hb with q|q
    ·exact .inl (CK q)
    ·rcases AY.1 q with q|q
     ·exact .inr (q▸h3.o _ x1)
     ·exact .inl (CY q)) (by rw[F.o];exact jX a7.o h8.o)
  refine⟨_,rfl,b7,?_,e9.o _ x5⟩;unfold Jo;rw[f0.o];simp only;rw[d6.o,if_neg a2.o,<-b2.o];unfold SpM.v;simp only[F.o];rw[AI,CJ,EW,FG,AK];rfl
end Go.Proofs.YtdgbkpoickbidaaGreatDoor
namespace Go.Proofs.YtdgbkpoickbidaaGreatDoor.UdS
def nzV(x:V):Bool:=!(x.2==0)
def Canon(D:List V):Prop:=∀x∈D,∀y∈D,cmpV x y=0->x.1=y.1
def alike_filter(c:V)(p:V->Bool)(l:List V):Ae cmpV c (l.filter p)=(Ae cmpV c l).filter p:=by
 unfold Ae;rw[DD,DD]
 congr 1
 funext a;rw[Bool.and_comm]
def sumV_spec{D:List V}(hin:∀x∈D,InN x):(sumV D).Pairwise (λx y=>cmpV x y<0)/\∀c,Ae cmpV c (sumV D)=(sumClass (Ae cmpV c D)).filter nzV:=by
 have h:=Summed.all D hin;refine⟨h.sorted.filter _,λc=>?_⟩;show Ae cmpV c ((sumAll D).filter nzV)=_;rw[alike_filter,h.same]
def sumV_eq{D R:List V}(hin:∀x∈D,InN x)(hs:R.Pairwise (λx y=>cmpV x y<0))(ha:∀c,Ae cmpV c R=(sumClass (Ae cmpV c D)).filter nzV):R=sumV D:=by
 have⟨h1,h2⟩:=sumV_spec hin;exact Af.unique cmpV_tot (l:=R) ⟨hs.imp λq=>DP q,λ_=>rfl⟩ ⟨h1.imp λq=>DP q,λc=>by rw[h2,ha]⟩
def cmpV_self(x:V):cmpV x x=0:=cmpV_tot.refl x
def sumV_mem{D:List V}(hin:∀x∈D,InN x){x:V}(hx:x∈sumV D):InN x/\nzV x=true/\∃y∈D,y.1=x.1:=by
 have h:x∈Ae cmpV x (sumV D):=BI.2 ⟨hx,by rw[beq_iff_eq];exact cmpV_self x⟩;rw[(sumV_spec hin).2]at h;have⟨h1,h2⟩:=BI.1 h;refine⟨?_,h2,?_⟩
 ·cases hl:Ae cmpV x D with
  | nil=>rw[hl]at h1;cases h1
  | cons y l =>
   rw[hl]at h1;rw[AE.1 h1];exact Sw _
 ·cases hl:Ae cmpV x D with
  | nil=>rw[hl]at h1;cases h1
  | cons y l =>
   have hy:y∈Ae cmpV x D:=by rw[hl];exact BC ..
   rw[hl]at h1;exact⟨y,(BI.1 hy).1,by rw[AE.1 h1]⟩
def cnt_nil:cnt []=0:=by decide
def mem_alike{c x:V}{D:List V}(h:x∈Ae cmpV c D):x∈D/\cmpV c x=0:=by
 have⟨h1,h2⟩:=BI.1 h;exact⟨h1,by simpa using h2⟩
def Pe{a b:Int}(h:w64 a=w64 b)(c:Int):w64 (a+c)=w64 (b+c):=by rw[<-Pa a,h,Pa]
def nF{a b c d:Int}(h:w64 a=w64 b)(k:w64 c=w64 d):w64 (a+c)=w64 (b+d):=by rw[Pe h c,IC,Pe k b,IC]
def tot(P:UK->Bool):List V->Int
 | []=>0
 | x::l=>(if P x.1 then x.2 else 0)+tot P l
def Kv(P:UK->Bool):∀a b:List V,tot P (a++b)=tot P a+tot P b
 | [],b=>by show _=0+_;rw[Int.zero_add];rfl
 | x::a,b=>by
  show(if P x.1 then x.2 else 0)+tot P (a++b)=(if P x.1 then x.2 else 0)+tot P a+tot P b;rw[Kv P a b,Int.add_assoc]
def Zk(P:UK->Bool)(f:UK->UK):∀l:List V,tot P (l.map λx=>(f x.1,x.2))=tot (λk=>P (f k)) l
 | []=>rfl
 | x::l=>by
  show(if P (f x.1) then x.2 else 0)+tot P (l.map λx=>(f x.1,x.2))=_;rw[Zk P f l];rfl
def iA(P:UK->Bool):∀l:List V,tot P (l.filter nzV)=tot P l
 | []=>rfl
 | x::l=>by
  rw[FU];by_cases h:x.2=0
  ·have e:nzV x=false:=by simp[nzV,h]
   rw[e];show tot P (l.filter nzV)=(if P x.1 then x.2 else 0)+tot P l;rw[iA P l,h];split<;>omega
  ·have e:nzV x=true:=by simp[nzV,h]
   rw[e];show(if P x.1 then x.2 else 0)+tot P (l.filter nzV)=_;rw[iA P l];rfl
def cG(P:UK->Bool)(x:V):∀R:List V,(∀y∈R,cmpV y x=0->P y.1=P x.1)->w64 (tot P (addV R x))=w64 (tot P R+(if P x.1 then x.2 else 0))
 | [],_=>by
  show w64 ((if P x.1 then x.2 else 0)+0)=w64 (0+_);rw[IC]
 | y::R,h=>by
  unfold addV;split
  ·show w64 ((if P y.1 then y.2 else 0)+tot P (addV R x))=w64 ((if P y.1 then y.2 else 0)+tot P R+_);rw[IC,Pe (cG P x R λz hz=>h z (BM _ hz))]
   congr 1
   omega
  ·split
   ·rename_i h0;have hp:=h y (BC ..) h0;show w64 ((if P y.1 then w64 (y.2+x.2) else 0)+tot P R)=w64 ((if P y.1 then y.2 else 0)+tot P R+(if P x.1 then x.2 else 0));rw[<-hp];cases P y.1 with
    | true =>
     simp only[if_true];rw[Pa]
     congr 1
     omega
    | false=>simp
   ·show w64 ((if P x.1 then x.2 else 0)+((if P y.1 then y.2 else 0)+tot P R))=w64 ((if P y.1 then y.2 else 0)+tot P R+_)
    congr 1
    omega
def iU{D:List V}(hin:∀x∈D,InN x){x:V}(hx:x∈sumAll D):∃y∈D,y.1=x.1:=by
 have h:x∈Ae cmpV x (sumAll D):=BI.2 ⟨hx,by rw[beq_iff_eq];exact cmpV_self x⟩;rw[(Summed.all D hin).same]at h;cases hl:Ae cmpV x D with
 | nil=>rw[hl]at h;cases h
 | cons y l =>
  have hy:y∈Ae cmpV x D:=by rw[hl];exact BC ..
  rw[hl]at h;exact⟨y,(BI.1 hy).1,by rw[AE.1 h]⟩
def iP(P:UK->Bool)(L:List V):(∀x∈L,InN x)->Canon L->w64 (tot P (sumAll L))=w64 (tot P L):=by
 refine Jg (p:=λL=>(∀x∈L,InN x)->Canon L->w64 (tot P (sumAll L))=w64 (tot P L)) (λ_ _=>rfl) (λL x ih hin hc=>?_) L;have c:∀y∈L,InN y:=λy hy=>hin y (BE _ hy);have e:sumAll (L++[x])=addV (sumAll L) x:=by unfold sumAll;rw[DU];rfl
 rw[e,cG P x _ (λy hy h0=>?_),Pe (ih c λa ha b hb=>hc a (BE _ ha) b (BE _ hb)),Kv]
 ·show w64 (tot P L+_)=w64 (tot P L+(_+0));rw[GR]
 ·have⟨z,hz,d⟩:=iU c hy;have h1:cmpV z x=0:=by
   have:cmpV z x=cmpV y x:=by show Hy z.1 x.1=Hy y.1 x.1;rw[d]
   rw[this,h0]
  rw[<-d,hc z (BE _ hz) x (by simp) h1]
def Nm(D E:List V):Prop:=∀P:UK->Bool,w64 (tot P D)=w64 (tot P E)
def Nm.refl(D:List V):Nm D D:=λ_=>rfl
def Nm.trans{D E F:List V}(h:Nm D E)(k:Nm E F):Nm D F:=λP=>(h P).trans (k P)
def Nm.append{D E D' E':List V}(h:Nm D E)(k:Nm D' E'):Nm (D++D') (E++E'):=λP=>by rw[Kv,Kv];exact nF (h P) (k P)
def Nm.map{D E:List V}(h:Nm D E)(f:UK->UK):Nm (D.map λx=>(f x.1,x.2)) (E.map λx=>(f x.1,x.2)):=λP=>by rw[Zk,Zk];exact h _
def Nm.sum{D:List V}(hin:∀x∈D,InN x)(hc:Canon D):Nm (sumV D) D:=λP=>by
 show w64 (tot P ((sumAll D).filter nzV))=_;rw[iA,iP P D hin hc]
def Sk(c:V):∀D:List V,(Ae cmpV c D).foldr (λx a=>x.2+a) 0=tot (λk=>decide (cmpV c (k,0)=0)) D
 | []=>rfl
 | x::D=>by
  rw[alike_cons];have e:cmpV c (x.1,0)=cmpV c x:=rfl;by_cases h:cmpV c x=0
  ·rw[if_pos h];show x.2+(Ae cmpV c D).foldr (λx a=>x.2+a) 0=(if decide (cmpV c (x.1,0)=0)=true then x.2 else 0)+_;rw[Sk c D,e,if_pos (decide_eq_true h)]
  ·rw[if_neg h];show(Ae cmpV c D).foldr (λx a=>x.2+a) 0=(if decide (cmpV c (x.1,0)=0)=true then x.2 else 0)+_;rw[Sk c D,e,if_neg (by simpa using h),Int.zero_add]
def a3c{D E:List V}(h:Nm D E)(hc:Canon (D++E))(hD:∀x∈D,InN x)(hE:∀x∈E,InN x):sumV D=sumV E:=by
 have⟨h1,h2⟩:=sumV_spec hD;refine sumV_eq hE h1 λc=>?_;rw[h2];have hn:cnt (Ae cmpV c D)=cnt (Ae cmpV c E):=by
  unfold cnt;rw[Sk,Sk];exact h _
 cases h3:Ae cmpV c D with
 | nil =>
  cases h4:Ae cmpV c E with
  | nil=>rfl
  | cons y l =>
   rw[h3,h4]at hn;show []=[(y.1,cnt (y::l))].filter nzV;rw[<-hn,cnt_nil];rfl
 | cons x k =>
  cases h4:Ae cmpV c E with
  | nil =>
   rw[h3,h4]at hn;show [(x.1,cnt (x::k))].filter nzV=[];rw[hn,cnt_nil];rfl
  | cons y l =>
   rw[h3,h4]at hn;show [(x.1,cnt (x::k))].filter nzV=[(y.1,cnt (y::l))].filter nzV;have hx:x∈Ae cmpV c D:=by rw[h3];exact BC ..
   have hy:y∈Ae cmpV c E:=by rw[h4];exact BC ..
   have e:x.1=y.1:=hc x (BE _ (mem_alike hx).1) y (CD _ (mem_alike hy).1) (cmpV_tot.eq_trans (by rw[cmpV_tot.neg,(mem_alike hx).2];rfl) (mem_alike hy).2);rw[hn,e]
end Go.Proofs.YtdgbkpoickbidaaGreatDoor.UdS
namespace Go.Proofs.YtdgbkpoickbidaaGreatDoor
structure Ry (u:UV):Prop where
 txt:Nr u.1.1
 int:Ns u.1.1
 num:UdS.InN u
 len:u.1.1.length<=1000000
 tu:U32 u.1.2.2
 tn:u.1.2.2.length<=100000
 te:0<=u.1.2.1/\u.1.2.1<=18446744073709551615
def InU.uv{x:Ud}(h:InU x):Ry x.uv:=⟨h.row.txt,h.row.int,h.row.num,h.row.len,h.tu,h.tn,h.te⟩
def Ry.u{x:Ud}(h:Ry x.uv):InU x:=⟨⟨h.txt,h.int,h.num,h.len⟩,h.tu,h.tn,h.te⟩
def Ry.key{u v:UV}(h:Ry u)(e:u.1=v.1)(hn:UdS.InN v):Ry v:=by
 obtain⟨k,d⟩:=u;obtain⟨k',d'⟩:=v;simp only at e;subst e;exact⟨h.txt,h.int,hn,h.len,h.tu,h.tn,h.te⟩
def Gw{S:List TV}(h:Bg S=true):S=[]\/∃e,S=[(e,[])]:=by
 unfold Bg at h;rw[Bool.and_eq_true]at h;obtain⟨h1,h2⟩:=h;have h1:=of_decide_eq_true h1;cases S with
 | nil=>exact .inl rfl
 | cons t S =>
  cases S with
  | cons u S=>simp at h1
  | nil =>
   refine .inr ⟨t.1,?_⟩;have:t.2=[]:=by
    have h3:decide (0<t.2.length)=false:=by simpa using h2
    exact AH (by have:=of_decide_eq_false h3;omega)
   rw[show t=(t.1,t.2)from rfl,this]
def aD(e0 e:Int):Ix [(e0,[])] (e,[])=(max e e0,[]):=by
 show(Il (e,[]) none (e0,[])).getD (e,[])=_;unfold Il;rw[if_pos (by rfl)];rfl
def Ta(t:TV):ofV [t]=[t]:=by
 have h:=sM [t];have hm:t∈ofV [t]:=(h.mem t).2 ⟨by simp,λu hu _=>by rw[AE.1 hu]⟩;have ha:∀v∈ofV [t],v=t:=λv hv=>AE.1 ((h.mem v).1 hv).1;have hr:=h.rising;unfold Je at hr;cases ho:ofV [t]with
 | nil=>rw[ho]at hm;cases hm
 | cons a l =>
  rw[ho]at ha hr;have e1:=ha a (BC ..);cases l with
  | nil=>rw[e1]
  | cons b l =>
   have e2:=ha b (by simp);have h3:=(BZ.1 hr).1 b (BC ..);rw[e1,e2]at h3;exact absurd h3 (by have:=(Co (x:=t) (y:=t)).2 rfl;omega)
def Ii{S:List TV}(h:Bg S=true):ofV S=S:=by
 rcases Gw h with rfl|⟨e,rfl⟩
 ·rfl
 ·exact Ta _
structure OkV (s:SV):Prop where
 nb:s.bs.flatten.length+s.bs.length<=1000000
 ins:∀u∈s.bs.flatten,Ry u/\u.1.2.2=[]/\Bh u.1.1=0
 pos:∀b∈s.bs,b≠[]
 un:∀i l,s.un=some (i,l)->i+1<s.bs.length/\0<l/\l<=1000000
 fs:Bg s.S=true
 fu:Bg s.U=true
 es:∀t∈s.S,0<=t.1/\t.1<=18446744073709551615
 eu:∀t∈s.U,0<=t.1/\t.1<=18446744073709551615
def mB:OkV gX:=⟨by decide,λu hu=>(nomatch hu),λb hb=>(nomatch hb),λi l h=>(nomatch h),by rfl,by rfl,λt ht=>by rw[AE.1 ht];decide,λt ht=>by rw[AE.1 ht];decide⟩
def Fk{L:List Tm}(h:Bg (L.map Tm.v)=true):yB L/\L.length<=1:=by
 rcases Gw h with e|⟨t,e⟩
 ·have:=List.map_eq_nil_iff.1 e;subst this;exact⟨λx hx=>(nomatch hx),by decide⟩
 ·refine⟨λx hx=>?_,by have:=congrArg List.length e;simp at this;omega⟩;have hv:x.v∈L.map Tm.v:=AP.2 ⟨x,hx,rfl⟩;rw[e]at hv;have:=congrArg Prod.snd (AE.1 hv);have hl:x.l=[]:=this;rw[hl];exact⟨λy hy=>(nomatch hy),by decide⟩
def Ua{L:List Tm}(h:Bg (L.map Tm.v)=true):Su L:=by
 refine⟨(Fk h).2,λx hx=>?_⟩;rcases Gw h with e|⟨t,e⟩
 ·rw[List.map_eq_nil_iff.1 e]at hx;cases hx
 ·have hv:x.v∈L.map Tm.v:=AP.2 ⟨x,hx,rfl⟩;rw[e]at hv;exact congrArg Prod.snd (AE.1 hv)
def OkV.sp{m:SpM}(h:OkV m.v):rR m:=by
 have ha:=congrArg List.length (Zi m.bs);rw[AN]at ha;have hb:m.v.bs.length=m.bs.length:=AN ..;have hn:=h.nb;rw[hb]at hn;have a:(Dz m.bs).length+m.bs.length<=1000000:=by rw[ha];exact hn
 have hu:∀x∈Dz m.bs,x.uv∈m.v.bs.flatten:=λx hx=>by
  show x.uv∈(m.bs.map Bt.v).flatten;rw[<-Zi];exact AP.2 ⟨x,hx,rfl⟩
 refine⟨by omega,by omega,λx hx=>?_,?_,?_,(Fk h.fs).1,(Fk h.fu).1,Ua h.fs,λx hx=>?_⟩
 ·exact(h.ins _ (hu x hx)).1.u
 ·have:=(Fk h.fs).2;omega
 ·have:=(Fk h.fu).2;omega
 ·exact(h.ins _ (hu x hx)).2.1
def Db(u:UV):Prop:=Ry u/\u.1.2.2=[]/\Bh u.1.1=0
def Ur(x:UV):∀R:List UV,(UdS.addV R x).length<=R.length+1
 | []=>by simp[UdS.addV]
 | y::R=>by
  unfold UdS.addV;split
  ·have:=Ur x R;simp only[AJ];omega
  ·split<;>simp
def aL(L:List UV):(UdS.sumAll L).length<=L.length:=by
 refine Jg (p:=λL=>(UdS.sumAll L).length<=L.length) (AD _) (λL x ih=>?_) L;have e:UdS.sumAll (L++[x])=UdS.addV (UdS.sumAll L) x:=by unfold UdS.sumAll;rw[DU];rfl
 rw[e,AA];have:=Ur x (UdS.sumAll L);simp only[AO];omega
def Gu(L:List UV):(UdS.sumV L).length<=L.length:=AR (DB _ _) (aL L)
def Pf{D:List UV}(h:∀u∈D,Db u):∀u∈UdS.sumV D,Db u:=λu hu=>by
 have⟨h1,_,y,hy,e⟩:=UdS.sumV_mem (λx hx=>(h x hx).1.num) hu;have⟨a,b,c⟩:=h y hy;exact⟨a.key e h1,by rw[<-e];exact b,by rw[<-e];exact c⟩
def Mk{S:List TV}(hf:Bg S=true)(he:∀t∈S,0<=t.1/\t.1<=18446744073709551615){u:UV}(h:Db u):Db (Bm S u):=by
 obtain⟨⟨l,e,c⟩,d⟩:=u;obtain⟨a,b,k⟩:=h;simp only at b k;subst b;rcases Gw hf with rfl|⟨t,rfl⟩
 ·exact⟨a,rfl,k⟩
 ·have e1:Bm [(t,[])] ((l,e,[]),d)=((l,max e t,[]),d):=by unfold Bm;rw[aD]
  rw[e1];have:=he (t,[]) (AE.2 rfl);have h2:=a.te;simp only at this h2;exact⟨⟨a.txt,a.int,a.num,a.len,a.tu,a.tn,by simp only;omega⟩,rfl,k⟩
def rE{s:SV}(h:OkV s)(i:Nat):∀u∈Cc s i,Db u:=by
 refine Pf λu hu=>?_;obtain⟨v,hv,rfl⟩:=AP.1 hu;refine Mk h.fs h.es ?_;have hg:∀j,∀v∈s.bs.getD j [],Db v:=λj v hv=>by
  rw[AB]at hv;cases hj:s.bs[j]? with
  | none=>rw[hj]at hv;cases hv
  | some b =>
   rw[hj]at hv;exact h.ins v (GM.2 ⟨b,List.mem_of_getElem? hj,hv⟩)
 rcases AQ.1 hv with q|q
 ·exact hg i v q
 ·exact hg (i+1) v q
def Mw{l:List (List UV)}{i:Nat}(h:i+1<l.length):l=l.take i++l.getD i []::l.getD (i+1) []::l.drop (i+2):=by
 have h0:i<l.length:=by omega
 have e1:l.drop i=l.getD i []::l.drop (i+1):=by rw[BY h0,AB,AC h0];rfl
 have e2:l.drop (i+1)=l.getD (i+1) []::l.drop (i+2):=by rw[BY h,AB,AC h];rfl
 rw[<-e2,<-e1,CF]
def Rj{s:SV}{X:List TV}(h:OkV s)(hX:∀t∈X,0<=t.1/\t.1<=18446744073709551615):OkV (Cy s X).2:=by
 unfold Cy;split
 ·exact h
 ·rename_i h1;split
  ·exact h
  ·have hf:Bg X=true:=by simpa using h1
   exact⟨h.nb,h.ins,h.pos,h.un,by show Bg (ofV X)=true;rw[Ii hf];exact hf,h.fu,by show ∀t∈ofV X,_;rw[Ii hf];exact hX,h.eu⟩
def zE{s:SV}{l:List UV}{X:List TV}(h:OkV s)(hl:∀u∈l,Ry u)(hX:∀t∈X,0<=t.1/\t.1<=18446744073709551615)(hn:s.bs.flatten.length+s.bs.length+l.length+1<=1000000):OkV (Cd s l X).2:=by
 unfold Cd;split
 ·exact h
 ·rename_i h1;split
  ·exact h
  ·rename_i h2;split
   ·exact h
   ·split
    ·exact h
    ·have hf:Bg X=true:=by simpa using h1
     have hg:∀u∈l,Db u:=λu hu=>by
      have q:Cb u=false:=by
       have:=FL.1 (by simpa using h2:l.any Cb=false) u hu;simpa using this
      unfold Cb at q;rw[Bool.or_eq_false_iff]at q;exact⟨hl u hu,AH (by have:=of_decide_eq_false q.1;omega),by simpa using q.2⟩
     have hs:=Pf hg;have a:=Gu l;by_cases h5:UdS.sumV l=[]
     ·simp only[if_pos h5];exact⟨h.nb,h.ins,h.pos,h.un,h.fs,by show Bg (ofV X)=true;rw[Ii hf];exact hf,h.es,by show ∀t∈ofV X,_;rw[Ii hf];exact hX⟩
     ·simp only[if_neg h5];refine⟨?_,λu hu=>?_,λb hb=>?_,λi k hk=>?_,h.fs,by show Bg (ofV X)=true;rw[Ii hf];exact hf,h.es,by show ∀t∈ofV X,_;rw[Ii hf];exact hX⟩
      ·show(s.bs++[UdS.sumV l]).flatten.length+(s.bs++[UdS.sumV l]).length<=1000000;rw[CN,AA,AA];simp only[DT,AO];omega
      ·rw[CN]at hu;rcases AQ.1 hu with q|q
       ·exact h.ins u q
       ·simp only[DT]at q;exact hs u q
      ·rcases AQ.1 hb with q|q
       ·exact h.pos b q
       ·rw[AE.1 q];exact h5
      ·have:=h.un i k hk;refine⟨?_,this.2⟩;show i+1<(s.bs++[UdS.sumV l]).length;rw[AA];have:=this.1;omega
def sZ:∀{k:Nat} {bs:List (List UV)} {i:Nat},Fe k bs=some i->i<k
 | 0,_,_,h=>nomatch h
 | k+1,bs,i,h=>by
  unfold Fe at h;split at h
  ·injection h with h;omega
  ·have:=sZ h;omega
def wH{s:SV}(h:OkV s){i:Nat}(hi:i+1<s.bs.length):0<(s.bs.getD i []).length+(s.bs.getD (i+1) []).length/\(s.bs.getD i []).length+(s.bs.getD (i+1) []).length<=1000000:=by
 have e:=congrArg List.flatten (Mw hi);have e2:=congrArg List.length e;simp only[CN,GJ,AA]at e2;have hn:=h.nb;have hm:s.bs.getD i []∈s.bs:=by rw[AB,AC (by omega)];exact BR _
 have:=EG.2 (h.pos _ hm);omega
def Ki{s:SV}(h:OkV s):OkV (Bp s).1:=by
 unfold Bp;split
 ·exact h
 ·split
  ·rename_i i hd;refine⟨h.nb,h.ins,h.pos,λj l hj=>?_,h.fs,h.fu,h.es,h.eu⟩;have hi:=sZ hd;have a:i+1<s.bs.length:=by omega
   injection hj with hj;injection hj with h1 h2;subst h1;subst h2;exact⟨a,wH h a⟩
  ·exact h
def lZ{s:SV}{i l k:Nat}(h:OkV s)(hu:s.un=some (i,l))(hk:k<l):OkV { s with un:=some (i,l-k) }:=by
 refine⟨h.nb,h.ins,h.pos,λj q hj=>?_,h.fs,h.fu,h.es,h.eu⟩;have:=h.un i l hu;injection hj with hj;injection hj with h1 h2;subst h1;subst h2;exact⟨this.1,by omega,by omega⟩
def Zn{s:SV}{i l k:Nat}(h:OkV s)(hu:s.un=some (i,l)):OkV (Jo { s with un:=some (i,k) }):=by
 have hi:=(h.un i l hu).1;have hg:=rE h i;have g:(Cc s i).length<=(s.bs.getD i []).length+(s.bs.getD (i+1) []).length:=by
  unfold Cc;refine AR (Gu _) ?_;rw[AN,AA];exact AD _
 have e:=congrArg List.flatten (Mw hi);have e2:=congrArg List.length e;have e3:=congrArg List.length (Mw hi);simp only[CN,GJ,AA,AJ]at e2 e3;have hn:=h.nb;have hb:Cc { s with un:=some (i,k) } i=Cc s i:=rfl;unfold Jo;simp only[hb];refine⟨?_,λu hu=>?_,λb hb'=>?_,λj q hj=>(nomatch hj),h.fs,h.fu,h.es,h.eu⟩
 ·show(s.bs.take i++(if Cc s i=[] then [] else [Cc s i])++s.bs.drop (i+2)).flatten.length+(s.bs.take i++(if Cc s i=[] then [] else [Cc s i])++s.bs.drop (i+2)).length<=1000000;split
  ·simp only[CN,AA,List.flatten_nil,CB];omega
  ·simp only[CN,AA,DT,AO];omega
 ·have d:u∈(s.bs.take i).flatten\/u∈Cc s i\/u∈(s.bs.drop (i+2)).flatten:=by
   have a:u∈(s.bs.take i++(if Cc s i=[] then [] else [Cc s i])++s.bs.drop (i+2)).flatten:=hu;rw[CN,CN]at a;rcases AQ.1 a with q|q
   ·rcases AQ.1 q with q|q
    ·exact .inl q
    ·split at q
     ·cases q
     ·simp only[DT]at q;exact .inr (.inl q)
   ·exact .inr (.inr q)
  have hm:∀bs':List (List UV),(∀b∈bs',b∈s.bs)->u∈bs'.flatten->Db u:=λbs' h1 h2=>by
   have⟨b,hb,f⟩:=GM.1 h2;exact h.ins u (GM.2 ⟨b,h1 b hb,f⟩)
  rcases d with q|q|q
  ·exact hm _ (λb hb=>CK hb) q
  ·exact hg u q
  ·exact hm _ (λb hb=>CY hb) q
 ·have c:b∈s.bs.take i++(if Cc s i=[] then [] else [Cc s i])++s.bs.drop (i+2):=hb';rcases AQ.1 c with q|q
  ·rcases AQ.1 q with q|q
   ·exact h.pos b (CK q)
   ·split at q
    ·cases q
    ·rename_i h5;rw[AE.1 q];exact h5
  ·exact h.pos b (CY q)
def Hz(s:SV)(n:Nat):SV×Nat :=
 match s.un with
 | none=>(s,n)
 | some (i,l)=>(if l-min n l=0 then Jo { s with un:=some (i,l-min n l) } else { s with un:=some (i,l-min n l) },n-min n l)
inductive De:SV->Nat->SV->Nat->Prop
 | done (s:SV):De s 0 s 0
 | stop {s s1:SV} {n:Nat} (h:0<n) (hb:Bp s=(s1,false)):De s n s1 n
 | step {s s1 s2 t:SV} {n n2 r:Nat} (h:0<n) (hb:Bp s=(s1,true)) (hp:Hz s1 n=(s2,n2)) (k:De s2 n2 t r):De s n t r
def a2u(w:World)(R:Nat->Prop)(gs n:Nat)(s:SV)(e:Ending)(w':World):Prop:=∃m' r,e=.returned (.int .i64 (r:Nat))/\SpR w' (Rg R w w') gs m'/\De s n m'.v r/\OkV m'.v/\Upd R w w'
structure St (w wr:World) (R:Nat->Prop) (gs n k:Nat) (s:SV) (m:SpM):Prop where
 sp:SpR wr (Rg R w wr) gs m
 ok:OkV m.v
 up:Upd R w wr
 wk:∀t r,De m.v k t r->De s n t r
def zV{l:List Bt}{b:Bt}(h:b∈l):b.l.length<=(l.flatMap Bt.l).length:=by
 induction l with
 | nil=>cases h
 | cons a l ih =>
  rw[BQ,AA];rcases AY.1 h with rfl|h
  ·omega
  ·have:=ih h;omega
def Yr(gs n:Nat)(m:SpM)(R:Nat->Prop)(w:World)(HM:H0 (SpR w R gs m))(ok:H0 (OkV m.v)):C3 160 #[.pointer (some ⟨gs,0,none⟩),.int .i64 n] w (Fi w R gs n (Bp m.v).2 (Bp m.v).1):=by
 cases hu:m.un with
 | none=>exact kZ gs n m R w hu HM ok.o.sp.nb (j6 λb hb=>AR (by unfold Dz;exact zV hb) ok.o.sp.na)
 | some p =>
  have e:Bp m.v=(m.v,true):=by unfold Bp;rw[show m.v.un=some (p.i,p.left)by unfold SpM.v;rw[hu];rfl]
  rw[e];exact kY gs n m p R w hu HM
def yK{w wr wa w1:World}{R:Nat->Prop}{gs n:Nat}{b:Bool}{s:SV}{e:Ending}(up:Upd R w wr)(x:Ext wr wa)(h:Fi wa (Rg R w wr) gs n b s e w1):∃m1,e=.returned (.tuple #[.int .i64 n,.bool b])/\SpR w1 (Rg R w w1) gs m1/\m1.v=s/\Upd R w w1:=by
 obtain⟨m1,he,hs,hv,hu⟩:=h;have hx:=x.size;have h1:=up.size;have h2:=hu.size;refine⟨m1,he,hs.wide λk _ hk=>?_,hv,?_⟩
 ·rcases hk with (q|q)|q
  ·exact .inl q
  ·exact .inr ⟨q.1,by omega⟩
  ·exact .inr ⟨by omega,q.2⟩
 ·exact sB up ((Upd.ext x).trans hu)
def Uk{s s1:SV}(h:Bp s=(s1,true)):∃i l,s1.un=some (i,l):=by
 unfold Bp at h;split at h
 ·rename_i p hp;injection h with h _;rw[<-h,hp];exact⟨p.1,p.2,rfl⟩
 ·split at h
  ·injection h with h _;rw[<-h];exact⟨_,_,rfl⟩
  ·injection h with _ h;cases h
def Tf{w a b:World}{R R':Nat->Prop}(h:Upd R w a)(k:Upd R' a b)(hr:∀q,q<w.heap.size->R' q->R q):Upd R w b :=
 ⟨k.os.trans h.os,k.tape.trans h.tape,k.output.trans h.output,AR h.size k.size,λq hq hn=>(k.block q (AZ hq h.size) (λe=>hn (hr q hq e))).trans (h.block q hq hn)⟩
def St.next{w wr wa w1 w2 w3:World}{R:Nat->Prop}{gs n k j:Nat}{s s1 s2:SV}{m m3:SpM}(h:St w wr R gs n k s m)(hk:0<k)(hb:Bp m.v=(s1,true))(hp:Hz s1 k=(s2,j))(_hR:∀q,R q->q<w.heap.size)(x:Ext wr wa)
  (u1:Upd (Rg R w wr) wa w1) (u2:Upd (Rg (Rg R w wr) wa w1) w1 w2) (u3:Upd (Rg (Rg (Rg R w wr) wa w1) w1 w2) w2 w3) (s3:SpR w3 (Rg (Rg (Rg (Rg R w wr) wa w1) w1 w2) w2 w3) gs m3) (hv:m3.v=s2) (ok:OkV m3.v):St w w3 R gs n j s m3:=by
 have z0:=h.up.size;have z1:=x.size;have z2:=u1.size;have z3:=u2.size;have z4:=u3.size;have q1:∀q,q<w.heap.size->Rg R w wr q->R q:=λq hq e=>e.elim id λe=>by omega
 have q2:∀q,q<w.heap.size->Rg (Rg R w wr) wa w1 q->R q:=λq hq e=>e.elim (q1 q hq) λe=>by omega
 have q3:∀q,q<w.heap.size->Rg (Rg (Rg R w wr) wa w1) w1 w2 q->R q:=λq hq e=>e.elim (q2 q hq) λe=>by omega
 refine⟨s3.wide λq _ hq=>?_,ok,Tf (Tf (Tf (h.up.trans (Upd.ext x)) u1 q1) u2 q2) u3 q3,λt r ht=>h.wk t r (De.step hk hb hp (hv▸ht))⟩;rcases hq with (((q|q)|q)|q)|q
 ·exact .inl q
 ·exact .inr ⟨q.1,by omega⟩
 ·exact .inr ⟨by omega,by omega⟩
 ·exact .inr ⟨by omega,by omega⟩
 ·exact .inr ⟨by omega,q.2⟩
def tO(gs n:Nat)(m:SpM)(R:Nat->Prop)(w:World)(HM:H0 (SpR w R gs m))(ok:H0 (OkV m.v))(hn:0<n)(hn9:n<=9223372036854775807)(hR:H0 (∀k,R k->k<w.heap.size)):C3 47 #[.pointer (some ⟨gs,0,none⟩),.int .i64 n] w (a2u w R gs n m.v):=by
 have h1:¬((n:Int)<1):=by omega
 have a6:H0 (St w w R gs n n m.v m):=j6 ⟨HM.o.wide λ_ _ hk=>.inl hk,ok.o,Upd.refl R w,λt r h=>h⟩;go_enter func47,ntmps47;go_wp2
 go_loopg [1] n (λz u wr=>∃(k:Nat) (m':SpM),z=k/\k<=n/\u=.int .i64 k/\H0 (St w wr R gs n k m.v m'))
 case atStart=>exact⟨n,m,rfl,AD _,rfl,a6⟩
 case round =>
  obtain⟨k,m',hz,hk,rfl,HI⟩:=hrel;by_cases hk0:k=0
  ·subst hk0;go_wp2;go_ret;exact⟨m',0,rfl,HI.o.sp,HI.o.wk _ _ (De.done _),HI.o.ok,HI.o.up⟩
  ·have b8:(0:Int)<(k:Int):=by omega
   have⟨s1,D⟩:=tz ((Bp m'.v).1);have⟨b1,J⟩:=tz ((Bp m'.v).2);have HE:H0 (Bp m'.v=(s1,b1)):=j6 (by rw[<-D,<-J]);have a:H0 (OkV s1):=j6 (D▸Ki HI.o.ok);have XA:H0 (Ext wr (wr.alloc (.cells #[.func (.func 160) #[.pointer (some ⟨gs,0,none⟩)] #[],.func (.func 161) #[.pointer (some ⟨gs,0,none⟩)] #[],.func (.func 162) #[.pointer (some ⟨gs,0,none⟩)] #[]] 198))):=j6 ((Ext.refl wr).alloc _);have Q:H0 (Fi (wr.alloc (.cells #[.func (.func 160) #[.pointer (some ⟨gs,0,none⟩)] #[],.func (.func 161) #[.pointer (some ⟨gs,0,none⟩)] #[],.func (.func 162) #[.pointer (some ⟨gs,0,none⟩)] #[]] 198)) (Rg R w wr) gs k b1 s1=Fi (wr.alloc (.cells #[.func (.func 160) #[.pointer (some ⟨gs,0,none⟩)] #[],.func (.func 161) #[.pointer (some ⟨gs,0,none⟩)] #[],.func (.func 162) #[.pointer (some ⟨gs,0,none⟩)] #[]] 198)) (Rg R w wr) gs k (Bp m'.v).2 (Bp m'.v).1):=j6 (by rw[D,J]);clear D J;cases b1 with
   | false =>
    go_wp2;refine wp_loop_rounds 4 ?_;rw[rounds_succ];go_wp2_with (go_at_call 160;refine(Yr gs k m' (Rg R w wr) _ (j6 (HI.o.sp.ext XA.o)) (j6 HI.o.ok)).mono ?_;rw[<-Q.o];rintro r w1 M;have a8:=j6 (yK HI.o.up XA.o M);obtain⟨m1,rfl,_⟩:=M)
    go_ret;have⟨m1,_,h2,h3,h4⟩:=a8.o;exact⟨m1,k,rfl,h2,HI.o.wk _ _ (h3▸De.stop (by omega) HE.o),h3▸a.o,h4⟩
   | true =>
    have⟨i,l,K⟩:=Uk HE.o;have X:=a.o.un i l K;have B:=j6 K;have S:=j6 X;have⟨gF,C⟩:=E9 wr.heap.size;have a5:=j6 C;have U:¬Rg R w wr gF:=λq=>by
     have h1:=HI.o.up.size;rcases q with q|q
     ·have:=hR.o gF q;omega
     ·omega
    have N:=j6 U;clear K X U;go_wp2;refine wp_loop_rounds 4 ?_;rw[rounds_succ];go_wp2_with (go_at_call 160;refine(Yr gs k m' (Rg R w wr) _ (j6 (HI.o.sp.ext XA.o)) (j6 HI.o.ok)).mono ?_;rw[<-Q.o];rintro r w1 ⟨m1,rfl,Y,a2,a0⟩;have a9:=j6 Y;have T:=j6 a2;have G:=j6 a0;clear Y a2 a0)
    have O:H0 (¬Rg (Rg R w wr) (wr.alloc (.cells #[.func (.func 160) #[.pointer (some ⟨gs,0,none⟩)] #[],.func (.func 161) #[.pointer (some ⟨gs,0,none⟩)] #[],.func (.func 162) #[.pointer (some ⟨gs,0,none⟩)] #[]] 198)) w1 gF):=j6 (λq=>by
     rcases q with q|q
     ·exact N.o q
     ·have:=q.1;simp at this;have:=a5.o;omega)
    have E:H0 (Bk w1 gF 198 _):=j6 ((Bk.at (w:=wr) (cs:=#[.func (.func 160) #[.pointer (some ⟨gs,0,none⟩)] #[],.func (.func 161) #[.pointer (some ⟨gs,0,none⟩)] #[],.func (.func 162) #[.pointer (some ⟨gs,0,none⟩)] #[]]) C).upd G.o N.o);have c1:=E.o.cell 1;rw[C]at c1;rw[rounds_succ];obtain⟨p,b2,b3,b4⟩:∃p,m1.un=some p/\p.i=i/\p.left=l:=by
     have h:=B.o;rw[<-T.o]at h;unfold SpM.v at h;cases hm:m1.un with
     | none=>simp only[hm]at h;cases h
     | some p =>
      simp only[hm,FI,EX,Prod.mk.injEq]at h;exact⟨p,rfl,h.1,h.2⟩
    go_wp2_with (go_at_call 161;refine(yZ gs k m1 p _ _ b2 a9 (by omega) (by have:=S.o.2.2;omega)).mono ?_;rintro r w2 ⟨m2,rfl,Z,a3,a1⟩;have P:=j6 Z;have b0:=j6 a3;have H:=j6 a1;clear Z a3 a1)
    have c:H0 (m2.v={ s1 with un:=some (i,l-min k l) }):=j6 (by rw[b0.o,T.o,b3,b4]);have b6:H0 (¬Rg (Rg (Rg R w wr) (wr.alloc (.cells #[.func (.func 160) #[.pointer (some ⟨gs,0,none⟩)] #[],.func (.func 161) #[.pointer (some ⟨gs,0,none⟩)] #[],.func (.func 162) #[.pointer (some ⟨gs,0,none⟩)] #[]] 198)) w1) w1 w2 gF):=j6 (λq=>by
     rcases q with q|q
     ·exact O.o q
     ·have h1:=q.1;have h2:=E.o.lt;omega)
    have a4:=j6 (E.o.upd H.o O.o);have c2:=a4.o.cell 2;rw[C]at c2;obtain⟨p2,W,b5,L⟩:∃p,m2.un=some p/\p.i=i/\p.left=l-min k l:=by
     have h:=congrArg SV.un c.o;unfold SpM.v at h;cases hm:m2.un with
     | none=>simp only[hm]at h;cases h
     | some p =>
      simp only[hm,FI,EX,Prod.mk.injEq]at h;exact⟨p,rfl,h.1,h.2⟩
    have d:H0 (Hz s1 k=(if l-min k l=0 then Jo m2.v else m2.v,k-min k l)):=j6 (by unfold Hz;rw[B.o];simp only;rw[c.o]);have⟨j,hj⟩:=tz (k-min k l);rw[hj]at d ⊢;have b7:j<k:=by have:=S.o.2.1;omega
    clear hj c1;rw[rounds_succ];have a7:H0 (rR m2):=j6 (by
     have h0:OkV { s1 with un:=none }:=⟨a.o.nb,a.o.ins,a.o.pos,λ_ _ h=>(nomatch h),a.o.fs,a.o.fu,a.o.es,a.o.eu⟩;have h1:OkV ({ m2 with un:=none }:SpM).v:=by
      have e:({ m2 with un:=none }:SpM).v={ m2.v with un:=none }:=rfl;rw[e,c.o];exact h0
     have h2:=h1.sp;exact⟨h2.nb,h2.na,h2.ins,h2.fs,h2.fu,h2.ss,h2.uu,h2.fl,h2.ft⟩)
    by_cases hz0:l-min k l=0
    ·rw[if_pos hz0]at d;go_wp2_with (go_at_call 162;refine(wW gs j m2 p2 _ _ W P a7 (L.trans hz0)).mono ?_;rintro r w3 ⟨m3,rfl,x,A,y⟩;have F:=j6 x;have f:=j6 A;have I:=j6 y;clear x A y)
     rw[rounds_succ];go_wp2
     go_roundg j
     case measure=>omega
     case rel=>exact⟨j,m3,rfl,by omega,rfl,j6 (St.next HI.o (by omega) HE.o d.o  hR.o XA.o G.o H.o I.o F.o (by rw[f.o]) (by rw[f.o];rw[c.o];exact Zn a.o B.o))⟩
    ·rw[if_neg hz0]at d;go_wp2_with (go_at_call 162;refine(wX gs j m2 p2 _ _ W P (by rw[L];omega)).mono ?_;rintro r w3 ⟨m3,rfl,x,A,y⟩;have F:=j6 x;have f:=j6 A;have I:=j6 y;clear x A y)
     rw[rounds_succ];go_wp2
     go_roundg j
     case measure=>omega
     case rel=>exact⟨j,m3,rfl,by omega,rfl,j6 (St.next HI.o (by omega) HE.o d.o  hR.o XA.o G.o H.o I.o F.o (by rw[f.o]) (by rw[f.o];rw[c.o];exact lZ a.o B.o (by omega)))⟩
def mY(w:World)(R:Nat->Prop)(gs:Nat)(s:SV)(z:Int)(e:Ending)(w':World):Prop:=∃(m':SpM) (r:Nat),e=.returned (.int .i64 r)/\SpR w' (Rg R w w') gs m'/\((m'.v=s/\r=0/\z<1)\/∃n:Nat,z=n/\0<n/\De s n m'.v r)/\OkV m'.v/\Upd R w w'
def tL(gs:Nat)(z:Int)(w:World)(hz:z<1):C3 47 #[.pointer (some ⟨gs,0,none⟩),.int .i64 z] w λe w'=>e=.returned (.int .i64 0)/\Ext w w':=by
 go_enter func47,ntmps47;go_wp2;go_ret;exact⟨rfl,Ext.refl w⟩
def tN(gs:Nat)(z:Int)(m:SpM)(R:Nat->Prop)(w:World)(HM:H0 (SpR w R gs m))(ok:H0 (OkV m.v))(hz:z<=9223372036854775807)(hR:H0 (∀k,R k->k<w.heap.size)):C3 47 #[.pointer (some ⟨gs,0,none⟩),.int .i64 z] w (mY w R gs m.v z):=by
 by_cases h1:z<1
 ·refine(tL gs z w h1).mono ?_;rintro e w' ⟨rfl,x⟩;exact⟨m,0,rfl,(HM.o.ext x).wide λ_ _ hk=>.inl hk,.inl ⟨rfl,rfl,h1⟩,ok.o,Upd.ext x⟩
 ·obtain⟨n,rfl⟩:∃n:Nat,z=n:=⟨z.toNat,by omega⟩;refine(tO gs n m R w HM ok (by omega) (by omega) hR).mono ?_;rintro e w' ⟨m',r,he,s,k,o,u⟩;exact⟨m',r,he,s,.inr ⟨n,rfl,by omega,k⟩,o,u⟩
namespace UdS
def addV_split:∀(P R:List V) (x:V),(∀y∈P,cmpV y x<0)->addV (P++R) x=P++addV R x
 | [],_,_,_=>rfl
 | y::P,R,x,h=>by
  show(if cmpV y x<0 then y::addV (P++R) x else _)=_;rw[if_pos (h y (BC ..)),addV_split P R x (λz hz=>h z (BM _ hz))];rfl
def addV_eq(y x:V)(R:List V)(h:cmpV y x=0):addV (y::R) x=(y.1,w64 (y.2+x.2))::R:=by
 show(if cmpV y x<0 then _ else if cmpV y x=0 then _ else _)=_;rw[if_neg (by omega),if_pos h]
def addV_gt(y x:V)(R:List V)(h:0<cmpV y x):addV (y::R) x=x::y::R:=by
 show(if cmpV y x<0 then _ else if cmpV y x=0 then _ else _)=_;rw[if_neg (by omega),if_neg (by omega)]
def addV_len:∀(R:List V) (x:V),(addV R x).length<=R.length+1
 | [],_=>AD _
 | y::R,x=>by
  unfold addV;split
  ·rw[AJ,AJ];have:=addV_len R x;omega
  ·split
   ·rw[AJ,AJ];omega
   ·rw[AJ,AJ];omega
def Srt(L:List Ud):Prop:=L.Pairwise λa b=>Hy a.k b.k<0
def Srt.of{L:List Ud}(h:(L.map Ud.uv).Pairwise λa b=>cmpV a b<0):Srt L:=DV.1 h
def Srt.below{L:List Ud}(h:Srt L){k:Nat}(hk:k<L.length){x:Ud}(hx:Hy (L.getD k Ud.zero).k x.k<=0):∀z∈L.take k,Hy z.k x.k<0:=λz hz=>by
 have hp:Srt (L.take (k+1)):=List.Pairwise.sublist (List.take_sublist _ _) h;rw[Iy hk]at hp;exact Kg.lt_of_lt_le ((BL.1 hp).2.2 z hz _ (by simp)) hx
def a3d{L:List Ud}(h:Srt L){k:Nat}(hk:k<L.length){x y:Ud}(hy:L.getD k Ud.zero=y)(hx:Hy y.k x.k=0){s:Int}(hs:w64 (y.d+x.d)=s):(L.set k ⟨y.A,y.c,y.l,y.t,s⟩).map Ud.uv=addV (L.map Ud.uv) x.uv:=by
 have e:L=L.take k++y::L.drop (k+1):=by rw[<-hy,<-Xe hk,CF]
 have hb:=h.below hk (x:=x) (by rw[hy,hx];exact DX _);have hl:(L.take k).length=k:=by rw[CE];omega
 have e2:L.set k ⟨y.A,y.c,y.l,y.t,s⟩=L.take k++⟨y.A,y.c,y.l,y.t,s⟩::L.drop (k+1):=by
  have q:L.set k (⟨y.A,y.c,y.l,y.t,s⟩:Ud)=(L.take k++y::L.drop (k+1)).set k ⟨y.A,y.c,y.l,y.t,s⟩:=congrArg (λl=>List.set l k (⟨y.A,y.c,y.l,y.t,s⟩:Ud)) e;rw[q,CL _ _ (by rw[hl];exact AD _),hl,DQ,List.set_cons_zero]
 rw[e2];have e3:L.map Ud.uv=(L.take k).map Ud.uv++y.uv::(L.drop (k+1)).map Ud.uv:=by
  have q:=congrArg (List.map Ud.uv) e
  rwa [AI,CJ]at q
 rw[e3,addV_split _ _ _ (λz hz=>by obtain⟨q,hq,rfl⟩:=AP.1 hz;exact hb q hq),addV_eq _ _ _ (show cmpV y.uv x.uv=0 from hx),AI,CJ,<-hs];rfl
def a3a{L:List Ud}(h:Srt L){k:Nat}(hk:k<=L.length){x z:Ud}(hz:z.uv=x.uv)(h1:∀j,k=j+1->Hy (L.getD j Ud.zero).k x.k<0)(h2:∀y,(L.drop k).head?=some y->0<Hy y.k x.k):(L.take k++z::L.drop k).map Ud.uv=addV (L.map Ud.uv) x.uv:=by
 have hb:∀y∈L.take k,Hy y.k x.k<0:=by
  cases k with
  | zero=>intro y hy;simp at hy
  | succ j =>
   intro y hy;have hj:=h1 j rfl;rw[Iy (show j<L.length by omega)]at hy;rcases AQ.1 hy with hy|hy
   ·exact h.below (by omega) (DP hj) y hy
   ·rw[AE.1 hy];exact hj
 have e3:L.map Ud.uv=(L.take k).map Ud.uv++(L.drop k).map Ud.uv:=by rw[<-AI,CF]
 rw[e3,addV_split _ _ _ (λz hz=>by obtain⟨q,hq,rfl⟩:=AP.1 hz;exact hb q hq),AI,CJ,hz]
 congr 1
 cases hd:L.drop k with
 | nil=>rfl
 | cons y R =>
  rw[CJ,addV_gt _ _ _ (show 0<cmpV y.uv x.uv from h2 y (by rw[hd];rfl))]
def Fh(L:List Ud)(i:Nat):List V:=((L.take i).map Ud.uv).foldl addV []
def Qz{L:List Ud}{i:Nat}{x:Ud}(hi:i<L.length)(hx:L.getD i Ud.zero=x):Fh L (i+1)=addV (Fh L i) x.uv:=by
 unfold Fh;rw[Iy hi,hx,AI,DU];rfl
def iJ(L:List Ud):∀i,(Fh L i).length<=i
 | 0=>by unfold Fh;simp
 | i+1=>by
  have ih:=iJ L i;by_cases hi:i<L.length
  ·rw[Qz hi rfl];have:=addV_len (Fh L i) (L.getD i Ud.zero).uv;omega
  ·have e:Fh L (i+1)=Fh L i:=by unfold Fh;rw[AW (by omega),AW (by omega)]
   rw[e];omega
def a2z{L:List Ud}(hin:∀x∈L,InN x.uv)(i:Nat):(Fh L i).Pairwise λa b=>cmpV a b<0 :=
 (Summed.all ((L.take i).map Ud.uv) (λy hy=>by obtain⟨x,hx,rfl⟩:=AP.1 hy;exact hin x (CK hx))).sorted
def a3b(L:List Ud)(k:Nat)(y:Ud)(s:Int)(hk:k<L.length)(hy:L.getD k Ud.zero=y):(Ah L).set (k*4+3) (.int .i64 s)=Ah (L.set k ⟨y.A,y.c,y.l,y.t,s⟩):=by
 have e:L=L.take k++y::L.drop (k+1):=by rw[<-hy,<-Xe hk,CF]
 have hl:(L.take k).length=k:=by rw[CE];omega
 have e2:L.set k ⟨y.A,y.c,y.l,y.t,s⟩=L.take k++⟨y.A,y.c,y.l,y.t,s⟩::L.drop (k+1):=by
  have q:L.set k (⟨y.A,y.c,y.l,y.t,s⟩:Ud)=(L.take k++y::L.drop (k+1)).set k ⟨y.A,y.c,y.l,y.t,s⟩:=congrArg (λl=>List.set l k (⟨y.A,y.c,y.l,y.t,s⟩:Ud)) e;rw[q,CL _ _ (by rw[hl];exact AD _),hl,DQ,List.set_cons_zero]
 rw[e2];have e3:Ah L=Ah (L.take k)++(udC y++Ah (L.drop (k+1))):=by
  have q:=congrArg Ah e;rw[Au]at q;exact q
 rw[e3,CL _ _ (by rw[Cx,hl];omega),Cx,hl,DE,Au];rfl
end UdS
def oM(x y:Int)(w:World):C3 210 #[.int .u64 x,.int .u64 y] w λe w'=>e=.returned (.int .i64 (By x y))/\w=w':=by
 rcases DN x y with h|h|h
 ·rw[Sm h];go_enter func210,ntmps210;go_wp2;go_ret;exact⟨rfl,rfl⟩
 ·subst h;rw[Eo];go_enter func210,ntmps210;go_wp2;go_ret;exact⟨rfl,rfl⟩
 ·rw[So h];have h2:¬x<y:=by omega
  go_enter func210,ntmps210;go_wp2;go_ret;exact⟨rfl,rfl⟩
def Pi{v:Int}(x y:Int)(w:World)(h:H0 (By x y=v)):C3 210 #[.int .u64 x,.int .u64 y] w λe w'=>e=.returned (.int .i64 v)/\w=w':=h.o▸oM x y w
def Ow(l1 l2:List Int)(k:Nat)(v:Int):Int:=if v=0 then Dx (l1.drop k) (l2.drop k) else v
def uR(e1 e2:Int)(A1 A2:Option Addr)(n1 n2 c1 c2:Nat)(w:World)(v:Int)(hv:H0 (By n1 n2=v))(v0:(v==0)=false)(hn1:n1<=1000000)(hn2:n2<=1000000) :
  C3 149 #[.agg #[.int .u64 e1,.slice A1 n1 c1],.agg #[.int .u64 e2,.slice A2 n2 c2]] w λe w'=>e=.returned (.int .i64 v)/\Ext w w':=by
 have a:IntKind.u64.wrap (n1:Int)=n1:=FB _ (by omega);have c:IntKind.u64.wrap (n2:Int)=n2:=FB _ (by omega);go_enter func149,ntmps149;go_wp2_with (go_at_call 210;refine(Pi _ _ _ hv).mono ?_;rintro r w1 ⟨rfl,rfl⟩)
 refine wp_loop_rounds 1 ?_;rw[rounds_succ];go_wp2;all_goals go_ret
 all_goals exact⟨rfl,((Ext.refl w).alloc _).alloc _⟩
def oS(e1 e2:Int)(A1 A2:Option Addr)(n c1 c2:Nat)(l1 l2:List Int)(w:World)(h1:Sl w 1 A1 n c1 (wds l1))(h2:Sl w 1 A2 n c2 (wds l2))(u1:U32 l1)(u2:U32 l2)(hn:n<=1000000) :
  C3 149 #[.agg #[.int .u64 e1,.slice A1 n c1],.agg #[.int .u64 e2,.slice A2 n c2]] w λe w'=>e=.returned (.int .i64 (Ow l1 l2 0 (By e1 e2)))/\Ext w w':=by
 have c:=j6 h1.wlen;have d:=j6 h2.wlen;have i:=j6 u1;have j:=j6 u2;have B:IntKind.u64.wrap (n:Int)=n:=FB _ (by omega);have hs:H0 (By n n=0):=j6 (Eo _);have⟨R,hR⟩:=tz (Ow l1 l2 0 (By e1 e2));rw[hR];have HR:=j6 hR;have⟨v,hv⟩:=tz (By e1 e2);have t:=j6 hv;have HV:H0 (Ow l1 l2 0 v=R):=j6 (by rw[<-hv];exact hR);clear hR hv u1 u2;have m1:=TI;go_enter func149,ntmps149;go_wp2_with (first
  | (go_at_call 210;clear m1;refine(Pi _ _ _ hs).mono ?_;rintro r w1 ⟨rfl,rfl⟩;have m2:=TI)
  | (go_at_call 210;clear m2;refine(Pi _ _ _ t).mono ?_;rintro r w1 ⟨rfl,rfl⟩))
 have⟨w0,a⟩:=E9 ((w.alloc (Obj.cells #[Value.int IntKind.u64 e1,Value.slice A1 n c1] 26)).alloc (Obj.cells #[Value.int IntKind.u64 e2,Value.slice A2 n c2] 26));have x0:Ext w w0:=a▸((Ext.refl w).alloc _).alloc _;have b1:w0.cell? ⟨w.heap.size,1,none⟩=some (Value.slice A1 n c1):=by subst a;go_simp
 have b2:w0.cell? ⟨w.heap.size+1,1,none⟩=some (Value.slice A2 n c2):=by subst a;go_simp
 rw[<-a];clear a
 go_loopw [5,6] (λu v wr=>∃(k:Nat) (z:Int),k<=n/\v=.int .i64 k/\u=.int .i64 z/\H0 (Ow l1 l2 k z=R)/\Ext w0 wr) (λ_ v _=>n-(intOf v).toNat)
 case atStart=>exact⟨0,v,AG _,rfl,rfl,HV,Ext.refl _⟩
 case round =>
  obtain⟨k,z,hk,rfl,rfl,HZ,er⟩:=hrel;have d1:wr.cell? ⟨w.heap.size,1,none⟩=some (Value.slice A1 n c1):=er.cell b1;have d2:wr.cell? ⟨w.heap.size+1,1,none⟩=some (Value.slice A2 n c2):=er.cell b2;by_cases hlt:k<n
  ·by_cases hz:z=0
   ·subst hz;have⟨a1,l,f,_⟩:=(h1.ext (x0.trans er)).word hlt;have⟨a2,m,g,_⟩:=(h2.ext (x0.trans er)).word hlt;have⟨x,hx⟩:=tz (l1.getD k 0);have⟨y,hy⟩:=tz (l2.getD k 0);have⟨q,hq⟩:=tz (By x y);have ux:=i.o.getD k;have uy:=j.o.getD k;rw[hx]at ux f;rw[hy]at uy g;have wx:IntKind.u64.wrap x=x:=FB _ (by omega);have wy:IntKind.u64.wrap y=y:=FB _ (by omega);have HN:H0 (Ow l1 l2 (k+1) q=R):=j6 (by
     have h:=HZ.o;have e1:=c.o;have e2:=d.o;unfold Ow at h ⊢;rw[if_pos rfl,Yc k l1 l2 (by omega) (by omega),hx,hy,hq]at h;exact h)
    have HQ:=j6 hq;clear hq hx hy HZ;go_wp2;have X:Ext wr wr.drew:=(Ext.refl wr).drew;have q1:∀y:Xt wr.drew,y.W.cell? ⟨w.heap.size,1,none⟩=some (.slice A1 n c1):=λy=>y.x.cell (X.cell d1);have q2:∀y:Xt wr.drew,y.W.cell? ⟨w.heap.size+1,1,none⟩=some (.slice A2 n c2):=λy=>y.x.cell (X.cell d2);have q3:∀y:Xt wr.drew,y.W.cell? (a1.add k)=some (.int .u32 x):=λy=>y.x.cell (X.cell f);have q4:∀z:Xt wr.drew,z.W.cell? (a2.add k)=some (.int .u32 y):=λz=>z.x.cell (X.cell g);refine wro [0,1,0,7,15,31,0,64,0,448,960,1984,4095,8191] (.flo [0,1,2,3,4,5,6,7,8,9,10,11] (.one 12 (.flo [13] (.fin)))) ?_
    (refine Aa (pks rfl) ?_;(repeat (go_big_quiet_step (fail)));refine oq ?_)
    refine Ac (pks rfl) ?_;intro K_ A;go_wp2_with (go_at_call 210;refine(Pi _ _ _ HQ).mono ?_;rintro r w1 ⟨rfl,rfl⟩)
    (refine Aa (pks rfl) ?_;(repeat (go_big_quiet_step (fail)));refine oq ?_)
    refine Ad ?_;go_wp2;rw[<-l,<-m]
    go_roundw
    case rel=>exact⟨k+1,q,by omega,by go_num,rfl,HN,er.trans X⟩
    case measure=>simp[intOf];omega
   ·have z0:(z==0)=false:=by simpa using hz
    have HF:H0 (z=R):=j6 (by have h:=HZ.o;unfold Ow at h;rwa [if_neg hz]at h);clear hz HZ;go_wp2;go_ret;exact⟨by rw[<-HF.o];rfl,x0.trans er⟩
  ·obtain rfl:k=n:=by omega
   have HF:H0 (z=R):=j6 (by
    have h:=HZ.o;have e1:=c.o;have e2:=d.o;unfold Ow at h;split at h
    ·rename_i h0;rw[CV (by omega),CV (by omega)]at h;rw[h0];exact h
    ·exact h)
   clear HZ;go_wp2;all_goals go_ret
   all_goals exact⟨by rw[<-HF.o];rfl,x0.trans er⟩
def uY(e1 e2:Int)(A1 A2:Option Addr)(n1 n2 c1 c2:Nat)(l1 l2:List Int)(w:World)(h1:Sl w 1 A1 n1 c1 (wds l1))(h2:Sl w 1 A2 n2 c2 (wds l2))(u1:U32 l1)(u2:U32 l2)(hn1:n1<=1000000)(hn2:n2<=1000000) :
  C3 149 #[.agg #[.int .u64 e1,.slice A1 n1 c1],.agg #[.int .u64 e2,.slice A2 n2 c2]] w λe w'=>e=.returned (.int .i64 (Gl e1 l1 e2 l2))/\Ext w w':=by
 have a:=h1.wlen;have c:=h2.wlen;unfold Gl;rw[a,c];by_cases h:n1=n2
 ·subst h;rw[show orT (By n1 n1) (By e1 e2) (Dx l1 l2)=Ow l1 l2 0 (By e1 e2)by
   rw[Eo];rfl]
  exact oS e1 e2 A1 A2 n1 c1 c2 l1 l2 w h1 h2 u1 u2 hn1
 ·have h9:By n1 n2≠0:=λh9=>h (by have:=Gx.1 h9;omega);rw[show orT (By n1 n2) (By e1 e2) (Dx l1 l2)=By n1 n2 from if_neg h9];exact uR e1 e2 A1 A2 n1 n2 c1 c2 w _ (j6 rfl) (by simpa using h9) hn1 hn2
def a2c{v:Int}(e1 e2:Int)(A1 A2:Option Addr)(n1 n2 c1 c2:Nat)(l1 l2:List Int)(w:World)(hr:H0 (Cr (e1,l1) (e2,l2)=v))(h1:H0 (Sl w 1 A1 n1 c1 (wds l1)))(h2:H0 (Sl w 1 A2 n2 c2 (wds l2)))(u1:H0 (U32 l1))(u2:H0 (U32 l2))(hn1:n1<=1000000)(hn2:n2<=1000000) :
  C3 149 #[.agg #[.int .u64 e1,.slice A1 n1 c1],.agg #[.int .u64 e2,.slice A2 n2 c2]] w λe w'=>e=.returned (.int .i64 v)/\Ext w w':=hr.o▸uY e1 e2 A1 A2 n1 n2 c1 c2 l1 l2 w h1.o h2.o u1.o u2.o hn1 hn2
def a3k(l s:Bool):Int:=if l then -1 else if s then 0 else 1
def Dn(l s:Bool)(w:World):C3 219 #[.bool l,.bool s] w λe w'=>e=.returned (.int .i64 (a3k l s))/\w=w':=by
 cases l<;>cases s;all_goals
  go_enter func219,ntmps219;go_wp2;go_ret;exact⟨rfl,rfl⟩
def uW(ka na kb nb:Int)(ba bb:Bool)(sa sb:ByteArray)(w:World)(h:ka<kb):C3 165 #[.agg #[.int .u8 (ka),.bool (ba),.int .i64 (na),.string (sa)],.agg #[.int .u8 (kb),.bool (bb),.int .i64 (nb),.string (sb)]] w λe w'=>e=.returned (.int .i64 (-1))/\Ext w w':=by
 have z:(ka != kb)=true:=by simp;omega
 go_enter func165,ntmps165;go_wp2_with (go_at_call 219;refine(Dn _ _ _).mono ?_;rintro e w1 ⟨rfl,rfl⟩)
 go_ret;exact⟨rfl,((Ext.refl w).alloc _).alloc _⟩
def uX(ka na kb nb:Int)(ba bb:Bool)(sa sb:ByteArray)(w:World)(h:kb<ka):C3 165 #[.agg #[.int .u8 (ka),.bool (ba),.int .i64 (na),.string (sa)],.agg #[.int .u8 (kb),.bool (bb),.int .i64 (nb),.string (sb)]] w λe w'=>e=.returned (.int .i64 (1))/\Ext w w':=by
 have z:(ka != kb)=true:=by simp;omega
 have z2:decide (ka<kb)=false:=by simp;omega
 go_enter func165,ntmps165;go_wp2_with (go_at_call 219;refine(Dn _ _ _).mono ?_;rintro e w1 ⟨rfl,rfl⟩)
 go_ret;exact⟨rfl,((Ext.refl w).alloc _).alloc _⟩
def Ol(na nb:Int)(sa sb:ByteArray)(w:World)  : C3 165 #[.agg #[.int .u8 (2),.bool (false),.int .i64 (na),.string (sa)],.agg #[.int .u8 (2),.bool (false),.int .i64 (nb),.string (sb)]] w λe w'=>e=.returned (.int .i64 (0))/\Ext w w':=by
 go_enter func165,ntmps165;go_wp2_with (go_at_call 219;refine(Dn _ _ _).mono ?_;rintro e w1 ⟨rfl,rfl⟩)
 go_ret;exact⟨rfl,((Ext.refl w).alloc _).alloc _⟩
def Qb(na nb:Int)(sa sb:ByteArray)(w:World)  : C3 165 #[.agg #[.int .u8 (2),.bool (false),.int .i64 (na),.string (sa)],.agg #[.int .u8 (2),.bool (true),.int .i64 (nb),.string (sb)]] w λe w'=>e=.returned (.int .i64 (-1))/\Ext w w':=by
 go_enter func165,ntmps165;go_wp2_with (go_at_call 219;refine(Dn _ _ _).mono ?_;rintro e w1 ⟨rfl,rfl⟩)
 go_ret;exact⟨rfl,((Ext.refl w).alloc _).alloc _⟩
def Qa(na nb:Int)(sa sb:ByteArray)(w:World)  : C3 165 #[.agg #[.int .u8 (2),.bool (true),.int .i64 (na),.string (sa)],.agg #[.int .u8 (2),.bool (false),.int .i64 (nb),.string (sb)]] w λe w'=>e=.returned (.int .i64 (1))/\Ext w w':=by
 go_enter func165,ntmps165;go_wp2_with (go_at_call 219;refine(Dn _ _ _).mono ?_;rintro e w1 ⟨rfl,rfl⟩)
 go_ret;exact⟨rfl,((Ext.refl w).alloc _).alloc _⟩
def Qs(na nb:Int)(sa sb:ByteArray)(w:World)  : C3 165 #[.agg #[.int .u8 (2),.bool (true),.int .i64 (na),.string (sa)],.agg #[.int .u8 (2),.bool (true),.int .i64 (nb),.string (sb)]] w λe w'=>e=.returned (.int .i64 (0))/\Ext w w':=by
 go_enter func165,ntmps165;go_wp2_with (go_at_call 219;refine(Dn _ _ _).mono ?_;rintro e w1 ⟨rfl,rfl⟩)
 go_ret;exact⟨rfl,((Ext.refl w).alloc _).alloc _⟩
def uT(na nb:Int)(ba bb:Bool)(sa sb:ByteArray)(w:World)(h:na<nb):C3 165 #[.agg #[.int .u8 (3),.bool (ba),.int .i64 (na),.string (sa)],.agg #[.int .u8 (3),.bool (bb),.int .i64 (nb),.string (sb)]] w λe w'=>e=.returned (.int .i64 (-1))/\Ext w w':=by
 have z:(na==nb)=false:=by simp;omega
 go_enter func165,ntmps165;go_wp2_with (go_at_call 219;refine(Dn _ _ _).mono ?_;rintro e w1 ⟨rfl,rfl⟩)
 go_ret;exact⟨rfl,((Ext.refl w).alloc _).alloc _⟩
def uV(na:Int)(ba bb:Bool)(sa sb:ByteArray)(w:World)  : C3 165 #[.agg #[.int .u8 (3),.bool (ba),.int .i64 (na),.string (sa)],.agg #[.int .u8 (3),.bool (bb),.int .i64 (na),.string (sb)]] w λe w'=>e=.returned (.int .i64 (0))/\Ext w w':=by
 have z2:decide (na<na)=false:=by simp
 go_enter func165,ntmps165;go_wp2_with (go_at_call 219;refine(Dn _ _ _).mono ?_;rintro e w1 ⟨rfl,rfl⟩)
 go_ret;exact⟨rfl,((Ext.refl w).alloc _).alloc _⟩
def uU(na nb:Int)(ba bb:Bool)(sa sb:ByteArray)(w:World)(h:nb<na):C3 165 #[.agg #[.int .u8 (3),.bool (ba),.int .i64 (na),.string (sa)],.agg #[.int .u8 (3),.bool (bb),.int .i64 (nb),.string (sb)]] w λe w'=>e=.returned (.int .i64 (1))/\Ext w w':=by
 have z:(na==nb)=false:=by simp;omega
 have z2:decide (na<nb)=false:=by simp;omega
 go_enter func165,ntmps165;go_wp2_with (go_at_call 219;refine(Dn _ _ _).mono ?_;rintro e w1 ⟨rfl,rfl⟩)
 go_ret;exact⟨rfl,((Ext.refl w).alloc _).alloc _⟩
def uN(na nb:Int)(ba bb:Bool)(sa sb:ByteArray)(w:World)(h:Op.bytesLess sa.toList sb.toList=true):C3 165 #[.agg #[.int .u8 (4),.bool (ba),.int .i64 (na),.string (sa)],.agg #[.int .u8 (4),.bool (bb),.int .i64 (nb),.string (sb)]] w λe w'=>e=.returned (.int .i64 (-1))/\Ext w w':=by
 go_enter func165,ntmps165;go_wp2_with (go_at_call 219;refine(Dn _ _ _).mono ?_;rintro e w1 ⟨rfl,rfl⟩)
 go_ret;exact⟨rfl,((Ext.refl w).alloc _).alloc _⟩
def uP(na nb:Int)(ba bb:Bool)(sa sb:ByteArray)(w:World)(h:Op.bytesLess sa.toList sb.toList=false)(h2:(sa.toList==sb.toList)=true):C3 165 #[.agg #[.int .u8 (4),.bool (ba),.int .i64 (na),.string (sa)],.agg #[.int .u8 (4),.bool (bb),.int .i64 (nb),.string (sb)]] w λe w'=>e=.returned (.int .i64 (0))/\Ext w w':=by
 go_enter func165,ntmps165;go_wp2_with (go_at_call 219;refine(Dn _ _ _).mono ?_;rintro e w1 ⟨rfl,rfl⟩)
 go_ret;exact⟨rfl,((Ext.refl w).alloc _).alloc _⟩
def uO(na nb:Int)(ba bb:Bool)(sa sb:ByteArray)(w:World)(h:Op.bytesLess sa.toList sb.toList=false)(h2:(sa.toList==sb.toList)=false):C3 165 #[.agg #[.int .u8 (4),.bool (ba),.int .i64 (na),.string (sa)],.agg #[.int .u8 (4),.bool (bb),.int .i64 (nb),.string (sb)]] w λe w'=>e=.returned (.int .i64 (1))/\Ext w w':=by
 go_enter func165,ntmps165;go_wp2_with (go_at_call 219;refine(Dn _ _ _).mono ?_;rintro e w1 ⟨rfl,rfl⟩)
 go_ret;exact⟨rfl,((Ext.refl w).alloc _).alloc _⟩
def uQ(k:Int)(na nb:Int)(ba bb:Bool)(sa sb:ByteArray)(w:World)(h2:¬k=2)(h3:¬k=3)(h4:¬k=4):C3 165 #[.agg #[.int .u8 (k),.bool (ba),.int .i64 (na),.string (sa)],.agg #[.int .u8 (k),.bool (bb),.int .i64 (nb),.string (sb)]] w λe w'=>e=.returned (.int .i64 (0))/\Ext w w':=by
 have z:(k != k)=false:=by simp
 have z2:(k==2)=false:=by simpa using h2
 have z3:(k==3)=false:=by simpa using h3
 have z4:(k==4)=false:=by simpa using h4
 go_enter func165,ntmps165;go_wp2;go_ret;exact⟨rfl,((Ext.refl w).alloc _).alloc _⟩
def oR(ka na kb nb:Int)(ba bb:Bool)(sa sb:ByteArray)(w:World):C3 165 #[.agg #[.int .u8 (ka),.bool (ba),.int .i64 (na),.string (sa)],.agg #[.int .u8 (kb),.bool (bb),.int .i64 (nb),.string (sb)]] w λe w'=>e=.returned (.int .i64 (Dk ⟨ka,ba,na,sa⟩ ⟨kb,bb,nb,sb⟩))/\Ext w w':=by
 unfold Dk;simp only;by_cases h:ka=kb
 ·subst h;rw[if_pos rfl];by_cases h2:ka=2
  ·subst h2;rw[if_pos rfl];cases ba<;>cases bb
   ·exact Ol na nb sa sb w
   ·exact Qb na nb sa sb w
   ·exact Qa na nb sa sb w
   ·exact Qs na nb sa sb w
  rw[if_neg h2];by_cases h3:ka=3
  ·subst h3;rw[if_pos rfl];rcases DN na nb with h|h|h
   ·rw[Fy h];exact uT na nb ba bb sa sb w h
   ·subst h;rw[Iv];exact uV na ba bb sa sb w
   ·rw[Ik h];exact uU na nb ba bb sa sb w h
  rw[if_neg h3];by_cases h4:ka=4
  ·subst h4;rw[if_pos rfl];unfold Ob;cases h1:Op.bytesLess sa.toList sb.toList
   ·cases h2:(sa.toList==sb.toList)
    ·exact uO na nb ba bb sa sb w h1 h2
    ·exact uP na nb ba bb sa sb w h1 h2
   ·exact uN na nb ba bb sa sb w h1
  rw[if_neg h4];exact uQ ka na nb ba bb sa sb w h2 h3 h4
 ·rw[if_neg h];rcases Int.lt_or_gt_of_ne h with h|h
  ·rw[Fy h];exact uW ka na kb nb ba bb sa sb w h
  ·rw[Ik h];exact uX ka na kb nb ba bb sa sb w h
def yU{c:Int}(ka na kb nb:Int)(ba bb:Bool)(sa sb:ByteArray)(w:World)(h:H0 (Dk ⟨ka,ba,na,sa⟩ ⟨kb,bb,nb,sb⟩=c)):C3 165 #[.agg #[.int .u8 (ka),.bool (ba),.int .i64 (na),.string (sa)],.agg #[.int .u8 (kb),.bool (bb),.int .i64 (nb),.string (sb)]] w λe w'=>e=.returned (.int .i64 c)/\Ext w w':=h.o▸oR ka na kb nb ba bb sa sb w
def Xv{v:Int}(ka na kb nb:Int)(ba bb:Bool)(sa sb:ByteArray)(w:World)(h:H0 (Dk ⟨ka,ba,na,sa⟩ ⟨kb,bb,nb,sb⟩=v)) :
  C3 165 #[.agg #[.int .u8 ka,.bool ba,.int .i64 na,.string sa],.agg #[.int .u8 kb,.bool bb,.int .i64 nb,.string sb]] w λe w'=>e=.returned (.int .i64 v)/\Ext w w':=yU _ _ _ _ _ _ _ _ _ h
def fE(A1 A2:Option Addr)(c1 c2 n1 n2:Nat)(l m:List Dat)(w:World)(e1:n1=l.length)(e2:n2=m.length)(h1:Rw w A1 c1 l)(h2:Rw w A2 c2 m) :
  C3 53 #[.slice A1 n1 c1,.slice A2 n2 c2] w λe w'=>e=.returned (.int .i64 (Ba l m))/\Ext w w':=by
 have E1:=j6 e1;have E2:=j6 e2;have f:=h1.le;have g:=h2.le;rw[<-e1]at f;rw[<-e2]at g;have H1:=j6 h1;have H2:=j6 h2;clear e1 e2 h1 h2;go_enter func53,ntmps53;go_wp2
 go_loopw [5] (λv wr=>∃i:Nat,i<=n1/\v=.int .i64 i/\H0 (i<=m.length/\Ba (l.drop i) (m.drop i)=Ba l m)/\Ext w wr) (λv _=>n1-(intOf v).toNat)
 case atStart=>exact⟨0,AG _,rfl,j6 ⟨AG _,rfl⟩,Ext.refl _⟩
 case round =>
  obtain⟨i,hi,rfl,hr,er⟩:=hrel;have h:=er.size;by_cases hlt:i<n1
  ·by_cases hlt2:i<n2
   ·obtain⟨a1,rfl,p0,p1,p2,p3⟩:=(H1.o.ext er).at (show i<l.length by rw[<-E1.o];exact hlt);have⟨d,hd⟩:=tz (l.getD i Dat.zero);rw[hd]at p0 p1 p2 p3;obtain⟨a2,rfl,q0,q1,q2,q3⟩:=(H2.o.ext er).at (show i<m.length by rw[<-E2.o];exact hlt2);have⟨d2,a⟩:=tz (m.getD i Dat.zero);rw[a]at q0 q1 q2 q3;have⟨v,hv⟩:=tz (Dk d d2);have HS:H0 (Ba l m=if v=0 then Ba (l.drop (i+1)) (m.drop (i+1)) else v):=j6 (by rw[<-hr.o.2,Yn (by rw[<-E1.o];exact hlt) (by rw[<-E2.o];exact hlt2),hd,a,hv]);have HB:H0 (i+1<=m.length):=j6 (by rw[<-E2.o];exact hlt2);clear hd a hr;obtain⟨ka,ba,na,sa⟩:=d;obtain⟨kb,bb,nb,sb⟩:=d2;simp only at p0 p1 p2 p3 q0 q1 q2 q3;replace hv:=j6 hv;have X:Ext wr wr.drew:=(Ext.refl wr).drew;have P0:∀y:Xt wr.drew,y.W.cell? (a1.add (i*4))=some (.int .u8 ka):=λy=>(X.trans y.x).cell p0;have P1:∀y:Xt wr.drew,y.W.cell? ⟨(a1.add (i*4)).block,(a1.add (i*4)).off+1,none⟩=some (.bool ba):=λy=>(X.trans y.x).cell p1;have P2:∀y:Xt wr.drew,y.W.cell? ⟨(a1.add (i*4)).block,(a1.add (i*4)).off+2,none⟩=some (.int .i64 na):=λy=>(X.trans y.x).cell p2;have P3:∀y:Xt wr.drew,y.W.cell? ⟨(a1.add (i*4)).block,(a1.add (i*4)).off+3,none⟩=some (.string sa):=λy=>(X.trans y.x).cell p3;have Q0:∀y:Xt wr.drew,y.W.cell? (a2.add (i*4))=some (.int .u8 kb):=λy=>(X.trans y.x).cell q0;have Q1:∀y:Xt wr.drew,y.W.cell? ⟨(a2.add (i*4)).block,(a2.add (i*4)).off+1,none⟩=some (.bool bb):=λy=>(X.trans y.x).cell q1;have Q2:∀y:Xt wr.drew,y.W.cell? ⟨(a2.add (i*4)).block,(a2.add (i*4)).off+2,none⟩=some (.int .i64 nb):=λy=>(X.trans y.x).cell q2;have Q3:∀y:Xt wr.drew,y.W.cell? ⟨(a2.add (i*4)).block,(a2.add (i*4)).off+3,none⟩=some (.string sb):=λy=>(X.trans y.x).cell q3;by_cases hv0:v=0
    ·subst hv0
     go_upto_region 4 with fail
     refine wro [0,0,3,7,0,0,48,112,255,511] (.flo [0,1,2,3,4,5,6,7] (.one 8 (.flo [9] (.fin)))) ?_
     (refine Aa (pks rfl) ?_;(repeat (go_big_quiet_step (fail)));refine oq ?_)
     refine Ac (pks rfl) ?_;intro K_ c;go_wp2_with (go_at_call 165;refine(Xv _ _ _ _ _ _ _ _ _ hv).mono ?_;rintro e w1 ⟨rfl,x1⟩)
     (refine Aa (pks rfl) ?_;(repeat (go_big_quiet_step (fail)));refine oq ?_)
     refine Ad ?_;go_wp2
     go_roundw
     case rel=>exact⟨i+1,by omega,by go_num,j6 ⟨HB.o,by rw[HS.o];simp⟩,er.trans (X.trans x1)⟩
     case measure=>simp[intOf];omega
    ·have z:(v != 0)=true:=by simpa using hv0
     replace hv0:=j6 hv0
     go_upto_region 4 with fail
     refine wro [0,0,3,7,0,0,48,112,255,511] (.flo [0,1,2,3,4,5,6,7] (.one 8 (.flo [9] (.fin)))) ?_
     (refine Aa (pks rfl) ?_;(repeat (go_big_quiet_step (fail)));refine oq ?_)
     refine Ac (pks rfl) ?_;intro K_ c;go_wp2_with (go_at_call 165;refine(Xv _ _ _ _ _ _ _ _ _ hv).mono ?_;rintro e w1 ⟨rfl,x1⟩)
     (refine Aa (pks rfl) ?_;(repeat (go_big_quiet_step (fail)));refine oq ?_)
     refine Ad ?_;go_wp2;go_ret;exact⟨(by rw[HS.o,if_neg hv0.o];rfl),er.trans (X.trans x1)⟩
   ·have HS:H0 (Ba l m=1):=j6 (by rw[<-hr.o.2];exact Ym (by rw[<-E1.o];exact hlt) (by rw[<-E2.o];omega));have h3:n2<n1:=by omega
    clear hr;go_wp2;go_ret;exact⟨(by rw[HS.o];rfl),er⟩
  ·have HS:H0 (Ba l m=if i<m.length then -1 else 0):=j6 (by rw[<-hr.o.2];exact eD (by rw[<-E1.o];omega));have HB:H0 (i<=m.length):=j6 hr.o.1;obtain rfl:i=n1:=by omega
   by_cases h2:i<n2
   ·have HT:H0 (Ba l m = -1):=j6 (by rw[HS.o,if_pos (by rw[<-E2.o];exact h2)]);clear HS hr;go_wp2;go_ret;exact⟨(by rw[HT.o];rfl),er⟩
   ·have HT:H0 (Ba l m=0):=j6 (by rw[HS.o,if_neg (by rw[<-E2.o];exact h2)]);have h3:¬n2<i:=by have:=HB.o;rw[<-E2.o]at this;omega
    clear HS hr;go_wp2;go_ret;exact⟨(by rw[HT.o];rfl),er⟩
def Ek{v:Int}(A1 A2:Option Addr)(c1 c2 n1 n2:Nat)(l m:List Dat)(w:World)(hv:H0 (Ba l m=v))(e1:H0 (n1=l.length))(e2:H0 (n2=m.length))(h1:H0 (Rw w A1 c1 l))(h2:H0 (Rw w A2 c2 m)) :
  C3 53 #[.slice A1 n1 c1,.slice A2 n2 c2] w λe w'=>e=.returned (.int .i64 v)/\Ext w w':=hv.o▸fE A1 A2 c1 c2 n1 n2 l m w e1.o e2.o h1.o h2.o
end Go.Proofs.YtdgbkpoickbidaaGreatDoor
