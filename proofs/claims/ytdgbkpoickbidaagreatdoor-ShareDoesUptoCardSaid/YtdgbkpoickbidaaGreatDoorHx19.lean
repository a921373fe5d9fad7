/- A handle's Next. penstockref12: a handle's Next. What a trace's handles are told, all together. A trace in memory beside other lists: each call once more, with what it tells. Conditions: each theorem states its own. -/
import Derived.Test.YtdgbkpoickbidaaGreatDoorHx18
set_option maxRecDepth 100000
set_option maxHeartbeats 16000000
open Go.RowKit Go.Proofs.Tryz
set_option linter.defProp false
namespace Go.Proofs.YtdgbkpoickbidaaGreatDoor
variable{z:Int}{B C c c6 gt i m n r:Nat}{R:Nat->Prop}{A A6:Option Addr}{w w' w2 w6 wr:World}
def Gj(C:List Ct)(e:Int):List Ud:=C.map λx=>⟨x.A,x.c,x.l,⟨e,none,0,[]⟩,x.k⟩
def eJ(C:List Ct)(e:Int):(Gj C e).map Ud.uv=bX (C.map Al) e:=by
 unfold Gj bX;rw[CO,CO];rfl
def Ys{C:List Ct}{x:Ct}(hi:i<C.length)(hx:C.getD i Ct.zero=x)(e:Int):Gj (C.take (i+1)) e=Gj (C.take i) e++[⟨x.A,x.c,x.l,⟨e,none,0,[]⟩,x.k⟩]:=by
 unfold Gj;rw[CC hi,AI,<-hx,AB,AC hi];rfl
def Ck(e:Int)(x:Ud):Bool:=decide (e<=x.t.e)
def Eh{L:List Ud}{x:Ud}(hi:i<L.length)(hx:L.getD i Ud.zero=x)(e:Int):(L.take (i+1)).filter (Ck e)=(L.take i).filter (Ck e)++if e<=x.t.e then [x] else []:=by
 rw[Iy hi,hx,CT]
 congr 1
 unfold Ck;split
 ·rename_i h;simp[h]
 ·rename_i h;simp[h]
structure NxI (w wr:World) (K:List Ud) (A:Option Addr) (m c:Nat):Prop where
 len:m=K.length
 own:Own wr w.heap.size 95 4 A m c (Ah K)
 ext:Ext w wr
def NxI.grow{K:List Ud}(h:NxI w wr K A m c)(x:Ext wr w2):NxI w w2 K A m c:=⟨h.len,h.own.ext x,h.ext.trans x⟩
def NxI.more{K:List Ud}{x:Ud}(h:NxI w wr K A m c)(x2:Ext wr w2)(o:Own w6 w.heap.size 95 4 A6 (m+1) c6 (Ah K++udC x))(g:w2.grownBy w6 (blk A c)):NxI w w6 (K++[x]) A6 (m+1) c6:=by
 refine⟨by rw[AA,h.len];rfl,?_,(h.ext.trans x2).grown g λk e=>(h.own.lt k e).1⟩;rw[Au,show Ah [x]=udC x by simp[Ah]];exact o
def Js(w:World)(R:Nat->Prop)(gt:Nat)(t:TrV)(q:Int×List UV×Int×Hv)(e:Ending)(w':World):Prop:=∃A m Q t',e=.returned (.tuple #[.slice A m m,.int .u64 q.2.2.1,.int .u16 q.1])/\m=List.length Q/\Bu w' w.heap.size A m Q/\Q.map Ud.uv=q.2.1/\ShR w' R gt t'/\t'.v={ t with hs:=Bl t.hs q.2.2.2 }/\Upd R w w'
def Js.nil{t:ShM}{x:Hv}{n u:Int}(h:ShR w R gt t)(hx:x∈t.H)(xx:Ext w w'):Js w R gt t.v (n,[],u,x) (.returned (.tuple #[.slice none 0 0,.int .u64 u,.int .u16 n])) w' :=
 ⟨none,0,[],t,rfl,rfl,Bu.nil _ _,rfl,h.ext xx,by show t.v=TrV.mk _ _ (Bl t.H x);rw[Nb h.nd hx];rfl,Upd.ext xx⟩
def Yf{q:Int×List UV×Int×Hv}(gt:Nat)(t:ShM)(R:Nat->Prop)(x:Hv)(w:World)(hq:H0 (Cl t.v x=q))(h:H0 (ShR w R gt t))(ok:H0 (OkT t.v))(hx:H0 (x∈t.H))(hc:x.ended=true\/(x.ended=false/\x.begun=false/\t.v.up<=x.seen)) :
  C3 75 #[.pointer (some ⟨x.g,0,none⟩)] w (Js w R gt t.v q):=by
 have hb:=(h.o.hs x hx.o).1;have⟨up,hu⟩:=tz t.v.up;have HM:H0 (∀W:World,Ext w W->C3 173 #[.pointer (some ⟨gt,0,none⟩)] W λe w'=>e=.returned (.int .u64 up)/\Ext W w'):=j6 (λW x=>hu▸Me gt t R W (j6 (h.o.ext x)) ok);have c:H0 (∀n u w',Ext w w'->Js w R gt t.v (n,[],u,x) (.returned (.tuple #[.slice none 0 0,.int .u64 u,.int .u16 n])) w'):=j6 (λn u w' xx=>Js.nil h.o hx.o xx);have a:=hq.o;unfold Cl at a;rw[hu]at a hc;obtain⟨g,d,seen,begun,ended⟩:=x;replace hb:Bk w g 215 #[.pointer (some ⟨gt,0,none⟩),.int .u64 d,.int .u64 seen,.bool begun,.bool ended]:=hb;have HB:=j6 hb;have c0:=hb.cell 0;simp at c0;clear hb hu hq;have m1:=TI;rcases hc with hc|⟨hc1,hc2,hc3⟩
 ·replace hc:ended=true:=hc;subst hc;rw[if_pos rfl]at a;subst a;go_enter func75,ntmps75;go_wp2_with (go_at_call 173;clear m1;refine(HM.o w (Ext.refl _)).mono ?_;rintro r w1 ⟨rfl,x1⟩;have X1:=j6 x1;have c4:=(HB.o.ext x1).cell 4;simp at c4;clear x1)
  go_returns;exact c.o _ _ _ X1.o
 ·replace hc1:ended=false:=hc1;replace hc2:begun=false:=hc2;replace hc3:up<=seen:=hc3;subst hc1 hc2;rw[if_neg Bool.false_ne_true,if_pos ⟨rfl,hc3⟩]at a;subst a;go_enter func75,ntmps75
  go_upto_region 5 with (first
   | (go_at_call 173;clear m1;refine(HM.o w (Ext.refl _)).mono ?_;rintro r w1 ⟨rfl,x1⟩;have X1:=j6 x1;have c2:=(HB.o.ext x1).cell 2;have c3:=(HB.o.ext x1).cell 3;have c4:=(HB.o.ext x1).cell 4;simp at c2 c3 c4;clear x1)
   | fail)
  clear c2 c3 c4;have XD:Ext w1 w1.drew:=(Ext.refl w1).drew;have Q2:∀y:Xt w1.drew,y.W.cell? ⟨g,2,none⟩=some (.int .u64 seen):=λy=>by have:=(HB.o.ext (X1.o.trans (XD.trans y.x))).cell 2;simpa using this
  refine wro [0,1,3,7,0,31,63] (.flo [0,1,2,3,4,5,6] (.fin)) ?_
  (refine Aa (pks rfl) ?_;(repeat (go_big_quiet_step (fail)));refine oq ?_)
  refine Ad ?_;go_wp2;go_returns;exact c.o _ _ _ (X1.o.trans XD)
def Lz{K:List Ud}{V:List UV}(h:K.map Ud.uv=V)(hg:∀u∈V,Db u):∀x∈K,InU x:=λx hx=>(hg x.uv (by rw[<-h];exact AP.2 ⟨x,hx,rfl⟩)).1.u
def Pn(L:List Ud)(e:Int):(L.filter (Ck e)).map Ud.uv=(L.map Ud.uv).filter (cB e):=by
 rw[EE];rfl
def Sf{t:ShM}{x:Hv}(h:ShR w R gt t)(hx:x∈t.H)(xx:Ext w w')(up:Int) :
  ShR ((w'.setCell ⟨x.g,3,none⟩ (.bool true)).setCell ⟨x.g,2,none⟩ (.int .u64 up)) R gt { t with H:=Bl t.H (Cj x up) }/\Upd (λk=>k=x.g) w' ((w'.setCell ⟨x.g,3,none⟩ (.bool true)).setCell ⟨x.g,2,none⟩ (.int .u64 up)):=by
 have hb:=((h.ext xx).hs x hx).1;have u:Upd (λk=>k=x.g) w' ((w'.setCell ⟨x.g,3,none⟩ (.bool true)).setCell ⟨x.g,2,none⟩ (.int .u64 up)):=((Upd.refl (λk=>k=x.g) w').setCell (p:=⟨x.g,3,none⟩) (.inl rfl) _).setCell (p:=⟨x.g,2,none⟩) (.inl rfl) _;exact⟨(h.ext xx).hd (x':=Cj x up) hx rfl rfl u ((hb.set 3 _).set 2 _),u⟩
def a1k{C:List Ct}(h:Sl w 2 A n c (Az C))(hi:i<n)(hn:n=C.length){y:Ct}(hy:C.getD i Ct.zero=y):∃ad,A=some ad/\w.cell? (ad.add (i*2))=some (.slice y.A y.l.length y.c)/\w.cell? ⟨(ad.add (i*2)).block,(ad.add (i*2)).off+1,none⟩=some (.int .i64 y.k):=by
 obtain⟨ad,e,hc⟩:=h.2.2.2.2 (by omega);have h0:=Hk C i 0 (by omega) (by decide);have h1:=Hk C i 1 (by omega) (by decide);rw[hy]at h0 h1;exact⟨ad,e,hc _ _ h0,by rw[<-Ge _ _ 1 (by omega)];exact hc _ _ h1⟩
def wO{q:Int×List UV×Int×Hv}(gt:Nat)(t:ShM)(R:Nat->Prop)(x:Hv)(w:World)(hq:H0 (Cl t.v x=q))(h:H0 (ShR w R gt t))(ok:H0 (OkT t.v))(hx:H0 (x∈t.H))(h9:(Dr t.v.s).length<=400000)(G:H0 (Good w))(he:x.ended=false)(hbg:x.begun=true) :
  C3 75 #[.pointer (some ⟨x.g,0,none⟩)] w (Js w R gt t.v q):=by
 have hb:=(h.o.hs x hx.o).1;have f:=ok.o.hs x hx.o;have S:=Sr ok.o;have Q:=h.o.low _ (h.o.hs x hx.o).2.1;have⟨up,hu⟩:=tz t.v.up;rw[hu]at S;have HM:H0 (∀W:World,Ext w W->C3 173 #[.pointer (some ⟨gt,0,none⟩)] W λe w'=>e=.returned (.int .u64 up)/\Ext W w'):=j6 (λW x=>hu▸Me gt t R W (j6 (h.o.ext x)) ok);have HT:H0 (∀w',Ext w w'->ShR ((w'.setCell ⟨x.g,3,none⟩ (.bool true)).setCell ⟨x.g,2,none⟩ (.int .u64 up)) R gt { t with H:=Bl t.H (Cj x up) }/\Upd (λk=>k=x.g) w' ((w'.setCell ⟨x.g,3,none⟩ (.bool true)).setCell ⟨x.g,2,none⟩ (.int .u64 up))/\R x.g):=j6 (λw' xx=>⟨(Sf h.o hx.o xx up).1,(Sf h.o hx.o xx up).2,(h.o.hs x hx.o).2.1⟩);have HQ:H0 (q=(0,UdS.sumV (Kk (Dr t.v.s) true x.seen),up,Cj x up)):=j6 (by
  rw[<-hq.o];unfold Cl;rw[hu,he,hbg,if_neg Bool.false_ne_true,if_neg (λe=>Bool.noConfusion e.1)])
 have j:=j6 (Mc (b:=true) ok.o.ok (e:=x.seen) ⟨DJ f.1.1 f.1.2.1,f.1.2.2⟩);have T:=j6 (Mj ok.o.ok);have⟨gs,E⟩:=tz t.gs;have U:H0 (∀W,Ext w W->W.cell? ⟨gt,0,none⟩=some (.pointer (some ⟨gs,0,none⟩))):=j6 (λW x=>E▸(h.o.bk.ext x).cell 0);have HS:H0 (SpR w t.Rs gs t.m):=j6 (E▸h.o.sp);have HV:H0 (Dr t.m.v=Dr t.v.s):=j6 rfl;obtain⟨g,hold,seen,begun,ended⟩:=x;obtain rfl:ended=false:=he;obtain rfl:begun=true:=hbg;replace hb:Bk w g 215 #[.pointer (some ⟨gt,0,none⟩),.int .u64 hold,.int .u64 seen,.bool true,.bool false]:=hb;replace Q:g<w.heap.size:=Q;have HB:=j6 hb;have c4:0<=seen/\seen<=18446744073709551615:=⟨DJ f.1.1 f.1.2.1,f.1.2.2⟩;have⟨V,hV⟩:=tz (Dr t.v.s);rw[hV]at HQ j T HV h9;replace HQ:H0 (q=(0,UdS.sumV (Kk V true seen),up,Cj ⟨g,hold,seen,true,false⟩ up)):=HQ;replace j:H0 (∀u∈Kk V true seen,Db u):=j;replace HT:H0 (∀w',Ext w w'->ShR ((w'.setCell ⟨g,3,none⟩ (.bool true)).setCell ⟨g,2,none⟩ (.int .u64 up)) R gt { t with H:=Bl t.H (Cj ⟨g,hold,seen,true,false⟩ up) }/\Upd (λk=>k=g) w' ((w'.setCell ⟨g,3,none⟩ (.bool true)).setCell ⟨g,2,none⟩ (.int .u64 up))/\R g):=HT;have b6:=Sg V true seen;have c0:=hb.cell 0;simp at c0;have CH:H0 (∀W,Ext w W->W.cell? ⟨g,0,none⟩=some (.pointer (some ⟨gt,0,none⟩))/\W.cell? ⟨g,2,none⟩=some (.int .u64 seen)/\W.cell? ⟨g,3,none⟩=some (.bool true)/\W.cell? ⟨g,4,none⟩=some (.bool false)):=j6 (λW xx=>by
  have b:=hb.ext xx;have k0:=b.cell 0;have k2:=b.cell 2;have k3:=b.cell 3;have k4:=b.cell 4;simp at k0 k2 k3 k4;exact⟨k0,k2,k3,k4⟩)
 have Z:H0 (∀W,Ext w W->W.frozen? ⟨g,2,none⟩=false/\W.frozen? ⟨g,3,none⟩=false/\g<W.heap.size):=j6 (λW xx=>⟨(hb.ext xx).free 2,(hb.ext xx).free 3,(hb.ext xx).lt⟩);clear hb hu hq E hV f;have m1:=TI;go_enter func75,ntmps75;go_wp2_with (first
  | (go_at_call 173;clear m1;refine(HM.o w (Ext.refl _)).mono ?_;rintro r w1 ⟨rfl,x1⟩;have X1:=j6 x1;have⟨k0,k2,k3,k4⟩:=CH.o w1 x1;have b7:=U.o w1 x1;clear x1;have m2:=TI)
  | (go_at_call 48;clear m2;refine(Xn (V:=V) gs t.m t.Rs _ HV (j6 (HS.o.ext X1.o)) (j6 ok.o.ok.sp)).mono ?_;rintro r w2 ⟨A2,n2,R2,rfl,h2,u2,e2,x2⟩;have N:=j6 h2;have D:=j6 u2;have X:=j6 e2;have X2:=j6 (X1.o.trans x2);have c3:n2<=400000:=(by rw[h2];have a:=congrArg List.length e2;rw[AN]at a;omega);have⟨j0,j2,j3,j4⟩:=CH.o w2 X2.o;clear h2 u2 e2 x2;have m3:=TI)
  | fail)
 go_loopg [7,88] n2 (λz u v wr=>∃(i m c:Nat) (A:Option Addr),z=n2-i/\i<=n2/\m<=0+i/\u=.slice A m c/\v=.int .i64 i/\H0 (NxI w2 wr ([]++(R2.take i).filter (Ck seen)) A m c))
 case atStart=>exact⟨0,_,_,_,rfl,AG _,by omega,rfl,rfl,j6 ⟨rfl,Own.nil _ _ _ _,Ext.refl _⟩⟩
 case round =>
  obtain⟨i,m,c,A,rfl,hi,hm,rfl,rfl,HP⟩:=hrel;have XE:H0 (Ext w2 wr):=j6 (HP.o.ext);by_cases hlt:i<n2
  ·have F:i<R2.length:=by rw[<-N.o];exact hlt
   obtain⟨ad,rfl,p0,p1,p2,p3⟩:=(D.o.uin.ext XE.o).at F;have⟨y,hy⟩:=tz (R2.getD i Ud.zero);rw[hy]at p0 p1 p2 p3;have⟨ny,I⟩:=E9 y.l.length;have⟨ty,J⟩:=E9 y.t.l.length;rw[<-I]at p0;rw[<-J]at p2;have a1:=j6 I;have a5:=j6 J;have HY:=j6 hy;have K:=j6 F;have XA:H0 (Ext wr ((wr.alloc (.cells #[.slice y.A ny y.c,.int .u64 y.t.e,.slice y.t.A ty y.t.c,.int .i64 y.d] 95)).alloc (.cells #[.slice y.A ny y.c,.int .u64 y.t.e,.slice y.t.A ty y.t.c,.int .i64 y.d] 95))):=j6 (((Ext.refl wr).alloc _).alloc _);clear F I J hy;by_cases hfe:seen<=y.t.e
   ·have hz:=HP.o.ext.size;go_wp2_with (first
     | (at_builtin;refine Ab _ Ao w2.heap.size _ _ rfl rfl A m c (Ah ([]++(R2.take i).filter (Ck seen))) rfl (HP.o.own.ext XA.o) (some ⟨wr.heap.size+1,0,none⟩) 1 1 [.slice y.A ny y.c,.int .u64 y.t.e,.slice y.t.A ty y.t.c,.int .i64 y.d] rfl (by have q:=Sl.one (wr.alloc (.cells #[.slice y.A ny y.c,.int .u64 y.t.e,.slice y.t.A ty y.t.c,.int .i64 y.d] 95)) #[.slice y.A ny y.c,.int .u64 y.t.e,.slice y.t.A ty y.t.c,.int .i64 y.d] 95 4 rfl;simpa using q) (by intro u hu;simp at hu;rcases hu with rfl|rfl|rfl|rfl<;>rfl) (by omega) (by decide) (by simp;omega) ?_;intro A6 c6 w6 o6 g6 h6;clear h6;have B:H0 (NxI w2 w6 ([]++(R2.take (i+1)).filter (Ck seen)) A6 (m+1) c6):=j6 (by rw[Eh K.o HY.o,if_pos hfe,<-AK];exact HP.o.more XA.o (by have q:=o6;rw[a1.o,a5.o]at q;exact q) g6);clear o6 g6)
     | fail)
    go_roundg (n2-(i+1))
    case measure=>omega
    case rel=>exact⟨i+1,m+1,c6,A6,by omega,by omega,by omega,rfl,by go_num,B⟩
   ·have B:H0 (∀w6,Ext wr w6->NxI w2 w6 ([]++(R2.take (i+1)).filter (Ck seen)) A m c):=j6 (λw6 xx=>by rw[Eh K.o HY.o,if_neg hfe,AV];exact HP.o.grow xx);go_wp2
    go_roundg (n2-(i+1))
    case measure=>omega
    case rel=>exact⟨i+1,m,c,A,by omega,by omega,by omega,rfl,by go_num,j6 (B.o _ ((Ext.refl wr).alloc _))⟩
  ·obtain rfl:i=n2:=by omega
   have a2:R2.take i=R2:=AW (by rw[<-N.o];exact AD _);rw[a2]at HP;have M:H0 (([]++R2.filter (Ck seen)).map Ud.uv=Kk V true seen):=j6 (by rw[BD,Pn,X.o];rfl);have L:H0 (∀y∈[]++R2.filter (Ck seen),InU y):=j6 (Lz M.o j.o);have XR:H0 (Ext w wr):=j6 (X2.o.trans XE.o);have⟨a9,b0,b1⟩:=HT.o wr XR.o;have a3:=j6 a9;have C:=j6 b0;have a4:=j6 b1;have⟨c5,c7,c8,c9⟩:=CH.o wr XR.o;have⟨b8,b9,a8⟩:=Z.o wr XR.o;have b3:(wr.setCell ⟨g,3,none⟩ (.bool true)).cell? ⟨g,2,none⟩=some (.int .u64 seen):=by have q:=((HB.o.ext XR.o).set 3 (.bool true)).cell 2;simpa using q
   have f3:(wr.setCell ⟨g,3,none⟩ (.bool true)).frozen? ⟨g,2,none⟩=false:=((HB.o.ext XR.o).set 3 (.bool true)).free 2;have l3:g<(wr.setCell ⟨g,3,none⟩ (.bool true)).heap.size:=by simpa using a8
   have O:H0 (Upd (λk=>k=g) w2 ((wr.setCell ⟨g,3,none⟩ (.bool true)).setCell ⟨g,2,none⟩ (.int .u64 up))):=j6 ((Upd.ext XE.o).trans C.o);have b5:g<w2.heap.size:=by have:=X2.o.size;omega
   have a7:H0 (Uin ((wr.setCell ⟨g,3,none⟩ (.bool true)).setCell ⟨g,2,none⟩ (.int .u64 up)) A c ([]++R2.filter (Ck seen))):=j6 ⟨by have q:=(HP.o.own.upd C.o (λk hk e=>by have:=(HP.o.own.lt k hk).1;omega)).sl;rwa [HP.o.len]at q,λy hy=>by
    rcases AQ.1 hy with hy|hy
    ·exact(nomatch hy)
    ·exact(D.o.updB O.o (λk hk e=>by have:=(D.o.lt hk).1;have:=X1.o.size;omega)).uin.ls y (BI.1 hy).1⟩
   have b2:m<=1000000:=by omega
   go_wp2_with (first
    | (go_at_call 16;refine(mR A c m _ _ (j6 (congrArg UdS.sumV M.o)) (j6 HP.o.len) a7 b2 (j6 λy hy=>(L.o y hy).num) (j6 λy hy=>(L.o y hy).lens)).mono ?_;rintro r w9 ⟨A9,m9,Q9,rfl,P,u9,e9,x9⟩;have a0:=j6 P;have a6:=j6 u9;have Y:=j6 e9;have X9:=j6 x9;clear P u9 e9 x9)
    | fail)
   go_returns;have b4:=O.o.size;rw[HQ.o];exact⟨A9,m9,Q9,_,rfl,a0.o,a6.o.mono (AR X2.o.size b4),Y.o,a3.o.ext X9.o,rfl,(Upd.ext XR.o).trans ((C.o.mono λk _ e=>e▸a4.o).trans (Upd.ext X9.o))⟩
def qH{q:Int×List UV×Int×Hv}(gt:Nat)(t:ShM)(R:Nat->Prop)(x:Hv)(w:World)(hq:H0 (Cl t.v x=q))(h:H0 (ShR w R gt t))(ok:H0 (OkT t.v))(hx:H0 (x∈t.H))(h9:(Dr t.v.s).length<=400000)(G:H0 (Good w))(he:x.ended=false)(hbg:x.begun=false)(hup:x.seen<t.v.up) :
  C3 75 #[.pointer (some ⟨x.g,0,none⟩)] w (Js w R gt t.v q):=by
 have hb:=(h.o.hs x hx.o).1;have j:=ok.o.hs x hx.o;have a7:=Sr ok.o;have a5:=h.o.low _ (h.o.hs x hx.o).2.1;have⟨up,hu⟩:=tz t.v.up;rw[hu]at a7;have HM:H0 (∀W:World,Ext w W->C3 173 #[.pointer (some ⟨gt,0,none⟩)] W λe w'=>e=.returned (.int .u64 up)/\Ext W w'):=j6 (λW x=>hu▸Me gt t R W (j6 (h.o.ext x)) ok);have HT:H0 (∀w',Ext w w'->ShR ((w'.setCell ⟨x.g,3,none⟩ (.bool true)).setCell ⟨x.g,2,none⟩ (.int .u64 up)) R gt { t with H:=Bl t.H (Cj x up) }/\Upd (λk=>k=x.g) w' ((w'.setCell ⟨x.g,3,none⟩ (.bool true)).setCell ⟨x.g,2,none⟩ (.int .u64 up))/\R x.g):=j6 (λw' xx=>⟨(Sf h.o hx.o xx up).1,(Sf h.o hx.o xx up).2,(h.o.hs x hx.o).2.1⟩);have HQ:H0 (q=(0,UdS.sumV (Kk (Dr t.v.s) false x.seen),up,Cj x up)):=j6 (by
  rw[<-hq.o];unfold Cl;rw[hu,he,hbg,if_neg Bool.false_ne_true,if_neg (λe=>by have:=e.2;rw[hu]at hup;omega)])
 have E:=j6 (Mc (b:=false) ok.o.ok (e:=x.seen) ⟨DJ j.1.1 j.1.2.1,j.1.2.2⟩);have U:=j6 (Mj ok.o.ok);have⟨gs,S⟩:=tz t.gs;have a8:H0 (∀W,Ext w W->W.cell? ⟨gt,0,none⟩=some (.pointer (some ⟨gs,0,none⟩))):=j6 (λW x=>S▸(h.o.bk.ext x).cell 0);have HS:H0 (SpR w t.Rs gs t.m):=j6 (S▸h.o.sp);have HV:H0 (Dr t.m.v=Dr t.v.s):=j6 rfl;have d5:x.seen<up:=by rw[<-hu];exact hup
 clear hup;obtain⟨g,hold,seen,begun,ended⟩:=x;obtain rfl:ended=false:=he;obtain rfl:begun=false:=hbg;replace hb:Bk w g 215 #[.pointer (some ⟨gt,0,none⟩),.int .u64 hold,.int .u64 seen,.bool false,.bool false]:=hb;replace a5:g<w.heap.size:=a5;have HB:=j6 hb;have e6:0<=seen/\seen<=18446744073709551615:=⟨DJ j.1.1 j.1.2.1,j.1.2.2⟩;have⟨V,hV⟩:=tz (Dr t.v.s);rw[hV]at HQ E U HV h9;replace HQ:H0 (q=(0,UdS.sumV (Kk V false seen),up,Cj ⟨g,hold,seen,false,false⟩ up)):=HQ;replace E:H0 (∀u∈Kk V false seen,Db u):=E;replace HT:H0 (∀w',Ext w w'->ShR ((w'.setCell ⟨g,3,none⟩ (.bool true)).setCell ⟨g,2,none⟩ (.int .u64 up)) R gt { t with H:=Bl t.H (Cj ⟨g,hold,seen,false,false⟩ up) }/\Upd (λk=>k=g) w' ((w'.setCell ⟨g,3,none⟩ (.bool true)).setCell ⟨g,2,none⟩ (.int .u64 up))/\R g):=HT;have d6:=Sg V true seen;have c0:=hb.cell 0;simp at c0;have CH:H0 (∀W,Ext w W->W.cell? ⟨g,0,none⟩=some (.pointer (some ⟨gt,0,none⟩))/\W.cell? ⟨g,2,none⟩=some (.int .u64 seen)/\W.cell? ⟨g,3,none⟩=some (.bool false)/\W.cell? ⟨g,4,none⟩=some (.bool false)):=j6 (λW xx=>by
  have b:=hb.ext xx;have k0:=b.cell 0;have k2:=b.cell 2;have k3:=b.cell 3;have k4:=b.cell 4;simp at k0 k2 k3 k4;exact⟨k0,k2,k3,k4⟩)
 have b1:H0 (∀W,Ext w W->W.frozen? ⟨g,2,none⟩=false/\W.frozen? ⟨g,3,none⟩=false/\g<W.heap.size):=j6 (λW xx=>⟨(hb.ext xx).free 2,(hb.ext xx).free 3,(hb.ext xx).lt⟩);clear hb hu hq S hV j;have m1:=TI;go_enter func75,ntmps75;go_wp2_with (first
  | (go_at_call 173;clear m1;refine(HM.o w (Ext.refl _)).mono ?_;rintro r w1 ⟨rfl,x1⟩;have X1:=j6 x1;have⟨k0,k2,k3,k4⟩:=CH.o w1 x1;have d7:=a8.o w1 x1;clear x1;have m2:=TI)
  | (go_at_call 48;clear m2;refine(Xn (V:=V) gs t.m t.Rs _ HV (j6 (HS.o.ext X1.o)) (j6 ok.o.ok.sp)).mono ?_;rintro r w2 ⟨A2,n2,R2,rfl,h2,u2,e2,x2⟩;have N:=j6 h2;have J:=j6 u2;have M:=j6 e2;have X2:=j6 (X1.o.trans x2);have e3:n2<=400000:=(by rw[h2];have a:=congrArg List.length e2;rw[AN]at a;omega);have⟨j0,j2,j3,j4⟩:=CH.o w2 X2.o;clear h2 u2 e2 x2;have m3:=TI)
  | (go_at_call 172;clear m3;refine(Td seen _).mono ?_;rintro r w3 ⟨rfl,x3⟩;have X3:=j6 (X2.o.trans x3);replace x3:=j6 x3;have m4:=TI)
  | (go_at_call 17;clear m4;refine(mT A2 n2 n2 R2 seen none 0 0 [] _ N (j6 (J.o.uin.ext x3.o)) (by omega) (j6 (Lz M.o U.o)) (j6 (Sl.nil _ _)) (G.o.ext X3.o)).mono ?_;rintro r w4 ⟨A4,n4,c4,C,rfl,h4,o4,q4,a4,e4,x4⟩;have O:=j6 h4;have X4:=j6 (X3.o.trans x4);have Y4:=j6 (x3.o.trans x4);have a9:H0 (Sl w4 2 A4 n4 c4 (Az C)):=j6 o4.sl;have b4:=j6 q4;have X:H0 (C.map Al=sumV (atV V (seen,[]))):=j6 (by rw[e4,M.o]);have e5:n4<=400000:=(by rw[h4];have a:=congrArg List.length X.o;rw[AN]at a;have b:=(AR (DB _ _) (Ju (atV V (seen,[]))):(sumV (atV V (seen,[]))).length<=_);have d:(atV V (seen,[])).length<=V.length:=(by unfold atV;rw[AN];exact DB _ _);omega);have f1:=x4.size;have f0:=x3.o.size;have e8:=X2.o.size;have⟨j0,j2,j3,j4⟩:=CH.o w4 X4.o;clear h4 o4 q4 a4 e4 x4)
  | fail)
 have a6:H0 (∀W,Upd (λk=>k=g) w4 W->∀y∈Gj C seen,UdR W y):=j6 (λW u y hy=>by
  obtain⟨z,hz,rfl⟩:=AP.1 hy;have⟨a,b⟩:=b4.o z hz;refine⟨(Own.upd a u (λk hk e=>?_)).sl,Sl.nil _ _⟩;have⟨ad,e1,e2⟩:=Gd hk;have:=(b ad e1).1;have:=X3.o.size;omega)
 go_loopg [7,66] n4 (λz u v wr=>∃(i m c:Nat) (A:Option Addr),z=n4-i/\i<=n4/\m<=i/\u=.slice A m c/\v=.int .i64 i/\H0 (NxI w4 wr (Gj (C.take i) seen) A m c))
 case atStart=>exact⟨0,0,0,none,rfl,AG _,AD _,rfl,rfl,j6 ⟨rfl,Own.nil _ _ _ _,Ext.refl _⟩⟩
 case round =>
  obtain⟨i,m,c,A,rfl,hi,e0,rfl,rfl,HP⟩:=hrel;by_cases hlt:i<n4
  ·have B:i<C.length:=by rw[<-O.o];exact hlt
   have L:H0 (Sl wr 2 A4 n4 c4 (Az C)):=j6 (a9.o.ext HP.o.ext);have⟨y,hy⟩:=tz (C.getD i Ct.zero);obtain⟨ad,rfl,p0,p1⟩:=a1k L.o hlt O.o hy;have⟨ny,f⟩:=E9 y.l.length;rw[<-f]at p0;have P:=j6 f;have HY:=j6 hy;have F:=j6 B;clear B f hy;have hz:=HP.o.ext.size
   go_upto_region 13 with fail
   have⟨wb,K⟩:=E9 (wr.alloc (.cells #[.slice y.A ny y.c,.int .i64 y.k] 154));have⟨gb,Q⟩:=E9 wr.heap.size;have XB:H0 (Ext wr wb):=j6 (by rw[K];exact(Ext.refl _).alloc _);have BX:H0 (Bk wb gb 154 #[.slice y.A ny y.c,.int .i64 y.k]):=j6 (by rw[K,Q];exact Bk.new _ _ _);rw[<-K,<-Q];clear K Q p0 p1;have XD:Ext wb wb.drew:=(Ext.refl wb).drew;have c5:H0 (Ext w wr):=j6 (X4.o.trans HP.o.ext);have Q0:∀z:Xt wb.drew,z.W.cell? ⟨gb,0,none⟩=some (.slice y.A ny y.c):=λz=>(BX.o.ext (XD.trans z.x)).cell 0;have Q1:∀z:Xt wb.drew,z.W.cell? ⟨gb,1,none⟩=some (.int .i64 y.k):=λz=>(BX.o.ext (XD.trans z.x)).cell 1;have Q2:∀z:Xt wb.drew,z.W.cell? ⟨g,2,none⟩=some (.int .u64 seen):=λz=>(CH.o _ (c5.o.trans (XB.o.trans (XD.trans z.x)))).2.1;refine wro [0,0,2,0,8,24,56,120,0,256,1022,2046,4095,8191] (.pur [0] (.flo [1,2,3,4,5,6,8,9] (.ext 7 (.flo [10] (.one 11 (.one 12 (.flo [13] (.fin)))))))) ?_
   (refine Bi (pks rfl) ?_;(repeat (go_big_quiet_step (fail)));refine oq ?_)
   (refine Aa (pks rfl) ?_;(repeat (go_big_quiet_step (fail)));refine oq ?_)
   refine Ar (pks rfl) ?_;intro K_ a2;go_wp2_with (go_at_call 172;refine(Td seen _).mono ?_;rintro r w7 ⟨rfl,x7⟩;have X7:=j6 (XB.o.trans (XD.trans x7));replace x7:=j6 x7)
   refine An.mk x7.o ?_
   (refine Aa (pks rfl) ?_;(repeat (go_big_quiet_step (fail)));refine oq ?_)
   refine Ac (pks rfl) ?_;intro K_ a2;clear Q0 Q1 Q2 XD;go_wp2;refine Ac (pks rfl) ?_;intro K_ a2;have XA:H0 (Ext wr (w7.alloc (.cells #[.slice y.A ny y.c,.int .u64 seen,.slice none 0 0,.int .i64 y.k] 95))):=j6 (X7.o.alloc _);have f2:=X7.o.size;go_wp2_with (first
    | (at_builtin;refine Ab _ Ao w4.heap.size _ _ rfl rfl A m c (Ah (Gj (C.take i) seen)) rfl (HP.o.own.ext XA.o) (some ⟨w7.heap.size,0,none⟩) 1 1 [.slice y.A ny y.c,.int .u64 seen,.slice none 0 0,.int .i64 y.k] rfl (by have q:=Sl.one w7 #[.slice y.A ny y.c,.int .u64 seen,.slice none 0 0,.int .i64 y.k] 95 4 rfl;simpa using q) (by intro u hu;simp at hu;rcases hu with rfl|rfl|rfl|rfl<;>rfl) (by omega) (by decide) (by simp;omega) ?_;intro A6 c6 w6 o6 g6 h6;clear h6;have D:H0 (NxI w4 w6 (Gj (C.take (i+1)) seen) A6 (m+1) c6):=j6 (by rw[Ys F.o HY.o];exact HP.o.more XA.o (by have q:=o6;rw[P.o]at q;exact q) g6);clear o6 g6)
    | fail)
   go_simp
   (refine Aa (pks rfl) ?_;(repeat (go_big_quiet_step (fail)));refine oq ?_)
   refine Ad ?_;go_wp2
   go_roundg (n4-(i+1))
   case measure=>omega
   case rel=>exact⟨i+1,m+1,c6,A6,by omega,by omega,by omega,rfl,by go_num,D⟩
  ·have d1:H0 (i=n4):=j6 (by omega);have L:C.take i=C:=AW (by rw[<-O.o];have:=d1.o;omega);rw[L]at HP;have e7:IntKind.u64.wrap (seen+1)=seen+1:=by rw[EQ];omega
   obtain⟨wo,a3⟩:∃wo:World,wo=wr:=⟨_,rfl⟩;rw[<-a3]at HP ⊢;clear a3;go_wp2
   go_loopg [7,88] n2 (λz u v wr=>∃(i m c:Nat) (A:Option Addr),z=n2-i/\i<=n2/\m<=n4+i/\u=.slice A m c/\v=.int .i64 i/\H0 (NxI w4 wr (Gj C seen++(R2.take i).filter (Ck (seen+1))) A m c))
   case atStart=>exact⟨0,_,_,_,rfl,AG _,by omega,rfl,rfl,j6 (by simpa using HP.o)⟩
   case round =>
    obtain⟨i,m,c,A,rfl,hi,hm,rfl,rfl,HP⟩:=hrel;have XE:H0 (Ext w2 wr):=j6 ((Y4.o.trans HP.o.ext));by_cases hlt:i<n2
    ·have B:i<R2.length:=by rw[<-N.o];exact hlt
     obtain⟨ad,rfl,p0,p1,p2,p3⟩:=(J.o.uin.ext XE.o).at B;have⟨y,hy⟩:=tz (R2.getD i Ud.zero);rw[hy]at p0 p1 p2 p3;have⟨ny,f⟩:=E9 y.l.length;have⟨ty,T⟩:=E9 y.t.l.length;rw[<-f]at p0;rw[<-T]at p2;have P:=j6 f;have b8:=j6 T;have HY:=j6 hy;have F:=j6 B;have XA:H0 (Ext wr ((wr.alloc (.cells #[.slice y.A ny y.c,.int .u64 y.t.e,.slice y.t.A ty y.t.c,.int .i64 y.d] 95)).alloc (.cells #[.slice y.A ny y.c,.int .u64 y.t.e,.slice y.t.A ty y.t.c,.int .i64 y.d] 95))):=j6 (((Ext.refl wr).alloc _).alloc _);clear B f T hy;by_cases hfe:(seen+1)<=y.t.e
     ·have hz:=HP.o.ext.size;go_wp2_with (first
       | (at_builtin;refine Ab _ Ao w4.heap.size _ _ rfl rfl A m c (Ah (Gj C seen++(R2.take i).filter (Ck (seen+1)))) rfl (HP.o.own.ext XA.o) (some ⟨wr.heap.size+1,0,none⟩) 1 1 [.slice y.A ny y.c,.int .u64 y.t.e,.slice y.t.A ty y.t.c,.int .i64 y.d] rfl (by have q:=Sl.one (wr.alloc (.cells #[.slice y.A ny y.c,.int .u64 y.t.e,.slice y.t.A ty y.t.c,.int .i64 y.d] 95)) #[.slice y.A ny y.c,.int .u64 y.t.e,.slice y.t.A ty y.t.c,.int .i64 y.d] 95 4 rfl;simpa using q) (by intro u hu;simp at hu;rcases hu with rfl|rfl|rfl|rfl<;>rfl) (by omega) (by decide) (by simp;omega) ?_;intro A6 c6 w6 o6 g6 h6;clear h6;have D:H0 (NxI w4 w6 (Gj C seen++(R2.take (i+1)).filter (Ck (seen+1))) A6 (m+1) c6):=j6 (by rw[Eh F.o HY.o,if_pos hfe,<-AK];exact HP.o.more XA.o (by have q:=o6;rw[P.o,b8.o]at q;exact q) g6);clear o6 g6)
       | fail)
      go_roundg (n2-(i+1))
      case measure=>omega
      case rel=>exact⟨i+1,m+1,c6,A6,by omega,by omega,by omega,rfl,by go_num,D⟩
     ·have D:H0 (∀w6,Ext wr w6->NxI w4 w6 (Gj C seen++(R2.take (i+1)).filter (Ck (seen+1))) A m c):=j6 (λw6 xx=>by rw[Eh F.o HY.o,if_neg hfe,AV];exact HP.o.grow xx);go_wp2
      go_roundg (n2-(i+1))
      case measure=>omega
      case rel=>exact⟨i+1,m,c,A,by omega,by omega,by omega,rfl,by go_num,j6 (D.o _ ((Ext.refl wr).alloc _))⟩
    ·obtain rfl:i=n2:=by omega
     have b5:R2.take i=R2:=AW (by rw[<-N.o];exact AD _);rw[b5]at HP;have Z:H0 ((Gj C seen++R2.filter (Ck (seen+1))).map Ud.uv=Kk V false seen):=j6 (by rw[AI,eJ,X.o,Pn,M.o];rfl);have Y:H0 (∀y∈Gj C seen++R2.filter (Ck (seen+1)),InU y):=j6 (Lz Z.o E.o);have XR:H0 (Ext w wr):=j6 (X2.o.trans XE.o);have⟨c8,c9,d0⟩:=HT.o wr XR.o;have b6:=j6 c8;have I:=j6 c9;have b7:=j6 d0;have⟨f4,f5,f6,f7⟩:=CH.o wr XR.o;have⟨d8,d9,c7⟩:=b1.o wr XR.o;have b3:(wr.setCell ⟨g,3,none⟩ (.bool true)).cell? ⟨g,2,none⟩=some (.int .u64 seen):=by have q:=((HB.o.ext XR.o).set 3 (.bool true)).cell 2;simpa using q
     have f3:(wr.setCell ⟨g,3,none⟩ (.bool true)).frozen? ⟨g,2,none⟩=false:=((HB.o.ext XR.o).set 3 (.bool true)).free 2;have l3:g<(wr.setCell ⟨g,3,none⟩ (.bool true)).heap.size:=by simpa using c7
     have a0:H0 (Upd (λk=>k=g) w2 ((wr.setCell ⟨g,3,none⟩ (.bool true)).setCell ⟨g,2,none⟩ (.int .u64 up))):=j6 ((Upd.ext XE.o).trans I.o);have d4:g<w4.heap.size:=by have:=X2.o.size;have:=Y4.o.size;omega
     have c3:H0 (Uin ((wr.setCell ⟨g,3,none⟩ (.bool true)).setCell ⟨g,2,none⟩ (.int .u64 up)) A c (Gj C seen++R2.filter (Ck (seen+1)))):=j6 ⟨by have q:=(HP.o.own.upd I.o (λk hk e=>by have:=(HP.o.own.lt k hk).1;omega)).sl;rwa [HP.o.len]at q,λy hy=>by
      rcases AQ.1 hy with hy|hy
      ·exact a6.o _ ((Upd.ext HP.o.ext).trans I.o) y hy
      ·exact(J.o.updB a0.o (λk hk e=>by have:=(J.o.lt hk).1;have:=X1.o.size;omega)).uin.ls y (BI.1 hy).1⟩
     have d2:m<=1000000:=by omega
     go_wp2_with (first
      | (go_at_call 16;refine(mR A c m _ _ (j6 (congrArg UdS.sumV Z.o)) (j6 HP.o.len) c3 d2 (j6 λy hy=>(Y.o y hy).num) (j6 λy hy=>(Y.o y hy).lens)).mono ?_;rintro r w9 ⟨A9,m9,Q9,rfl,a1,u9,e9,x9⟩;have b2:=j6 a1;have b9:=j6 u9;have b0:=j6 e9;have X9:=j6 x9;clear a1 u9 e9 x9)
      | fail)
     go_returns;have d3:=a0.o.size;rw[HQ.o];exact⟨A9,m9,Q9,_,rfl,b2.o,b9.o.mono (AR X2.o.size d3),b0.o,b6.o.ext X9.o,rfl,(Upd.ext XR.o).trans ((I.o.mono λk _ e=>e▸b7.o).trans (Upd.ext X9.o))⟩
def qI{q:Int×List UV×Int×Hv}(gt:Nat)(t:ShM)(R:Nat->Prop)(x:Hv)(w:World)(hq:H0 (Cl t.v x=q))(h:H0 (ShR w R gt t))(ok:H0 (OkT t.v))(hx:H0 (x∈t.H))(h9:(Dr t.v.s).length<=400000)(G:H0 (Good w)) :
  C3 75 #[.pointer (some ⟨x.g,0,none⟩)] w (Js w R gt t.v q):=by
 cases he:x.ended with
 | true=>exact Yf gt t R x w hq h ok hx (.inl he)
 | false =>
  cases hb:x.begun with
  | true=>exact wO gt t R x w hq h ok hx h9 G he hb
  | false =>
   by_cases hup:t.v.up<=x.seen
   ·exact Yf gt t R x w hq h ok hx (.inr ⟨he,hb,hup⟩)
   ·exact qH gt t R x w hq h ok hx h9 G he hb (by omega)
def Lv(w0 w:World)(KS KT:Nat->Prop)(gr:Nat)(t:RTM)(v:TrV)(q:Int×List UV×Int×Hv)(e:Ending)(w':World):Prop:=∃A m c M,e=.returned (.tuple #[.slice A m c,.int .u64 q.2.2.1,.int .i64 q.1])/\m=List.length M/\Own w' w.heap.size 95 4 A m c (Ah M)/\(∀y∈M,UdR w0 y)/\M.map Ud.uv=q.2.1/\RTo w0 w KS KT gr (Ff t.ps q.2.2.2) { v with hs:=Bl v.hs q.2.2.2 } w'
section
variable{w0 w w':World}{KS KT:Nat->Prop}{gr g:Nat}{t:RTM}{v:TrV}{x:Hv}
def oB{ps:List (Nat×Hv)}(nd:((ps.map (·.2)).map Hv.g).Nodup)(hp:(g,x)∈ps):Ff ps x=ps:=by
 unfold Ff;have:∀p∈ps,(if p.2.g=x.g then (p.1,x) else p)=p:=λp hq=>by
  split
  ·rename_i h;rw[cN nd hq hp h]
  ·rfl
 rw[DZ this,List.map_id']
def Lv.nil(h:RTr w0 w KS KT gr t v)(ng:(v.hs.map Hv.g).Nodup)(hp:(g,x)∈t.ps)(xx:Ext w w')(n u:Int):Lv w0 w KS KT gr t v (n,[],u,x) (.returned (.tuple #[.slice none 0 0,.int .u64 u,.int .i64 n])) w':=by
 have hx:x∈v.hs:=by rw[<-h.hv];exact AP.2 ⟨_,hp,rfl⟩
 refine⟨none,0,0,[],rfl,rfl,Own.nil _ _ _ _,λy hy=>(nomatch hy),rfl,?_⟩;show RTo w0 w KS KT gr (Ff t.ps x) { v with hs:=Bl v.hs x } w';rw[oB (by rw[h.hv];exact ng) hp,Nb ng hx];exact RTo.stay h xx
def RTo.told{f s:Int}(h:RTr w0 w KS KT gr t v)(ng:(v.hs.map Hv.g).Nodup)(hp:(g,x)∈t.ps)(hb:Bk w g 140 (rhC gr x f s))(xx:Ext w w')(up:Int){w9:World}(y:Ext ((w'.setCell ⟨g,4,none⟩ (.bool false)).setCell ⟨g,3,none⟩ (.int .u64 up)) w9):RTo w0 w KS KT gr (Ff t.ps (Cj x up)) { v with hs:=Bl v.hs (Cj x up) } w9:=by
 have u:Upd (λk=>k=g) w w9:=(((Upd.ext xx:Upd (λk=>k=g) w w').setCell (p:=⟨g,4,none⟩) (.inl rfl) _).setCell (p:=⟨g,3,none⟩) (.inl rfl) _).trans (Upd.ext y);have b:Bk w9 g 140 (rhC gr (Cj x up) f up):=(((hb.ext xx).set 4 (.bool false)).set 3 (.int .u64 up)).ext y;exact⟨_,KS,KT,h.handle (x':=Cj x up) ng hp u rfl ⟨f,up,b,λe=>(nomatch e),λ_=>rfl⟩,rfl,λk hk=>.inl hk,u.mono λk _ hk=>.inr (hk▸(h.hk _ hp).1)⟩
end
def Uv{q:Int×List UV×Int×Hv}(w0:World)(KS KT:Nat->Prop)(gr:Nat)(t:RTM)(v:TrV)(x:Hv)(g:Nat)(w:World)(hq:H0 (Cl v x=q))(h:H0 (RTr w0 w KS KT gr t v))(ok:H0 (OkT v))(nd:H0 ((v.hs.map Hv.g).Nodup))(hp:H0 ((g,x)∈t.ps))(hc:x.ended=true\/(x.ended=false/\x.begun=false/\v.up<=x.seen)) :
  C3 83 #[.pointer (some ⟨g,0,none⟩)] w (Lv w0 w KS KT gr t v q):=by
 have⟨up,hu⟩:=tz v.up;have i:=j6 (Gy (n:=up) w0 KS KT gr t v w (j6 hu) h ok);have d:H0 (∀n u w',Ext w w'->Lv w0 w KS KT gr t v (n,[],u,x) (.returned (.tuple #[.slice none 0 0,.int .u64 u,.int .i64 n])) w'):=j6 (λn u w' xx=>Lv.nil h.o nd.o hp.o xx n u);have⟨f,s,b,hf,_⟩:=h.o.hs _ hp.o;have a:=hq.o;unfold Cl at a;rw[hu]at a hc;rcases hc with hc|⟨hc1,hc2,hc3⟩
 ·rw[if_pos hc]at a;subst a;have c5:w.cell? ⟨g,5,none⟩=some (.bool true):=hc▸b.cell 5;clear hu hq hf b;go_enter func83,ntmps83;go_wp2;go_returns;exact d.o _ _ _ (Ext.refl _)
 ·rw[if_neg (by rw[hc1];decide),if_pos ⟨hc2,hc3⟩]at a;subst a;obtain rfl:=hf hc2;have⟨sx,c⟩:=tz x.seen;have HB:=j6 b;have c0:w.cell? ⟨g,0,none⟩=some (.pointer (some ⟨gr,0,none⟩)):=b.cell 0;have c2:w.cell? ⟨g,2,none⟩=some (.int .u64 sx):=c▸b.cell 2;have c4:w.cell? ⟨g,4,none⟩=some (.bool true):=by have q:w.cell? ⟨g,4,none⟩=some (.bool (!x.begun)):=b.cell 4;rw[hc2]at q;exact q
  have c5:w.cell? ⟨g,5,none⟩=some (.bool false):=hc1▸b.cell 5;rw[c]at hc3;have e:=j6 c;clear hu hq b hf c;go_enter func83,ntmps83
  go_upto_region 5 with (first
   | (go_at_call 90;refine i.o.mono ?_;rintro r w1 ⟨rfl,rfl⟩)
   | fail)
  clear c2 c4 c5 c0;have XD:Ext w w.drew:=(Ext.refl w).drew;have Q2:∀y:Xt w.drew,y.W.cell? ⟨g,2,none⟩=some (.int .u64 sx):=λy=>by have:=(HB.o.ext (XD.trans y.x)).cell 2;rw[<-e.o];exact this
  refine wro [0,1,3,7,0,31,63] (.flo [0,1,2,3,4,5,6] (.fin)) ?_
  (refine Aa (pks rfl) ?_;(repeat (go_big_quiet_step (fail)));refine oq ?_)
  refine Ad ?_;go_wp2;go_returns;rw[e.o];have k:=d.o 0 x.seen _ XD;rw[e.o]at k;exact k
def oG{q:Int×List UV×Int×Hv}(w0:World)(KS KT:Nat->Prop)(gr:Nat)(t:RTM)(v:TrV)(x:Hv)(g:Nat)(w:World)(hq:H0 (Cl v x=q))(h:H0 (RTr w0 w KS KT gr t v))(ok:H0 (OkT v))(nd:H0 ((v.hs.map Hv.g).Nodup))(hp:H0 ((g,x)∈t.ps))(h9:(Dr v.s).length<=400000)(he:x.ended=false)(hbg:x.begun=true) :
  C3 83 #[.pointer (some ⟨g,0,none⟩)] w (Lv w0 w KS KT gr t v q):=by
 have hx:x∈v.hs:=by rw[<-h.o.hv];exact AP.2 ⟨_,hp.o,rfl⟩
 have j:=ok.o.hs x hx;have R:=Sr ok.o;have⟨up,hu⟩:=tz v.up;have b0:=j6 (Gy (n:=up) w0 KS KT gr t v w (j6 hu) h ok);rw[hu]at R;have⟨f,s,hb,hf,hs⟩:=h.o.hs _ hp.o;have HT:H0 (∀w' w9,Ext w w'->Ext ((w'.setCell ⟨g,4,none⟩ (.bool false)).setCell ⟨g,3,none⟩ (.int .u64 up)) w9->RTo w0 w KS KT gr (Ff t.ps (Cj x up)) { v with hs:=Bl v.hs (Cj x up) } w9):=j6 (λw' w9 xx y=>RTo.told h.o nd.o hp.o hb xx up y);have HQ:H0 (q=(0,UdS.sumV (Kk (Dr v.s) true x.seen),up,Cj x up)):=j6 (by
  rw[<-hq.o];unfold Cl;rw[hu,he,hbg,if_neg Bool.false_ne_true,if_neg (λe=>Bool.noConfusion e.1)])
 have C:=j6 (Mc (b:=true) ok.o.ok (e:=x.seen) ⟨DJ j.1.1 j.1.2.1,j.1.2.2⟩);have⟨gs,F⟩:=tz t.gs;have S:H0 (∀W,Ext w W->W.cell? ⟨gr,0,none⟩=some (.pointer (some ⟨gs,0,none⟩))):=j6 (λW x=>F▸(h.o.bk.ext x).cell 0);have HS:H0 (RSR w0 w KS gs t.q):=j6 (F▸h.o.rs);have HV:H0 (Dr t.q.v=Dr v.s):=j6 (by rw[h.o.qv]);have a3:H0 (OkV t.q.v):=j6 (by rw[h.o.qv];exact ok.o.ok);have⟨seen,B⟩:=tz x.seen;obtain rfl:seen=s:=((hs hbg).trans B).symm;have c5:0<=seen/\seen<=18446744073709551615:=by rw[<-B];exact⟨DJ j.1.1 j.1.2.1,j.1.2.2⟩
 have⟨V,hV⟩:=tz (Dr v.s);rw[hV]at HQ C HV h9;rw[B]at HQ C;have b8:=Sg V true seen;have HB:=j6 hb;have CH:H0 (∀W,Ext w W->W.cell? ⟨g,0,none⟩=some (.pointer (some ⟨gr,0,none⟩))/\W.cell? ⟨g,2,none⟩=some (.int .u64 f)/\W.cell? ⟨g,3,none⟩=some (.int .u64 seen)/\W.cell? ⟨g,4,none⟩=some (.bool false)/\W.cell? ⟨g,5,none⟩=some (.bool false)):=j6 (λW xx=>by
  have b:=hb.ext xx;exact⟨b.cell 0,b.cell 2,b.cell 3,by have q:W.cell? ⟨g,4,none⟩=some (.bool (!x.begun)):=b.cell 4;rw[hbg]at q;exact q,by have q:W.cell? ⟨g,5,none⟩=some (.bool x.ended):=b.cell 5;rw[he]at q;exact q⟩)
 have K:H0 (∀W,Ext w W->W.frozen? ⟨g,3,none⟩=false/\W.frozen? ⟨g,4,none⟩=false/\g<W.heap.size):=j6 (λW xx=>⟨(hb.ext xx).free 3,(hb.ext xx).free 4,(hb.ext xx).lt⟩);have⟨k0,k2,k3,k4,k5⟩:=CH.o w (Ext.refl _);have b6:=S.o w (Ext.refl _);have X0:=j6 h.o.rs.b.ex;have Y:H0 (w0.heap.size<=g):=j6 (h.o.hk _ hp.o).2;clear hb hu hq F hV j B hf hs he hbg;have m1:=TI;go_enter func83,ntmps83;go_wp2_with (first
  | (go_at_call 90;clear m1;refine b0.o.mono ?_;rintro r w1 ⟨rfl,rfl⟩;have m2:=TI)
  | (go_at_call 63;clear m2;refine(Uw (V:=V) w0 gs t.q KS _ HV HS a3).mono ?_;rintro r w2 ⟨A2,n2,c2,R2,rfl,h2,o2,u2,e2,x2⟩;have O:=j6 h2;have b7:=j6 o2;have a4:=j6 u2;have a7:H0 (Uin w2 A2 c2 R2):=j6 ⟨(by rw[<-h2];exact o2.sl),λy hy=>(u2 y hy).ext (X0.o.trans x2)⟩;have T:=j6 e2;have X2:=j6 x2;have c4:n2<=400000:=(by rw[h2];have a:=congrArg List.length e2;rw[AN]at a;omega);have⟨j0,j2,j3,j4,j5⟩:=CH.o w2 x2;clear h2 o2 u2 e2 x2 k0 k2 k3 k4 k5 b6;have m3:=TI)
  | fail)
 clear j0 j2 j3 j4 j5
 go_loopg [6,10] n2 (λz u v wr=>∃(i m c:Nat) (A:Option Addr),z=n2-i/\i<=n2/\m<=0+i/\u=.slice A m c/\v=.int .i64 i/\H0 (NxI w2 wr ([]++(R2.take i).filter (Ck seen)) A m c))
 case atStart=>exact⟨0,_,_,_,rfl,AG _,by omega,rfl,rfl,j6 ⟨rfl,Own.nil _ _ _ _,Ext.refl _⟩⟩
 case round =>
  obtain⟨i,m,c,A,rfl,hi,hm,rfl,rfl,HP⟩:=hrel;have XE:H0 (Ext w2 wr):=j6 (HP.o.ext);have⟨j0,j2,j3,j4,j5⟩:=CH.o wr (X2.o.trans XE.o);by_cases hlt:i<n2
  ·have G:i<R2.length:=by rw[<-O.o];exact hlt
   obtain⟨ad,rfl,p0,p1,p2,p3⟩:=(a7.o.ext XE.o).at G;have⟨y,hy⟩:=tz (R2.getD i Ud.zero);rw[hy]at p0 p1 p2 p3;have⟨ny,H⟩:=E9 y.l.length;have⟨ty,I⟩:=E9 y.t.l.length;rw[<-H]at p0;rw[<-I]at p2;have a1:=j6 H;have a5:=j6 I;have HY:=j6 hy;have L:=j6 G;have XA:H0 (Ext wr (wr.alloc (.cells #[.slice y.A ny y.c,.int .u64 y.t.e,.slice y.t.A ty y.t.c,.int .i64 y.d] 95))):=j6 ((Ext.refl wr).alloc _);clear G H I hy;by_cases hfe:seen<=y.t.e
   ·have hz:=HP.o.ext.size;have X:H0 (seen<=y.t.e):=j6 (by omega);go_wp2_with (first
     | (at_builtin;refine Ab _ Ao w2.heap.size _ _ rfl rfl A m c (Ah ([]++(R2.take i).filter (Ck seen))) rfl (HP.o.own.ext XA.o) (some ⟨wr.heap.size,0,none⟩) 1 1 [.slice y.A ny y.c,.int .u64 y.t.e,.slice y.t.A ty y.t.c,.int .i64 y.d] rfl (by have q:=Sl.one wr #[.slice y.A ny y.c,.int .u64 y.t.e,.slice y.t.A ty y.t.c,.int .i64 y.d] 95 4 rfl;simpa using q) (by intro u hu;simp at hu;rcases hu with rfl|rfl|rfl|rfl<;>rfl) (by omega) (by decide) (by simp;omega) ?_;intro A6 c6 w6 o6 g6 h6;clear h6;have E:H0 (NxI w2 w6 ([]++(R2.take (i+1)).filter (Ck seen)) A6 (m+1) c6):=j6 (by rw[Eh L.o HY.o,if_pos X.o,<-AK];exact HP.o.more XA.o (by have q:=o6;rw[a1.o,a5.o]at q;exact q) g6);clear o6 g6)
     | fail)
    go_roundg (n2-(i+1))
    case measure=>omega
    case rel=>exact⟨i+1,m+1,c6,A6,by omega,by omega,by omega,rfl,by go_num,E⟩
   ·have E:H0 (NxI w2 wr ([]++(R2.take (i+1)).filter (Ck seen)) A m c):=j6 (by rw[Eh L.o HY.o,if_neg (by omega),AV];exact HP.o);go_wp2
    go_roundg (n2-(i+1))
    case measure=>omega
    case rel=>exact⟨i+1,m,c,A,by omega,by omega,by omega,rfl,by go_num,E⟩
  ·obtain rfl:i=n2:=by omega
   have Q:R2.take i=R2:=AW (by rw[<-O.o];exact AD _);rw[Q]at HP;have N:H0 (([]++R2.filter (Ck seen)).map Ud.uv=Kk V true seen):=j6 (by rw[BD,Pn,T.o];rfl);have D:H0 (∀y∈[]++R2.filter (Ck seen),InU y):=j6 (Lz N.o C.o);have M:H0 (∀y∈[]++R2.filter (Ck seen),UdR w0 y):=j6 (λy hy=>by
    rcases AQ.1 hy with hy|hy
    ·exact(nomatch hy)
    ·exact a4.o y (BI.1 hy).1)
   have XR:H0 (Ext w wr):=j6 (X2.o.trans XE.o);have⟨b9,c0,c3⟩:=K.o wr XR.o;have⟨wz,J⟩:=E9 ((wr.setCell ⟨g,4,none⟩ (.bool false)).setCell ⟨g,3,none⟩ (.int .u64 up));have UZ:H0 (Upd (λk=>k=g) wr wz):=j6 (by rw[J];exact((Upd.refl (λk=>k=g) wr).setCell (p:=⟨g,4,none⟩) (.inl rfl) _).setCell (p:=⟨g,3,none⟩) (.inl rfl) _);have a6:H0 (∀w9,Ext wz w9->RTo w0 w KS KT gr (Ff t.ps (Cj x up)) { v with hs:=Bl v.hs (Cj x up) } w9):=j6 (λw9 y=>HT.o wr w9 XR.o (J▸y));have Z:H0 (g<w2.heap.size):=j6 (by have:=(K.o w (Ext.refl _)).2.2;have:=X2.o.size;omega);have b1:H0 (Ext w0 wz):=j6 (Hj (X0.o.trans XR.o) UZ.o λk hk=>hk▸Y.o);have a9:H0 (Uin wz A c ([]++R2.filter (Ck seen))):=j6 ⟨by
    have q:=HP.o.own.upd UZ.o (λk hk e=>by have:=(HP.o.own.lt k hk).1;have:=Z.o;omega);rw[<-HP.o.len];exact q.sl,λy hy=>(M.o y hy).ext b1.o⟩
   have b2:m<=1000000:=by omega
   have b3:(wr.setCell ⟨g,4,none⟩ (.bool false)).frozen? ⟨g,3,none⟩=false:=((HB.o.ext XR.o).set 4 (.bool false)).free 3;have b4:(wr.setCell ⟨g,4,none⟩ (.bool false)).cell? ⟨g,3,none⟩=some (.int .u64 seen):=((HB.o.ext XR.o).set 4 (.bool false)).cell 3;go_wp2_with (first
    | (go_at_call 24;rw[<-J];refine(In A c m _ _ (j6 (congrArg UdS.sumV N.o)) (j6 HP.o.len) a9 b2 (j6 λy hy=>(D.o y hy).num) (j6 λy hy=>⟨(D.o y hy).tu,AR (D.o y hy).tn (by decide)⟩)).mono ?_;rintro r w9 ⟨A9,m9,c9,Q9,rfl,P,o9,u9,e9,x9⟩;have a0:=j6 P;have a2:=j6 o9;have a8:=j6 u9;have U:=j6 e9;have X9:=j6 x9;clear P o9 u9 e9 x9)
    | fail)
   go_returns;have b5:=UZ.o.size;rw[HQ.o];exact⟨A9,m9,c9,Q9,rfl,a0.o,a2.o.mono (AR XR.o.size b5),λy hy=>(by have⟨z,hz,q⟩:=a8.o y hy;exact q.udr (M.o z hz)),U.o,a6.o w9 X9.o⟩
def jD{q:Int×List UV×Int×Hv}(w0:World)(KS KT:Nat->Prop)(gr:Nat)(t:RTM)(v:TrV)(x:Hv)(g:Nat)(w:World)(hq:H0 (Cl v x=q))(h:H0 (RTr w0 w KS KT gr t v))(ok:H0 (OkT v))(nd:H0 ((v.hs.map Hv.g).Nodup))(hp:H0 ((g,x)∈t.ps))(h9:(Dr v.s).length<=400000)(he:x.ended=false)(hbg:x.begun=false)(hup:x.seen<v.up) :
  C3 83 #[.pointer (some ⟨g,0,none⟩)] w (Lv w0 w KS KT gr t v q):=by
 have hx:x∈v.hs:=by rw[<-h.o.hv];exact AP.2 ⟨_,hp.o,rfl⟩
 have B:=ok.o.hs x hx;have a4:=Sr ok.o;have⟨up,hu⟩:=tz v.up;have c5:=j6 (Gy (n:=up) w0 KS KT gr t v w (j6 hu) h ok);rw[hu]at a4;have⟨f,s,hb,hf,hs⟩:=h.o.hs _ hp.o;have HT:H0 (∀w' w9,Ext w w'->Ext ((w'.setCell ⟨g,4,none⟩ (.bool false)).setCell ⟨g,3,none⟩ (.int .u64 up)) w9->RTo w0 w KS KT gr (Ff t.ps (Cj x up)) { v with hs:=Bl v.hs (Cj x up) } w9):=j6 (λw' w9 xx y=>RTo.told h.o nd.o hp.o hb xx up y);have HQ:H0 (q=(0,UdS.sumV (Kk (Dr v.s) false x.seen),up,Cj x up)):=j6 (by
  rw[<-hq.o];unfold Cl;rw[hu,he,hbg,if_neg Bool.false_ne_true,if_neg (λe=>by have:=e.2;rw[hu]at hup;omega)])
 have I:=j6 (Mc (b:=false) ok.o.ok (e:=x.seen) ⟨DJ B.1.1 B.1.2.1,B.1.2.2⟩);have⟨gs,N⟩:=tz t.gs;have a5:H0 (∀W,Ext w W->W.cell? ⟨gr,0,none⟩=some (.pointer (some ⟨gs,0,none⟩))):=j6 (λW x=>N▸(h.o.bk.ext x).cell 0);have HS:H0 (RSR w0 w KS gs t.q):=j6 (N▸h.o.rs);have HV:H0 (Dr t.q.v=Dr v.s):=j6 (by rw[h.o.qv]);have b6:H0 (OkV t.q.v):=j6 (by rw[h.o.qv];exact ok.o.ok);have⟨seen,F⟩:=tz x.seen;obtain rfl:seen=f:=((hf hbg).trans F).symm;have d4:seen<up:=by rw[<-F,<-hu];exact hup
 clear hup;have e5:0<=seen/\seen<=18446744073709551615:=by rw[<-F];exact⟨DJ B.1.1 B.1.2.1,B.1.2.2⟩
 have⟨V,hV⟩:=tz (Dr v.s);rw[hV]at HQ I HV h9;rw[F]at HQ I;have d6:=Sg V false seen;have HB:=j6 hb;have CH:H0 (∀W,Ext w W->W.cell? ⟨g,0,none⟩=some (.pointer (some ⟨gr,0,none⟩))/\W.cell? ⟨g,2,none⟩=some (.int .u64 seen)/\W.cell? ⟨g,3,none⟩=some (.int .u64 s)/\W.cell? ⟨g,4,none⟩=some (.bool true)/\W.cell? ⟨g,5,none⟩=some (.bool false)):=j6 (λW xx=>by
  have b:=hb.ext xx;exact⟨b.cell 0,b.cell 2,b.cell 3,by have q:W.cell? ⟨g,4,none⟩=some (.bool (!x.begun)):=b.cell 4;rw[hbg]at q;exact q,by have q:W.cell? ⟨g,5,none⟩=some (.bool x.ended):=b.cell 5;rw[he]at q;exact q⟩)
 have R:H0 (∀W,Ext w W->W.frozen? ⟨g,3,none⟩=false/\W.frozen? ⟨g,4,none⟩=false/\g<W.heap.size):=j6 (λW xx=>⟨(hb.ext xx).free 3,(hb.ext xx).free 4,(hb.ext xx).lt⟩);have⟨k0,k2,k3,k4,k5⟩:=CH.o w (Ext.refl _);have d3:=a5.o w (Ext.refl _);have X0:=j6 h.o.rs.b.ex;have b0:H0 (w0.heap.size<=g):=j6 (h.o.hk _ hp.o).2;clear hb hu hq N hV B F hf hs he hbg;have m1:=TI;go_enter func83,ntmps83;go_wp2_with (first
  | (go_at_call 90;clear m1;refine c5.o.mono ?_;rintro r w1 ⟨rfl,rfl⟩;have m2:=TI)
  | (go_at_call 63;clear m2;refine(Uw (V:=V) w0 gs t.q KS _ HV HS b6).mono ?_;rintro r w2 ⟨A2,n2,c2,R2,rfl,h2,o2,u2,e2,x2⟩;have K:=j6 h2;have d5:=j6 o2;have X:=j6 u2;have Y:H0 (Uin w2 A2 c2 R2):=j6 ⟨(by rw[<-h2];exact o2.sl),λy hy=>(u2 y hy).ext (X0.o.trans x2)⟩;have Q:=j6 e2;have X2:=j6 x2;have e1:n2<=400000:=(by rw[h2];have a:=congrArg List.length e2;rw[AN]at a;omega);have⟨j0,j2,j3,j4,j5⟩:=CH.o w2 x2;clear h2 o2 u2 e2 x2 k0 k2 k3 k4 k5 d3;have m3:=TI)
  | (go_at_call 177;clear m3;refine(Oh seen _).mono ?_;rintro r w3 ⟨rfl,x3⟩;have X3:=j6 (X2.o.trans x3);replace x3:=j6 x3;have m4:=TI)
  | (go_at_call 26;clear m4;refine(Ri (U:=sumV (atV V (seen,[]))) A2 c2 n2 R2 seen none 0 0 [] _ (j6 (by rw[Q.o])) K (j6 (Y.o.ext x3.o)) (by omega) (j6 (Sl.nil _ _))).mono ?_;rintro r w4 ⟨A4,n4,c4,C,rfl,h4,o4,q4,e4,x4⟩;have L:=j6 h4;have X4:=j6 (X3.o.trans x4);have Y4:=j6 (x3.o.trans x4);have a6:H0 (Sl w4 2 A4 n4 c4 (Az C)):=j6 (by rw[h4];have:=o4.sl;rwa [h4]at this);have b7:H0 (∀y∈C,Rw w0 y.A y.c y.l):=j6 (λy hy=>(by have⟨z,hz,q1,q2,q3⟩:=q4 y hy;rw[q1,q2,q3];exact(X.o z hz).r));have a7:H0 (C.map Al=sumV (atV V (seen,[]))):=j6 e4;have e3:n4<=400000:=(by rw[h4];have a:=congrArg List.length e4;rw[AN]at a;have b:=(AR (DB _ _) (Ju (atV V (seen,[]))):(sumV (atV V (seen,[]))).length<=_);have d:(atV V (seen,[])).length<=V.length:=(by unfold atV;rw[AN];exact DB _ _);omega);have e8:=x4.size;have e7:=x3.o.size;have e6:=X2.o.size;clear h4 o4 q4 e4 x4)
  | fail)
 have a2:H0 (∀y∈Gj C seen,UdR w0 y):=j6 (λy hy=>by
  obtain⟨z,hz,rfl⟩:=AP.1 hy;exact⟨b7.o z hz,Sl.nil _ _⟩)
 clear j0 j2 j3 j4 j5
 go_loopg [6,9] n4 (λz u v wr=>∃(i m c:Nat) (A:Option Addr),z=n4-i/\i<=n4/\m<=i/\u=.slice A m c/\v=.int .i64 i/\H0 (NxI w4 wr (Gj (C.take i) seen) A m c))
 case atStart=>exact⟨0,0,0,none,rfl,AG _,AD _,rfl,rfl,j6 ⟨rfl,Own.nil _ _ _ _,Ext.refl _⟩⟩
 case round =>
  obtain⟨i,m,c,A,rfl,hi,e0,rfl,rfl,HP⟩:=hrel;by_cases hlt:i<n4
  ·have D:i<C.length:=by rw[<-L.o];exact hlt
   have H:H0 (Sl wr 2 A4 n4 c4 (Az C)):=j6 (a6.o.ext HP.o.ext);have⟨y,hy⟩:=tz (C.getD i Ct.zero);obtain⟨ad,rfl,p0,p1⟩:=a1k H.o hlt L.o hy;have⟨ny,j⟩:=E9 y.l.length;rw[<-j]at p0;have M:=j6 j;have HY:=j6 hy;have G:=j6 D;clear D j hy;have hz:=HP.o.ext.size
   go_upto_region 13 with fail
   have XD:Ext wr wr.drew:=(Ext.refl wr).drew;have c7:H0 (Ext w wr):=j6 (X4.o.trans HP.o.ext);have Q0:∀z:Xt wr.drew,z.W.cell? (ad.add (i*2))=some (.slice y.A ny y.c):=λz=>(XD.trans z.x).cell p0;have Q1:∀z:Xt wr.drew,z.W.cell? ⟨(ad.add (i*2)).block,(ad.add (i*2)).off+1,none⟩=some (.int .i64 y.k):=λz=>(XD.trans z.x).cell p1;have Q2:∀z:Xt wr.drew,z.W.cell? ⟨g,2,none⟩=some (.int .u64 seen):=λz=>(CH.o _ (c7.o.trans (XD.trans z.x))).2.1;refine wro [0,0,0,6,14,30,0,64,192,448,960,0,0,6144,14336,30720,65534,131070,262143,524287] (.pur [0] (.flo [1,2,3,4,5,6,7,8,9,11,12,13,14,15] (.ext 10 (.flo [16] (.one 17 (.one 18 (.flo [19] (.fin)))))))) ?_
   (refine Bi (pks rfl) ?_;(repeat (go_big_quiet_step (fail)));refine oq ?_)
   (refine Aa (pks rfl) ?_;(repeat (go_big_quiet_step (fail)));refine oq ?_)
   refine Ar (pks rfl) ?_;intro K_ a0;go_wp2_with (go_at_call 177;refine(Oh seen _).mono ?_;rintro r w7 ⟨rfl,x7⟩;have X7:=j6 (XD.trans x7);replace x7:=j6 x7)
   refine An.mk x7.o ?_
   (refine Aa (pks rfl) ?_;(repeat (go_big_quiet_step (fail)));refine oq ?_)
   refine Ac (pks rfl) ?_;intro K_ a0;clear Q0 Q1 Q2 XD p0 p1;go_wp2;refine Ac (pks rfl) ?_;intro K_ a0;have XA:H0 (Ext wr (w7.alloc (.cells #[.slice y.A ny y.c,.int .u64 seen,.slice none 0 0,.int .i64 y.k] 95))):=j6 (X7.o.alloc _);have f0:=X7.o.size;go_wp2_with (first
    | (at_builtin;refine Ab _ Ao w4.heap.size _ _ rfl rfl A m c (Ah (Gj (C.take i) seen)) rfl (HP.o.own.ext XA.o) (some ⟨w7.heap.size,0,none⟩) 1 1 [.slice y.A ny y.c,.int .u64 seen,.slice none 0 0,.int .i64 y.k] rfl (by have q:=Sl.one w7 #[.slice y.A ny y.c,.int .u64 seen,.slice none 0 0,.int .i64 y.k] 95 4 rfl;simpa using q) (by intro u hu;simp at hu;rcases hu with rfl|rfl|rfl|rfl<;>rfl) (by omega) (by decide) (by simp;omega) ?_;intro A6 c6 w6 o6 g6 h6;clear h6;have E:H0 (NxI w4 w6 (Gj (C.take (i+1)) seen) A6 (m+1) c6):=j6 (by rw[Ys G.o HY.o];exact HP.o.more XA.o (by have q:=o6;rw[M.o]at q;exact q) g6);clear o6 g6)
    | fail)
   go_simp
   (refine Aa (pks rfl) ?_;(repeat (go_big_quiet_step (fail)));refine oq ?_)
   refine Ad ?_;go_wp2
   go_roundg (n4-(i+1))
   case measure=>omega
   case rel=>exact⟨i+1,m+1,c6,A6,by omega,by omega,by omega,rfl,by go_num,E⟩
  ·have d0:H0 (i=n4):=j6 (by omega);have H:C.take i=C:=AW (by rw[<-L.o];have:=d0.o;omega);rw[H]at HP;obtain⟨wo,a1⟩:∃wo:World,wo=wr:=⟨_,rfl⟩;rw[<-a1]at HP ⊢;clear a1;go_wp2
   go_loopg [6,10] n2 (λz u v wr=>∃(i m c:Nat) (A:Option Addr),z=n2-i/\i<=n2/\m<=n4+i/\u=.slice A m c/\v=.int .i64 i/\H0 (NxI w4 wr (Gj C seen++(R2.take i).filter (Ck (seen+1))) A m c))
   case atStart=>exact⟨0,_,_,_,rfl,AG _,by omega,rfl,rfl,j6 (by simpa using HP.o)⟩
   case round =>
    obtain⟨i,m,c,A,rfl,hi,hm,rfl,rfl,HP⟩:=hrel;have XE:H0 (Ext w2 wr):=j6 ((Y4.o.trans HP.o.ext));have⟨j0,j2,j3,j4,j5⟩:=CH.o wr (X2.o.trans XE.o);by_cases hlt:i<n2
    ·have D:i<R2.length:=by rw[<-K.o];exact hlt
     obtain⟨ad,rfl,p0,p1,p2,p3⟩:=(Y.o.ext XE.o).at D;have⟨y,hy⟩:=tz (R2.getD i Ud.zero);rw[hy]at p0 p1 p2 p3;have⟨ny,j⟩:=E9 y.l.length;have⟨ty,O⟩:=E9 y.t.l.length;rw[<-j]at p0;rw[<-O]at p2;have M:=j6 j;have b8:=j6 O;have HY:=j6 hy;have G:=j6 D;have XA:H0 (Ext wr (wr.alloc (.cells #[.slice y.A ny y.c,.int .u64 y.t.e,.slice y.t.A ty y.t.c,.int .i64 y.d] 95))):=j6 ((Ext.refl wr).alloc _);clear D j O hy;by_cases hfe:seen<y.t.e
     ·have hz:=HP.o.ext.size;have a9:H0 ((seen+1)<=y.t.e):=j6 (by omega);go_wp2_with (first
       | (at_builtin;refine Ab _ Ao w4.heap.size _ _ rfl rfl A m c (Ah (Gj C seen++(R2.take i).filter (Ck (seen+1)))) rfl (HP.o.own.ext XA.o) (some ⟨wr.heap.size,0,none⟩) 1 1 [.slice y.A ny y.c,.int .u64 y.t.e,.slice y.t.A ty y.t.c,.int .i64 y.d] rfl (by have q:=Sl.one wr #[.slice y.A ny y.c,.int .u64 y.t.e,.slice y.t.A ty y.t.c,.int .i64 y.d] 95 4 rfl;simpa using q) (by intro u hu;simp at hu;rcases hu with rfl|rfl|rfl|rfl<;>rfl) (by omega) (by decide) (by simp;omega) ?_;intro A6 c6 w6 o6 g6 h6;clear h6;have E:H0 (NxI w4 w6 (Gj C seen++(R2.take (i+1)).filter (Ck (seen+1))) A6 (m+1) c6):=j6 (by rw[Eh G.o HY.o,if_pos a9.o,<-AK];exact HP.o.more XA.o (by have q:=o6;rw[M.o,b8.o]at q;exact q) g6);clear o6 g6)
       | fail)
      go_roundg (n2-(i+1))
      case measure=>omega
      case rel=>exact⟨i+1,m+1,c6,A6,by omega,by omega,by omega,rfl,by go_num,E⟩
     ·have E:H0 (NxI w4 wr (Gj C seen++(R2.take (i+1)).filter (Ck (seen+1))) A m c):=j6 (by rw[Eh G.o HY.o,if_neg (by omega),AV];exact HP.o);go_wp2
      go_roundg (n2-(i+1))
      case measure=>omega
      case rel=>exact⟨i+1,m,c,A,by omega,by omega,by omega,rfl,by go_num,E⟩
    ·obtain rfl:i=n2:=by omega
     have a3:R2.take i=R2:=AW (by rw[<-K.o];exact AD _);rw[a3]at HP;have T:H0 ((Gj C seen++R2.filter (Ck (seen+1))).map Ud.uv=Kk V false seen):=j6 (by rw[AI,eJ,a7.o,Pn,Q.o];rfl);have J:H0 (∀y∈Gj C seen++R2.filter (Ck (seen+1)),InU y):=j6 (Lz T.o I.o);have S:H0 (∀y∈Gj C seen++R2.filter (Ck (seen+1)),UdR w0 y):=j6 (λy hy=>by
      rcases AQ.1 hy with hy|hy
      ·exact a2.o y hy
      ·exact X.o y (BI.1 hy).1)
     have XR:H0 (Ext w wr):=j6 (X2.o.trans XE.o);have⟨d7,d8,d9⟩:=R.o wr XR.o;have⟨wz,P⟩:=E9 ((wr.setCell ⟨g,4,none⟩ (.bool false)).setCell ⟨g,3,none⟩ (.int .u64 up));have UZ:H0 (Upd (λk=>k=g) wr wz):=j6 (by rw[P];exact((Upd.refl (λk=>k=g) wr).setCell (p:=⟨g,4,none⟩) (.inl rfl) _).setCell (p:=⟨g,3,none⟩) (.inl rfl) _);have b9:H0 (∀w9,Ext wz w9->RTo w0 w KS KT gr (Ff t.ps (Cj x up)) { v with hs:=Bl v.hs (Cj x up) } w9):=j6 (λw9 y=>HT.o wr w9 XR.o (P▸y));have b1:H0 (g<w4.heap.size):=j6 (by have:=(R.o w (Ext.refl _)).2.2;have:=X2.o.size;have:=Y4.o.size;omega);have c8:H0 (Ext w0 wz):=j6 (Hj (X0.o.trans XR.o) UZ.o λk hk=>hk▸b0.o);have c3:H0 (Uin wz A c (Gj C seen++R2.filter (Ck (seen+1)))):=j6 ⟨by
      have q:=HP.o.own.upd UZ.o (λk hk e=>by have:=(HP.o.own.lt k hk).1;have:=b1.o;omega);rw[<-HP.o.len];exact q.sl,λy hy=>(S.o y hy).ext c8.o⟩
     have d1:m<=1000000:=by omega
     have b3:(wr.setCell ⟨g,4,none⟩ (.bool false)).frozen? ⟨g,3,none⟩=false:=((HB.o.ext XR.o).set 4 (.bool false)).free 3;have b4:(wr.setCell ⟨g,4,none⟩ (.bool false)).cell? ⟨g,3,none⟩=some (.int .u64 s):=((HB.o.ext XR.o).set 4 (.bool false)).cell 3;go_wp2_with (first
      | (go_at_call 24;rw[<-P];refine(In A c m _ _ (j6 (congrArg UdS.sumV T.o)) (j6 HP.o.len) c3 d1 (j6 λy hy=>(J.o y hy).num) (j6 λy hy=>⟨(J.o y hy).tu,AR (J.o y hy).tn (by decide)⟩)).mono ?_;rintro r w9 ⟨A9,m9,c9,Q9,rfl,Z,o9,u9,e9,x9⟩;have b2:=j6 Z;have b5:=j6 o9;have c0:=j6 u9;have a8:=j6 e9;have X9:=j6 x9;clear Z o9 u9 e9 x9)
      | fail)
     go_returns;have d2:=UZ.o.size;rw[HQ.o];exact⟨A9,m9,c9,Q9,rfl,b2.o,b5.o.mono (AR XR.o.size d2),λy hy=>(by have⟨z,hz,q⟩:=c0.o y hy;exact q.udr (S.o z hz)),a8.o,b9.o w9 X9.o⟩
def jE{q:Int×List UV×Int×Hv}(w0:World)(KS KT:Nat->Prop)(gr:Nat)(t:RTM)(v:TrV)(x:Hv)(g:Nat)(w:World)(hq:H0 (Cl v x=q))(h:H0 (RTr w0 w KS KT gr t v))(ok:H0 (OkT v))(nd:H0 ((v.hs.map Hv.g).Nodup))(hp:H0 ((g,x)∈t.ps))(h9:(Dr v.s).length<=400000) :
  C3 83 #[.pointer (some ⟨g,0,none⟩)] w (Lv w0 w KS KT gr t v q):=by
 cases he:x.ended with
 | true=>exact Uv w0 KS KT gr t v x g w hq h ok nd hp (.inl he)
 | false =>
  cases hb:x.begun with
  | true=>exact oG w0 KS KT gr t v x g w hq h ok nd hp h9 he hb
  | false =>
   by_cases hup:v.up<=x.seen
   ·exact Uv w0 KS KT gr t v x g w hq h ok nd hp (.inr ⟨he,hb,hup⟩)
   ·exact jD w0 KS KT gr t v x g w hq h ok nd hp h9 he hb (by omega)
structure Bs (t:TrV) (all:List UV) (B:Nat):Prop where
 ok:OkT t
 tl:Le t.s all B
 lt:∀u∈all,u.1.2.1<t.up
 n:all.length<=B
def iS:Bs Wb [] 0:=⟨zF,nM,λu hu=>(nomatch hu),AD _⟩
def Bs.more{t:TrV}{all:List UV}(h:Bs t all B)(k:B<=C):Bs t all C:=⟨h.ok,h.tl.up k,h.lt,AR h.n k⟩
def Bs.all_len{t:TrV}{all:List UV}(h:Bs t all B):(Dr t.s).length<=B:=by
 have k:=nO h.tl;rw[k];split
 ·exact AG _
 ·refine AR (Gu _) ?_;rw[AN];exact h.n
def a3p{s:SV}{l:List UV}{u:Int}(h:(Cd s l [(u,[])]).1=0):(Cd s l [(u,[])]).2.U=[(u,[])]/\l.any (Br s.U [(u,[])])=false/\Gq s.U [(u,[])]=true:=by
 rcases Ql s l [(u,[])]with q|⟨_,_,h3,h4,e⟩
 ·exact absurd h q.2
 ·refine⟨?_,h3,h4⟩;rw[e];exact Ta _
def Bs.ins{t:TrV}{all l:List UV}{u:Int}(h:Bs t all B)(hl:∀u∈l,Ry u)(hu:0<=u/\u<=18446744073709551615)(hB:B+l.length+1<=1000000) :
  ((Hp t l u).2=t/\(Hp t l u).1≠0)\/((Hp t l u).1=0/\Bs (Hp t l u).2 (all++l) (B+l.length+1)/\(Hp t l u).2.hs=t.hs/\t.up<=(Hp t l u).2.up/\∀x∈l,t.up<=x.1.2.1):=by
 have hX:∀x∈[((u,[]):TV)],0<=x.1/\x.1<=18446744073709551615:=λx hx=>by rw[AE.1 hx];exact hu
 rcases nN h.tl hl hX hB with ⟨q1,q2⟩|⟨q1,q2⟩
 ·refine .inl ⟨?_,q2⟩;show TrV.mk (Cd t.s l [(u,[])]).2 t.lets t.hs=t;rw[q1]
 ·have⟨e1,e2,e3⟩:=a3p q1;have⟨up,a⟩:=h.ok.U;have⟨s,hs⟩:=h.ok.S;have i:t.up=up:=by unfold TrV.up;rw[a];rfl
  have f:(Hp t l u).2.up=u:=by show Jp (Cd t.s l [(u,[])]).2.U=u;rw[e1];rfl
  have j:up<=u:=by
   rw[a]at e3;have⟨y,hy,q⟩:=Ej.1 (Kf.1 e3 (u,[]) (AE.2 rfl));rw[AE.1 hy]at q;exact((Hi _ _ _ _).1 q).2.1
  have g:∀x∈l,up<=x.1.2.1/\x.1.2.1<u:=λx hx=>by
   have q:Br t.s.U [(u,[])] x=false:=by simpa using FL.1 e2 x hx
   have hg:Db x:=q2.good x (CD _ hx);obtain⟨⟨k,e,c⟩,d⟩:=x;have hc:c=[]:=hg.2.1;subst hc;unfold Br at q;rw[Bool.or_eq_false_iff,Bool.not_eq_false',a]at q;have⟨y,hy,q1⟩:=Ej.1 q.1;rw[AE.1 hy]at q1;refine⟨((Hi _ _ _ _).1 q1).2.1,?_⟩;show e<u;by_cases hlt:e<u
   ·exact hlt
   ·have:Ak [(u,[])] (e,[])=true:=Ej.2 ⟨(u,[]),AE.2 rfl,(Hi _ _ _ _).2 ⟨rfl,by omega,λk hk=>absurd hk (DR k)⟩⟩;rw[this]at q;exact absurd q.2 (by decide)
  have hS:(Hp t l u).2.s.S=t.s.S:=by
   show(Cd t.s l [(u,[])]).2.S=t.s.S;rcases Ql t.s l [(u,[])]with q|⟨_,_,_,_,e⟩
   ·rw[q.1]
   ·rw[e]
  refine .inr ⟨q1,⟨⟨q2.ok,⟨s,hS.trans hs⟩,⟨u,e1⟩,h.ok.lets,λx hx=>?_,?_⟩,q2,λx hx=>?_,by rw[AA];have:=h.n;omega⟩,rfl,by omega,λx hx=>by rw[i];exact(g x hx).1⟩
  ·have k:=h.ok.hs x hx;exact⟨k.1,λb=>⟨(k.2 b).1,by have:=(k.2 b).2;rw[f];omega⟩⟩
  ·have k:=h.ok.low;rw[<-hS]at k;exact k
  ·rw[f];rcases AQ.1 hx with hx|hx'
   ·have:=h.lt x hx;omega
   ·exact(g x hx').2
def Bs.work{t v:TrV}{all:List UV}(h:Bs t all B)(w:rU t z r v):Bs v all B/\v.hs=t.hs/\v.up=t.up/\v.least=t.least:=by
 obtain⟨s',rfl,w⟩:=w;rcases w with ⟨rfl,_⟩|⟨n,_,_,w⟩
 ·exact⟨h,rfl,rfl,rfl⟩
 ·have k:=Xi w h.ok.ok;have hu:({ t with s:=s' }:TrV).up=t.up:=by unfold TrV.up;rw[k.U]
  have hl:({ t with s:=s' }:TrV).least=t.least:=rfl;have⟨s,hs⟩:=h.ok.S;have⟨u,hU⟩:=h.ok.U;refine⟨⟨⟨k.ok,⟨s,k.S.trans hs⟩,⟨u,k.U.trans hU⟩,h.ok.lets,λx hx=>?_,?_⟩,iR w h.tl,λx hx=>?_,h.n⟩,rfl,hu,hl⟩
  ·rw[hu];exact h.ok.hs x hx
  ·show Jp s'.S<=_;rw[k.S];exact h.ok.low
  ·rw[hu];exact h.lt x hx
def Bs.compact{t:TrV}{all:List UV}(h:Bs t all B):Bs (Aj t) all B/\(Aj t).hs=t.hs/\(Aj t).up=t.up/\(Aj t).least=t.least/\(Aj t).lets=t.lets:=by
 have⟨k1,k2,_,k4⟩:=gO h.ok;have hu:(Aj t).up=t.up:=by unfold TrV.up;rw[k4]
 refine⟨⟨k1,?_,λx hx=>by rw[hu];exact h.lt x hx,h.n⟩,rfl,hu,k2,rfl⟩;by_cases hlt:Jp t.s.S<t.least
 ·have hc:=Io h.ok hlt;have hr:=h.ok.least_in;have q:=Wl (X:=[(t.least,[])]) h.tl (λx hx=>by rw[AE.1 hx];exact hr);rw[hc]at q;exact q
 ·rw[Hn hlt];exact h.tl
def Bs.allow{t:TrV}{all:List UV}(h:Bs t all B){n:Int}(hn:n<=18446744073709551615):Bs (Fw t n).2 all B/\(Fw t n).2.hs=t.hs/\(Fw t n).2.up=t.up:=by
 unfold Fw;split
 ·exact⟨h,rfl,rfl⟩
 ·rename_i q;have k:Bs { t with lets:=n } all B:=⟨Tk h.ok (by omega) hn,h.tl,h.lt,h.n⟩;have c:=k.compact;exact⟨c.1,c.2.1,c.2.2.1⟩
def Bs.hs{t:TrV}{all:List UV}(h:Bs t all B){H:List Hv}(k:OkT { t with hs:=H }):Bs { t with hs:=H } all B:=⟨k,h.tl,h.lt,h.n⟩
def vN{t:TrV}(h:OkT t){x:Hv}(hx:x∈t.hs)(nd:(t.hs.map Hv.g).Nodup)(hlt:x.begun=true\/x.seen<t.up):OkT { t with hs:=Bl t.hs (Cj x t.up) }:=by
 have hi:=Sr h;have a:=h.hs x hx;refine⟨h.ok,h.S,h.U,h.lets,λy hy=>?_,?_⟩
 ·rcases Ga hy with rfl|⟨hy,_⟩
  ·have e:x.hold+1<=t.up:=by
    rcases hlt with hb|hb
    ·have:=a.2 hb;omega
    ·have:=a.1;omega
   exact⟨⟨a.1.1,by show x.hold<=t.up;omega,hi.2⟩,λ_=>⟨e,DX _⟩⟩
  ·exact h.hs y hy
 ·have e:({ t with hs:=Bl t.hs (Cj x t.up) }:TrV).least=t.least:=by
   show Kc t.lets (((Bl t.hs (Cj x t.up)).filter λh=>!h.ended).map Hv.hold)=Kc t.lets ((t.hs.filter λh=>!h.ended).map Hv.hold)
   congr 1
   have e0:Bl t.hs (Cj x t.up)=t.hs.map λy=>if y.g=x.g then Cj x t.up else y:=rfl
   rw[e0,EE,CO];have e1:t.hs.filter ((λh=>!h.ended) ∘ λy=>if y.g=x.g then Cj x t.up else y)=t.hs.filter λh=>!h.ended:=List.filter_congr λy hy=>by
    show(!(if y.g=x.g then Cj x t.up else y).ended)=!y.ended;split
    ·rename_i q;rw[Iq nd hy hx q];rfl
    ·rfl
   rw[e1];refine DZ λy hy=>?_;show(if y.g=x.g then Cj x t.up else y).hold=y.hold;split
   ·rename_i q;rw[Iq nd (BI.1 hy).1 hx q];rfl
   ·rfl
  rw[e];exact h.low
structure Sho (w0 w:World) (K:Nat->Prop) (g:Nat) (v:TrV) (all:List UV) (B:Nat):Prop where
 ext:Ext w0 w
 r:∃R t,ShR w R g t/\t.v=v/\∀k,R k->w0.heap.size<=k/\¬K k
 lo:∀k,K k->k<w.heap.size
 tt:Bs v all B
def Kp(w0:World)(K:Nat->Prop)(w w':World):Prop:=Upd (λk=>w0.heap.size<=k/\¬K k) w w'
section
variable{w0 w w':World}{K:Nat->Prop}{g:Nat}{v v':TrV}{all all':List UV}{B B':Nat}
def Sho.grow(h:Sho w0 w K g v all B)(x:Ext w w'):Sho w0 w' K g v all B:=by
 have⟨R,t,h1,h2,h3⟩:=h.r;exact⟨h.ext.trans x,⟨R,t,h1.ext x,h2,h3⟩,λk hk=>AZ (h.lo k hk) x.size,h.tt⟩
def Sho.more(h:Sho w0 w K g v all B)(k:B<=B'):Sho w0 w K g v all B':=⟨h.ext,h.r,h.lo,h.tt.more k⟩
def Sho.nd(h:Sho w0 w K g v all B):(v.hs.map Hv.g).Nodup:=by
 obtain⟨R,t,h1,rfl,_⟩:=h.r;exact h1.nd
def Sho.to(h:Sho w0 w K g v all B)(hl:∀k,R k->w0.heap.size<=k/\¬K k)(s:Dj w R g v' w')(tt:Bs v' all' B'):Sho w0 w' K g v' all' B'/\Kp w0 K w w':=by
 obtain⟨t',s1,s2,u⟩:=s;have z0:=h.ext.size;refine⟨⟨dT h.ext u λk hk=>(hl k hk).1,⟨_,t',s1,s2,λk hk=>hk.elim (hl k) λq=>⟨by omega,λq2=>by have:=h.lo k q2;omega⟩⟩,λk hk=>AZ (h.lo k hk) u.size,tt⟩,u.mono λk _ hk=>hl k hk⟩
end
section
variable{w0 w:World}{K:Nat->Prop}{g:Nat}{v:TrV}{all:List UV}{B:Nat}
def lQ(w0 w:World)(K:Nat->Prop)(x0:H0 (Ext w0 w))(hK:H0 (∀k,K k->k<w.heap.size)):C3 70 #[] w λe w'=>∃g,e=.returned (.pointer (some ⟨g,0,none⟩))/\Sho w0 w' K g Wb [] 0/\Ext w w':=by
 refine(nZ w).mono ?_;rintro e w' ⟨g,t,rfl,h1,h2,x⟩;have z:=x0.o.size;exact⟨g,rfl,⟨x0.o.trans x,⟨_,t,h1,h2,λk hk=>⟨by omega,λq=>by have:=hK.o k q;omega⟩⟩,λk hk=>AZ (hK.o k hk) x.size,iS⟩,x⟩
def Zl{q:Int×TrV}(AL:Option Addr)(cL n:Nat)(L:List Ud)(u:Int)(h:H0 (Sho w0 w K g v all B))(hq:H0 (Hp v (L.map Ud.uv) u=q))(hn:H0 (n=L.length))(hL:H0 (Uin w AL cL L))(hin:H0 (∀x∈L,InU x))(hu:H0 (0<=u/\u<=18446744073709551615))(hB:H0 (B+n+1<=1000000))(G:H0 (Good w)) :
  C3 71 #[.pointer (some ⟨g,0,none⟩),.slice AL n cL,.int .u64 u] w λe w'=>e=.returned (.int .u16 q.1)/\Kp w0 K w w' /\
   ((q.1≠0/\Sho w0 w' K g v all B)\/(q.1=0/\Sho w0 w' K g q.2 (all++L.map Ud.uv) (B+n+1)/\q.2.hs=v.hs/\v.up<=q.2.up/\∀x∈L.map Ud.uv,v.up<=x.1.2.1)):=by
 obtain⟨R,t,h1,rfl,h3⟩:=h.o.r;have hB:=hB.o;refine(tU g t R AL cL n L u w hq (j6 h1) (j6 h.o.tt.ok) hn hL (by omega) hin G).mono ?_;rintro e w' ⟨rfl,s⟩;have k:=h.o.tt.ins (l:=L.map Ud.uv) (u:=u) (λx hx=>by obtain⟨y,hy,rfl⟩:=AP.1 hx;exact(hin.o y hy).uv) hu.o (by rw[AN,<-hn.o];exact hB);rw[hq.o,AN,<-hn.o]at k;rcases k with ⟨k1,k2⟩|⟨k1,k2,k3,k4,k5⟩
 ·rw[k1]at s;have⟨a,b⟩:=h.o.to h3 s h.o.tt;exact⟨rfl,b,.inl ⟨k2,a⟩⟩
 ·have⟨a,b⟩:=h.o.to h3 s k2;exact⟨rfl,b,.inr ⟨k1,a,k3,k4,k5⟩⟩
def uC(z:Int)(h:H0 (Sho w0 w K g v all B))(hz:z<=9223372036854775807):C3 72 #[.pointer (some ⟨g,0,none⟩),.int .i64 z] w λe w'=>∃(r:Nat) (v':TrV),e=.returned (.int .i64 r)/\rU v z r v'/\Kp w0 K w w'/\Sho w0 w' K g v' all B/\v'.hs=v.hs/\v'.up=v.up/\v'.least=v.least:=by
 obtain⟨R,t,h1,rfl,h3⟩:=h.o.r;refine(nJ g t R z w (j6 h1) (j6 h.o.tt.ok) hz).mono ?_;rintro e w' ⟨r,v',rfl,k,_,s⟩;have⟨c1,c2,c3,c4⟩:=h.o.tt.work k;have⟨a,b⟩:=h.o.to h3 s c1;exact⟨r,v',rfl,k,b,a,c2,c3,c4⟩
def Na(n:Int)(hn:H0 (v.least=n))(h:H0 (Sho w0 w K g v all B)):C3 87 #[.pointer (some ⟨g,0,none⟩)] w λe w'=>e=.returned (.int .u64 n)/\Ext w w':=by
 obtain⟨R,t,h1,rfl,_⟩:=h.o.r;exact hn.o▸iN g t R w (j6 h1)
def Xp(n:Int)(hn:H0 (v.up=n))(h:H0 (Sho w0 w K g v all B)):C3 89 #[.pointer (some ⟨g,0,none⟩)] w λe w'=>e=.returned (.int .u64 n)/\Ext w w':=by
 obtain⟨R,t,h1,rfl,_⟩:=h.o.r;exact hn.o▸iM g t R w (j6 h1) (j6 h.o.tt.ok)
def sG{q:Int×List (List Dat×Int)}(n:Int)(hq:H0 (atT v n=q))(h:H0 (Sho w0 w K g v all B))(G:H0 (Good w)):C3 80 #[.pointer (some ⟨g,0,none⟩),.int .u64 n] w (aE w q):=by
 obtain⟨R,t,h1,rfl,_⟩:=h.o.r;exact yI g t R n w hq (j6 h1) (j6 h.o.tt.ok) G
def Xq{q:Int×TrV}(n:Int)(hq:H0 (Fw v n=q))(h:H0 (Sho w0 w K g v all B))(hn:n<=18446744073709551615):C3 73 #[.pointer (some ⟨g,0,none⟩),.int .u64 n] w λe w'=>e=.returned (.int .u16 q.1)/\Kp w0 K w w'/\Sho w0 w' K g q.2 all B/\q.2.hs=v.hs/\q.2.up=v.up:=by
 obtain⟨R,t,h1,rfl,h3⟩:=h.o.r;refine(iT g t R n w hq (j6 h1) (j6 h.o.tt.ok)).mono ?_;rintro e w' ⟨rfl,s⟩;have k:=h.o.tt.allow hn;rw[hq.o]at k;have⟨a,b⟩:=h.o.to h3 s k.1;exact⟨rfl,b,a,k.2.1,k.2.2⟩
def pA{t:TrV}(h:OkT t){n:Int}(hn:¬n<t.least)(h9:n<=18446744073709551615)(g:Nat):OkT { t with hs:=t.hs++[Gi g n] }:=by
 have hl:=h.least_in;refine⟨h.ok,h.S,h.U,h.lets,λx hx=>?_,?_⟩
 ·rcases AQ.1 hx with hx|hx
  ·exact h.hs x hx
  ·rw[AE.1 hx];exact⟨⟨by show 0<=n;omega,DX _,h9⟩,λb=>(nomatch b)⟩
 ·have e:({ t with hs:=t.hs++[Gi g n] }:TrV).least=t.least:=by
   show Kc t.lets (((t.hs++[Gi g n]).filter λh=>!h.ended).map Hv.hold)=t.least;refine(mD ?_ (λx hx=>?_) ?_).symm
   ·exact(Hh _ _).1
   ·rw[CT,AI]at hx;rcases AQ.1 hx with hx|hx
    ·exact(Hh _ _).2.1 x hx
    ·rw[show([Gi g n].filter λh=>!h.ended).map Hv.hold=[n]from rfl]at hx;rw[AE.1 hx];omega
   ·rcases(Hh ((t.hs.filter λh=>!h.ended).map Hv.hold) t.lets).2.2 with q|q
    ·exact .inl q
    ·refine .inr ?_;rw[CT,AI];exact BE _ q
  rw[e];exact h.low
def Qi(n:Int)(h:H0 (Sho w0 w K g v all B))(h9:n<=18446744073709551615):C3 74 #[.pointer (some ⟨g,0,none⟩),.int .u64 n] w λe w'=>Kp w0 K w w' /\
  ((n<v.least/\e=.returned (.tuple #[.pointer none,.int .u16 121])/\Sho w0 w' K g v all B)\/(¬n<v.least/\∃gh,w.heap.size<=gh/\e=.returned (.tuple #[.pointer (some ⟨gh,0,none⟩),.int .u16 0])/\Sho w0 w' K g { v with hs:=v.hs++[Gi gh n] } all B)):=by
 obtain⟨R,t,h1,rfl,h3⟩:=h.o.r;refine(iO g t R n w (j6 h1)).mono ?_;rintro e w' (⟨a,rfl,s⟩|⟨a,gh,b,rfl,s⟩)
 ·have⟨c,d⟩:=h.o.to h3 s h.o.tt;exact⟨d,.inl ⟨a,rfl,c⟩⟩
 ·have⟨c,d⟩:=h.o.to h3 s (h.o.tt.hs (pA h.o.tt.ok a h9 gh));exact⟨d,.inr ⟨a,gh,b,rfl,c⟩⟩
def iZ{x:Hv}(gh:Nat)(n:Int)(hg:H0 (x.g=gh))(hn:H0 (x.hold=n))(h:H0 (Sho w0 w K g v all B))(hx:H0 (x∈v.hs)):C3 93 #[.pointer (some ⟨gh,0,none⟩)] w λe w'=>e=.returned (.int .u64 n)/\w'=w:=by
 obtain⟨R,t,h1,rfl,_⟩:=h.o.r;exact hn.o▸hg.o▸kL g t R x w (j6 h1) hx
def Og{q:Int×TrV}{x:Hv}(gh:Nat)(n:Int)(hg:H0 (x.g=gh))(hq:H0 (Bx v x n=q))(h:H0 (Sho w0 w K g v all B))(hx:H0 (x∈v.hs))(hn:0<=n):C3 76 #[.pointer (some ⟨gh,0,none⟩),.int .u64 n] w λe w'=>e=.returned (.int .u16 q.1)/\Kp w0 K w w'/\Sho w0 w' K g q.2 all B/\q.2.up=v.up:=by
 have d:=h.o.nd;obtain⟨R,t,h1,rfl,h3⟩:=h.o.r;have k:=kN g t R x n w hq (j6 h1) (j6 h.o.tt.ok) hx hn;rw[hg.o]at k;refine k.mono ?_;rintro e w' ⟨rfl,s⟩;have c:Bs q.2 all B/\q.2.up=t.v.up:=by
  rw[<-hq.o];by_cases he:x.ended=true
  ·have e:Bx t.v x n=(7,t.v):=by unfold Bx;rw[if_pos he]
   rw[e];exact⟨h.o.tt,rfl⟩
  ·by_cases hr:n<x.hold\/(if x.begun=true then x.seen-1 else x.seen)<n
   ·have e:Bx t.v x n=(120,t.v):=by unfold Bx;rw[if_neg he,if_pos hr]
    rw[e];exact⟨h.o.tt,rfl⟩
   ·have e:Bx t.v x n=(0,Aj { t.v with hs:=Bl t.v.hs { x with hold:=n } }):=by unfold Bx;rw[if_neg he,if_neg hr]
    rw[e];have k1:=(h.o.tt.hs (Tl (n:=n) h.o.tt.ok hx.o d (by simpa using he) (by omega) (by omega))).compact;exact⟨k1.1,k1.2.2.1⟩
 have⟨a,b⟩:=h.o.to h3 s c.1;exact⟨rfl,b,a,c.2⟩
def uD{x:Hv}(gh:Nat)(hg:H0 (x.g=gh))(h:H0 (Sho w0 w K g v all B))(hx:H0 (x∈v.hs)):C3 85 #[.pointer (some ⟨gh,0,none⟩)] w λe w'=>e=.returned (.tuple #[])/\Kp w0 K w w'/\Sho w0 w' K g (Xf v x) all B:=by
 obtain⟨R,t,h1,rfl,h3⟩:=h.o.r;have k:=qJ g t R x w (j6 h1) (j6 h.o.tt.ok) hx;rw[hg.o]at k;refine k.mono ?_;rintro e w' ⟨rfl,s⟩;have⟨a,b⟩:=h.o.to h3 s (h.o.tt.hs (Tn h.o.tt.ok hx.o)).compact.1;exact⟨rfl,b,a⟩
def zH{t:TrV}{x:Hv}(h:Bs t all B)(nd:(t.hs.map Hv.g).Nodup)(hx:x∈t.hs):Bs { t with hs:=Bl t.hs (Cl t x).2.2.2 } all B:=by
 by_cases he:x.ended=true
 ·have e:Cl t x=(7,[],0,x):=by unfold Cl;rw[if_pos he]
  rw[e,Nb nd hx];exact h
 ·by_cases q:x.begun=false/\t.up<=x.seen
  ·have e:Cl t x=(0,[],x.seen,x):=by unfold Cl;rw[if_neg he,if_pos q]
   rw[e,Nb nd hx];exact h
  ·have e:Cl t x=(0,UdS.sumV (Kk (Dr t.s) x.begun x.seen),t.up,Cj x t.up):=by unfold Cl;rw[if_neg he,if_neg q]
   rw[e];refine h.hs (vN h.ok hx nd ?_);cases hb:x.begun with
   | true=>exact .inl rfl
   | false =>
    rcases Int.lt_or_le x.seen t.up with r|r
    ·exact .inr r
    ·exact absurd ⟨hb,r⟩ q
def Tg{q:Int×List UV×Int×Hv}{x:Hv}(gh:Nat)(hg:H0 (x.g=gh))(hq:H0 (Cl v x=q))(h:H0 (Sho w0 w K g v all B))(hx:H0 (x∈v.hs))(hB:H0 (B<=400000))(G:H0 (Good w)):C3 75 #[.pointer (some ⟨gh,0,none⟩)] w λe w' =>
  ∃A m Q,e=.returned (.tuple #[.slice A m m,.int .u64 q.2.2.1,.int .u16 q.1])/\m=List.length Q/\Bu w' w.heap.size A m Q/\Q.map Ud.uv=q.2.1/\Kp w0 K w w'/\∀K':Nat->Prop,(∀k,K' k->K k\/(w.heap.size<=k/\k<w'.heap.size))->Sho w0 w' K' g { v with hs:=Bl v.hs q.2.2.2 } all B:=by
 have a:=h.o.nd;have z0:=h.o.ext.size;obtain⟨R,t,h1,rfl,h3⟩:=h.o.r;have k:=qI g t R x w hq (j6 h1) (j6 h.o.tt.ok) hx (AR h.o.tt.all_len hB.o) G;rw[hg.o]at k;refine k.mono ?_;rintro e w' ⟨A,m,Q,t',rfl,m1,m2,m3,s1,s2,u⟩;have z:=u.size;refine⟨A,m,Q,rfl,m1,m2,m3,u.mono λk _ hk=>h3 k hk,λK' hK=>⟨dT h.o.ext u λk hk=>(h3 k hk).1,⟨R,t',s1,s2,λk hk=>⟨(h3 k hk).1,λq2=>?_⟩⟩,λk hk=>?_,?_⟩⟩
 ·rcases hK k q2 with r|r
  ·exact(h3 k hk).2 r
  ·have:=h1.low k hk;omega
 ·rcases hK k hk with r|r
  ·have:=h.o.lo k r;omega
  ·exact r.2
 ·rw[<-hq.o];exact zH h.o.tt a hx.o
end
end Go.Proofs.YtdgbkpoickbidaaGreatDoor
