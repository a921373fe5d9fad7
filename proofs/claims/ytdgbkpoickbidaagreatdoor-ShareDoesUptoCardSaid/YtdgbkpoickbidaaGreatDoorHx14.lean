/- Parts of the proof. Conditions: as stated. -/
import Derived.Test.YtdgbkpoickbidaaGreatDoorHx13
import Derived.Lib.ValidLaws
set_option maxRecDepth 100000
set_option maxHeartbeats 8000000
open Go.RowKit Go.Proofs.Tryz
set_option linter.defProp false
namespace Go.Proofs.YtdgbkpoickbidaaGreatDoor
variable{mx:Int}{zl:List Int}{c c6 g i m m6 n:Nat}{A A6:Option Addr}{T:TypeId}{w w' w0 w2 w6 wr:World}
def tQ{b:Bool}(e1 e2:Int)(A1 A2:Option Addr)(n1 n2 c1 c2:Nat)(l1 l2:List Int)(w:World)(hb:H0 (Jn e1 l1 e2 l2=b))(h1:Sl w 1 A1 n1 c1 (wds l1))(h2:Sl w 1 A2 n2 c2 (wds l2)) :
  C3 119 #[.agg #[.int .u64 e1,.slice A1 n1 c1],.agg #[.int .u64 e2,.slice A2 n2 c2]] w λe w'=>e=.returned (.bool b)/\Ext w w':=hb.o▸cW e1 e2 A1 A2 n1 n2 c1 c2 l1 l2 w h1 h2
def AtP(w:World)(L:List Ud)(U:List V)(e:Ending)(w':World):Prop:=∃A m c M,e=.returned (.slice A m c)/\m=M.length/\Own w' w.heap.size 154 2 A m c (Az M)/\(∀y∈M,∃x∈L,y.A=x.A/\y.c=x.c/\y.l=x.l)/\M.map Al=U/\Ext w w'
def xP{L:List Ud}{t:TV}{U0 U:List V}{e:Ending}(h:rV w0 (atU L t) U0 e w')(x:Ext w w0)(hv:U0=U):AtP w L U e w':=by
 subst hv;obtain⟨A,m,c,M,e1,e2,o,p,v,x2⟩:=h;refine⟨A,m,c,M,e1,e2,o.mono x.size,λy hy=>?_,v,x.trans x2⟩;have⟨z,hz,q1,q2,q3⟩:=p y hy;obtain⟨u,hu,rfl⟩:=AP.1 hz;exact⟨u,(BI.1 hu).1,q1,q2,q3⟩
def Ri{U:List V}(A:Option Addr)(c n:Nat)(L:List Ud)(e:Int)(At:Option Addr)(nt ct:Nat)(lt:List Int)(w:World)(hU:H0 (sumV (atV (L.map Ud.uv) (e,lt))=U))(hn:H0 (n=L.length))(h:H0 (Uin w A c L))(h9:n<=1000000)(ht:H0 (Sl w 1 At nt ct (wds lt))) :
  C3 26 #[.slice A n c,.agg #[.int .u64 e,.slice At nt ct]] w (AtP w L U):=by
 go_enter func26,ntmps26;go_wp2;have⟨wb,f⟩:=E9 (w.alloc (.cells #[.int .u64 e,.slice At nt ct] 26));have XB:H0 (Ext w wb):=j6 (by rw[f];exact(Ext.refl _).alloc _);have BT:H0 (Bk wb w.heap.size 26 #[.int .u64 e,.slice At nt ct]):=j6 (by rw[f];exact Bk.new _ _ _);rw[<-f];clear f;have⟨gt,H⟩:=E9 w.heap.size;rw[<-H]at BT ⊢;clear H;have E:H0 (On wb wb L (e,lt) 0 none 0 0):=j6 ⟨rfl,Own.nil _ _ _ _,Ext.refl _⟩
 go_loopg [5,6] n (λz u v wr=>∃(i m c3:Nat) (A3:Option Addr),z=n-i/\i<=n/\m<=i/\u=.slice A3 m c3/\v=.int .i64 i/\H0 (On wb wr L (e,lt) i A3 m c3))
 case atStart=>exact⟨0,0,0,none,rfl,AG _,AD _,rfl,rfl,E⟩
 case round =>
  clear E;obtain⟨i,m,c3,A3,rfl,hi,N,rfl,rfl,HP⟩:=hrel;by_cases hlt:i<n
  ·have a:i<L.length:=by rw[<-hn.o];exact hlt
   have XW:=XB.o.trans HP.o.ext;obtain⟨ad,rfl,p0,p1,p2,p3⟩:=(h.o.ext XW).at a;have hm:=As a;have⟨x,hx⟩:=tz (L.getD i Ud.zero);rw[hx]at p0 p1 p2 p3 hm;have⟨nx,j⟩:=E9 x.l.length;have⟨tx,B⟩:=E9 x.t.l.length;rw[<-j]at p0;rw[<-B]at p2;have I:=j6 j;have HX:=j6 hx;have D:=j6 a;have J:H0 (∀W,Ext wr W->Sl W 1 x.t.A tx x.t.c (wds x.t.l)):=j6 (λW q=>by rw[B];exact((h.o.ls x hm).t.ext XW).ext q);have HT:H0 (∀W,Ext wr W->Sl W 1 At nt ct (wds lt)):=j6 (λW q=>(ht.o.ext XW).ext q);have X:Ext wr wr.drew:=(Ext.refl wr).drew;have t0:∀z:Xt wr.drew,z.W.cell? ⟨gt,0,none⟩=some (.int .u64 e):=λz=>(BT.o.ext ((HP.o.ext.trans X).trans z.x)).cell 0;have t1:∀z:Xt wr.drew,z.W.cell? ⟨gt,1,none⟩=some (.slice At nt ct):=λz=>(BT.o.ext ((HP.o.ext.trans X).trans z.x)).cell 1;have P0:∀z:Xt wr.drew,z.W.cell? (ad.add (i*4))=some (.slice x.A nx x.c):=λz=>(X.trans z.x).cell p0;have P1:∀z:Xt wr.drew,z.W.cell? ⟨(ad.add (i*4)).block,(ad.add (i*4)).off+1,none⟩=some (.int .u64 x.t.e):=λz=>(X.trans z.x).cell p1;have P2:∀z:Xt wr.drew,z.W.cell? ⟨(ad.add (i*4)).block,(ad.add (i*4)).off+2,none⟩=some (.slice x.t.A tx x.t.c):=λz=>(X.trans z.x).cell p2;have P3:∀z:Xt wr.drew,z.W.cell? ⟨(ad.add (i*4)).block,(ad.add (i*4)).off+3,none⟩=some (.int .i64 x.d):=λz=>(X.trans z.x).cell p3;have⟨b,hb⟩:=tz (Jn x.t.e x.t.l e lt);have HB:=j6 hb;clear a hm hx j B hb XW p0 p1 p2 p3
   go_upto_region 5 with fail
   refine wro [0,0,3,7,15,0,63] (.flo [0,1,2,3,4,5] (.one 6 (.fin))) ?_
   (refine Aa (pks rfl) ?_;(repeat (go_big_quiet_step (fail)));refine oq ?_)
   refine Ac (pks rfl) ?_;intro K_ G;go_wp2_with (go_at_call 119;refine(tQ x.t.e e x.t.A At tx nt x.t.c ct x.t.l lt _ HB (J.o _ X) (HT.o _ X)).mono ?_;rintro r w1 ⟨rfl,x1⟩)
   refine Ad ?_;cases b with
   | true =>
    have P0:∀z:Xt w1,z.W.cell? (ad.add (i*4))=some (.slice x.A nx x.c):=λz=>P0 ⟨z.W,x1.trans z.x⟩;have P3:∀z:Xt w1,z.W.cell? ⟨(ad.add (i*4)).block,(ad.add (i*4)).off+3,none⟩=some (.int .i64 x.d):=λz=>P3 ⟨z.W,x1.trans z.x⟩;have F:=j6 ((HP.o.own.ext (X.trans x1)));have C:=j6 (HP.o.ext.trans (X.trans x1));clear P1 P2 t0 t1 X;have X:Ext w1 w1.drew:=(Ext.refl w1).drew;have P0:∀z:Xt w1.drew,z.W.cell? (ad.add (i*4))=some (.slice x.A nx x.c):=λz=>P0 ⟨z.W,X.trans z.x⟩;have P3:∀z:Xt w1.drew,z.W.cell? ⟨(ad.add (i*4)).block,(ad.add (i*4)).off+3,none⟩=some (.int .i64 x.d):=λz=>P3 ⟨z.W,X.trans z.x⟩;have O:wb.heap.size<=w1.heap.size:=C.o.size
    go_upto_region 6 with fail
    refine wro [0,0,0,6,14,30,0,0,192,448,960,2046,4094,8191,16383] (.pur [0] (.flo [1,2,3,4,5,6,7,8,9,10,11] (.one 12 (.one 13 (.flo [14] (.fin)))))) ?_
    (refine Bi (pks rfl) ?_;(repeat (go_big_quiet_step (fail)));refine oq ?_)
    (refine Aa (pks rfl) ?_;(repeat (go_big_quiet_step (fail)));refine oq ?_)
    refine Ac (pks rfl) ?_;intro K_ G;go_wp2;refine Ac (pks rfl) ?_;intro K_ G;go_wp2_with (at_builtin;refine Ab _ Bo wb.heap.size _ _ rfl rfl A3 m c3 (Az (atU (L.take i) (e,lt))) rfl ((F.o.ext X).alloc _) (some ⟨w1.heap.size,0,none⟩) 1 1 [.slice x.A nx x.c,.int .i64 x.d] rfl (No _ _ _ _) (by intro u hu;simp at hu;rcases hu with rfl|rfl<;>rfl) (by omega) (by decide) (by simp;omega) ?_;intro A6 c6 w6 o6 g6 h6;clear h6;have g:H0 (On wb w6 L (e,lt) (i+1) A6 (m+1) c6):=j6 (HP.o.more D.o HX.o HB.o rfl (by have:=o6;rwa [I.o]at this) (((C.o.trans X).alloc _).grown g6 (λk e=>(F.o.lt k e).1)));clear o6 g6)
    go_simp
    (refine Aa (pks rfl) ?_;(repeat (go_big_quiet_step (fail)));refine oq ?_)
    refine Ad ?_;go_wp2
    go_roundg (n-(i+1))
    case measure=>omega
    case rel=>exact⟨i+1,m+1,c6,A6,rfl,by omega,by omega,rfl,by go_num,g⟩
   | false =>
    have g:H0 (On wb w1 L (e,lt) (i+1) A3 m c3):=j6 (HP.o.skip D.o HX.o HB.o (X.trans x1));go_wp2
    go_roundg (n-(i+1))
    case measure=>omega
    case rel=>exact⟨i+1,m,c3,A3,rfl,by omega,by omega,rfl,by go_num,g⟩
  ·obtain rfl:i=n:=by omega
   have XW:=XB.o.trans HP.o.ext;have ea:atU (L.take i) (e,lt)=atU L (e,lt):=by rw[AW (by rw[<-hn.o];exact AD _)]
   have HC:H0 (Ev wr A3 c3 (atU L (e,lt))):=j6 ⟨by have:=HP.o.own.sl;have q:=HP.o.len;rw[ea]at this q;rwa [q]at this,λy hy=>by
    obtain⟨x,hx,rfl⟩:=AP.1 hy;exact(h.o.ls x (BI.1 hx).1).r.ext XW⟩
   have HM:H0 (m=(atU L (e,lt)).length):=j6 (by rw[<-ea];exact HP.o.len);have HV:H0 (sumV ((atU L (e,lt)).map Al)=U):=j6 (by rw[mU];exact hU.o);have K:=j6 XW;clear ea XW;go_wp2_with (go_at_call 120;refine(jH A3 c3 m (atU L (e,lt)) _ HM.o HC.o (by omega)).mono ?_;rintro r w2 hr;have HR:H0 (AtP w L U r w2):=j6 (xP hr K.o HV.o);obtain⟨A2,m2,c2,R2,rfl,M⟩:=hr;clear M)
   go_ret;exact HR.o
def tG(w wr:World)(x z:Ud):Prop:=(z.t.A=x.t.A/\z.t.c=x.t.c/\z.t.l=x.t.l)\/Own wr w.heap.size 180 1 z.t.A z.t.l.length z.t.c (wds z.t.l)
def Ec(w wr:World)(x z:Ud):Prop:=z.A=x.A/\z.c=x.c/\z.l=x.l/\tG w wr x z
def Ec.ext{x z:Ud}(h:Ec w wr x z)(y:Ext wr w'):Ec w w' x z:=⟨h.1,h.2.1,h.2.2.1,h.2.2.2.imp id λo=>o.ext y⟩
def Ec.udr{x z:Ud}(h:Ec w wr x z)(u:UdR w x)(y:Ext w wr):UdR wr z:=by
 obtain⟨e1,e2,e3,q⟩:=h;refine⟨by rw[e1,e2,e3];exact u.r.ext y,?_⟩;rcases q with ⟨f1,f2,f3⟩|o
 ·rw[f1,f2,f3];exact u.t.ext y
 ·exact o.sl
def Ec.like{x z y:Ud}(h:Ec w wr x z)(q:Ko y z):Ec w wr x y:=by
 obtain⟨e1,e2,e3,e4⟩:=h;obtain⟨f1,f2,f3,f4⟩:=q;exact⟨f1.trans e1,f2.trans e2,f3.trans e3,by unfold tG;rw[f4];exact e4⟩
def yC(w:World)(L:List Ud)(V:List UV)(e:Ending)(w':World):Prop:=∃A m c M,e=.returned (.slice A m c)/\m=M.length/\Own w' w.heap.size 95 4 A m c (Ah M)/\(∀y∈M,∃x∈L,Ec w w' x y)/\M.map Ud.uv=V/\Ext w w'
structure Qw (w wr:World) (S:List TV) (L:List Ud) (i:Nat) (A:Option Addr) (m c:Nat) (K:List Ud):Prop where
 own:Own wr w.heap.size 95 4 A m c (Ah K)
 len:m=K.length
 ls:∀z∈K,∃x∈L,Ec w wr x z
 vals:K.map Ud.uv=((L.take i).map Ud.uv).map (Bm S)
 ext:Ext w wr
def Qw.udr{S:List TV}{L K:List Ud}(h:Qw w wr S L i A m c K)(hL:∀x∈L,UdR w x):∀x∈K,UdR wr x:=λz hz=>by
 have⟨x,hx,q⟩:=h.ls z hz;exact q.udr (hL x hx) h.ext
def rJ{t x:TV}{acc:Option TV}(ht:U32 t.2)(hx:U32 x.2)(h:∀o,acc=some o->U32 o.2):∀o,Il t acc x=some o->U32 o.2:=by
 intro o ho;unfold Il at ho;split at ho
 ·cases acc with
  | none =>
   injection ho with ho;rw[<-ho];exact lL ht hx
  | some q =>
   injection ho with ho;rw[<-ho];exact yH (h q rfl) (lL ht hx)
 ·exact h o ho
def tF{t:TV}(ht:U32 t.2):∀(a:List TV) (acc:Option TV),(∀v∈a,U32 v.2)->(∀o,acc=some o->U32 o.2)->∀o,a.foldl (Il t) acc=some o->U32 o.2
 | [],acc,_,h,o,ho=>h o ho
 | x::a,acc,ha,h,o,ho=>tF ht a _ (λv hv=>ha v (BM _ hv)) (rJ ht (ha x (BC ..)) h) o ho
def a0p{S:List TV}{t:TV}(hS:∀v∈S,U32 v.2)(ht:U32 t.2):U32 (Ix S t).2:=by
 unfold Ix;cases h:a1q S t with
 | none=>exact ht
 | some o=>exact tF ht S none hS (λ_ h=>nomatch h) o h
def Qw.more{S:List TV}{L K:List Ud}{x z:Ud}{ob:Obj}(h:Qw w wr S L i A m c K)(hi:i<L.length)(hx:L.getD i Ud.zero=x)(hz:z.uv=Bm S x.uv)(hm:m6=m+1)(x2:Ext wr w2)(ht:Ec w w2 x z)
  (o:Own w6 w.heap.size 95 4 A6 m6 c6 (Ah K++udC z)) (g:(w2.alloc ob).grownBy w6 (blk A c)):Qw w w6 S L (i+1) A6 m6 c6 (K++[z]):=by
 have kept:∀{k0 s:Nat} {e:TypeId} {A':Option Addr} {n' c':Nat} {xs:List Value},e≠95->Own w2 k0 e s A' n' c' xs->Own w6 k0 e s A' n' c' xs:=λ{k0 s e A' n' c' xs} he o=>(o.alloc ob).kept g (by
  cases hb:blk A' c' with
  | none=>exact .inl rfl
  | some k=>exact .inr (λq=>Ca o (h.own.ext x2) he hb q.symm))
 have old:∀x y,Ec w w2 x y->Ec w w6 x y:=λx y hy=>⟨hy.1,hy.2.1,hy.2.2.1,hy.2.2.2.imp id λo=>kept Cz o⟩;refine⟨by rw[Au,show Ah [z]=udC z by simp[Ah]];exact o,by rw[AA,hm,h.len];rfl,λy hy=>?_,?_,((h.ext.trans x2).alloc _).grown g (λk e=>(h.own.lt k e).1)⟩
 ·rcases AQ.1 hy with hy|hy
  ·have⟨q,hq,f⟩:=h.ls y hy;exact⟨q,hq,old q y (f.ext x2)⟩
  ·rw[AE.1 hy];exact⟨x,hx▸As hi,old x z ht⟩
 ·rw[Iy hi,hx,AI,AI,AI,h.vals,CA,CA,CA,hz]
def rK{L K:List Ud}{V:List UV}{e:Ending}(h:nC wr K V e w')(x:Ext w wr)(hK:∀z∈K,∃x∈L,Ec w wr x z):yC w L V e w':=by
 obtain⟨A,m,c,M,e1,e2,o,p,v,x2⟩:=h;refine⟨A,m,c,M,e1,e2,o.mono x.size,λy hy=>?_,v,x.trans x2⟩;have⟨z,hz,q⟩:=p y hy;have⟨x,hx,f⟩:=hK z hz;exact⟨x,hx,(f.like q).ext x2⟩
def cC(v:TV)(e:Int)(A:Option Addr)(n c:Nat)(l:List Int)(w:World)(r:Ending)(w':World):Prop:=∃A' c',r=.returned (.agg #[.int .u64 v.1,.slice A' n c'])/\((A'=A/\c'=c/\v=(e,l))\/Own w' w.heap.size 180 1 A' n c' (wds v.2))/\Ext w w'
def fH{V:List UV}(A:Option Addr)(c n:Nat)(L:List Ud)(AS:Option Addr)(cS nS:Nat)(S:List Tm)(w:World)(hV:H0 (UdS.sumV ((L.map Ud.uv).map (Bm (S.map Tm.v)))=V))(hn:H0 (n=L.length))(h:H0 (Uin w A c L))(h9:n<=1000000)(hin:H0 (∀x∈L,InU x))(hnS:H0 (nS=S.length))(hS:H0 (Tin w AS cS S))(fS:H0 (yB S))(HA:H0 (∀x∈L,∀W,Tin W AS cS S->Sl W 1 x.t.A x.t.l.length x.t.c (wds x.t.l)->C3 121 #[.slice AS nS cS,.agg #[.int .u64 x.t.e,.slice x.t.A x.t.l.length x.t.c]] W (cC (Ix (S.map Tm.v) (x.t.e,x.t.l)) x.t.e x.t.A x.t.l.length x.t.c x.t.l W))) :
  C3 27 #[.slice A n c,.slice AS nS cS] w (yC w L V):=by
 have D:H0 (Qw w w (S.map Tm.v) L 0 none 0 0 []):=j6 ⟨Own.nil _ _ _ _,rfl,λx hx=>(nomatch hx),rfl,Ext.refl _⟩;go_enter func27,ntmps27;go_wp2
 go_loopg [5,6] n (λz u v wr=>∃(i m c3:Nat) (A3:Option Addr) (K:List Ud),z=n-i/\i<=n/\m<=i/\u=.slice A3 m c3/\v=.int .i64 i/\H0 (Qw w wr (S.map Tm.v) L i A3 m c3 K))
 case atStart=>exact⟨0,0,0,none,[],rfl,AG _,AD _,rfl,rfl,D⟩
 case round =>
  clear D;obtain⟨i,m,c3,A3,K,rfl,hi,R,rfl,rfl,HP⟩:=hrel;by_cases hlt:i<n
  ·have j:i<L.length:=by rw[<-hn.o];exact hlt
   obtain⟨ad,rfl,p0,p1,p2,p3⟩:=(h.o.ext HP.o.ext).at j;have hm:=As j;have⟨x,hx⟩:=tz (L.getD i Ud.zero);rw[hx]at p0 p1 p2 p3 hm;have⟨nx,C⟩:=E9 x.l.length;have⟨tx,B⟩:=E9 x.t.l.length;rw[<-C]at p0;rw[<-B]at p2;have HX:=j6 hx;have G:=j6 j;have I:=j6 C;have N:H0 (∀W,Ext wr W->UdR W x):=j6 (λW q=>((h.o.ls x hm).ext HP.o.ext).ext q);have Q:H0 (Sl w 1 x.t.A x.t.l.length x.t.c (wds x.t.l)):=j6 (h.o.ls x hm).t;have P:H0 (Rw w x.A x.c x.l):=j6 (h.o.ls x hm).r;have⟨v,hv⟩:=tz (Ix (S.map Tm.v) (x.t.e,x.t.l));have HV:=j6 hv;have E:H0 (tx=v.2.length):=j6 (by rw[<-hv,Pq];exact B);have XA:Ext wr (wr.alloc (.cells #[.slice x.A nx x.c,.int .u64 x.t.e,.slice x.t.A tx x.t.c,.int .i64 x.d] 95)):=(Ext.refl wr).alloc _;have BX:H0 (Bk (wr.alloc (.cells #[.slice x.A nx x.c,.int .u64 x.t.e,.slice x.t.A tx x.t.c,.int .i64 x.d] 95)) wr.heap.size 95 #[.slice x.A nx x.c,.int .u64 x.t.e,.slice x.t.A tx x.t.c,.int .i64 x.d]):=j6 (Bk.new _ _ _);have F:H0 (∀W,Ext wr W->C3 121 #[.slice AS nS cS,.agg #[.int .u64 x.t.e,.slice x.t.A tx x.t.c]] W (cC v x.t.e x.t.A tx x.t.c x.t.l W)):=j6 (λW q=>by rw[<-hv,B];exact HA.o x hm W ((hS.o.ext HP.o.ext).ext q) (N.o W q).t);have T:w.heap.size<=wr.heap.size:=HP.o.ext.size;clear j hm hx C B hv
   go_upto_region 7 with (first
    | (go_at_call 121;refine(F.o _ XA).mono ?_;rintro r w1 ⟨A1,c1,rfl,s1,x1⟩;have M:=j6 s1;have X1:=j6 (XA.trans x1);have B1:=j6 (BX.o.ext x1);have y1:=B1.o.cell 1;have y2:=B1.o.cell 2;have f1:=B1.o.free 1;have f2:=B1.o.free 2;clear s1 x1)
    | fail)
   have⟨w2,g⟩:=E9 ((w1.setCell ⟨wr.heap.size,1,none⟩ (.int .u64 v.1)).setCell ⟨wr.heap.size,2,none⟩ (.slice A1 tx c1));have B2:H0 (Bk w2 wr.heap.size 95 #[.slice x.A nx x.c,.int .u64 v.1,.slice A1 tx c1,.int .i64 x.d]):=j6 (by rw[g];exact(B1.o.set 1 _).set 2 _);have X2:H0 (Ext wr w2):=j6 (by rw[g];exact(X1.o.set (p:=⟨wr.heap.size,1,none⟩) (AD _) _).set (p:=⟨wr.heap.size,2,none⟩) (AD _) _);have HZ:H0 (Ec w w2 x ⟨x.A,x.c,x.l,⟨v.1,A1,c1,v.2⟩,x.d⟩):=j6 (by
    rcases M.o with ⟨e1,e2,e3⟩|o1
    ·exact⟨rfl,rfl,rfl,.inl ⟨e1,e2,congrArg Prod.snd e3⟩⟩
    ·refine⟨rfl,rfl,rfl,.inr ?_⟩;show Own w2 w.heap.size _ 1 A1 v.2.length c1 (wds v.2);rw[<-E.o,g];exact((o1.far (o1.ne (k:=wr.heap.size) (by simp)) _).far (o1.ne (k:=wr.heap.size) (by simp)) _).mono (by simp;omega))
   rw[<-g];have d0:=B2.o.cell 0;have d1:=B2.o.cell 1;have d2:=B2.o.cell 2;have d3:=B2.o.cell 3;clear g y1 y2 f1 f2 p0 p1 p2 p3;go_wp2_with (at_builtin;refine Ab _ Ao w.heap.size _ _ rfl rfl A3 m c3 (Ah K) rfl ((HP.o.own.ext X2.o).alloc _) (some ⟨w2.heap.size,0,none⟩) 1 1 [.slice x.A nx x.c,.int .u64 v.1,.slice A1 tx c1,.int .i64 x.d] rfl (Sl.one w2 #[.slice x.A nx x.c,.int .u64 v.1,.slice A1 tx c1,.int .i64 x.d] 95 4 rfl) (by intro u hu;simp at hu;rcases hu with rfl|rfl|rfl|rfl<;>rfl) (by omega) (by decide) (by have:=X2.o.size;simp;omega) ?_;intro A6 c6 w6 o6 g6 h6;clear h6;have J:H0 (Qw w w6 (S.map Tm.v) L (i+1) A6 (m+1) c6 (K++[⟨x.A,x.c,x.l,⟨v.1,A1,c1,v.2⟩,x.d⟩])):=j6 (HP.o.more G.o HX.o (by show(((x.l,(v.1,v.2)),x.d):UV)=((x.l,Ix (S.map Tm.v) x.t.v),x.d);rw[show Ix (S.map Tm.v) x.t.v=v from HV.o]) rfl X2.o HZ.o (by have:=o6;rw[I.o,E.o]at this;exact this) g6);clear o6 g6)
   go_roundg (n-(i+1))
   case measure=>omega
   case rel=>exact⟨i+1,m+1,c6,A6,_,rfl,by omega,by omega,rfl,by go_num,J⟩
  ·obtain rfl:i=n:=by omega
   have f:K.map Ud.uv=(L.map Ud.uv).map (Bm (S.map Tm.v)):=by have:=HP.o.vals;rwa [AW (by rw[<-hn.o];exact AD _)]at this
   have HN:H0 (m=K.length):=j6 HP.o.len;have HU:H0 (Uin wr A3 c3 K):=j6 ⟨by have:=HP.o.own.sl;rwa [HP.o.len]at this,HP.o.udr h.o.ls⟩;have a:∀y∈K,∃x∈L,y.uv=Bm (S.map Tm.v) x.uv:=λy hy=>by
    have:y.uv∈K.map Ud.uv:=AP.2 ⟨y,hy,rfl⟩;rw[f,CO]at this;have⟨x,hx,e⟩:=AP.1 this;exact⟨x,hx,e.symm⟩
   have HI:H0 (∀y∈K,UdS.InN y.uv):=j6 (λy hy=>by
    have⟨x,hx,e⟩:=a y hy;rw[e];exact(hin.o x hx).num)
   have HL:H0 (∀y∈K,U32 y.t.l/\y.t.l.length<=1000000):=j6 (λy hy=>by
    have⟨x,hx,e⟩:=a y hy;have e2:y.t.l=(Ix (S.map Tm.v) x.t.v).2:=congrArg (λq:UV=>q.1.2.2) e;rw[e2];refine⟨a0p (λv hv=>?_) (hin.o x hx).tu,?_⟩
    ·obtain⟨t,ht,rfl⟩:=AP.1 hv;exact(fS.o t ht).1
    ·rw[Pq];exact AR (hin.o x hx).tn (by decide))
   have HV:H0 (UdS.sumV (K.map Ud.uv)=V):=j6 (by rw[f];exact hV.o);have HX:=j6 HP.o.ext;have H:=j6 HP.o.ls;clear f a HP;go_wp2_with (go_at_call 24;refine(In A3 c3 m K _ HV HN HU (by omega) HI HL).mono ?_;rintro r w2 hr;have HR:H0 (yC w L V r w2):=j6 (rK hr HX.o H.o);obtain⟨A2,m2,c2,R2,rfl,O⟩:=hr;clear O)
   go_ret;exact HR.o
def sH{v:Bool}(e1 e2:Int)(A1 A2:Option Addr)(n1 n2 c1 c2:Nat)(l1 l2:List Int)(w:World)(hr:H0 (Fq (e1,l1) (e2,l2)=v))(h1:H0 (Sl w 1 A1 n1 c1 (wds l1)))(h2:H0 (Sl w 1 A2 n2 c2 (wds l2))) :
  C3 119 #[.agg #[.int .u64 e1,.slice A1 n1 c1],.agg #[.int .u64 e2,.slice A2 n2 c2]] w λe w'=>e=.returned (.bool v)/\Ext w w':=hr.o▸cW e1 e2 A1 A2 n1 n2 c1 c2 l1 l2 w h1.o h2.o
structure a4b (wr:World) (A:Option Addr) (k:Nat) (e:Int) (B:Option Addr) (n c:Nat) (l:List Int) (ad:Addr):Prop where
 addr:A=some ad
 c0:∀y:Xt wr,y.W.cell? (ad.add (k*2))=some (.int .u64 e)
 c1:∀y:Xt wr,y.W.cell? ⟨(ad.add (k*2)).block,(ad.add (k*2)).off+1,none⟩=some (.slice B n c)
 sl:∀y:Xt wr,H0 (Sl y.W 1 B n c (wds l))
def Tin.tmAt{L:List Tm}(h:Tin wr A c L){k:Nat}(hk:k<L.length):∃e B n cc l ad,a4b wr A k e B n cc l ad/\L.getD k Tm.zero=⟨e,B,cc,l⟩/\n=l.length:=by
 obtain⟨ad,rfl,q0,q1⟩:=h.at hk;have hs:=h.ls _ (Hs hk);have⟨x,hx⟩:=tz (L.getD k Tm.zero);rw[hx]at q0 q1 hs;obtain⟨e,B,cc,l⟩:=x;exact⟨e,B,l.length,cc,l,ad,⟨rfl,λy=>y.x.cell q0,λy=>y.x.cell q1,λy=>j6 (hs.ext y.x)⟩,hx,rfl⟩
def jG(e1 e2:Int)(A1 A2:Option Addr)(n c1 c2:Nat)(l1 l2:List Int)(w:World)(h1:Sl w 1 A1 n c1 (wds l1))(h2:Sl w 1 A2 n c2 (wds l2))(hn:n*4<=140737488355328) :
  C3 196 #[.agg #[.int .u64 e1,.slice A1 n c1],.agg #[.int .u64 e2,.slice A2 n c2]] w λe w' =>
   ∃A c,e=.returned (.tuple #[.agg #[.int .u64 (max e1 e2),.slice A n c],.int .i64 0])/\Own w' w.heap.size 180 1 A n c (wds (List.zipWith max l1 l2))/\Ext w w':=by
 have hm:=h1.le;have he:((n:Int) != (n:Int))=false:=by simp
 have⟨v,hv⟩:=tz (max e1 e2);have ve:(if e1<e2 then e2 else e1)=v:=by rw[<-hv];split<;>omega
 rw[hv];go_enter func196,ntmps196;go_wp2;obtain⟨w0,f⟩:∃w0,w0=(((w.alloc (Obj.cells #[Value.int IntKind.u64 e1,Value.slice A1 n c1] 26)).alloc (Obj.cells #[Value.int IntKind.u64 e2,Value.slice A2 n c2] 26)).alloc
   (Obj.cells #[Value.int IntKind.u64 0,Value.slice none 0 0] 26)).alloc (Obj.cells #[Value.int IntKind.u64 v,Value.slice none 0 0] 26):=⟨_,rfl⟩
 have x0:Ext w w0:=f▸((((Ext.refl w).alloc _).alloc _).alloc _).alloc _;have s0:w0.heap.size=w.heap.size+4:=by subst f;simp
 have b3:w0.cell? ⟨w.heap.size,1,none⟩=some (Value.slice A1 n c1):=by subst f;go_simp
 have b4:w0.cell? ⟨w.heap.size+1,1,none⟩=some (Value.slice A2 n c2):=by subst f;go_simp
 have b6:Bk w0 (w.heap.size+1+1) 26 #[Value.int IntKind.u64 0,Value.slice none 0 0]:=by subst f;exact(Bk.at (by simp)).alloc _
 have b7:Bk w0 (w.heap.size+1+1+1) 26 #[Value.int IntKind.u64 v,Value.slice none 0 0]:=by subst f;exact Bk.at (by simp)
 rw[<-f];clear f;have S0:=j6 s0
 go_loopw [7] (λt wr=>∃(k:Nat) (A:Option Addr) (c:Nat),k<=n/\t=.int .i64 k/\Below (w.heap.size+3) w0 wr/\Bk wr (w.heap.size+1+1+1) 26 #[.int .u64 v,.slice A k c]/\Own wr (w.heap.size+4) 180 1 A k c (wds (List.zipWith max (l1.take k) (l2.take k))))
  (λt _=>n-(intOf t).toNat)
 case atStart=>exact⟨0,_,_,AG _,rfl,FH _ _,b7,by simpa [wds] using Own.nil _ _ _ _⟩
 case round =>
  obtain⟨k,A,c,hk,rfl,d,i,a⟩:=hrel;have q3:=Ei d b3 (by simp);have q4:=Ei d b4 (by simp);by_cases hlt:k<n
  ·have⟨a1,D,q,k1⟩:=h1.word hlt;have⟨a2,E,r,k2⟩:=h2.word hlt;have q8:=i.cell 1;have f8:=i.free 1;have d1:=Ei d (x0.cell q) (by simp only[Ep];omega);have d2:=Ei d (x0.cell r) (by simp only[Ep];omega);simp at q8;have⟨x,hx⟩:=tz (l1.getD k 0);have⟨y,hy⟩:=tz (l2.getD k 0);have⟨m,C⟩:=tz (max x y);have vm:(if x<y then y else x)=m:=by rw[<-C];split<;>omega
   rw[hx]at d1;rw[hy]at d2;have HM:H0 (max (l1.getD k 0) (l2.getD k 0)=m):=j6 (by rw[hx,hy];exact C);clear q r hx hy;have i0:(0:Int)<=(k:Int):=Int.natCast_nonneg _;have i1:(k:Int)<(n:Int):=by omega
   have N:=d.size;go_wp2;have X:Ext wr wr.drew:=(Ext.refl wr).drew;have O:∀y:Xt wr.drew,y.W.cell? ⟨w.heap.size,1,none⟩=some (.slice A1 n c1):=λy=>y.x.cell (X.cell q3);have P:∀y:Xt wr.drew,y.W.cell? ⟨w.heap.size+1,1,none⟩=some (.slice A2 n c2):=λy=>y.x.cell (X.cell q4);have Q:∀y:Xt wr.drew,y.W.cell? ⟨w.heap.size+1+1+1,1,none⟩=some (.slice A k c):=λy=>y.x.cell (X.cell q8);have K:∀y:Xt wr.drew,y.W.cell? (a1.add k)=some (.int .u32 x):=λy=>y.x.cell (X.cell d1);have L:∀z:Xt wr.drew,z.W.cell? (a2.add k)=some (.int .u32 y):=λz=>z.x.cell (X.cell d2);refine wro [0,1,0,4,0,28,60,0,128,0,896,1920,4092,8188,16383,32767,65535] (.flo [0,1,2,3,4,5,6,7,8,9,10,11,12] (.ext 13 (.one 14 (.flo [15] (.one 16 (.fin)))))) ?_
   (refine Aa (pks rfl) ?_;(repeat (go_big_quiet_step (fail)));refine oq ?_)
   refine Ar (pks rfl) ?_;intro K_ l;go_wp2;refine An.mk ((Ext.refl _).alloc _) ?_;refine Ac (pks rfl) ?_;intro K_ l;go_wp2_with (at_builtin;refine Da _ Fl (w.heap.size+4) _ _ (by rfl) (by rfl) A k c _ (by rfl) ((a.alloc _).drew) (some ⟨wr.heap.size,0,none⟩) 1 1 _ (by rfl) ((Sl.one wr _ _ 1 rfl).drew) (by simp[Value.oneCell']) (by omega) (by omega) (by simp;omega) ?_;intro A' c' w1 J B F)
   have j:=Bk.grown (by exact(i.alloc _).drew) B (a.ne (by simp));have M:=j.free 1;have R:w1.cell? ⟨w.heap.size+1+1+1,1,none⟩=some (.slice A k c):=j.cell 1
   (refine Aa (pks rfl) ?_;(repeat (go_big_quiet_step (fail)));refine oq ?_)
   refine Ac (pks rfl) ?_;intro K_ l;go_wp2;refine Ad ?_;go_wp2;rw[<-D,<-E]
   go_roundw
   case rel =>
    refine⟨k+1,A',c',by omega,by go_num,?_,?_,?_⟩
    ·exact(((d.alloc (by omega) _).drew).grown B (by simp;omega) (λg hg=>by have:=a.lt g hg;omega)).setCell (by simp) _
    ·exact j.set 1 _
    ·refine(show Own _ _ _ _ _ _ _ _ from ?_);have G:=h1.wlen;have H:=h2.wlen;have I:=HM.o;rw[Gh _ _ (by omega),Gh _ _ (by omega),List.zipWith_append (by simp;omega),<-Ku,List.zipWith_cons_cons,List.zipWith_nil_left,I];exact(J.far (by rcases F with e|e<;>rw[e];exact a.ne (by simp);simp;omega) _)
   case measure=>simp[intOf];omega
  ·obtain rfl:k=n:=by omega
   have r0:wr.cell? ⟨w.heap.size+1+1+1,0,none⟩=some (.int .u64 v):=i.cell 0;have r1:wr.cell? ⟨w.heap.size+1+1+1,1,none⟩=some (.slice A k c):=i.cell 1;have h:=b6.below d (by omega);have r2:wr.cell? ⟨w.heap.size+1+1,0,none⟩=some (.int .u64 0):=h.cell 0;have r3:wr.cell? ⟨w.heap.size+1+1,1,none⟩=some (.slice none 0 0):=h.cell 1;have r4:=h.free 0;have r5:=h.free 1;have bb:=(h.set 0 (.int .u64 v)).set 1 (.slice A k c);have q0:((wr.setCell ⟨w.heap.size+1+1,0,none⟩ (.int .u64 v)).setCell ⟨w.heap.size+1+1,1,none⟩ (.slice A k c)).cell? ⟨w.heap.size+1+1,0,none⟩=some (.int .u64 v):=bb.cell 0;have q1:((wr.setCell ⟨w.heap.size+1+1,0,none⟩ (.int .u64 v)).setCell ⟨w.heap.size+1+1,1,none⟩ (.slice A k c)).cell? ⟨w.heap.size+1+1,1,none⟩=some (.slice A k c):=bb.cell 1;go_wp2;refine bodyPost_ret (v:=.tuple #[.agg #[.int .u64 v,.slice A k c],.int .i64 0]) (by simp[results,Tryz.results196,go_sem,q0,q1]) rfl ?_;refine⟨A,c,rfl,?_,?_⟩
   ·have G:=h1.wlen;have H:=h2.wlen;rw[AW (by omega),AW (by omega)]at a;exact((a.mono (by omega)).far (a.ne (by simp)) _).far (a.ne (by simp)) _
   ·have e1:Ext w wr:=Below.trans x0 (d.mono (by omega));exact(e1.set (by simp;omega) _).set (by simp;omega) _
def cY(e1 e2:Int)(A1 A2:Option Addr)(n c1 c2:Nat)(l1 l2:List Int)(w:World)(hm:H0 (max e1 e2=mx))(hz:H0 (List.zipWith max l1 l2=zl))(h1:H0 (Sl w 1 A1 n c1 (wds l1)))(h2:H0 (Sl w 1 A2 n c2 (wds l2)))(hn:n<=100000) :
  C3 196 #[.agg #[.int .u64 e1,.slice A1 n c1],.agg #[.int .u64 e2,.slice A2 n c2]] w λe w' =>
   ∃A c,e=.returned (.tuple #[.agg #[.int .u64 mx,.slice A n c],.int .i64 0])/\Own w' w.heap.size 180 1 A n c (wds zl)/\Ext w w':=by
 rw[<-hm.o,<-hz.o];exact jG e1 e2 A1 A2 n c1 c2 l1 l2 w h1.o h2.o (by omega)
def Bk.set_ne{cs:Array Value}(h:Bk w g T cs){p:Addr}(hp:g≠p.block)(u:Value):Bk (w.setCell p u) g T cs:=by
 have:=(Upd.refl (λk=>k=p.block) w).setCell (p:=p) (.inl rfl) u;exact(this.block g h.lt hp).trans h
def uZ(ad:Addr)(cL:Nat)(x:Tm)(e:Int)(A:Option Addr)(c:Nat)(w:World)(hL:H0 (Tin w (some ad) cL [x]))(hx:x.l=[])(ht:H0 (Sl w 1 A 0 c (wds []))) :
  C3 121 #[.slice (some ad) 1 cL,.agg #[.int .u64 e,.slice A 0 c]] w (cC (max e x.e,[]) e A 0 c [] w):=by
 obtain⟨f,Ax,cx,lx⟩:=x;obtain rfl:lx=[]:=hx;have⟨mx,q⟩:=tz (max e f);have t:=j6 q;rw[show max e (⟨f,Ax,cx,[]⟩:Tm).e=mx from q];clear q;go_enter func121,ntmps121;go_wp2;have⟨w0,h⟩:=E9 (((w.alloc (Obj.cells #[Value.int IntKind.u64 e,Value.slice A 0 c] 26)).alloc (Obj.cells #[Value.int IntKind.u64 0,Value.slice none 0 0] 26)).alloc (Obj.cells #[Value.int IntKind.u64 e,Value.slice A 0 c] 26));have X0:H0 (Ext w w0):=j6 (h▸(((Ext.refl w).alloc _).alloc _).alloc _);have T0:H0 (Bk w0 w.heap.size 26 #[Value.int IntKind.u64 e,Value.slice A 0 c]):=j6 (by subst h;exact((Bk.new _ _ _).alloc _).alloc _);have R0:H0 (Bk w0 (w.heap.size+1) 26 #[Value.int IntKind.u64 0,Value.slice none 0 0]):=j6 (by subst h;exact(Bk.at (by simp)).alloc _);have O0:H0 (Bk w0 (w.heap.size+2) 26 #[Value.int IntKind.u64 e,Value.slice A 0 c]):=j6 (by subst h;exact Bk.at (by simp));have B:w.heap.size+3<=w0.heap.size:=by subst h;simp
 rw[<-h];clear h;have z:H0 (Sl w0 1 Ax 0 cx (wds [])):=j6 ((hL.o.ext X0.o).ls ⟨f,Ax,cx,[]⟩ (AE.2 rfl));have⟨C,e1,p0,p1⟩:=(hL.o.ext X0.o).at (i:=0) (by show 0<1;decide);cases e1;replace p0:w0.cell? ad=some (.int .u64 f):=by rw[show ad.add (0*2)=ad from by cases ad;rfl]at p0;exact p0
 replace p1:w0.cell? ⟨ad.block,ad.off+1,none⟩=some (.slice Ax 0 cx):=by rw[show ad.add (0*2)=ad from by cases ad;rfl]at p1;exact p1
 have XE:Ext w0 w0.drew:=(Ext.refl w0).drew;have q0:∀y:Xt w0.drew,y.W.cell? ad=some (.int .u64 f):=λy=>(XE.trans y.x).cell p0;have q1:∀y:Xt w0.drew,y.W.cell? ⟨ad.block,ad.off+1,none⟩=some (.slice Ax 0 cx):=λy=>(XE.trans y.x).cell p1;have t0:∀y:Xt w0.drew,y.W.cell? ⟨w.heap.size,0,none⟩=some (.int .u64 e):=λy=>(T0.o.ext (XE.trans y.x)).cell 0;have t1:∀y:Xt w0.drew,y.W.cell? ⟨w.heap.size,1,none⟩=some (.slice A 0 c):=λy=>(T0.o.ext (XE.trans y.x)).cell 1;clear p0 p1;refine wp_loop_rounds 2 ?_;rw[rounds_succ]
 go_upto_region 6 with fail
 refine wro [0,0,0,6,14,31,63,127,127,0,767,2047] (.flo [0,1,2,3,4] (.both 5 9 (.flo [6,7] (.pur [8] (.ext 9 (.one 10 (.flo [11] (.fin)))))) (.ext 5 (.flo [6,7] (.pur [8] (.one 10 (.flo [11] (.fin)))))))) ?_
 (refine Aa (pks rfl) ?_;(repeat (go_big_quiet_step (fail)));refine oq ?_)
 refine vI (pks rfl) (pks rfl) ?_ ?_<;>intro K_ j
 ·go_wp2_with (go_at_call 196;refine(cY e f A Ax 0 c cx [] [] _ t (j6 rfl) (j6 (ht.o.ext (X0.o.trans XE))) (j6 (z.o.ext XE)) (by decide)).mono ?_;rintro r w3 ⟨A3,c3,rfl,o3,x3⟩)
  refine An.mk x3 ?_
  (refine Aa (pks rfl) ?_;(repeat (go_big_quiet_step (fail)));refine oq ?_)
  (refine Bi (pks rfl) ?_;(repeat (go_big_quiet_step (fail)));refine oq ?_)
  refine Ar (pks rfl) ?_;intro K_ j;go_wp2;refine An.mk ((Ext.refl _).alloc _) ?_;have bz:Bk (w3.alloc (.cells #[.int .u64 0,.slice none 0 0] 26)) w3.heap.size 26 #[.int .u64 0,.slice none 0 0]:=Bk.new _ _ _;have d0:=bz.cell 0;have d1:=bz.cell 1;have d2:=bz.free 0;have d3:=bz.free 1;refine Ac (pks rfl) ?_;intro K_ j;go_wp2
  (refine Aa (pks rfl) ?_;(repeat (go_big_quiet_step (fail)));refine oq ?_)
  refine Ad ?_;clear q0 q1 t0 t1 bz d0 d1 d2 d3;have⟨w8,d⟩:=E9 (w3.alloc (.cells #[.int .u64 mx,.slice A3 0 c3] 26));have⟨g,hg⟩:=E9 w3.heap.size;have HB:H0 (Bk w8 g 26 #[.int .u64 mx,.slice A3 0 c3]):=j6 (by rw[d,hg];exact Bk.new _ _ _);have HE:H0 (Ext w0 w8):=j6 (by rw[d];exact(XE.trans x3).alloc _);have HO:H0 (Own w8 w0.heap.size 180 1 A3 0 c3 (wds [])):=j6 (by rw[d];exact(o3.mono XE.size).alloc _);rw[<-d,<-hg];clear d hg o3 x3 XE;have z0:w8.cell? ⟨g,0,none⟩=some (.int .u64 mx):=HB.o.cell 0;have z1:w8.cell? ⟨g,1,none⟩=some (.slice A3 0 c3):=HB.o.cell 1;have ob:=O0.o.ext HE.o;have y0:w8.cell? ⟨w.heap.size+1+1,0,none⟩=some (.int .u64 e):=ob.cell 0;have y1:w8.cell? ⟨w.heap.size+1+1,1,none⟩=some (.slice A 0 c):=ob.cell 1;have y2:w8.frozen? ⟨w.heap.size+1+1,0,none⟩=false:=ob.free 0;have y3:w8.frozen? ⟨w.heap.size+1+1,1,none⟩=false:=ob.free 1;go_wp2;have⟨w9,a⟩:=E9 ((w8.setCell ⟨w.heap.size+1+1,0,none⟩ (.int .u64 mx)).setCell ⟨w.heap.size+1+1,1,none⟩ (.slice A3 0 c3));have O9:Bk w9 (w.heap.size+2) 26 #[.int .u64 mx,.slice A3 0 c3]:=by rw[a];exact(ob.set 0 _).set 1 _
  have R9:H0 (Bk w9 (w.heap.size+1) 26 #[Value.int IntKind.u64 0,Value.slice none 0 0]):=j6 (by rw[a];exact((R0.o.ext HE.o).set_ne (p:=⟨w.heap.size+2,0,none⟩) (by simp) _).set_ne (p:=⟨w.heap.size+2,1,none⟩) (by simp) _);have X9:H0 (Ext w w9):=j6 (by rw[a];exact((X0.o.trans HE.o).set (p:=⟨w.heap.size+2,0,none⟩) (by simp) _).set (p:=⟨w.heap.size+2,1,none⟩) (by simp) _);have H9:H0 (Own w9 (w.heap.size+3) 180 1 A3 0 c3 (wds [])):=j6 (by rw[a];exact((HO.o.far (p:=⟨w.heap.size+2,0,none⟩) (HO.o.ne (k:=w.heap.size+2) (by omega)) _).far (p:=⟨w.heap.size+2,1,none⟩) (HO.o.ne (k:=w.heap.size+2) (by omega)) _).mono B);rw[<-a];clear a z0 z1 y0 y1 y2 y3 ob;have z0:w9.cell? ⟨w.heap.size+1+1,0,none⟩=some (.int .u64 mx):=O9.cell 0;have z1:w9.cell? ⟨w.heap.size+1+1,1,none⟩=some (.slice A3 0 c3):=O9.cell 1;have z2:=R9.o.cell 0;have z3:=R9.o.cell 1;have z4:=R9.o.free 0;have z5:=R9.o.free 1;have bb:=R9.o.set2 (.int .u64 mx) (.slice A3 0 c3);clear O9;rw[rounds_succ];go_wp2;refine bodyPost_ret (v:=.agg #[.int .u64 mx,.slice A3 0 c3]) (by simp[results,Tryz.results121,go_sem,bb.1,bb.2]) rfl ⟨A3,c3,rfl,.inr ?_,?_⟩
  ·exact((H9.o.far (p:=⟨w.heap.size+1,0,none⟩) (H9.o.ne (k:=w.heap.size+1) (by omega)) _).far (p:=⟨w.heap.size+1,1,none⟩) (H9.o.ne (k:=w.heap.size+1) (by omega)) _).mono (by omega)
  ·exact(X9.o.set (p:=⟨w.heap.size+1,0,none⟩) (by simp) _).set (p:=⟨w.heap.size+1,1,none⟩) (by simp) _
 ·go_wp2;refine An.mk ((Ext.refl _).alloc _) ?_;have⟨w2,m⟩:=E9 ((w0.alloc (.cells #[.int .u64 0,.slice none 0 0] 26)).drew);have b2:Bk w2 w0.heap.size 26 #[.int .u64 0,.slice none 0 0]:=by subst m;exact(Bk.new _ _ _).drew
  have x2:Ext w0.drew w2:=by subst m;exact(Ext.refl w0.drew).alloc _
  rw[<-m];clear m;have n:=b2.lt;refine Ar (pks rfl) ?_;intro K_ j;go_wp2_with (go_at_call 196;refine(cY e f A Ax 0 c cx [] [] _ t (j6 rfl) (j6 (ht.o.ext (X0.o.trans (XE.trans x2)))) (j6 (z.o.ext (XE.trans x2))) (by decide)).mono ?_;rintro r w3 ⟨A3,c3,rfl,o3,x3⟩)
  refine An.mk x3 ?_;have bz:=b2.ext x3;have d0:=bz.cell 0;have d1:=bz.cell 1;have d2:=bz.free 0;have d3:=bz.free 1;have d4:=bz.set2 (.int .u64 mx) (.slice A3 0 c3);have d5:=d4.1;have d6:=d4.2;clear d4
  (refine Aa (pks rfl) ?_;(repeat (go_big_quiet_step (fail)));refine oq ?_)
  (refine Bi (pks rfl) ?_;(repeat (go_big_quiet_step (fail)));refine oq ?_)
  refine Ac (pks rfl) ?_;intro K_ j;go_wp2
  (refine Aa (pks rfl) ?_;(repeat (go_big_quiet_step (fail)));refine oq ?_)
  refine Ad ?_;clear q0 q1 t0 t1 d0 d1 d2 d3 d5 d6;have⟨w8,d⟩:=E9 ((w3.setCell ⟨w0.heap.size,0,none⟩ (.int .u64 mx)).setCell ⟨w0.heap.size,1,none⟩ (.slice A3 0 c3));have⟨g,hg⟩:=E9 w0.heap.size;have HB:H0 (Bk w8 g 26 #[.int .u64 mx,.slice A3 0 c3]):=j6 (by rw[d,hg];exact(bz.set 0 _).set 1 _);have HE:H0 (Ext w0 w8):=j6 (by rw[d];exact(((XE.trans x2).trans x3).set (AD _) _).set (AD _) _);have HO:H0 (Own w8 w0.heap.size 180 1 A3 0 c3 (wds [])):=j6 (by rw[d];exact((o3.far (o3.ne n) _).far (o3.ne n) _).mono (AR XE.size x2.size));rw[<-d,<-hg];clear d hg o3 x3 XE bz b2 x2 n;have z0:w8.cell? ⟨g,0,none⟩=some (.int .u64 mx):=HB.o.cell 0;have z1:w8.cell? ⟨g,1,none⟩=some (.slice A3 0 c3):=HB.o.cell 1;have ob:=O0.o.ext HE.o;have y0:w8.cell? ⟨w.heap.size+1+1,0,none⟩=some (.int .u64 e):=ob.cell 0;have y1:w8.cell? ⟨w.heap.size+1+1,1,none⟩=some (.slice A 0 c):=ob.cell 1;have y2:w8.frozen? ⟨w.heap.size+1+1,0,none⟩=false:=ob.free 0;have y3:w8.frozen? ⟨w.heap.size+1+1,1,none⟩=false:=ob.free 1;go_wp2;have⟨w9,a⟩:=E9 ((w8.setCell ⟨w.heap.size+1+1,0,none⟩ (.int .u64 mx)).setCell ⟨w.heap.size+1+1,1,none⟩ (.slice A3 0 c3));have O9:Bk w9 (w.heap.size+2) 26 #[.int .u64 mx,.slice A3 0 c3]:=by rw[a];exact(ob.set 0 _).set 1 _
  have R9:H0 (Bk w9 (w.heap.size+1) 26 #[Value.int IntKind.u64 0,Value.slice none 0 0]):=j6 (by rw[a];exact((R0.o.ext HE.o).set_ne (p:=⟨w.heap.size+2,0,none⟩) (by simp) _).set_ne (p:=⟨w.heap.size+2,1,none⟩) (by simp) _);have X9:H0 (Ext w w9):=j6 (by rw[a];exact((X0.o.trans HE.o).set (p:=⟨w.heap.size+2,0,none⟩) (by simp) _).set (p:=⟨w.heap.size+2,1,none⟩) (by simp) _);have H9:H0 (Own w9 (w.heap.size+3) 180 1 A3 0 c3 (wds [])):=j6 (by rw[a];exact((HO.o.far (p:=⟨w.heap.size+2,0,none⟩) (HO.o.ne (k:=w.heap.size+2) (by omega)) _).far (p:=⟨w.heap.size+2,1,none⟩) (HO.o.ne (k:=w.heap.size+2) (by omega)) _).mono B);rw[<-a];clear a z0 z1 y0 y1 y2 y3 ob;have z0:w9.cell? ⟨w.heap.size+1+1,0,none⟩=some (.int .u64 mx):=O9.cell 0;have z1:w9.cell? ⟨w.heap.size+1+1,1,none⟩=some (.slice A3 0 c3):=O9.cell 1;have z2:=R9.o.cell 0;have z3:=R9.o.cell 1;have z4:=R9.o.free 0;have z5:=R9.o.free 1;have bb:=R9.o.set2 (.int .u64 mx) (.slice A3 0 c3);clear O9;rw[rounds_succ];go_wp2;refine bodyPost_ret (v:=.agg #[.int .u64 mx,.slice A3 0 c3]) (by simp[results,Tryz.results121,go_sem,bb.1,bb.2]) rfl ⟨A3,c3,rfl,.inr ?_,?_⟩
  ·exact((H9.o.far (p:=⟨w.heap.size+1,0,none⟩) (H9.o.ne (k:=w.heap.size+1) (by omega)) _).far (p:=⟨w.heap.size+1,1,none⟩) (H9.o.ne (k:=w.heap.size+1) (by omega)) _).mono (by omega)
  ·exact(X9.o.set (p:=⟨w.heap.size+1,0,none⟩) (by simp) _).set (p:=⟨w.heap.size+1,1,none⟩) (by simp) _
def vA(AL:Option Addr)(cL:Nat)(e:Int)(A:Option Addr)(c:Nat)(w:World) :
  C3 121 #[.slice AL 0 cL,.agg #[.int .u64 e,.slice A 0 c]] w (cC (e,[]) e A 0 c [] w):=by
 go_enter func121,ntmps121;go_wp2;have⟨w0,a⟩:=E9 (((w.alloc (Obj.cells #[Value.int IntKind.u64 e,Value.slice A 0 c] 26)).alloc (Obj.cells #[Value.int IntKind.u64 0,Value.slice none 0 0] 26)).alloc (Obj.cells #[Value.int IntKind.u64 e,Value.slice A 0 c] 26));have X0:H0 (Ext w w0):=j6 (a▸(((Ext.refl w).alloc _).alloc _).alloc _);have R9:H0 (Bk w0 (w.heap.size+1) 26 #[Value.int IntKind.u64 0,Value.slice none 0 0]):=j6 (by subst a;exact(Bk.at (by simp)).alloc _);have O0:Bk w0 (w.heap.size+2) 26 #[Value.int IntKind.u64 e,Value.slice A 0 c]:=by subst a;exact Bk.at (by simp)
 rw[<-a];clear a;have z0:w0.cell? ⟨w.heap.size+1+1,0,none⟩=some (.int .u64 e):=O0.cell 0;have z1:w0.cell? ⟨w.heap.size+1+1,1,none⟩=some (.slice A 0 c):=O0.cell 1;have z2:=R9.o.cell 0;have z3:=R9.o.cell 1;have z4:=R9.o.free 0;have z5:=R9.o.free 1;have bb:=R9.o.set2 (.int .u64 e) (.slice A 0 c);clear O0;refine wp_loop_rounds 1 ?_;rw[rounds_succ];go_wp2;refine bodyPost_ret (v:=.agg #[.int .u64 e,.slice A 0 c]) (by simp[results,Tryz.results121,go_sem,bb.1,bb.2]) rfl ⟨A,c,rfl,.inl ⟨rfl,rfl,rfl⟩,?_⟩;exact(X0.o.set (p:=⟨w.heap.size+1,0,none⟩) (by simp) _).set (p:=⟨w.heap.size+1,1,none⟩) (by simp) _
def oW{v:TV}(AL:Option Addr)(cL m:Nat)(L:List Tm)(e:Int)(A:Option Addr)(n c:Nat)(l:List Int)(w:World)(hv:H0 (Ix (L.map Tm.v) (e,l)=v))(hm:H0 (m=L.length))(hL:H0 (Tin w AL cL L))(fL:H0 (Su L))(ht:H0 (Sl w 1 A n c (wds l)))(hl:l=[]) :
  C3 121 #[.slice AL m cL,.agg #[.int .u64 e,.slice A n c]] w (cC v e A n c l w):=by
 subst hl;obtain rfl:n=0:=ht.o.wlen.symm;rw[<-hv.o];have⟨f1,f2⟩:=fL.o
 match L,hm,hL,f1,f2 with
 | [],hm,_,_,_ =>
  obtain rfl:m=0:=hm.o;exact vA AL cL e A c w
 | [x],hm,hL,_,f2 =>
  obtain rfl:m=1:=hm.o;have hx:=f2 x (AE.2 rfl);obtain⟨ad,rfl,_⟩:=hL.o.at (i:=0) (by show 0<1;decide);have e2:Ix ([x].map Tm.v) (e,[])=(max e x.e,[]):=by
   obtain⟨f,Ax,cx,lx⟩:=x;obtain rfl:lx=[]:=hx;rfl
  rw[e2];exact uZ ad cL x e A c w hL hx ht
 | _::_::_,_,_,f1,_=>exact absurd f1 (by simp)
def Nw{V:List UV}(A:Option Addr)(c n:Nat)(L:List Ud)(AS:Option Addr)(cS nS:Nat)(S:List Tm)(w:World)(hV:H0 (UdS.sumV ((L.map Ud.uv).map (Bm (S.map Tm.v)))=V))(hn:H0 (n=L.length))(h:H0 (Uin w A c L))(h9:n<=1000000)(hin:H0 (∀x∈L,InU x))(hnS:H0 (nS=S.length))(hS:H0 (Tin w AS cS S))(fS:H0 (Su S))(fl:H0 (∀x∈L,x.t.l=[])) :
  C3 27 #[.slice A n c,.slice AS nS cS] w (yC w L V):=
 fH A c n L AS cS nS S w hV hn h h9 hin hnS hS (j6 λy hy=>⟨λz hz=>(by rw[fS.o.2 y hy]at hz;cases hz),(by rw[fS.o.2 y hy];exact AG _)⟩) (j6 λx hx W h1 h2=>oW AS cS nS S x.t.e x.t.A x.t.l.length x.t.c x.t.l W (j6 rfl) hnS (j6 h1) fS (j6 h2) (fl.o x hx))
def aS{V:List TV}{k:Nat}(h:k<V.length)(t:TV):Ak (V.take (k+1)) t=(Ak (V.take k) t||Fq V[k] t):=by
 rw[CC h,Wx]
def fN(AL:Option Addr)(cL m:Nat)(L:List Tm)(e:Int)(A:Option Addr)(n c:Nat)(l:List Int)(w:World)(hm:H0 (m=L.length))(hL:H0 (Tin w AL cL L))(ht:H0 (Sl w 1 A n c (wds l))) :
  C3 96 #[.slice AL m cL,.agg #[.int .u64 e,.slice A n c]] w λr w'=>r=.returned (.bool (Ak (L.map Tm.v) (e,l)))/\Ext w w':=by
 have⟨b,hb⟩:=tz (Ak (L.map Tm.v) (e,l));rw[hb];replace hb:=j6 hb;have q:m<=9223372036854775807:=by rw[hm.o];exact hL.o.sl.le
 go_enter func96,ntmps96;go_wp2;have⟨w0,d⟩:=E9 (w.alloc (Obj.cells #[Value.int IntKind.u64 e,Value.slice A n c] 26));have X0:H0 (Ext w w0):=j6 (d▸(Ext.refl w).alloc _);have B0:H0 (Bk w0 w.heap.size 26 #[Value.int IntKind.u64 e,Value.slice A n c]):=j6 (by subst d;exact Bk.new _ _ _);rw[<-d];clear d
 go_loopg [5] m (λz v wr=>∃k:Nat,z=m-k/\k<=m/\v=.int .i64 k/\H0 (Ak ((L.map Tm.v).take k) (e,l)=false)/\H0 (Ext w0 wr))
 case atStart=>exact⟨0,rfl,AG _,rfl,j6 rfl,j6 (Ext.refl _)⟩
 case round =>
  obtain⟨k,rfl,hk,rfl,HF,HE⟩:=hrel;by_cases hlt:k<m
  ·have b0:∀y:Xt wr,y.W.cell? ⟨w.heap.size,0,none⟩=some (.int .u64 e):=λy=>(B0.o.ext (HE.o.trans y.x)).cell 0;have b1:∀y:Xt wr,y.W.cell? ⟨w.heap.size,1,none⟩=some (.slice A n c):=λy=>(B0.o.ext (HE.o.trans y.x)).cell 1;have h:k<L.length:=by rw[<-hm.o];exact hlt
   obtain⟨f,Ax,nx,cx,lx,ad,T,hx, -⟩:=(hL.o.ext (X0.o.trans HE.o)).tmAt h;have g:=j6 (sO h);rw[hx]at g;obtain⟨rfl,q0,q1,i⟩:=T;have j:∀y:Xt wr,H0 (Sl y.W 1 A n c (wds l)):=λy=>j6 (ht.o.ext ((X0.o.trans HE.o).trans y.x));clear hx h;rcases hq:Fq (f,lx) (e,l)with _|_
   ·have a:=j6 hq;clear hq;go_wp2
    (refine Nu (by kernel_rfl) (by kernel_rfl) ?_;(repeat (go_big_quiet_step ((go_at_call 119;with_reducible exact eH (sH f e Ax A nx n cx c lx l _ a (i _) (j _))))));refine wpQuiet_nil ?_;rintro _ ⟨y,rfl⟩)
    go_wp2
    go_roundg (m-(k+1))
    case measure=>omega
    case rel=>exact⟨k+1,by omega,by omega,by go_num,j6 (by have⟨h1,h2⟩:=g.o;rw[aS h1,HF.o,h2];exact a.o),j6 (HE.o.trans y.x)⟩
   ·have a:=j6 hq;clear hq;go_wp2
    (refine Nu (by kernel_rfl) (by kernel_rfl) ?_;(repeat (go_big_quiet_step ((go_at_call 119;with_reducible exact eH (sH f e Ax A nx n cx c lx l _ a (i _) (j _))))));refine wpQuiet_nil ?_;rintro _ ⟨y,rfl⟩)
    go_wp2;go_ret;refine⟨Cm ?_,(X0.o.trans HE.o).trans y.x⟩;rw[<-hb.o];have⟨h1,h2⟩:=g.o;exact(Ej.2 ⟨_,BR h1,by rw[h2];exact a.o⟩).symm
  ·obtain rfl:m=k:=by omega
   go_wp2;go_ret;refine⟨Cm ?_,X0.o.trans HE.o⟩;rw[<-hb.o];have:=HF.o;rw[AW (by rw[AN,hm.o];exact AD _)]at this;exact this.symm
def Eg{v:Bool}(AL:Option Addr)(cL m:Nat)(L:List Tm)(e:Int)(A:Option Addr)(n c:Nat)(l:List Int)(w:World)(hv:H0 (Ak (L.map Tm.v) (e,l)=v))(hm:H0 (m=L.length))(hL:H0 (Tin w AL cL L))(ht:H0 (Sl w 1 A n c (wds l))) :
  C3 96 #[.slice AL m cL,.agg #[.int .u64 e,.slice A n c]] w λr w'=>r=.returned (.bool v)/\Ext w w':=hv.o▸fN AL cL m L e A n c l w hm hL ht
def jI(AL AM:Option Addr)(cL cM m n:Nat)(L M:List Tm)(w:World)(hm:H0 (m=L.length))(hn:H0 (n=M.length))(hL:H0 (Tin w AL cL L))(hM:H0 (Tin w AM cM M)) :
  C3 169 #[.slice AL m cL,.slice AM n cM] w λr w'=>r=.returned (.bool (Gq (L.map Tm.v) (M.map Tm.v)))/\Ext w w':=by
 have⟨b,hb⟩:=tz (Gq (L.map Tm.v) (M.map Tm.v));rw[hb];replace hb:=j6 hb;have l:n<=9223372036854775807:=by rw[hn.o];exact hM.o.sl.le
 go_enter func169,ntmps169;go_wp2
 go_loopg [5] n (λz v wr=>∃k:Nat,z=n-k/\k<=n/\v=.int .i64 k/\H0 (∀j,j<k->Ak (L.map Tm.v) (M.getD j Tm.zero).v=true)/\H0 (Ext w wr))
 case atStart=>exact⟨0,rfl,AG _,rfl,j6 (λj hj=>absurd hj (by omega)),j6 (Ext.refl _)⟩
 case round =>
  obtain⟨k,rfl,hk,rfl,HF,HE⟩:=hrel;by_cases hlt:k<n
  ·have d:k<M.length:=by rw[<-hn.o];exact hlt
   have g:=j6 d;obtain⟨ad,rfl,q0,q1⟩:=(hM.o.ext HE.o).at (i:=k) d;have a:=j6 ((hM.o.ext HE.o).ls _ (Hs d));have⟨x,hx⟩:=tz (M.getD k Tm.zero);rw[hx]at q0 q1 a;have HX:=j6 hx;clear d hx;obtain⟨f,Ax,cx,lx⟩:=x;have⟨nx,e⟩:=tz lx.length;replace q0:wr.cell? (ad.add (k*2))=some (.int .u64 f):=q0;replace q1:wr.cell? ⟨(ad.add (k*2)).block,(ad.add (k*2)).off+1,none⟩=some (.slice Ax lx.length cx):=q1;replace a:H0 (Sl wr 1 Ax lx.length cx (wds lx)):=a;rw[e]at q1 a;clear e;rcases hq:Ak (L.map Tm.v) (f,lx)with _|_
   ·have c:=j6 hq;clear hq;go_wp2_with (go_at_call 96;refine(Eg (v:=false) AL cL m L f Ax nx cx lx _ c hm (j6 (hL.o.ext HE.o)) a).mono ?_;rintro r w1 ⟨rfl,x1⟩)
    go_ret;refine⟨Cm ?_,HE.o.trans x1⟩;rw[<-hb.o];refine Eq.symm (Bool.eq_false_iff.2 λh=>?_);have:=Kf.1 h (f,lx) (AP.2 ⟨_,Hs g.o,by rw[HX.o];rfl⟩);rw[c.o]at this;exact absurd this (by decide)
   ·have c:=j6 hq;clear hq;go_wp2_with (go_at_call 96;refine(Eg (v:=true) AL cL m L f Ax nx cx lx _ c hm (j6 (hL.o.ext HE.o)) a).mono ?_;rintro r w1 ⟨rfl,x1⟩)
    go_roundg (n-(k+1))
    case measure=>omega
    case rel=>exact⟨k+1,by omega,by omega,by go_num,j6 (λj hj=>by
      by_cases hjk:j<k
      ·exact HF.o j hjk
      ·obtain rfl:j=k:=by omega
       rw[HX.o];exact c.o),j6 (HE.o.trans x1)⟩
  ·obtain rfl:n=k:=by omega
   go_wp2;go_ret;refine⟨Cm ?_,HE.o⟩;rw[<-hb.o];refine Eq.symm (Kf.2 λv hv=>?_);obtain⟨x,hx,rfl⟩:=AP.1 hv;obtain⟨j,hj,rfl⟩:=DK hx;have:=HF.o j (by rw[hn.o];exact hj);rw[AB,AC hj]at this;exact this
def Nf{v:Bool}(AL AM:Option Addr)(cL cM m n:Nat)(L M:List Tm)(w:World)(hv:H0 (Gq (L.map Tm.v) (M.map Tm.v)=v))(hm:H0 (m=L.length))(hn:H0 (n=M.length))(hL:H0 (Tin w AL cL L))(hM:H0 (Tin w AM cM M)) :
  C3 169 #[.slice AL m cL,.slice AM n cM] w λr w'=>r=.returned (.bool v)/\Ext w w':=hv.o▸jI AL AM cL cM m n L M w hm hn hL hM
def Eu(m b0 b1 b2 b3:Nat):Nat :=
 if b0<128 then 1
 else if b0<194 then 0
 else if b0<224 then (if m<2\/b1<128\/192<=b1 then 0 else 2)
 else if b0<240 then (if m<3\/b1<128\/192<=b1\/b2<128\/192<=b2 then 0 else
  if (b0-224)*4096+(b1-128)*64+(b2-128)<2048\/55296<=(b0-224)*4096+(b1-128)*64+(b2-128)/\(b0-224)*4096+(b1-128)*64+(b2-128)<57344 then 0 else 3)
 else if b0<245 then (if m<4\/b1<128\/192<=b1\/b2<128\/192<=b2\/b3<128\/192<=b3 then 0 else
  if (b0-240)*262144+(b1-128)*4096+(b2-128)*64+(b3-128)<65536\/1114111<(b0-240)*262144+(b1-128)*4096+(b2-128)*64+(b3-128) then 0 else 4)
 else 0
def Gk(l:List UInt8):Nat:=Eu l.length (l.getD 0 0).toNat (l.getD 1 0).toNat (l.getD 2 0).toNat (l.getD 3 0).toNat
def Sv(k:Nat)(d:Nat×Nat):Prop:=(k=0/\d=(65533,1))\/(k≠0/\d.2=k/\¬(d.1=65533/\d.2=1))
def a2t(n b0 b1 b2 b3:Nat)(h:b0<128):Sv (Eu n b0 b1 b2 b3) (Lib.decodeN n b0 b1 b2 b3):=by
 unfold Eu Lib.decodeN;rw[if_pos h,if_pos h];right;refine⟨by omega,rfl,?_⟩;simp only;omega
def tE(n b0 b1 b2 b3:Nat)(h:(128<=b0/\b0<194)\/(245<=b0/\b0<256)):Sv (Eu n b0 b1 b2 b3) (Lib.decodeN n b0 b1 b2 b3):=by
 rw[Lib.decodeN_bad n b0 b1 b2 b3 h];left;refine⟨?_,rfl⟩;unfold Eu
 repeat' split
 all_goals omega
def a1g(n b0 b1 b2 b3:Nat)(h:194<=b0)(h':b0<224):Eu n b0 b1 b2 b3=if n<2\/b1<128\/192<=b1 then 0 else 2:=by
 unfold Eu;rw[if_neg (show ¬b0<128 by omega),if_neg (show ¬b0<194 by omega),if_pos h']
def a3z(n b0 b1 b2 b3:Nat)(h:194<=b0)(h':b0<224):Lib.decodeN n b0 b1 b2 b3=if 1<n/\b1 / 64=2 then (if b0 % 32*64+b1 % 64 >= 128 then (b0 % 32*64+b1 % 64,2) else (65533,1)) else (65533,1):=by
 unfold Lib.decodeN;rw[if_neg (show ¬b0<128 by omega),if_neg (show ¬(b0 / 16=14/\(1<n/\b1 / 64=2)/\2<n/\b2 / 64=2)by omega),if_neg (show ¬(b0 / 8=30/\(1<n/\b1 / 64=2)/\(2<n/\b2 / 64=2)/\3<n/\b3 / 64=2)by omega)];by_cases hh:1<n/\b1 / 64=2
 ·rw[if_pos ⟨by omega,hh⟩,if_pos hh]
 ·rw[if_neg (λx=>hh x.2),if_neg hh]
def a2s(n b0 b1 b2 b3:Nat)(h:194<=b0)(h':b0<224)(h1:b1<256):Sv (Eu n b0 b1 b2 b3) (Lib.decodeN n b0 b1 b2 b3):=by
 rw[a1g n b0 b1 b2 b3 h h',a3z n b0 b1 b2 b3 h h'];by_cases hh:1<n/\b1 / 64=2
 ·rw[if_neg (show ¬(n<2\/b1<128\/192<=b1)by omega),if_pos hh,if_pos (show b0 % 32*64+b1 % 64 >= 128 by omega)];exact .inr ⟨by omega,rfl,by simp⟩
 ·rw[if_pos (show n<2\/b1<128\/192<=b1 by omega),if_neg hh];exact .inl ⟨rfl,rfl⟩
def a1f(n b0 b1 b2 b3:Nat)(h:224<=b0)(h':b0<240):Eu n b0 b1 b2 b3=if n<3\/b1<128\/192<=b1\/b2<128\/192<=b2 then 0 else
  if (b0-224)*4096+(b1-128)*64+(b2-128)<2048\/55296<=(b0-224)*4096+(b1-128)*64+(b2-128)/\(b0-224)*4096+(b1-128)*64+(b2-128)<57344 then 0 else 3:=by
 unfold Eu;rw[if_neg (show ¬b0<128 by omega),if_neg (show ¬b0<194 by omega),if_neg (show ¬b0<224 by omega),if_pos h']
def a3y(n b0 b1 b2 b3:Nat)(h:224<=b0)(h':b0<240):Lib.decodeN n b0 b1 b2 b3=if (1<n/\b1 / 64=2)/\(2<n/\b2 / 64=2) then
  (if b0 % 16*4096+b1 % 64*64+b2 % 64 >= 2048/\(b0 % 16*4096+b1 % 64*64+b2 % 64<55296\/(57344<=b0 % 16*4096+b1 % 64*64+b2 % 64/\b0 % 16*4096+b1 % 64*64+b2 % 64<=1114111))
   then (b0 % 16*4096+b1 % 64*64+b2 % 64,3) else (65533,1)) else (65533,1):=by
 unfold Lib.decodeN;rw[if_neg (show ¬b0<128 by omega),if_neg (show ¬(b0 / 32=6/\(1<n/\b1 / 64=2))by omega),if_neg (show ¬(b0 / 8=30/\(1<n/\b1 / 64=2)/\(2<n/\b2 / 64=2)/\3<n/\b3 / 64=2)by omega)];by_cases hh:(1<n/\b1 / 64=2)/\(2<n/\b2 / 64=2)
 ·rw[if_pos (show b0 / 16=14/\(1<n/\b1 / 64=2)/\2<n/\b2 / 64=2 from⟨by omega,hh⟩),if_pos hh]
 ·rw[if_neg (show ¬(b0 / 16=14/\(1<n/\b1 / 64=2)/\2<n/\b2 / 64=2)from λx=>hh x.2),if_neg hh]
def a2r(n b0 b1 b2 b3:Nat)(h:224<=b0)(h':b0<240)(h1:b1<256)(h2:b2<256):Sv (Eu n b0 b1 b2 b3) (Lib.decodeN n b0 b1 b2 b3):=by
 rw[a1f n b0 b1 b2 b3 h h',a3y n b0 b1 b2 b3 h h'];by_cases hh:(1<n/\b1 / 64=2)/\(2<n/\b2 / 64=2)
 ·rw[if_neg (show ¬(n<3\/b1<128\/192<=b1\/b2<128\/192<=b2)by omega),if_pos hh];have e:b0 % 16*4096+b1 % 64*64+b2 % 64=(b0-224)*4096+(b1-128)*64+(b2-128):=by omega
  rw[e];have hv:(b0-224)*4096+(b1-128)*64+(b2-128)<65536:=by omega
  have⟨v,e2⟩:=tz ((b0-224)*4096+(b1-128)*64+(b2-128));rw[e2]at hv ⊢;clear e e2;by_cases hg:v<2048\/55296<=v/\v<57344
  ·rw[if_pos hg,if_neg (by omega)];exact .inl ⟨rfl,rfl⟩
  ·rw[if_neg hg,if_pos (by omega)];exact .inr ⟨by omega,rfl,by simp⟩
 ·rw[if_pos (show n<3\/b1<128\/192<=b1\/b2<128\/192<=b2 by omega),if_neg hh];exact .inl ⟨rfl,rfl⟩
def a1e(n b0 b1 b2 b3:Nat)(h:240<=b0)(h':b0<245):Eu n b0 b1 b2 b3=if n<4\/b1<128\/192<=b1\/b2<128\/192<=b2\/b3<128\/192<=b3 then 0 else
  if (b0-240)*262144+(b1-128)*4096+(b2-128)*64+(b3-128)<65536\/1114111<(b0-240)*262144+(b1-128)*4096+(b2-128)*64+(b3-128) then 0 else 4:=by
 unfold Eu;rw[if_neg (show ¬b0<128 by omega),if_neg (show ¬b0<194 by omega),if_neg (show ¬b0<224 by omega),if_neg (show ¬b0<240 by omega),if_pos h']
def a3x(n b0 b1 b2 b3:Nat)(h:240<=b0)(h':b0<248):Lib.decodeN n b0 b1 b2 b3=if (1<n/\b1 / 64=2)/\(2<n/\b2 / 64=2)/\(3<n/\b3 / 64=2) then
  (if b0 % 8*262144+b1 % 64*4096+b2 % 64*64+b3 % 64 >= 65536/\(b0 % 8*262144+b1 % 64*4096+b2 % 64*64+b3 % 64<55296\/(57344<=b0 % 8*262144+b1 % 64*4096+b2 % 64*64+b3 % 64/\b0 % 8*262144+b1 % 64*4096+b2 % 64*64+b3 % 64<=1114111))
   then (b0 % 8*262144+b1 % 64*4096+b2 % 64*64+b3 % 64,4) else (65533,1)) else (65533,1):=by
 unfold Lib.decodeN;rw[if_neg (show ¬b0<128 by omega),if_neg (show ¬(b0 / 32=6/\(1<n/\b1 / 64=2))by omega),if_neg (show ¬(b0 / 16=14/\(1<n/\b1 / 64=2)/\2<n/\b2 / 64=2)by omega)];by_cases hh:(1<n/\b1 / 64=2)/\(2<n/\b2 / 64=2)/\(3<n/\b3 / 64=2)
 ·rw[if_pos (show b0 / 8=30/\(1<n/\b1 / 64=2)/\(2<n/\b2 / 64=2)/\3<n/\b3 / 64=2 from⟨by omega,hh⟩),if_pos hh]
 ·rw[if_neg (show ¬(b0 / 8=30/\(1<n/\b1 / 64=2)/\(2<n/\b2 / 64=2)/\3<n/\b3 / 64=2)from λx=>hh x.2),if_neg hh]
def a2q(n b0 b1 b2 b3:Nat)(h:240<=b0)(h':b0<245)(h1:b1<256)(h2:b2<256)(h3:b3<256):Sv (Eu n b0 b1 b2 b3) (Lib.decodeN n b0 b1 b2 b3):=by
 rw[a1e n b0 b1 b2 b3 h h',a3x n b0 b1 b2 b3 h (by omega)];by_cases hh:(1<n/\b1 / 64=2)/\(2<n/\b2 / 64=2)/\(3<n/\b3 / 64=2)
 ·rw[if_neg (show ¬(n<4\/b1<128\/192<=b1\/b2<128\/192<=b2\/b3<128\/192<=b3)by omega),if_pos hh];have e:b0 % 8*262144+b1 % 64*4096+b2 % 64*64+b3 % 64=(b0-240)*262144+(b1-128)*4096+(b2-128)*64+(b3-128):=by omega
  rw[e];have⟨v,e2⟩:=tz ((b0-240)*262144+(b1-128)*4096+(b2-128)*64+(b3-128));rw[e2];clear e e2;by_cases hg:v<65536\/1114111<v
  ·rw[if_pos hg,if_neg (by omega)];exact .inl ⟨rfl,rfl⟩
  ·rw[if_neg hg,if_pos (by omega)];exact .inr ⟨by omega,rfl,by simp⟩
 ·rw[if_pos (show n<4\/b1<128\/192<=b1\/b2<128\/192<=b2\/b3<128\/192<=b3 by omega),if_neg hh];exact .inl ⟨rfl,rfl⟩
def rH(n b0 b1 b2 b3:Nat)(h0:b0<256)(h1:b1<256)(h2:b2<256)(h3:b3<256):Sv (Eu n b0 b1 b2 b3) (Lib.decodeN n b0 b1 b2 b3):=by
 by_cases c1:b0<128
 ·exact a2t n b0 b1 b2 b3 c1
 by_cases c2:b0<194
 ·exact tE n b0 b1 b2 b3 (.inl ⟨by omega,c2⟩)
 by_cases c3:b0<224
 ·exact a2s n b0 b1 b2 b3 (by omega) c3 h1
 by_cases c4:b0<240
 ·exact a2r n b0 b1 b2 b3 (by omega) c4 h1 h2
 by_cases c5:b0<245
 ·exact a2q n b0 b1 b2 b3 (by omega) c5 h1 h2 h3
 ·exact tE n b0 b1 b2 b3 (.inr ⟨by omega,h0⟩)
def lC(l:List UInt8):Sv (Gk l) (Lib.decodeL l):=by
 rw[Lib.decodeL_N];exact rH _ _ _ _ _ (l.getD 0 0).toNat_lt (l.getD 1 0).toNat_lt (l.getD 2 0).toNat_lt (l.getD 3 0).toNat_lt
def Jb:Nat->List UInt8->Option Nat
 | 0,_=>some 0
 | f+1,l=>if l=[] then some 0 else if Gk l=0 then none else (Jb f (l.drop (Gk l))).map (· + 1)
def Ew(l:List UInt8):Option Nat:=Jb l.length l
def vY(l:List UInt8)(h:l≠[]):Gk l<=l.length:=by
 have hl:0<l.length:=EG.2 h;unfold Gk Eu
 repeat' split
 all_goals omega
def Kw:∀f,Jb f []=some 0
 | 0=>rfl
 | _+1=>by simp[Jb]
def Rf:∀(n m:Nat) (l:List UInt8),l.length<=n->l.length<=m->Jb n l=Jb m l
 | 0,m,l,hn,_=>by
  have:l=[]:=AH (by omega);subst this;rw[Kw,Kw]
 | n+1,0,l,_,hm=>by
  have:l=[]:=AH (by omega);subst this;rw[Kw,Kw]
 | n+1,m+1,l,hn,hm=>by
  unfold Jb;by_cases hne:l=[]
  ·simp[hne]
  ·have hl:0<l.length:=EG.2 hne;by_cases h0:Gk l=0
   ·simp[hne,h0]
   ·rw[if_neg hne,if_neg hne,if_neg h0,if_neg h0,Rf n m (l.drop (Gk l)) (by rw[CZ];omega) (by rw[CZ];omega)]
def jA:Ew []=some 0:=rfl
def Uu{l:List UInt8}(hne:l≠[])(h:Gk l=0):Ew l=none:=by
 obtain⟨n,hn⟩:∃n,l.length=n+1:=⟨l.length-1,by have:=EG.2 hne;omega⟩;unfold Ew;rw[hn];unfold Jb;rw[if_neg hne,if_pos h]
def Re{l:List UInt8}(hne:l≠[])(h:Gk l≠0):Ew l=(Ew (l.drop (Gk l))).map (· + 1):=by
 have hl:0<l.length:=EG.2 hne;obtain⟨n,hn⟩:∃n,l.length=n+1:=⟨l.length-1,by omega⟩;have e:Jb n (l.drop (Gk l))=Jb (l.drop (Gk l)).length (l.drop (Gk l)):=Rf n _ _ (by rw[CZ];omega) (AD _);unfold Ew;rw[hn,<-e];show(if l=[] then some 0 else if Gk l=0 then none else (Jb n (l.drop (Gk l))).map (· + 1))=_;rw[if_neg hne,if_neg h]
def Lf:∀(f:Nat) (l:List UInt8),l.length<=f->(Ew l).isSome=Lib.validD l
 | 0,l,h=>by
  have:l=[]:=AH (by omega);subst this;rfl
 | f+1,l,h=>by
  by_cases hne:l=[]
  ·subst hne;rfl
  ·have hl:0<l.length:=EG.2 hne;rw[Lib.validD_step l hne];rcases lC l with ⟨h0,hd⟩|⟨h0,hd,hn⟩
   ·rw[Uu hne h0,hd];rfl
   ·rw[Re hne h0,if_neg hn,hd,Option.isSome_map,Lf f _ (by rw[CZ];omega)]
def fB(l:List UInt8):(Ew l).isSome=Lib.validD l:=Lf _ l (AD _)
def Dt(s:ByteArray):Int:=match Ew s.data.toList with|some n=>n|none => -1
def Ut(s:ByteArray):(Dt s<0)↔Ja s=false:=by
 unfold Dt Ja;rw[<-fB];cases Ew s.data.toList with
 | none=>simp
 | some n=>simp
section
variable(s:ByteArray)(k:Nat)(w:World)(hk:k<s.size)
def vW(h:s[k].toNat<128):C3 282 #[.string s,.int .i64 k] w λe w'=>e=.returned (.int .i64 1)/\w=w':=by
 go_enter func282,ntmps282;go_wp2;go_ret;exact⟨rfl,rfl⟩
def pF(h:128<=s[k].toNat)(h':s[k].toNat<194):C3 282 #[.string s,.int .i64 k] w λe w'=>e=.returned (.int .i64 0)/\w=w':=by
 go_enter func282,ntmps282;go_wp2;go_ret;exact⟨rfl,rfl⟩
def pE(h:245<=s[k].toNat):C3 282 #[.string s,.int .i64 k] w λe w'=>e=.returned (.int .i64 0)/\w=w':=by
 go_enter func282,ntmps282;go_wp2;go_ret;exact⟨rfl,rfl⟩
def fY(hs:s.size<=140737488355328)(h:194<=s[k].toNat)(h':s[k].toNat<224)(hl:s.size<k+2):C3 282 #[.string s,.int .i64 k] w λe w'=>e=.returned (.int .i64 0)/\w=w':=by
 go_enter func282,ntmps282;go_wp2;go_ret;exact⟨rfl,rfl⟩
def pS(hs:s.size<=140737488355328)(h:194<=s[k].toNat)(h':s[k].toNat<224)(hl:k+2<=s.size)(c:s[k+1].toNat<128):C3 282 #[.string s,.int .i64 k] w λe w'=>e=.returned (.int .i64 0)/\w=w':=by
 go_enter func282,ntmps282;go_wp2
 go_rounds 2
 go_ret;exact⟨rfl,rfl⟩
def pT(hs:s.size<=140737488355328)(h:194<=s[k].toNat)(h':s[k].toNat<224)(hl:k+2<=s.size)(c:192<=s[k+1].toNat):C3 282 #[.string s,.int .i64 k] w λe w'=>e=.returned (.int .i64 0)/\w=w':=by
 go_enter func282,ntmps282;go_wp2
 go_rounds 2
 go_ret;exact⟨rfl,rfl⟩
def wB(hs:s.size<=140737488355328)(h:194<=s[k].toNat)(h':s[k].toNat<224)(hl:k+2<=s.size)(c1:128<=s[k+1].toNat)(d1:s[k+1].toNat<192):C3 282 #[.string s,.int .i64 k] w λe w'=>e=.returned (.int .i64 2)/\w=w':=by
 go_enter func282,ntmps282;go_wp2
 go_rounds 2
 go_ret;exact⟨rfl,rfl⟩
def fX(hs:s.size<=140737488355328)(h:224<=s[k].toNat)(h':s[k].toNat<240)(hl:s.size<k+3):C3 282 #[.string s,.int .i64 k] w λe w'=>e=.returned (.int .i64 0)/\w=w':=by
 go_enter func282,ntmps282;go_wp2;go_ret;exact⟨rfl,rfl⟩
def pP(hs:s.size<=140737488355328)(h:224<=s[k].toNat)(h':s[k].toNat<240)(hl:k+3<=s.size)(c:s[k+1].toNat<128):C3 282 #[.string s,.int .i64 k] w λe w'=>e=.returned (.int .i64 0)/\w=w':=by
 go_enter func282,ntmps282;go_wp2
 go_rounds 3
 go_ret;exact⟨rfl,rfl⟩
def pR(hs:s.size<=140737488355328)(h:224<=s[k].toNat)(h':s[k].toNat<240)(hl:k+3<=s.size)(c:192<=s[k+1].toNat):C3 282 #[.string s,.int .i64 k] w λe w'=>e=.returned (.int .i64 0)/\w=w':=by
 go_enter func282,ntmps282;go_wp2
 go_rounds 3
 go_ret;exact⟨rfl,rfl⟩
def pO(hs:s.size<=140737488355328)(h:224<=s[k].toNat)(h':s[k].toNat<240)(hl:k+3<=s.size)(c1:128<=s[k+1].toNat)(d1:s[k+1].toNat<192)(c:s[k+2].toNat<128):C3 282 #[.string s,.int .i64 k] w λe w'=>e=.returned (.int .i64 0)/\w=w':=by
 go_enter func282,ntmps282;go_wp2
 go_rounds 3
 go_ret;exact⟨rfl,rfl⟩
def pQ(hs:s.size<=140737488355328)(h:224<=s[k].toNat)(h':s[k].toNat<240)(hl:k+3<=s.size)(c1:128<=s[k+1].toNat)(d1:s[k+1].toNat<192)(c:192<=s[k+2].toNat):C3 282 #[.string s,.int .i64 k] w λe w'=>e=.returned (.int .i64 0)/\w=w':=by
 go_enter func282,ntmps282;go_wp2
 go_rounds 3
 go_ret;exact⟨rfl,rfl⟩
def fW(hs:s.size<=140737488355328)(h:224<=s[k].toNat)(h':s[k].toNat<240)(hl:k+3<=s.size)(c1:128<=s[k+1].toNat)(d1:s[k+1].toNat<192)(c2:128<=s[k+2].toNat)(d2:s[k+2].toNat<192)(v:64*(64*((s[k].toNat:Int)-224)+(s[k+1].toNat:Int)-128)+(s[k+2].toNat:Int)-128<2048):C3 282 #[.string s,.int .i64 k] w λe w'=>e=.returned (.int .i64 0)/\w=w':=by
 go_enter func282,ntmps282;go_wp2
 go_rounds 3
 go_ret;exact⟨rfl,rfl⟩
def kD(hs:s.size<=140737488355328)(h:224<=s[k].toNat)(h':s[k].toNat<240)(hl:k+3<=s.size)(c1:128<=s[k+1].toNat)(d1:s[k+1].toNat<192)(c2:128<=s[k+2].toNat)(d2:s[k+2].toNat<192)(v:55296<=64*(64*((s[k].toNat:Int)-224)+(s[k+1].toNat:Int)-128)+(s[k+2].toNat:Int)-128)(v':64*(64*((s[k].toNat:Int)-224)+(s[k+1].toNat:Int)-128)+(s[k+2].toNat:Int)-128<57344):C3 282 #[.string s,.int .i64 k] w λe w'=>e=.returned (.int .i64 0)/\w=w':=by
 go_enter func282,ntmps282;go_wp2
 go_rounds 3
 go_ret;exact⟨rfl,rfl⟩
def pN(hs:s.size<=140737488355328)(h:224<=s[k].toNat)(h':s[k].toNat<240)(hl:k+3<=s.size)(c1:128<=s[k+1].toNat)(d1:s[k+1].toNat<192)(c2:128<=s[k+2].toNat)(d2:s[k+2].toNat<192)(v:2048<=64*(64*((s[k].toNat:Int)-224)+(s[k+1].toNat:Int)-128)+(s[k+2].toNat:Int)-128)(v':64*(64*((s[k].toNat:Int)-224)+(s[k+1].toNat:Int)-128)+(s[k+2].toNat:Int)-128<55296):C3 282 #[.string s,.int .i64 k] w λe w'=>e=.returned (.int .i64 3)/\w=w':=by
 go_enter func282,ntmps282;go_wp2
 go_rounds 3
 go_ret;exact⟨rfl,rfl⟩
def pM(hs:s.size<=140737488355328)(h:224<=s[k].toNat)(h':s[k].toNat<240)(hl:k+3<=s.size)(c1:128<=s[k+1].toNat)(d1:s[k+1].toNat<192)(c2:128<=s[k+2].toNat)(d2:s[k+2].toNat<192)(v:57344<=64*(64*((s[k].toNat:Int)-224)+(s[k+1].toNat:Int)-128)+(s[k+2].toNat:Int)-128):C3 282 #[.string s,.int .i64 k] w λe w'=>e=.returned (.int .i64 3)/\w=w':=by
 go_enter func282,ntmps282;go_wp2
 go_rounds 3
 go_ret;exact⟨rfl,rfl⟩
def fU(hs:s.size<=140737488355328)(h:240<=s[k].toNat)(h':s[k].toNat<245)(hl:s.size<k+4):C3 282 #[.string s,.int .i64 k] w λe w'=>e=.returned (.int .i64 0)/\w=w':=by
 go_enter func282,ntmps282;go_wp2;go_ret;exact⟨rfl,rfl⟩
def pI(hs:s.size<=140737488355328)(h:240<=s[k].toNat)(h':s[k].toNat<245)(hl:k+4<=s.size)(c:s[k+1].toNat<128):C3 282 #[.string s,.int .i64 k] w λe w'=>e=.returned (.int .i64 0)/\w=w':=by
 go_enter func282,ntmps282;go_wp2
 go_rounds 4
 go_ret;exact⟨rfl,rfl⟩
def pL(hs:s.size<=140737488355328)(h:240<=s[k].toNat)(h':s[k].toNat<245)(hl:k+4<=s.size)(c:192<=s[k+1].toNat):C3 282 #[.string s,.int .i64 k] w λe w'=>e=.returned (.int .i64 0)/\w=w':=by
 go_enter func282,ntmps282;go_wp2
 go_rounds 4
 go_ret;exact⟨rfl,rfl⟩
def pH(hs:s.size<=140737488355328)(h:240<=s[k].toNat)(h':s[k].toNat<245)(hl:k+4<=s.size)(c1:128<=s[k+1].toNat)(d1:s[k+1].toNat<192)(c:s[k+2].toNat<128):C3 282 #[.string s,.int .i64 k] w λe w'=>e=.returned (.int .i64 0)/\w=w':=by
 go_enter func282,ntmps282;go_wp2
 go_rounds 4
 go_ret;exact⟨rfl,rfl⟩
def pK(hs:s.size<=140737488355328)(h:240<=s[k].toNat)(h':s[k].toNat<245)(hl:k+4<=s.size)(c1:128<=s[k+1].toNat)(d1:s[k+1].toNat<192)(c:192<=s[k+2].toNat):C3 282 #[.string s,.int .i64 k] w λe w'=>e=.returned (.int .i64 0)/\w=w':=by
 go_enter func282,ntmps282;go_wp2
 go_rounds 4
 go_ret;exact⟨rfl,rfl⟩
def pG(hs:s.size<=140737488355328)(h:240<=s[k].toNat)(h':s[k].toNat<245)(hl:k+4<=s.size)(c1:128<=s[k+1].toNat)(d1:s[k+1].toNat<192)(c2:128<=s[k+2].toNat)(d2:s[k+2].toNat<192)(c:s[k+3].toNat<128):C3 282 #[.string s,.int .i64 k] w λe w'=>e=.returned (.int .i64 0)/\w=w':=by
 go_enter func282,ntmps282;go_wp2
 go_rounds 4
 go_ret;exact⟨rfl,rfl⟩
def pJ(hs:s.size<=140737488355328)(h:240<=s[k].toNat)(h':s[k].toNat<245)(hl:k+4<=s.size)(c1:128<=s[k+1].toNat)(d1:s[k+1].toNat<192)(c2:128<=s[k+2].toNat)(d2:s[k+2].toNat<192)(c:192<=s[k+3].toNat):C3 282 #[.string s,.int .i64 k] w λe w'=>e=.returned (.int .i64 0)/\w=w':=by
 go_enter func282,ntmps282;go_wp2
 go_rounds 4
 go_ret;exact⟨rfl,rfl⟩
def fT(hs:s.size<=140737488355328)(h:240<=s[k].toNat)(h':s[k].toNat<245)(hl:k+4<=s.size)(c1:128<=s[k+1].toNat)(d1:s[k+1].toNat<192)(c2:128<=s[k+2].toNat)(d2:s[k+2].toNat<192)(c3:128<=s[k+3].toNat)(d3:s[k+3].toNat<192)(v:64*(64*(64*((s[k].toNat:Int)-240)+(s[k+1].toNat:Int)-128)+(s[k+2].toNat:Int)-128)+(s[k+3].toNat:Int)-128<65536):C3 282 #[.string s,.int .i64 k] w λe w'=>e=.returned (.int .i64 0)/\w=w':=by
 go_enter func282,ntmps282;go_wp2
 go_rounds 4
 go_ret;exact⟨rfl,rfl⟩
def fV(hs:s.size<=140737488355328)(h:240<=s[k].toNat)(h':s[k].toNat<245)(hl:k+4<=s.size)(c1:128<=s[k+1].toNat)(d1:s[k+1].toNat<192)(c2:128<=s[k+2].toNat)(d2:s[k+2].toNat<192)(c3:128<=s[k+3].toNat)(d3:s[k+3].toNat<192)(v:1114111<64*(64*(64*((s[k].toNat:Int)-240)+(s[k+1].toNat:Int)-128)+(s[k+2].toNat:Int)-128)+(s[k+3].toNat:Int)-128):C3 282 #[.string s,.int .i64 k] w λe w'=>e=.returned (.int .i64 0)/\w=w':=by
 go_enter func282,ntmps282;go_wp2
 go_rounds 4
 go_ret;exact⟨rfl,rfl⟩
def vZ(hs:s.size<=140737488355328)(h:240<=s[k].toNat)(h':s[k].toNat<245)(hl:k+4<=s.size)(c1:128<=s[k+1].toNat)(d1:s[k+1].toNat<192)(c2:128<=s[k+2].toNat)(d2:s[k+2].toNat<192)(c3:128<=s[k+3].toNat)(d3:s[k+3].toNat<192)(v:65536<=64*(64*(64*((s[k].toNat:Int)-240)+(s[k+1].toNat:Int)-128)+(s[k+2].toNat:Int)-128)+(s[k+3].toNat:Int)-128)(v':64*(64*(64*((s[k].toNat:Int)-240)+(s[k+1].toNat:Int)-128)+(s[k+2].toNat:Int)-128)+(s[k+3].toNat:Int)-128<=1114111):C3 282 #[.string s,.int .i64 k] w λe w'=>e=.returned (.int .i64 4)/\w=w':=by
 go_enter func282,ntmps282;go_wp2
 go_rounds 4
 go_ret;exact⟨rfl,rfl⟩
end
def Kt(s:ByteArray)(k i:Nat)(h:k+i<s.size):(s.data.toList.drop k).getD i 0=s[k+i]:=by
 have h':k+i<s.data.toList.length:=by simpa using h
 rw[AB,GU,AC h'];rfl
def Tt(s:ByteArray)(k:Nat):(s.data.toList.drop k).length=s.size-k:=by simp
def vX(s:ByteArray)(k:Nat)(w:World)(hs:s.size<=140737488355328)(hk:k<s.size) :
  C3 282 #[.string s,.int .i64 k] w λe w'=>e=.returned (.int .i64 (Gk (s.data.toList.drop k):Nat))/\w=w':=by
 have e0:(s.data.toList.drop k).getD 0 0=s[k]:=Kt s k 0 hk;unfold Gk;rw[e0,Tt];generalize hb1:(s.data.toList.drop k).getD 1 0=b1;generalize hb2:(s.data.toList.drop k).getD 2 0=b2;generalize hb3:(s.data.toList.drop k).getD 3 0=b3;by_cases a1:s[k].toNat<128
 ·rw[show Eu (s.size-k) s[k].toNat b1.toNat b2.toNat b3.toNat=1 by unfold Eu;rw[if_pos a1]];exact vW s k w hk a1
 by_cases a2:s[k].toNat<194
 ·rw[show Eu (s.size-k) s[k].toNat b1.toNat b2.toNat b3.toNat=0 by unfold Eu;rw[if_neg a1,if_pos a2]];exact pF s k w hk (by omega) a2
 by_cases a3:s[k].toNat<224
 ·rw[a1g _ _ _ _ _ (by omega) a3];by_cases l:k+2<=s.size
  ·rw[Kt s k 1 (by omega)]at hb1;subst hb1;by_cases c1:s[k+1].toNat<128
   ·rw[if_pos (by omega)];exact pS s k w hk hs (by omega) a3 l c1
   by_cases d1:192<=s[k+1].toNat
   ·rw[if_pos (by omega)];exact pT s k w hk hs (by omega) a3 l d1
   rw[if_neg (by omega)];exact wB s k w hk hs (by omega) a3 l (by omega) (by omega)
  ·rw[if_pos (by omega)];exact fY s k w hk hs (by omega) a3 (by omega)
 by_cases a4:s[k].toNat<240
 ·rw[a1f _ _ _ _ _ (by omega) a4];by_cases l:k+3<=s.size
  ·rw[Kt s k 1 (by omega)]at hb1;rw[Kt s k 2 (by omega)]at hb2;subst hb1 hb2;by_cases c1:s[k+1].toNat<128
   ·rw[if_pos (by omega)];exact pP s k w hk hs (by omega) a4 l c1
   by_cases d1:192<=s[k+1].toNat
   ·rw[if_pos (by omega)];exact pR s k w hk hs (by omega) a4 l d1
   by_cases c2:s[k+2].toNat<128
   ·rw[if_pos (by omega)];exact pO s k w hk hs (by omega) a4 l (by omega) (by omega) c2
   by_cases d2:192<=s[k+2].toNat
   ·rw[if_pos (by omega)];exact pQ s k w hk hs (by omega) a4 l (by omega) (by omega) d2
   rw[if_neg (show ¬(s.size-k<3\/s[k+1].toNat<128\/192<=s[k+1].toNat\/s[k+2].toNat<128\/192<=s[k+2].toNat)by omega)];by_cases v1:64*(64*((s[k].toNat:Int)-224)+(s[k+1].toNat:Int)-128)+(s[k+2].toNat:Int)-128<2048
   ·rw[if_pos (by omega)];exact fW s k w hk hs (by omega) a4 l (by omega) (by omega) (by omega) (by omega) v1
   by_cases v2:64*(64*((s[k].toNat:Int)-224)+(s[k+1].toNat:Int)-128)+(s[k+2].toNat:Int)-128<55296
   ·rw[if_neg (by omega)];exact pN s k w hk hs (by omega) a4 l (by omega) (by omega) (by omega) (by omega) (by omega) v2
   by_cases v3:64*(64*((s[k].toNat:Int)-224)+(s[k+1].toNat:Int)-128)+(s[k+2].toNat:Int)-128<57344
   ·rw[if_pos (by omega)];exact kD s k w hk hs (by omega) a4 l (by omega) (by omega) (by omega) (by omega) (by omega) v3
   ·rw[if_neg (by omega)];exact pM s k w hk hs (by omega) a4 l (by omega) (by omega) (by omega) (by omega) (by omega)
  ·rw[if_pos (by omega)];exact fX s k w hk hs (by omega) a4 (by omega)
 by_cases a5:s[k].toNat<245
 ·rw[a1e _ _ _ _ _ (by omega) a5];by_cases l:k+4<=s.size
  ·rw[Kt s k 1 (by omega)]at hb1;rw[Kt s k 2 (by omega)]at hb2;rw[Kt s k 3 (by omega)]at hb3;subst hb1 hb2 hb3;by_cases c1:s[k+1].toNat<128
   ·rw[if_pos (by omega)];exact pI s k w hk hs (by omega) a5 l c1
   by_cases d1:192<=s[k+1].toNat
   ·rw[if_pos (by omega)];exact pL s k w hk hs (by omega) a5 l d1
   by_cases c2:s[k+2].toNat<128
   ·rw[if_pos (by omega)];exact pH s k w hk hs (by omega) a5 l (by omega) (by omega) c2
   by_cases d2:192<=s[k+2].toNat
   ·rw[if_pos (by omega)];exact pK s k w hk hs (by omega) a5 l (by omega) (by omega) d2
   by_cases c3:s[k+3].toNat<128
   ·rw[if_pos (by omega)];exact pG s k w hk hs (by omega) a5 l (by omega) (by omega) (by omega) (by omega) c3
   by_cases d3:192<=s[k+3].toNat
   ·rw[if_pos (by omega)];exact pJ s k w hk hs (by omega) a5 l (by omega) (by omega) (by omega) (by omega) d3
   rw[if_neg (show ¬(s.size-k<4\/s[k+1].toNat<128\/192<=s[k+1].toNat\/s[k+2].toNat<128\/192<=s[k+2].toNat\/s[k+3].toNat<128\/192<=s[k+3].toNat)by omega)];by_cases v1:64*(64*(64*((s[k].toNat:Int)-240)+(s[k+1].toNat:Int)-128)+(s[k+2].toNat:Int)-128)+(s[k+3].toNat:Int)-128<65536
   ·rw[if_pos (by omega)];exact fT s k w hk hs (by omega) a5 l (by omega) (by omega) (by omega) (by omega) (by omega) (by omega) v1
   by_cases v2:1114111<64*(64*(64*((s[k].toNat:Int)-240)+(s[k+1].toNat:Int)-128)+(s[k+2].toNat:Int)-128)+(s[k+3].toNat:Int)-128
   ·rw[if_pos (by omega)];exact fV s k w hk hs (by omega) a5 l (by omega) (by omega) (by omega) (by omega) (by omega) (by omega) v2
   ·rw[if_neg (by omega)];exact vZ s k w hk hs (by omega) a5 l (by omega) (by omega) (by omega) (by omega) (by omega) (by omega) (by omega) (by omega)
  ·rw[if_pos (by omega)];exact fU s k w hk hs (by omega) a5 (by omega)
 ·rw[show Eu (s.size-k) s[k].toNat b1.toNat b2.toNat b3.toNat=0 by unfold Eu;rw[if_neg a1,if_neg a2,if_neg a3,if_neg a4,if_neg a5]];exact pE s k w hk (by omega)
def fR(o:Option Nat)(n:Nat):(o.map (· + 1)).map (· + n)=o.map (· + (n+1)):=by
 cases o with
 | none=>rfl
 | some m=>simp;omega
def aB{s:ByteArray}{k:Nat}(h:k<s.size):s.data.toList.drop k≠[]:=by
 intro e;have:=congrArg List.length e;rw[Tt]at this;simp at this;omega
def fD{s:ByteArray}(h:Ew s.data.toList=none):Dt s = -1:=by unfold Dt;rw[h]
def fC{s:ByteArray}(h:Ew s.data.toList=some n):Dt s=n:=by unfold Dt;rw[h]
def oF(s:ByteArray)(w:World)(hs:s.size<=140737488355328):C3 254 #[.string s] w λe w'=>e=.returned (.int .i64 (Dt s))/\w=w':=by
 go_enter func254,ntmps254;go_wp2
 go_loop [3,4] (λu v=>∃k n:Nat,k<=s.size/\n<=k/\u=.int .i64 n/\v=.int .i64 k/\H0 (Ew s.data.toList=(Ew (s.data.toList.drop k)).map (· + n))) (λ_ v=>s.size-(intOf v).toNat)
 case atStart=>exact⟨0,0,AG _,AD _,rfl,rfl,j6 (by simp)⟩
 case round =>
  obtain⟨k,n,hk,hn,rfl,rfl,hr⟩:=hrel;by_cases hlt:k<s.size
  ·have⟨q,hq⟩:=tz (Gk (s.data.toList.drop k));have a:=vY (s.data.toList.drop k) (aB hlt);rw[hq,Tt]at a;have hL:=vX s k w hs hlt;rw[hq]at hL;replace hL:=j6 hL;by_cases h0:q=0
   ·subst h0;have hT:Dt s = -1:=fD (by rw[hr.o,Uu (aB hlt) hq];rfl);have HT:=j6 hT;clear hT hq a hr;go_wp2_with (go_at_call 282;refine hL.o.mono ?_;rintro e w' ⟨rfl,rfl⟩)
    go_ret;exact⟨Bw HT.o.symm,rfl⟩
   ·have hT:Ew s.data.toList=(Ew (s.data.toList.drop (k+q))).map (· + (n+1)):=by
     rw[hr.o,Re (aB hlt) (by rw[hq];exact h0),hq,List.drop_drop,fR]
    have HT:=j6 hT;have z0:((q:Int)==0)=false:=by simpa using h0
    clear hT hq hr h0;go_wp2_with (go_at_call 282;refine hL.o.mono ?_;rintro e w' ⟨rfl,rfl⟩)
    go_round
    case rel=>exact⟨k+q,n+1,by omega,by simp at z0;omega,by go_num,by go_num,HT⟩
    case measure=>simp[intOf];simp at z0;omega
  ·have e1:k=s.size:=by omega
   have hT:Dt s=n:=fC (by
    have h:=hr.o;rw[e1,DS (by simp),jA]at h;rw[h];simp)
   have HT:=j6 hT;clear hT e1 hr;go_wp2;go_ret;exact⟨Bw HT.o.symm,rfl⟩
def Ke{r:Int}(s:ByteArray)(w:World)(h:H0 (Dt s=r))(hs:s.size<=140737488355328):C3 254 #[.string s] w λe w'=>e=.returned (.int .i64 r)/\w=w':=h.o▸oF s w hs
def Mp:Dt ⟨#[]⟩=0:=rfl
end Go.Proofs.YtdgbkpoickbidaaGreatDoor
