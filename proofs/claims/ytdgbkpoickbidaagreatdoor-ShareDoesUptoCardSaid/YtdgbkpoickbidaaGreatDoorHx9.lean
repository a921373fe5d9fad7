/- Parts of the proof. Conditions: as stated. -/
import Derived.Test.YtdgbkpoickbidaaGreatDoorHx8
set_option maxRecDepth 100000
set_option maxHeartbeats 16000000
open Go.RowKit Go.Proofs.Tryz
set_option linter.defProp false
namespace Go.Proofs.YtdgbkpoickbidaaGreatDoor.UdS
variable{B a c g hi i j lo m n q:Nat}{w wi wo wz:World}
def SortedC(l:List Ud):Prop:=l.Pairwise λx y=>cmpC x y<=0
def SortedC.left{l m:List Ud}(h:SortedC (l++m)):SortedC l:=(BL.1 h).1
def SortedC.right{l m:List Ud}(h:SortedC (l++m)):SortedC m:=(BL.1 h).2.1
def getD_left{l m:List Ud}(h:i<l.length):(l++m).getD i Ud.zero=l.getD i Ud.zero:=by
 rw[AB,BS h,AB]
def getD_right{l m:List Ud}(h:l.length<=i):(l++m).getD i Ud.zero=m.getD (i-l.length) Ud.zero:=by
 rw[AB,BF h,AB]
def mem_getD{l:List Ud}(h:i<l.length):l.getD i Ud.zero∈l:=by
 rw[AB,AC h];exact BR h
def mem_mid{P X R:List Ud}(h1:P.length<=i)(h2:i<P.length+X.length):(P++(X++R)).getD i Ud.zero∈X:=by
 rw[getD_right h1,getD_left (by omega)];exact mem_getD (by omega)
def getD_of{L P Q:List Ud}{x:Ud}(h:L=P++x::Q)(hi:i=P.length):L.getD i Ud.zero=x:=by
 rw[h];exact getD_here hi
def sym_split{P X Y Q L:List Ud}{b mid p s:Nat}(hL:L=P++(X++(Y++Q)))(ha:a=P.length)(hm:m=a+X.length)(hb:b=m+Y.length)(hmid:mid=(a+b) / 2)(hn:n=mid+m)(hp:n=p+1)
  (hc:(mid<m/\lo=n-b/\hi=mid)\/(m<=mid/\lo=a/\hi=m)) (h1:lo<=s) (h2:s<=hi) (hA:lo<s->¬cmpC (L.getD (n-s) Ud.zero) (L.getD (s-1) Ud.zero)<0) (hB:s<hi->cmpC (L.getD (p-s) Ud.zero) (L.getD s Ud.zero)<0) :
  ∃X1 X2 Y1 Y2,X=X1++X2/\Y=Y1++Y2/\s=a+X1.length/\n-s=m+Y1.length/\mid=a+(X1.length+Y1.length) /\
   (∀t x y u,X1=t++[x]->Y2=y::u->cmpC x y<=0)/\(∀t y x u,Y1=t++[y]->X2=x::u->cmpC y x<0):=by
 have e:a<=s/\s<=m:=by omega
 have f:m<=n-s/\n-s<=b:=by omega
 have⟨X1,X2,hX,c⟩:=cut_at X (s-a) (by omega);have⟨Y1,Y2,hY,d⟩:=cut_at Y (n-s-m) (by omega);have lX:X.length=X1.length+X2.length:=by rw[hX,AA]
 have lY:Y.length=Y1.length+Y2.length:=by rw[hY,AA]
 refine⟨X1,X2,Y1,Y2,hX,hY,by omega,by omega,by omega,λt x y u e1 e2=>?_,λt y x u e1 e2=>?_⟩
 ·have l1:X1.length=t.length+1:=by rw[e1,AA,AO]
  have l2:Y2.length=u.length+1:=by rw[e2,AJ]
  have:=hA (by omega);rw[getD_of (L:=L) (P:=P++X++Y1) (Q:=u++Q) (x:=y) (by rw[hL,hY,e2];simp) (by simp only[AA];omega),getD_of (L:=L) (P:=P++t) (Q:=X2++(Y++Q)) (x:=x) (by rw[hL,hX,e1];simp) (by simp only[AA];omega)]at this;rw[cmpC_tot.neg];omega
 ·have l1:Y1.length=t.length+1:=by rw[e1,AA,AO]
  have l2:X2.length=u.length+1:=by rw[e2,AJ]
  have:=hB (by omega);rw[getD_of (L:=L) (P:=P++X++t) (Q:=Y2++Q) (x:=y) (by rw[hL,hY,e1];simp) (by simp only[AA];omega),getD_of (L:=L) (P:=P++X1) (Q:=u++(Y++Q)) (x:=x) (by rw[hL,hX,e2];simp) (by simp only[AA];omega)]at this;exact this
def one_split{P Y Q L:List Ud}{x:Ud}{b:Nat}(hL:L=P++([x]++(Y++Q)))(ha:a=P.length)(hm:m=a+1)(hb:b=m+Y.length)(h1:m<=i)(h2:i<=b)(hY:SortedC Y)
  (hA:m<i->cmpC (L.getD (i-1) Ud.zero) x<0) (hB:i<b->¬cmpC (L.getD i Ud.zero) x<0) :
  ∃Y1 Y2,Y=Y1++Y2/\i=m+Y1.length/\Af cmpC ([x]++Y) (Y1++x::Y2):=by
 have⟨Y1,Y2,hS,d⟩:=cut_at Y (i-m) (by omega);have lY:Y.length=Y1.length+Y2.length:=by rw[hS,AA]
 have hf:∀y u,Y2=y::u->cmpC x y<=0:=λy u e=>by
  have l2:Y2.length=u.length+1:=by rw[e,AJ]
  have:=hB (by omega);rw[getD_of (L:=L) (P:=P++([x]++Y1)) (Q:=u++Q) (x:=y) (by rw[hL,hS,e];simp) (by simp only[AA,AO];omega)]at this;rw[cmpC_tot.neg];omega
 refine⟨Y1,Y2,hS,by omega,?_⟩;rw[hS]at hY;have c:SortedC (x::Y2):=BZ.2 ⟨λz hz=>by
  cases h:Y2 with
  | nil=>rw[h]at hz;cases hz
  | cons y u=>exact cmpC_tot.trans _ _ _ (hf y u h) (Mx cmpC_tot (h▸hY.right) z (h▸hz)),hY.right⟩
 have:=Af.merge cmpC_tot (X1:=[]) (X2:=[x]) (Y1:=Y1) (Y2:=Y2) (Z1:=Y1) (Z2:=x::Y2) (by rw[BD];exact BN _ _) hY (λt z y s e=>by cases t<;>cases e) (λt y z s e1 e2=>by
  injection e2 with e2 _;subst e2;have l1:Y1.length=t.length+1:=by rw[e1,AA,AO]
  have:=hA (by omega)
  rwa [getD_of (L:=L) (P:=P++([x]++t)) (Q:=Y2++Q) (x:=y) (by rw[hL,hS,e1];simp) (by simp only[AA,AO];omega)]at this) (by rw[BD];exact Af.self hY.left) (Af.self c)
 rw[hS];exact this
def last_split{P X Q L:List Ud}{y:Ud}(hL:L=P++(X++([y]++Q)))(ha:a=P.length)(hm:m=a+X.length)(h1:a<=i)(h2:i<=m)(hX:SortedC X)
  (hA:a<i->¬cmpC y (L.getD (i-1) Ud.zero)<0) (hB:i<m->cmpC y (L.getD i Ud.zero)<0) :
  ∃X1 X2,X=X1++X2/\i=a+X1.length/\Af cmpC (X++[y]) (X1++y::X2):=by
 have⟨X1,X2,hS,c⟩:=cut_at X (i-a) (by omega);have lX:X.length=X1.length+X2.length:=by rw[hS,AA]
 refine⟨X1,X2,hS,by omega,?_⟩;refine Af.insert cmpC_tot (Af.self (hS▸hX) |> λh=>(hS▸h:Af cmpC X (X1++X2))) (λz hz=>?_) (λz hz=>?_)
 ·cases h:X2 with
  | nil=>rw[h]at hz;cases hz
  | cons x u =>
   have l2:X2.length=u.length+1:=by rw[h,AJ]
   have:=hB (by omega);rw[getD_of (L:=L) (P:=P++X1) (Q:=u++([y]++Q)) (x:=x) (by rw[hL,hS,h];simp) (by simp only[AA];omega)]at this;rw[hS]at hX;exact cmpC_tot.lt_of_lt_le this (Mx cmpC_tot (h▸hX.right) z (h▸hz))
 ·rcases He X1 with e|⟨t,x,e⟩
  ·rw[e]at hz;cases hz
  ·rw[e,EK,EC]at hz;have hz:x=z:=by simpa using hz
   subst hz;have l1:X1.length=t.length+1:=by rw[e,AA,AO]
   have:=hA (by omega)
   rwa [getD_of (L:=L) (P:=P++t) (Q:=X2++([y]++Q)) (x:=x) (by rw[hL,hS,e];simp) (by simp only[AA];omega)]at this
def SymRes(B g c:Nat)(P S Q:List Ud)(w:World)(e:Ending)(w':World):Prop:=e=.returned (.tuple #[])/\∃Z,Af cmpC S Z/\Arr w' B g c (P++(Z++Q))/\w.grownBy w' (some g)
def OneIn(L:List Ud)(x:Ud)(m b i j:Nat):Prop:=(m<i->cmpC (L.getD (i-1) Ud.zero) x<0)/\(j<b->¬cmpC (L.getD j Ud.zero) x<0)
def WayIn(B g c a:Nat)(P Y1 R:List Ud)(x:Ud)(w wi:World)(k:Nat)(Ya Yb:List Ud):Prop :=
 Y1=Ya++Yb/\k=a+Ya.length/\Arr wi B g c (P++(Ya++x::(Yb++R)))/\w.grownBy wi (some g)
def WayIn.ext{P Y1 R:List Ud}{x:Ud}{k:Nat}{Ya Yb:List Ud}(h:WayIn B g c a P Y1 R x w wi k Ya Yb)(z:Ext wi wz):WayIn B g c a P Y1 R x w wz k Ya Yb:=⟨h.1,h.2.1,h.2.2.1.ext z,h.2.2.2.trans (Aq z g)⟩
def WayIn.step{B g c a:Nat}{P Y1 R:List Ud}{x y:Ud}{w wi wj:World}{k k1:Nat}{Ya Yb:List Ud}(h:WayIn B g c a P Y1 R x w wi k Ya (y::Yb))(ha:a=P.length)(hk:k1=k+1){nx ny tx ty:Nat}(hx:nx=x.l.length)(hy:ny=y.l.length)(hx2:tx=x.t.l.length)(hy2:ty=y.t.l.length)(hz:Ext wi wj) :
  WayIn B g c a P Y1 R x w (put4 (put4 wj g k y ny ty) g k1 x nx tx) (k+1) (Ya++[y]) Yb:=by
 obtain⟨h1,h2,h3,h4⟩:=h;have e:P++(Ya++x::(y::Yb++R))=(P++Ya)++x::([]++y::(Yb++R)):=by simp
 have hf:=h3.ext hz;rw[e]at hf;have h7:=hf.swapA (p:=k) (q:=k1) (by rw[AA];omega) (by rw[AA,CB];omega) hx hy hx2 hy2;refine⟨by rw[h1];simp,by rw[AA,AO];omega,?_,(h4.trans (Aq hz g)).trans upd_swap⟩;have e2:P++(Ya++[y]++x::(Yb++R))=(P++Ya)++y::([]++x::(Yb++R)):=by simp
 rw[e2];exact h7
def symOne_any(B g c n a m b:Nat)(P Y Q:List Ud)(x:Ud)(w:World)(ha:a=P.length)(hm:m=a+1)(hb:b=m+Y.length)(hn:n=(P++([x]++(Y++Q))).length)(hY:SortedC Y)(h:Arr w B g c (P++([x]++(Y++Q))))(hr:Rws w g ([x]++Y))(hbig:n<=1000000000) :
  C3 223 #[.slice (some ⟨g,0,none⟩) n c,.int .i64 a,.int .i64 m,.int .i64 b,.func (.func 103) #[] #[]] w (SymRes B g c P ([x]++Y) Q w):=by
 have c0:=h.le;rw[<-hn]at c0;have⟨L,hL⟩:=E9 (P++([x]++(Y++Q)));have d1:b<=n:=by rw[hb,hm,ha,hn];simp only[AA,AO];omega
 have HA:=j6 ha;have HB:=j6 hb;have HM:=j6 hm;have HL:=j6 hL;have HY:=j6 hY;have HR:=j6 hr;have HN:H0 (n=L.length):=j6 (by rw[hL];exact hn);have H:H0 (Arr w B g c L):=j6 (by rw[hL];exact h);have e1:(m:Int)-(a:Int)=1:=by omega
 have b9:m<=b:=by omega
 have d0:a<m:=by omega
 clear ha hm hb hn hY h hr hL;go_enter func223,ntmps223;go_wp2
 go_loopg [10,11] (b-m) (λz u v wr=>∃i j:Nat,z=j-i/\u=.int .i64 i/\v=.int .i64 j/\m<=i/\i<=j/\j<=b/\H0 (OneIn L x m b i j)/\Ext w wr)
 case atStart=>exact⟨m,b,rfl,rfl,rfl,AD _,b9,AD _,j6 ⟨λh=>absurd h (CW _),λh=>absurd h (CW _)⟩,Ext.refl _⟩
 case round =>
  obtain⟨i,j,rfl,rfl,rfl,h1,h2,h3,HO,er⟩:=hrel;by_cases hlt:i<j
  ·have⟨q,hq⟩:=E9 ((i+j) / 2);have c3:i<=q:=by omega
   have d5:q<j:=by omega
   have d6:((i:Int)+(j:Int)) / 2=(q:Int):=by omega
   have hA:=H.o.ext er;have a9:q<L.length:=by rw[<-HN.o];omega
   have⟨E,O,F,S⟩:=hA.at a9;have hx:=hA;rw[HL.o]at hx;have⟨G,a1,I,a2⟩:=Arr.here (Q:=Y++Q) hx HA.o;have a0:L.getD q Ud.zero∈[x]++Y:=CD _ (by
    rw[HL.o];have:=mem_mid (P:=P++[x]) (X:=Y) (R:=Q) (i:=q) (by rw[AA,AO,<-HA.o,<-HM.o];omega) (by rw[AA,AO,<-HA.o,<-HM.o,<-HB.o];omega)
    rwa [AK]at this)
   have a4:=j6 a0;have⟨y,hy⟩:=E9 (L.getD q Ud.zero);rw[<-hy]at E O F S a4;have a7:=j6 hy;have⟨nx,f⟩:=E9 x.l.length;have⟨tx,C⟩:=E9 x.t.l.length;have⟨ny,r⟩:=E9 y.l.length;have⟨ty,D⟩:=E9 y.t.l.length;rw[<-f]at G;rw[<-C]at I;rw[<-r]at E;rw[<-D]at F;have J:=j6 f;have M:=j6 C;have K:=j6 r;have N:=j6 D;have XE:Ext wr wr.drew:=(Ext.refl wr).drew;have a5:=j6 (((HR.o x (by simp)).1.ext er).ext XE);have a6:=j6 (((HR.o y a4.o).1.ext er).ext XE);have⟨v,hv⟩:=tz (cmpC y x);have HV:=j6 hv;have b5:∀z:Xt wr.drew,z.W.cell? ⟨g,q*4,none⟩=some (.slice y.A ny y.c):=λz=>(XE.trans z.x).cell E;have b6:∀z:Xt wr.drew,z.W.cell? ⟨g,q*4+1,none⟩=some (.int .u64 y.t.e):=λz=>(XE.trans z.x).cell O;have b7:∀z:Xt wr.drew,z.W.cell? ⟨g,q*4+2,none⟩=some (.slice y.t.A ty y.t.c):=λz=>(XE.trans z.x).cell F;have b8:∀z:Xt wr.drew,z.W.cell? ⟨g,q*4+3,none⟩=some (.int .i64 y.d):=λz=>(XE.trans z.x).cell S;have b1:∀z:Xt wr.drew,z.W.cell? ⟨g,a*4,none⟩=some (.slice x.A nx x.c):=λz=>(XE.trans z.x).cell G;have b2:∀z:Xt wr.drew,z.W.cell? ⟨g,a*4+1,none⟩=some (.int .u64 x.t.e):=λz=>(XE.trans z.x).cell a1;have b3:∀z:Xt wr.drew,z.W.cell? ⟨g,a*4+2,none⟩=some (.slice x.t.A tx x.t.c):=λz=>(XE.trans z.x).cell I;have b4:∀z:Xt wr.drew,z.W.cell? ⟨g,a*4+3,none⟩=some (.int .i64 x.d):=λz=>(XE.trans z.x).cell a2;clear hA a9 hx a0 f r C D hv hy hq;by_cases hv0:v<0
   ·have zv:decide (v<0)=true:=by simpa using hv0
    go_upto_region 5 with fail
    refine wro [0,0,0,6,14,0,0,96,224,511,1023] (.flo [0,1,2,3,4,5,6,7,8] (.one 9 (.flo [10] (.fin)))) ?_
    (refine Aa (pks rfl) ?_;(repeat (go_big_quiet_step (fail)));refine oq ?_)
    refine Ac (pks rfl) ?_;intro K_ T;go_wp2_with (go_at_call 103;refine(Cv y x ny nx ty tx v _ HV K J N M a6 a5).mono ?_;rintro e w1 ⟨rfl,x1⟩)
    (refine Aa (pks rfl) ?_;(repeat (go_big_quiet_step (fail)));refine oq ?_)
    refine Ad ?_;go_wp2
    go_roundg (j-(q+1))
    case measure=>omega
    case rel=>exact⟨q+1,j,rfl,by go_num,rfl,by omega,by omega,h3,j6 ⟨λ_=>by rw[EB,<-a7.o];show cmpC y x<0;rw[HV.o];exact hv0,HO.o.2⟩,er.trans (XE.trans x1)⟩
   ·have zv:decide (v<0)=false:=by simpa using hv0
    go_upto_region 5 with fail
    refine wro [0,0,0,6,14,0,0,96,224,511,1023] (.flo [0,1,2,3,4,5,6,7,8] (.one 9 (.flo [10] (.fin)))) ?_
    (refine Aa (pks rfl) ?_;(repeat (go_big_quiet_step (fail)));refine oq ?_)
    refine Ac (pks rfl) ?_;intro K_ T;go_wp2_with (go_at_call 103;refine(Cv y x ny nx ty tx v _ HV K J N M a6 a5).mono ?_;rintro e w1 ⟨rfl,x1⟩)
    (refine Aa (pks rfl) ?_;(repeat (go_big_quiet_step (fail)));refine oq ?_)
    refine Ad ?_;go_wp2
    go_roundg (q-i)
    case measure=>omega
    case rel=>exact⟨i,q,rfl,rfl,rfl,h1,c3,by omega,j6 ⟨HO.o.1,λ_=>by rw[<-a7.o];show ¬cmpC y x<0;rw[HV.o];omega⟩,er.trans (XE.trans x1)⟩
  ·obtain rfl:i=j:=by omega
   have⟨Y1,Y2,k1,k2,k3⟩:=one_split HL.o HA.o HM.o HB.o h1 h3 HY.o HO.o.1 HO.o.2;have HK:=j6 k3;have c5:=j6 k1;have c4:=j6 k2;have HW:H0 (WayIn B g c a P Y1 (Y2++Q) x w wr a [] Y1):=j6 ⟨rfl,rfl,by
    have:=H.o.ext er;rw[HL.o,k1]at this;simpa using this,Aq er g⟩
   have d2:(i:Int)-1=((i-1:Nat):Int):=by omega
   have a8:i-1=a+Y1.length:=by have:=HM.o;omega
   have a3:=j6 a8;clear k1 k2 k3 a8 HO;obtain⟨wo,b0⟩:∃wo:World,wo=wr:=⟨_,rfl⟩;rw[<-b0]at HW er ⊢;clear b0;go_wp2
   go_loopg [13] (i-1-a) (λz u wr=>∃(k:Nat) (Ya Yb:List Ud),z=i-1-k/\u=.int .i64 k/\a<=k/\k<=i-1/\H0 (WayIn B g c a P Y1 (Y2++Q) x w wr k Ya Yb))
   case atStart=>exact⟨a,[],Y1,rfl,rfl,AD _,by omega,HW⟩
   case round =>
    obtain⟨k,Ya,Yb,rfl,rfl,d3,d4,HJ⟩:=hrel;clear HW;by_cases hkl:k<i-1
    ·obtain⟨y,Yb,rfl⟩:=cons_of (l:=Yb) (by
      have⟨q1,q2,_⟩:=HJ.o;have:=a3.o;rw[q1,AA]at this;omega)
     have hf:=HJ.o.2.2.1;have e2:P++(Ya++x::(y::Yb++(Y2++Q)))=(P++Ya)++x::(y::(Yb++(Y2++Q))):=by simp
     rw[e2]at hf;have Z:k=(P++Ya).length:=by rw[AA,<-HA.o];exact HJ.o.2.1
     have⟨G,a1,I,a2⟩:=hf.here Z;have e3:(P++Ya)++x::(y::(Yb++(Y2++Q)))=(P++Ya++[x])++y::(Yb++(Y2++Q)):=by simp
     have U:=hf;rw[e3]at U;have⟨E,O,F,S⟩:=U.here (p:=k+1) (by rw[AA,<-Z,AO]);have f0:=hf.free (k*4);have c6:=hf.free (k*4+1);have f1:=hf.free (k*4+2);have c7:=hf.free (k*4+3);have f2:=hf.free ((k+1)*4);have c8:=hf.free ((k+1)*4+1);have f3:=hf.free ((k+1)*4+2);have c9:=hf.free ((k+1)*4+3);have⟨nx,f⟩:=E9 x.l.length;have⟨tx,C⟩:=E9 x.t.l.length;have⟨ny,r⟩:=E9 y.l.length;have⟨ty,D⟩:=E9 y.t.l.length;rw[<-f]at G;rw[<-C]at I;rw[<-r]at E;rw[<-D]at F;have J:=j6 f;have M:=j6 C;have K:=j6 r;have N:=j6 D;have XE:Ext wr wr.drew:=(Ext.refl wr).drew;have b5:∀z:Xt wr.drew,z.W.cell? ⟨g,(k+1)*4,none⟩=some (.slice y.A ny y.c):=λz=>(XE.trans z.x).cell E;have b6:∀z:Xt wr.drew,z.W.cell? ⟨g,(k+1)*4+1,none⟩=some (.int .u64 y.t.e):=λz=>(XE.trans z.x).cell O;have b7:∀z:Xt wr.drew,z.W.cell? ⟨g,(k+1)*4+2,none⟩=some (.slice y.t.A ty y.t.c):=λz=>(XE.trans z.x).cell F;have b8:∀z:Xt wr.drew,z.W.cell? ⟨g,(k+1)*4+3,none⟩=some (.int .i64 y.d):=λz=>(XE.trans z.x).cell S;have b1:∀z:Xt wr.drew,z.W.cell? ⟨g,k*4,none⟩=some (.slice x.A nx x.c):=λz=>(XE.trans z.x).cell G;have b2:∀z:Xt wr.drew,z.W.cell? ⟨g,k*4+1,none⟩=some (.int .u64 x.t.e):=λz=>(XE.trans z.x).cell a1;have b3:∀z:Xt wr.drew,z.W.cell? ⟨g,k*4+2,none⟩=some (.slice x.t.A tx x.t.c):=λz=>(XE.trans z.x).cell I;have b4:∀z:Xt wr.drew,z.W.cell? ⟨g,k*4+3,none⟩=some (.int .i64 x.d):=λz=>(XE.trans z.x).cell a2;clear hf U e2 e3 Z f r C D
     go_upto_region 11 with fail
     refine wro [0,0,0,0,8,0,0,64,224,480,0,0,3072,7168,16355,32739,65535,131071] (.flo [0,1,5,6,7,8,9,10,11,12,13,14] (.pur [2,3,4] (.one 15 (.flo [16] (.one 17 (.fin)))))) ?_
     (refine Aa (pks rfl) ?_;(repeat (go_big_quiet_step (fail)));refine oq ?_)
     (refine Bi (pks rfl) ?_;(repeat (go_big_quiet_step (fail)));refine oq ?_)
     refine Ac (pks rfl) ?_;intro K_ T;go_wp2
     (refine Aa (pks rfl) ?_;(repeat (go_big_quiet_step (fail)));refine oq ?_)
     refine Ac (pks rfl) ?_;intro K_ T;go_wp2;refine Ad ?_;go_wp2
     go_roundg (i-1-(k+1))
     case measure=>omega
     case rel=>exact⟨k+1,Ya++[y],Yb,rfl,by go_num,by omega,by omega,j6 ((HJ.o.step HA.o rfl J.o K.o M.o N.o (Ext.refl _)).ext (Ext.refl _).drew)⟩
    ·obtain rfl:k=i-1:=by omega
     have HE:H0 (Yb=[]):=j6 (by
      have⟨q1,q2,_⟩:=HJ.o;have:=a3.o;rw[q1,AA]at this;exact AH (by omega))
     go_wp2;refine bodyPost_ret (v:=.tuple #[]) (by simp only[results,Tryz.results223];go_simp) rfl ?_;have⟨q1,q2,q3,q4⟩:=HJ.o;rw[HE.o]at q1 q3;rw[AV]at q1;refine⟨rfl,Y1++x::Y2,HK.o,?_,q4⟩;rw[q1];simpa using q3
def LastIn(L:List Ud)(y:Ud)(a m i j:Nat):Prop:=(a<i->¬cmpC y (L.getD (i-1) Ud.zero)<0)/\(j<m->cmpC y (L.getD j Ud.zero)<0)
def BackIn(B g c a:Nat)(P X2 R:List Ud)(y:Ud)(w wi:World)(k:Nat)(Xa Xb:List Ud):Prop :=
 X2=Xa++Xb/\k=a+Xa.length/\Arr wi B g c (P++(Xa++y::(Xb++R)))/\w.grownBy wi (some g)
def BackIn.ext{P X2 R:List Ud}{y:Ud}{k:Nat}{Xa Xb:List Ud}(h:BackIn B g c a P X2 R y w wi k Xa Xb)(z:Ext wi wz):BackIn B g c a P X2 R y w wz k Xa Xb:=⟨h.1,h.2.1,h.2.2.1.ext z,h.2.2.2.trans (Aq z g)⟩
def BackIn.step{B g c a:Nat}{P X2 R:List Ud}{x y:Ud}{w wi wj:World}{k k1:Nat}{Xa Xb:List Ud}(h:BackIn B g c a P X2 R y w wi k (Xa++[x]) Xb)(ha:a=P.length)(hk:k=k1+1){nx ny tx ty:Nat}(hx:nx=x.l.length)(hy:ny=y.l.length)(hx2:tx=x.t.l.length)(hy2:ty=y.t.l.length)(hz:Ext wi wj) :
  BackIn B g c a P X2 R y w (put4 (put4 wj g k x nx tx) g k1 y ny ty) k1 Xa (x::Xb):=by
 obtain⟨h1,h2,h3,h4⟩:=h;rw[AA,AO]at h2;have e:P++(Xa++[x]++y::(Xb++R))=(P++Xa)++x::([]++y::(Xb++R)):=by simp
 have hf:=h3.ext hz;rw[e]at hf;have h7:=hf.swapB (p:=k1) (q:=k) (by rw[AA];omega) (by rw[AA,CB];omega) hx hy hx2 hy2;refine⟨by rw[h1];simp,by omega,?_,(h4.trans (Aq hz g)).trans upd_swap⟩;have e2:P++(Xa++y::(x::Xb++R))=(P++Xa)++y::([]++x::(Xb++R)):=by simp
 rw[e2];exact h7
def symLast_any(B g c n a m b:Nat)(P X Q:List Ud)(y:Ud)(w:World)(ha:a=P.length)(hm:m=a+X.length)(hb:b=m+1)(hn:n=(P++(X++([y]++Q))).length)(hX:SortedC X)(h2:2<=X.length)(h:Arr w B g c (P++(X++([y]++Q))))(hr:Rws w g (X++[y]))(hbig:n<=1000000000) :
  C3 223 #[.slice (some ⟨g,0,none⟩) n c,.int .i64 a,.int .i64 m,.int .i64 b,.func (.func 103) #[] #[]] w (SymRes B g c P (X++[y]) Q w):=by
 have b8:=h.le;rw[<-hn]at b8;have⟨L,hL⟩:=E9 (P++(X++([y]++Q)));have c7:b<=n:=by rw[hb,hm,ha,hn];simp only[AA,AO];omega
 have HA:=j6 ha;have HB:=j6 hb;have HM:=j6 hm;have HL:=j6 hL;have HX:=j6 hX;have HR:=j6 hr;have HN:H0 (n=L.length):=j6 (by rw[hL];exact hn);have H:H0 (Arr w B g c L):=j6 (by rw[hL];exact h);have e1:((m:Int)-(a:Int)==1)=false:=by rw[beq_eq_false_iff_ne];omega
 have e2:(b:Int)-(m:Int)=1:=by omega
 have d1:m<b:=by omega
 have b6:a<=m:=by omega
 clear ha hm hb hn hX h hr hL h2;go_enter func223,ntmps223;go_wp2
 go_loopg [14,15] (m-a) (λz u v wr=>∃i j:Nat,z=j-i/\u=.int .i64 i/\v=.int .i64 j/\a<=i/\i<=j/\j<=m/\H0 (LastIn L y a m i j)/\Ext w wr)
 case atStart=>exact⟨a,m,rfl,rfl,rfl,AD _,b6,AD _,j6 ⟨λh=>absurd h (CW _),λh=>absurd h (CW _)⟩,Ext.refl _⟩
 case round =>
  obtain⟨i,j,rfl,rfl,rfl,h1,h2,h3,HO,er⟩:=hrel;by_cases hlt:i<j
  ·have⟨q,hq⟩:=E9 ((i+j) / 2);have b9:i<=q:=by omega
   have d2:q<j:=by omega
   have d3:((i:Int)+(j:Int)) / 2=(q:Int):=by omega
   have hA:=H.o.ext er;have a6:q<L.length:=by rw[<-HN.o];omega
   have⟨E,O,F,R⟩:=hA.at a6;have hx:=hA;rw[HL.o]at hx;have ex:P++(X++([y]++Q))=(P++X)++y::Q:=by simp
   rw[ex]at hx;have⟨G,Z,I,a0⟩:=hx.here (p:=m) (by rw[AA,<-HA.o];exact HM.o);have Y:L.getD q Ud.zero∈X++[y]:=BE _ (by
    rw[HL.o];exact mem_mid (by rw[<-HA.o];omega) (by rw[<-HA.o,<-HM.o];omega))
   have a2:=j6 Y;have⟨x,hy⟩:=E9 (L.getD q Ud.zero);rw[<-hy]at E O F R a2;have a5:=j6 hy;have⟨nx,f⟩:=E9 x.l.length;have⟨tx,C⟩:=E9 x.t.l.length;have⟨ny,r⟩:=E9 y.l.length;have⟨ty,D⟩:=E9 y.t.l.length;rw[<-r]at G;rw[<-D]at I;rw[<-f]at E;rw[<-C]at F;have J:=j6 f;have M:=j6 C;have K:=j6 r;have N:=j6 D;have XE:Ext wr wr.drew:=(Ext.refl wr).drew;have a4:=j6 (((HR.o y (by simp)).1.ext er).ext XE);have a3:=j6 (((HR.o x a2.o).1.ext er).ext XE);have⟨v,hv⟩:=tz (cmpC y x);have HV:=j6 hv;have b2:∀z:Xt wr.drew,z.W.cell? ⟨g,q*4,none⟩=some (.slice x.A nx x.c):=λz=>(XE.trans z.x).cell E;have b3:∀z:Xt wr.drew,z.W.cell? ⟨g,q*4+1,none⟩=some (.int .u64 x.t.e):=λz=>(XE.trans z.x).cell O;have b4:∀z:Xt wr.drew,z.W.cell? ⟨g,q*4+2,none⟩=some (.slice x.t.A tx x.t.c):=λz=>(XE.trans z.x).cell F;have b5:∀z:Xt wr.drew,z.W.cell? ⟨g,q*4+3,none⟩=some (.int .i64 x.d):=λz=>(XE.trans z.x).cell R;have a8:∀z:Xt wr.drew,z.W.cell? ⟨g,m*4,none⟩=some (.slice y.A ny y.c):=λz=>(XE.trans z.x).cell G;have a9:∀z:Xt wr.drew,z.W.cell? ⟨g,m*4+1,none⟩=some (.int .u64 y.t.e):=λz=>(XE.trans z.x).cell Z;have b0:∀z:Xt wr.drew,z.W.cell? ⟨g,m*4+2,none⟩=some (.slice y.t.A ty y.t.c):=λz=>(XE.trans z.x).cell I;have b1:∀z:Xt wr.drew,z.W.cell? ⟨g,m*4+3,none⟩=some (.int .i64 y.d):=λz=>(XE.trans z.x).cell a0;clear hA a6 hx Y f r C D hv hy hq ex;by_cases hv0:v<0
   ·have zv:decide (v<0)=true:=by simpa using hv0
    go_upto_region 17 with fail
    refine wro [0,0,0,6,14,0,0,96,224,511,1023,2047] (.flo [0,1,2,3,4,5,6,7,8] (.one 9 (.flo [10,11] (.fin)))) ?_
    (refine Aa (pks rfl) ?_;(repeat (go_big_quiet_step (fail)));refine oq ?_)
    refine Ac (pks rfl) ?_;intro K_ S;go_wp2_with (go_at_call 103;refine(Cv y x ny nx ty tx v _ HV K J N M a4 a3).mono ?_;rintro e w1 ⟨rfl,x1⟩)
    (refine Aa (pks rfl) ?_;(repeat (go_big_quiet_step (fail)));refine oq ?_)
    refine Ad ?_;go_wp2
    go_roundg (q-i)
    case measure=>omega
    case rel=>exact⟨i,q,rfl,rfl,rfl,h1,b9,by omega,j6 ⟨HO.o.1,λ_=>by rw[<-a5.o];show cmpC y x<0;rw[HV.o];exact hv0⟩,er.trans (XE.trans x1)⟩
   ·have zv:decide (v<0)=false:=by simpa using hv0
    go_upto_region 17 with fail
    refine wro [0,0,0,6,14,0,0,96,224,511,1023,2047] (.flo [0,1,2,3,4,5,6,7,8] (.one 9 (.flo [10,11] (.fin)))) ?_
    (refine Aa (pks rfl) ?_;(repeat (go_big_quiet_step (fail)));refine oq ?_)
    refine Ac (pks rfl) ?_;intro K_ S;go_wp2_with (go_at_call 103;refine(Cv y x ny nx ty tx v _ HV K J N M a4 a3).mono ?_;rintro e w1 ⟨rfl,x1⟩)
    (refine Aa (pks rfl) ?_;(repeat (go_big_quiet_step (fail)));refine oq ?_)
    refine Ad ?_;go_wp2
    go_roundg (j-(q+1))
    case measure=>omega
    case rel=>exact⟨q+1,j,rfl,by go_num,rfl,by omega,by omega,h3,j6 ⟨λ_=>by rw[EB,<-a5.o];show ¬cmpC y x<0;rw[HV.o];omega,HO.o.2⟩,er.trans (XE.trans x1)⟩
  ·obtain rfl:i=j:=by omega
   have⟨X1,X2,k1,k2,k3⟩:=last_split HL.o HA.o HM.o h1 h3 HX.o HO.o.1 HO.o.2;have HK:=j6 k3;have c0:=j6 k1;have a1:H0 (i=(P++X1).length):=j6 (by rw[AA,<-HA.o];exact k2);have HW:H0 (BackIn B g c i (P++X1) X2 Q y w wr m X2 []):=j6 ⟨(AV _).symm,by
    have:=HM.o;rw[k1,AA]at this;omega,by
    have:=H.o.ext er;rw[HL.o,k1]at this;simpa using this,Aq er g⟩
   clear k1 k2 k3 HO;obtain⟨wo,a7⟩:∃wo:World,wo=wr:=⟨_,rfl⟩;rw[<-a7]at HW er ⊢;clear a7;go_wp2
   go_loopg [17] (m-i) (λz u wr=>∃(k:Nat) (Xa Xb:List Ud),z=k-i/\u=.int .i64 k/\i<=k/\k<=m/\H0 (BackIn B g c i (P++X1) X2 Q y w wr k Xa Xb))
   case atStart=>exact⟨m,X2,[],rfl,rfl,h3,AD _,HW⟩
   case round =>
    obtain⟨k,Xa,Xb,rfl,rfl,c8,c9,HJ⟩:=hrel;clear HW;rcases He Xa with rfl|⟨Xa,x,rfl⟩
    ·obtain rfl:k=i:=by have:=HJ.o.2.1;simpa using this
     go_wp2;refine bodyPost_ret (v:=.tuple #[]) (by simp only[results,Tryz.results223];go_simp) rfl ?_;have⟨q1,q2,q3,q4⟩:=HJ.o;refine⟨rfl,X1++y::X2,HK.o,?_,q4⟩;rw[q1];simpa using q3
    ·obtain⟨k1,hk⟩:∃k1,k=k1+1:=⟨k-1,by have:=HJ.o.2.1;rw[AA,AO]at this;omega⟩;subst hk;have b7:i<=k1:=by have:=HJ.o.2.1;rw[AA,AO]at this;omega
     have d0:((k1+1:Nat):Int)-1=(k1:Int):=by omega
     have hf:=HJ.o.2.2.1;have e2:P++X1++(Xa++[x]++y::(Xb++Q))=(P++X1++Xa)++x::(y::(Xb++Q)):=by simp
     rw[e2]at hf;have U:k1=(P++X1++Xa).length:=by rw[AA,<-a1.o];have:=HJ.o.2.1;rw[AA,AO]at this;omega
     have⟨G,Z,I,a0⟩:=hf.here U;have e3:(P++X1++Xa)++x::(y::(Xb++Q))=(P++X1++Xa++[x])++y::(Xb++Q):=by simp
     have T:=hf;rw[e3]at T;have⟨E,O,F,R⟩:=T.here (p:=k1+1) (by rw[AA,<-U,AO]);have f0:=hf.free (k1*4);have c3:=hf.free (k1*4+1);have f1:=hf.free (k1*4+2);have c4:=hf.free (k1*4+3);have f2:=hf.free ((k1+1)*4);have c5:=hf.free ((k1+1)*4+1);have f3:=hf.free ((k1+1)*4+2);have c6:=hf.free ((k1+1)*4+3);have⟨nx,f⟩:=E9 x.l.length;have⟨tx,C⟩:=E9 x.t.l.length;have⟨ny,r⟩:=E9 y.l.length;have⟨ty,D⟩:=E9 y.t.l.length;rw[<-f]at G;rw[<-C]at I;rw[<-r]at E;rw[<-D]at F;have J:=j6 f;have M:=j6 C;have K:=j6 r;have N:=j6 D;have XE:Ext wr wr.drew:=(Ext.refl wr).drew;have b2:∀z:Xt wr.drew,z.W.cell? ⟨g,(k1+1)*4,none⟩=some (.slice y.A ny y.c):=λz=>(XE.trans z.x).cell E;have b3:∀z:Xt wr.drew,z.W.cell? ⟨g,(k1+1)*4+1,none⟩=some (.int .u64 y.t.e):=λz=>(XE.trans z.x).cell O;have b4:∀z:Xt wr.drew,z.W.cell? ⟨g,(k1+1)*4+2,none⟩=some (.slice y.t.A ty y.t.c):=λz=>(XE.trans z.x).cell F;have b5:∀z:Xt wr.drew,z.W.cell? ⟨g,(k1+1)*4+3,none⟩=some (.int .i64 y.d):=λz=>(XE.trans z.x).cell R;have a8:∀z:Xt wr.drew,z.W.cell? ⟨g,k1*4,none⟩=some (.slice x.A nx x.c):=λz=>(XE.trans z.x).cell G;have a9:∀z:Xt wr.drew,z.W.cell? ⟨g,k1*4+1,none⟩=some (.int .u64 x.t.e):=λz=>(XE.trans z.x).cell Z;have b0:∀z:Xt wr.drew,z.W.cell? ⟨g,k1*4+2,none⟩=some (.slice x.t.A tx x.t.c):=λz=>(XE.trans z.x).cell I;have b1:∀z:Xt wr.drew,z.W.cell? ⟨g,k1*4+3,none⟩=some (.int .i64 x.d):=λz=>(XE.trans z.x).cell a0;clear hf T e2 e3 U f r C D
     go_upto_region 23 with fail
     refine wro [0,0,0,0,8,0,0,64,224,480,0,0,3072,7168,16355,32739,65535,131071] (.flo [0,1,5,6,7,8,9,10,11,12,13,14] (.pur [2,3,4] (.one 15 (.flo [16] (.one 17 (.fin)))))) ?_
     (refine Aa (pks rfl) ?_;(repeat (go_big_quiet_step (fail)));refine oq ?_)
     (refine Bi (pks rfl) ?_;(repeat (go_big_quiet_step (fail)));refine oq ?_)
     refine Ac (pks rfl) ?_;intro K_ S;go_wp2
     (refine Aa (pks rfl) ?_;(repeat (go_big_quiet_step (fail)));refine oq ?_)
     refine Ac (pks rfl) ?_;intro K_ S;go_wp2;refine Ad ?_;go_wp2
     go_roundg (k1-i)
     case measure=>omega
     case rel=>exact⟨k1,Xa,x::Xb,rfl,by go_num,b7,by omega,j6 ((HJ.o.step a1.o rfl J.o K.o M.o N.o (Ext.refl _)).ext (Ext.refl _).drew)⟩
def SymIH(N:Nat):Prop:=∀(B g c n a m b:Nat) (P X Y Q:List Ud) (w:World),X.length+Y.length<=N->0<X.length->0<Y.length->a=P.length->m=a+X.length->b=m+Y.length->n=(P++(X++(Y++Q))).length->SortedC X->SortedC Y ->
 Arr w B g c (P++(X++(Y++Q)))->Rws w g (X++Y)->n<=1000000000 ->
 C3 223 #[.slice (some ⟨g,0,none⟩) n c,.int .i64 a,.int .i64 m,.int .i64 b,.func (.func 103) #[] #[]] w (SymRes B g c P (X++Y) Q w)
structure SymF (N g n a m b mid en s:Nat) (P X X1 X2 Y Y1 Y2 Q:List Ud) (w:World):Prop where
 hX:X=X1++X2
 hY:Y=Y1++Y2
 ha:a=P.length
 hs:s=a+X1.length
 hm:m=a+X.length
 hb:b=m+Y.length
 hen:en=m+Y1.length
 hmid:mid=a+(X1.length+Y1.length)
 half:mid=(a+b) / 2
 hn:n=(P++(X++(Y++Q))).length
 sX:SortedC X
 sY:SortedC Y
 rows:Rws w g (X++Y)
 cut1:∀t x y u,X1=t++[x]->Y2=y::u->cmpC x y<=0
 cut2:∀t y x u,Y1=t++[y]->X2=x::u->cmpC y x<0
 big:n<=1000000000
 len:X.length+Y.length<=N+1
 two:2<=X.length+Y.length
def SymAt(B g c:Nat)(P X1 Y1 X2 Y2 Q:List Ud)(w w2:World):Prop:=Arr w2 B g c (P++(X1++(Y1++(X2++(Y2++Q)))))/\w.grownBy w2 (some g)
def SymMid(B g c:Nat)(P X1 Y1 X2 Y2 Q:List Ud)(w w3:World):Prop:=∃Z1,Af cmpC (X1++Y1) Z1/\Arr w3 B g c (P++(Z1++(X2++(Y2++Q))))/\w.grownBy w3 (some g)
section
variable{N B g c n a m b mid en s:Nat}{P X X1 X2 Y Y1 Y2 Q:List Ud}{w w1 w2 w3:World}
def nil_or{α:Type}{l:List α}(h:¬ 0<l.length):l=[]:=AH (by omega)
def SymF.lens(F:SymF N g n a m b mid en s P X X1 X2 Y Y1 Y2 Q w):X.length=X1.length+X2.length/\Y.length=Y1.length+Y2.length/\n=P.length+(X.length+(Y.length+Q.length)):=
 ⟨by rw[F.hX,AA],by rw[F.hY,AA],by rw[F.hn];simp only[AA]⟩
def SymF.flags(F:SymF N g n a m b mid en s P X X1 X2 Y Y1 Y2 Q w):(s<m↔0<X2.length)/\(m<en↔0<Y1.length)/\(a<s↔0<X1.length)/\(s<mid↔0<Y1.length)/\(mid<en↔0<X2.length)/\(en<b↔0<Y2.length):=by
 have⟨l1,l2,l3⟩:=F.lens;have hs:=F.hs;have hm:=F.hm;have hb:=F.hb;have hmid:=F.hmid;have hen:=F.hen;refine⟨⟨λ_=>?_,λ_=>?_⟩,⟨λ_=>?_,λ_=>?_⟩,⟨λ_=>?_,λ_=>?_⟩,⟨λ_=>?_,λ_=>?_⟩,⟨λ_=>?_,λ_=>?_⟩,⟨λ_=>?_,λ_=>?_⟩⟩<;>omega
def SymF.still(F:SymF N g n a m b mid en s P X X1 X2 Y Y1 Y2 Q w)(h:Arr w1 B g c (P++(X++(Y++Q))))(up:w.grownBy w1 (some g))(hz:¬ 0<X2.length\/¬ 0<Y1.length):SymAt B g c P X1 Y1 X2 Y2 Q w w1:=by
 refine⟨?_,up⟩;rw[F.hX,F.hY]at h;rcases hz with q|q
 ·rw[nil_or q]at h ⊢;simpa using h
 ·rw[nil_or q]at h ⊢;simpa using h
def SymF.rot(F:SymF N g n a m b mid en s P X X1 X2 Y Y1 Y2 Q w)(h:Arr w1 B g c (P++(X++(Y++Q))))(up:w.grownBy w1 (some g))(h1:0<X2.length)(h2:0<Y1.length) :
  C3 255 #[.slice (some ⟨g,0,none⟩) n c,.int .i64 s,.int .i64 m,.int .i64 en,.func (.func 103) #[] #[]] w1 λe w'=>e=.returned (.tuple #[])/\SymAt B g c P X1 Y1 X2 Y2 Q w w':=by
 have⟨l1,l2,l3⟩:=F.lens;have e:P++(X++(Y++Q))=(P++X1)++(X2++(Y1++(Y2++Q))):=by rw[F.hX,F.hY];simp
 rw[e]at h;have ha:=F.ha;have hs:=F.hs;have hm:=F.hm;refine(rot_any B g c n s m en (P++X1) X2 Y1 (Y2++Q) w1 (by rw[AA];omega) (by omega) F.hen h1 h2 (by rw[F.hn,e]) h).mono ?_;rintro e w2 ⟨rfl,a2,g2⟩;refine⟨rfl,?_,up.trans g2⟩
 rwa [AK]at a2
def SymF.left(F:SymF N g n a m b mid en s P X X1 X2 Y Y1 Y2 Q w)(IH:SymIH N)(h:SymAt B g c P X1 Y1 X2 Y2 Q w w2)(h1:0<X1.length)(h2:0<Y1.length) :
  C3 223 #[.slice (some ⟨g,0,none⟩) n c,.int .i64 a,.int .i64 s,.int .i64 mid,.func (.func 103) #[] #[]] w2 λe w'=>e=.returned (.tuple #[])/\SymMid B g c P X1 Y1 X2 Y2 Q w w':=by
 have⟨l1,l2,l3⟩:=F.lens;obtain⟨q1,q2⟩:=h;have ha:=F.ha;have hs:=F.hs;have hm:=F.hm;have hb:=F.hb;have hh:=F.half;have hmid:=F.hmid;have hl:=F.len;have d:=F.two;refine(IH B g c n a s mid P X1 Y1 (X2++(Y2++Q)) w2 (by omega) h1 h2 ha hs (by omega) (by simp only[AA];omega) (SortedC.left (F.hX▸F.sX)) (SortedC.left (F.hY▸F.sY)) q1 ((F.rows.upd q2).sub λx hx=>?_) F.big).mono ?_
 ·rw[F.hX,F.hY];rcases AQ.1 hx with hx|hx<;>simp[hx]
 ·rintro e w3 ⟨rfl,Z,z1,z2,z3⟩;exact⟨rfl,Z,z1,z2,q2.trans z3⟩
def SymF.left0(F:SymF N g n a m b mid en s P X X1 X2 Y Y1 Y2 Q w)(h:SymAt B g c P X1 Y1 X2 Y2 Q w w2)(hz:¬ 0<X1.length\/¬ 0<Y1.length):SymMid B g c P X1 Y1 X2 Y2 Q w w2:=by
 obtain⟨q1,q2⟩:=h;refine⟨X1++Y1,?_,by rw[AK];exact q1,q2⟩;rcases hz with q|q
 ·rw[nil_or q,BD];exact Af.self (SortedC.left (F.hY▸F.sY))
 ·rw[nil_or q,AV];exact Af.self (SortedC.left (F.hX▸F.sX))
def SymF.all(F:SymF N g n a m b mid en s P X X1 X2 Y Y1 Y2 Q w){Z1 Z2:List Ud}(h1:Af cmpC (X1++Y1) Z1)(h2:Af cmpC (X2++Y2) Z2):Af cmpC (X++Y) (Z1++Z2):=by
 have:=Af.merge cmpC_tot (F.hX▸F.sX) (F.hY▸F.sY) F.cut1 F.cut2 h1 h2
 rwa [<-F.hX,<-F.hY]at this
def SymF.right(F:SymF N g n a m b mid en s P X X1 X2 Y Y1 Y2 Q w)(IH:SymIH N)(h:SymMid B g c P X1 Y1 X2 Y2 Q w w3)(h1:0<X2.length)(h2:0<Y2.length) :
  C3 223 #[.slice (some ⟨g,0,none⟩) n c,.int .i64 mid,.int .i64 en,.int .i64 b,.func (.func 103) #[] #[]] w3 (SymRes B g c P (X++Y) Q w):=by
 have⟨l1,l2,l3⟩:=F.lens;obtain⟨Z1,q0,q1,q2⟩:=h;have lz:=stable_len q0;rw[AA]at lz;have ha:=F.ha;have hs:=F.hs;have hm:=F.hm;have hb:=F.hb;have hh:=F.half;have hmid:=F.hmid;have hen:=F.hen;have hl:=F.len;have d:=F.two;rw[<-AK]at q1;refine(IH B g c n mid en b (P++Z1) X2 Y2 Q w3 (by omega) h1 h2 (by rw[AA];omega) (by omega) (by omega) (by simp only[AA];omega) (SortedC.right (F.hX▸F.sX)) (SortedC.right (F.hY▸F.sY)) q1 ((F.rows.upd q2).sub λx hx=>?_) F.big).mono ?_
 ·rw[F.hX,F.hY];rcases AQ.1 hx with hx|hx<;>simp[hx]
 ·rintro e w4 ⟨rfl,Z,z1,z2,z3⟩;exact⟨rfl,Z1++Z,F.all q0 z1,by simpa using z2,q2.trans z3⟩
def SymF.right0(F:SymF N g n a m b mid en s P X X1 X2 Y Y1 Y2 Q w)(h:SymMid B g c P X1 Y1 X2 Y2 Q w w3)(hz:¬ 0<X2.length\/¬ 0<Y2.length):SymRes B g c P (X++Y) Q w (.returned (.tuple #[])) w3:=by
 obtain⟨Z1,q0,q1,q2⟩:=h;refine⟨rfl,Z1++(X2++Y2),F.all q0 ?_,by simpa using q1,q2⟩;rcases hz with q|q
 ·rw[nil_or q,BD];exact Af.self (SortedC.right (F.hY▸F.sY))
 ·rw[nil_or q,AV];exact Af.self (SortedC.right (F.hX▸F.sX))
end
def GenIn(L:List Ud)(nn p lo hi s r:Nat):Prop:=(lo<s->¬cmpC (L.getD (nn-s) Ud.zero) (L.getD (s-1) Ud.zero)<0)/\(r<hi->cmpC (L.getD (p-r) Ud.zero) (L.getD r Ud.zero)<0)
def symGen_any(N:Nat)(IH:H0 (SymIH N))(B g c n a m b:Nat)(P X Y Q:List Ud)(w:World)(hlen:X.length+Y.length<=N+1)(h2X:2<=X.length)(h2Y:2<=Y.length)(ha:a=P.length)(hm:m=a+X.length)(hb:b=m+Y.length)(hn:n=(P++(X++(Y++Q))).length)(hX:SortedC X)(hY:SortedC Y)
  (h:Arr w B g c (P++(X++(Y++Q)))) (hr:Rws w g (X++Y)) (hbig:n<=1000000000) :
  C3 223 #[.slice (some ⟨g,0,none⟩) n c,.int .i64 a,.int .i64 m,.int .i64 b,.func (.func 103) #[] #[]] w (SymRes B g c P (X++Y) Q w):=by
 have⟨L,hL⟩:=E9 (P++(X++(Y++Q)));have g0:b<=n:=by rw[hb,hm,ha,hn];simp only[AA];omega
 have⟨C,c0⟩:=E9 ((a+b) / 2);have⟨nn,d0⟩:=E9 (C+m);obtain⟨p,hp⟩:∃p,nn=p+1:=⟨nn-1,by omega⟩;have HA:=j6 ha;have HB:=j6 hb;have HM:=j6 hm;have HL:=j6 hL;have HX:=j6 hX;have HY:=j6 hY;have HR:=j6 hr;have U:=j6 c0;have c7:=j6 d0;have c8:=j6 hp;have b8:=j6 hlen;have c6:=j6 hn;have HN:H0 (n=L.length):=j6 (by rw[hL];exact hn);have H:H0 (Arr w B g c L):=j6 (by rw[hL];exact h);have e1:((m:Int)-(a:Int)==1)=false:=by rw[beq_eq_false_iff_ne];omega
 have e2:((b:Int)-(m:Int)==1)=false:=by rw[beq_eq_false_iff_ne];omega
 have e3:((a:Int)+(b:Int)) / 2=(C:Int):=by omega
 have e4:(C:Int)+(m:Int)=(nn:Int):=by omega
 have e5:(nn:Int)-1=(p:Int):=by omega
 have f9:a+2<=m:=by omega
 have g3:m+2<=b:=by omega
 have f7:2*C<=a+b:=by omega
 have f8:a+b<=2*C+1:=by omega
 have g5:C+m<=p+1:=by omega
 have g6:p+1<=C+m:=by omega
 have g4:nn<=p+1:=by omega
 have g7:p+1<=nn:=by omega
 clear hlen h2X h2Y ha hm hb hn hX hY h hr hL c0 d0 hp;go_enter func223,ntmps223;by_cases hc:C<m
 ·have⟨lo,c9⟩:=E9 (nn-b);have e6:(nn:Int)-(b:Int)=(lo:Int):=by omega
  have HC:H0 (C<m/\lo=nn-b):=j6 ⟨hc,c9⟩;have g1:nn<=lo+b:=by omega
  have g2:lo+b<=nn:=by omega
  clear c9;go_wp2
  go_loopg [20,21] (C-lo) (λz u v wr=>∃s r:Nat,z=r-s/\u=.int .i64 s/\v=.int .i64 r/\lo<=s/\s<=r/\r<=C/\H0 (GenIn L nn p lo C s r)/\Ext w wr)
  case atStart=>exact⟨lo,C,rfl,rfl,rfl,AD _,by omega,AD _,j6 ⟨λh=>absurd h (CW _),λh=>absurd h (CW _)⟩,Ext.refl _⟩
  case round =>
   obtain⟨s,r,rfl,rfl,rfl,h1,h2,h3,HO,er⟩:=hrel;by_cases hlt:s<r
   ·have⟨q,hq⟩:=E9 ((s+r) / 2);have c3:s<=q:=by omega
    have e8:q<r:=by omega
    have e9:((s:Int)+(r:Int)) / 2=(q:Int):=by omega
    have⟨t,ht⟩:=E9 (p-q);have e0:(p:Int)-(q:Int)=(t:Int):=by omega
    have a8:a<=q/\q<m:=by omega
    have a9:m<=t/\t<b:=by omega
    have c4:q<n:=by omega
    have c5:t<n:=by omega
    have hA:=H.o.ext er;have⟨M,b0,O,b5⟩:=hA.at (i:=q) (by rw[<-HN.o];exact c4);have⟨S,b6,T,b7⟩:=hA.at (i:=t) (by rw[<-HN.o];exact c5);have E:L.getD q Ud.zero∈X++Y:=BE _ (by
     rw[HL.o];exact mem_mid (by rw[<-HA.o];exact a8.1) (by rw[<-HA.o,<-HM.o];exact a8.2))
    have F:L.getD t Ud.zero∈X++Y:=CD _ (by
     rw[HL.o];have:=mem_mid (P:=P++X) (X:=Y) (R:=Q) (i:=t) (by rw[AA,<-HA.o,<-HM.o];exact a9.1) (by rw[AA,<-HA.o,<-HM.o,<-HB.o];exact a9.2)
     rwa [AK]at this)
    have⟨x,hx⟩:=E9 (L.getD q Ud.zero);have⟨y,hy⟩:=E9 (L.getD t Ud.zero);rw[<-hx]at M b0 O b5 E;rw[<-hy]at S b6 T b7 F;have a5:=j6 hx;have a6:=j6 hy;have HT:=j6 ht;have⟨nx,G⟩:=E9 x.l.length;have⟨tx,J⟩:=E9 x.t.l.length;have⟨ny,I⟩:=E9 y.l.length;have⟨ty,K⟩:=E9 y.t.l.length;rw[<-G]at M;rw[<-J]at O;rw[<-I]at S;rw[<-K]at T;have Z:=j6 G;have a3:=j6 J;have a0:=j6 I;have a4:=j6 K;have XE:Ext wr wr.drew:=(Ext.refl wr).drew;have a1:=j6 (((HR.o x E).1.ext er).ext XE);have a2:=j6 (((HR.o y F).1.ext er).ext XE);have⟨v,hv⟩:=tz (cmpC y x);have HV:=j6 hv;have d6:∀z:Xt wr.drew,z.W.cell? ⟨g,t*4,none⟩=some (.slice y.A ny y.c):=λz=>(XE.trans z.x).cell S;have d7:∀z:Xt wr.drew,z.W.cell? ⟨g,t*4+1,none⟩=some (.int .u64 y.t.e):=λz=>(XE.trans z.x).cell b6;have d8:∀z:Xt wr.drew,z.W.cell? ⟨g,t*4+2,none⟩=some (.slice y.t.A ty y.t.c):=λz=>(XE.trans z.x).cell T;have d9:∀z:Xt wr.drew,z.W.cell? ⟨g,t*4+3,none⟩=some (.int .i64 y.d):=λz=>(XE.trans z.x).cell b7;have d2:∀z:Xt wr.drew,z.W.cell? ⟨g,q*4,none⟩=some (.slice x.A nx x.c):=λz=>(XE.trans z.x).cell M;have d3:∀z:Xt wr.drew,z.W.cell? ⟨g,q*4+1,none⟩=some (.int .u64 x.t.e):=λz=>(XE.trans z.x).cell b0;have d4:∀z:Xt wr.drew,z.W.cell? ⟨g,q*4+2,none⟩=some (.slice x.t.A tx x.t.c):=λz=>(XE.trans z.x).cell O;have d5:∀z:Xt wr.drew,z.W.cell? ⟨g,q*4+3,none⟩=some (.int .i64 x.d):=λz=>(XE.trans z.x).cell b5;clear hA hx hy E F G I J K hv hq ht;by_cases hv0:v<0
    ·have zv:decide (v<0)=true:=by simpa using hv0
     go_upto_region 35 with fail
     refine wro [0,0,0,0,12,30,62,0,0,384,896,2047,4095,8191] (.flo [0,1,2,3,4,5,6,7,8,9,10] (.one 11 (.flo [12,13] (.fin)))) ?_
     (refine Aa (pks rfl) ?_;(repeat (go_big_quiet_step (fail)));refine oq ?_)
     refine Ac (pks rfl) ?_;intro K_ b9;go_wp2_with (go_at_call 103;refine(Cv y x ny nx ty tx v _ HV a0 Z a4 a3 a2 a1).mono ?_;rintro e w1 ⟨rfl,x1⟩)
     (refine Aa (pks rfl) ?_;(repeat (go_big_quiet_step (fail)));refine oq ?_)
     refine Ad ?_;go_wp2
     go_roundg (q-s)
     case measure=>omega
     case rel=>exact⟨s,q,rfl,rfl,rfl,h1,c3,by omega,j6 ⟨HO.o.1,λ_=>by rw[<-HT.o,<-a6.o,<-a5.o];show cmpC y x<0;rw[HV.o];exact hv0⟩,er.trans (XE.trans x1)⟩
    ·have zv:decide (v<0)=false:=by simpa using hv0
     go_upto_region 35 with fail
     refine wro [0,0,0,0,12,30,62,0,0,384,896,2047,4095,8191] (.flo [0,1,2,3,4,5,6,7,8,9,10] (.one 11 (.flo [12,13] (.fin)))) ?_
     (refine Aa (pks rfl) ?_;(repeat (go_big_quiet_step (fail)));refine oq ?_)
     refine Ac (pks rfl) ?_;intro K_ b9;go_wp2_with (go_at_call 103;refine(Cv y x ny nx ty tx v _ HV a0 Z a4 a3 a2 a1).mono ?_;rintro e w1 ⟨rfl,x1⟩)
     (refine Aa (pks rfl) ?_;(repeat (go_big_quiet_step (fail)));refine oq ?_)
     refine Ad ?_;go_wp2
     go_roundg (r-(q+1))
     case measure=>omega
     case rel=>exact⟨q+1,r,rfl,by go_num,rfl,by omega,by omega,h3,j6 ⟨λ_=>by rw[show nn-(q+1)=t by have:=HT.o;omega,EB,<-a6.o,<-a5.o];show ¬cmpC y x<0;rw[HV.o];omega,HO.o.2⟩,er.trans (XE.trans x1)⟩
   ·obtain rfl:s=r:=by omega
    have⟨X1,X2,Y1,Y2,k1,k2,k3,k4,k5,k6,k7⟩:=sym_split HL.o HA.o HM.o HB.o U.o c7.o c8.o (.inl ⟨HC.o.1,HC.o.2,rfl⟩) h1 h3 HO.o.1 HO.o.2;have⟨en,a7⟩:=E9 (nn-s);have e7:(nn:Int)-(s:Int)=(en:Int):=by omega
    have f0:s<=b:=by omega
    have d1:en<=b:=by omega
    have HF:H0 (SymF N g n a m b C en s P X X1 X2 Y Y1 Y2 Q w):=j6 ⟨k1,k2,HA.o,k3,HM.o,HB.o,by rw[a7];exact k4,k5,U.o,c6.o,HX.o,HY.o,HR.o,k6,k7,hbig,b8.o,by have:=HM.o;have:=HB.o;omega⟩;have f:H0 (Arr wr B g c (P++(X++(Y++Q)))):=j6 (by have:=H.o.ext er;rwa [HL.o]at this);have j:H0 (w.grownBy wr (some g)):=j6 (Aq er g);clear k1 k2 k3 k4 k5 k6 k7 a7 HO;have⟨f1,f2,f3,f4,f5,f6⟩:=HF.o.flags;rw[show(0<X2.length)=(0<X2.length/\True)by simp]at f1 f5;rw[show(0<Y1.length)=(0<Y1.length/\True)by simp]at f2 f4;rw[show(0<X1.length)=(0<X1.length/\True)by simp]at f3;rw[show(0<Y2.length)=(0<Y2.length/\True)by simp]at f6;by_cases b1:0<X1.length/\True
    ·have B1:=j6 b1;clear b1;by_cases b2:0<X2.length/\True
     ·have B2:=j6 b2;clear b2;by_cases b3:0<Y1.length/\True
      ·have B3:=j6 b3;clear b3;by_cases b4:0<Y2.length/\True
       ·have B4:=j6 b4;clear b4;have s1:=f1.2 B2.o;have s2:=f2.2 B3.o;have s3:=f3.2 B1.o;have s4:=f4.2 B3.o;have s5:=f5.2 B2.o;have s6:=f6.2 B4.o;clear f1 f2 f3 f4 f5 f6;go_wp2_with (first|(go_at_call 255;refine(HF.o.rot f.o j.o B2.o.1 B3.o.1).mono ?_;rintro e w2 ⟨rfl,q2⟩;have HS:=j6 q2;clear q2)|(go_at_call 223;refine(HF.o.right IH.o D.o B2.o.1 B4.o.1).mono ?_;rintro e w4 ⟨rfl,q4⟩;have HE:=j6 q4;clear q4)|(go_at_call 223;refine(HF.o.left IH.o HS.o B1.o.1 B3.o.1).mono ?_;rintro e w3 ⟨rfl,q3⟩;have D:=j6 q3;clear q3))
        all_goals go_end0
        all_goals exact⟨rfl,HE.o⟩
       ·have B4:=j6 b4;clear b4;have s1:=f1.2 B2.o;have s2:=f2.2 B3.o;have s3:=f3.2 B1.o;have s4:=f4.2 B3.o;have s5:=f5.2 B2.o;have s6:=λq=>B4.o (f6.1 q);clear f1 f2 f3 f4 f5 f6;go_wp2_with (first|(go_at_call 255;refine(HF.o.rot f.o j.o B2.o.1 B3.o.1).mono ?_;rintro e w2 ⟨rfl,q2⟩;have HS:=j6 q2;clear q2)|(go_at_call 223;refine(HF.o.left IH.o HS.o B1.o.1 B3.o.1).mono ?_;rintro e w3 ⟨rfl,q3⟩;have D:=j6 q3;clear q3))
        all_goals go_end0
        all_goals exact HF.o.right0 D.o (.inr λq=>B4.o ⟨q,trivial⟩)
      ·have B3:=j6 b3;clear b3;by_cases b4:0<Y2.length/\True
       ·have B4:=j6 b4;clear b4;have s1:=f1.2 B2.o;have s2:=λq=>B3.o (f2.1 q);have s3:=f3.2 B1.o;have s4:=λq=>B3.o (f4.1 q);have s5:=f5.2 B2.o;have s6:=f6.2 B4.o;clear f1 f2 f3 f4 f5 f6;have HS:H0 (SymAt B g c P X1 Y1 X2 Y2 Q w wr):=j6 (HF.o.still f.o j.o (.inr λq=>B3.o ⟨q,trivial⟩));go_wp2_with (go_at_call 223;refine(HF.o.right IH.o (HF.o.left0 HS.o (.inr λq=>B3.o ⟨q,trivial⟩)) B2.o.1 B4.o.1).mono ?_;rintro e w4 ⟨rfl,q4⟩;have HE:=j6 q4;clear q4)
        all_goals go_end0
        all_goals exact⟨rfl,HE.o⟩
       ·have B4:=j6 b4;clear b4;exfalso;have h1:¬ 0<Y1.length:=λq=>B3.o ⟨q,trivial⟩;have h2:¬ 0<Y2.length:=λq=>B4.o ⟨q,trivial⟩;have h3:=HF.o.lens;have h4:=HM.o;have h5:=HB.o;omega
     ·have B2:=j6 b2;clear b2;by_cases b3:0<Y1.length/\True
      ·have B3:=j6 b3;clear b3;by_cases b4:0<Y2.length/\True
       ·have B4:=j6 b4;clear b4;have s1:=λq=>B2.o (f1.1 q);have s2:=f2.2 B3.o;have s3:=f3.2 B1.o;have s4:=f4.2 B3.o;have s5:=λq=>B2.o (f5.1 q);have s6:=f6.2 B4.o;clear f1 f2 f3 f4 f5 f6;have HS:H0 (SymAt B g c P X1 Y1 X2 Y2 Q w wr):=j6 (HF.o.still f.o j.o (.inl λq=>B2.o ⟨q,trivial⟩));go_wp2_with (go_at_call 223;refine(HF.o.left IH.o HS.o B1.o.1 B3.o.1).mono ?_;rintro e w3 ⟨rfl,q3⟩;have D:=j6 q3;clear q3)
        all_goals go_end0
        all_goals exact HF.o.right0 D.o (.inl λq=>B2.o ⟨q,trivial⟩)
       ·have B4:=j6 b4;clear b4;have s1:=λq=>B2.o (f1.1 q);have s2:=f2.2 B3.o;have s3:=f3.2 B1.o;have s4:=f4.2 B3.o;have s5:=λq=>B2.o (f5.1 q);have s6:=λq=>B4.o (f6.1 q);clear f1 f2 f3 f4 f5 f6;have HS:H0 (SymAt B g c P X1 Y1 X2 Y2 Q w wr):=j6 (HF.o.still f.o j.o (.inl λq=>B2.o ⟨q,trivial⟩));go_wp2_with (go_at_call 223;refine(HF.o.left IH.o HS.o B1.o.1 B3.o.1).mono ?_;rintro e w3 ⟨rfl,q3⟩;have D:=j6 q3;clear q3)
        all_goals go_end0
        all_goals exact HF.o.right0 D.o (.inl λq=>B2.o ⟨q,trivial⟩)
      ·have B3:=j6 b3;clear b3;by_cases b4:0<Y2.length/\True
       ·have B4:=j6 b4;clear b4;have s1:=λq=>B2.o (f1.1 q);have s2:=λq=>B3.o (f2.1 q);have s3:=f3.2 B1.o;have s4:=λq=>B3.o (f4.1 q);have s5:=λq=>B2.o (f5.1 q);have s6:=f6.2 B4.o;clear f1 f2 f3 f4 f5 f6;have HS:H0 (SymAt B g c P X1 Y1 X2 Y2 Q w wr):=j6 (HF.o.still f.o j.o (.inl λq=>B2.o ⟨q,trivial⟩));go_wp2;all_goals go_end0
        all_goals exact HF.o.right0 (HF.o.left0 HS.o (.inr λq=>B3.o ⟨q,trivial⟩)) (.inl λq=>B2.o ⟨q,trivial⟩)
       ·have B4:=j6 b4;clear b4;exfalso;have h1:¬ 0<Y1.length:=λq=>B3.o ⟨q,trivial⟩;have h2:¬ 0<Y2.length:=λq=>B4.o ⟨q,trivial⟩;have h3:=HF.o.lens;have h4:=HM.o;have h5:=HB.o;omega
    ·have B1:=j6 b1;clear b1;by_cases b2:0<X2.length/\True
     ·have B2:=j6 b2;clear b2;by_cases b3:0<Y1.length/\True
      ·have B3:=j6 b3;clear b3;by_cases b4:0<Y2.length/\True
       ·have B4:=j6 b4;clear b4;have s1:=f1.2 B2.o;have s2:=f2.2 B3.o;have s3:=λq=>B1.o (f3.1 q);have s4:=f4.2 B3.o;have s5:=f5.2 B2.o;have s6:=f6.2 B4.o;clear f1 f2 f3 f4 f5 f6;go_wp2_with (first|(go_at_call 255;refine(HF.o.rot f.o j.o B2.o.1 B3.o.1).mono ?_;rintro e w2 ⟨rfl,q2⟩;have HS:=j6 q2;clear q2)|(go_at_call 223;refine(HF.o.right IH.o (HF.o.left0 HS.o (.inl λq=>B1.o ⟨q,trivial⟩)) B2.o.1 B4.o.1).mono ?_;rintro e w4 ⟨rfl,q4⟩;have HE:=j6 q4;clear q4))
        all_goals go_end0
        all_goals exact⟨rfl,HE.o⟩
       ·have B4:=j6 b4;clear b4;have s1:=f1.2 B2.o;have s2:=f2.2 B3.o;have s3:=λq=>B1.o (f3.1 q);have s4:=f4.2 B3.o;have s5:=f5.2 B2.o;have s6:=λq=>B4.o (f6.1 q);clear f1 f2 f3 f4 f5 f6;go_wp2_with (go_at_call 255;refine(HF.o.rot f.o j.o B2.o.1 B3.o.1).mono ?_;rintro e w2 ⟨rfl,q2⟩;have HS:=j6 q2;clear q2)
        all_goals go_end0
        all_goals exact HF.o.right0 (HF.o.left0 HS.o (.inl λq=>B1.o ⟨q,trivial⟩)) (.inr λq=>B4.o ⟨q,trivial⟩)
      ·have B3:=j6 b3;clear b3;by_cases b4:0<Y2.length/\True
       ·have B4:=j6 b4;clear b4;have s1:=f1.2 B2.o;have s2:=λq=>B3.o (f2.1 q);have s3:=λq=>B1.o (f3.1 q);have s4:=λq=>B3.o (f4.1 q);have s5:=f5.2 B2.o;have s6:=f6.2 B4.o;clear f1 f2 f3 f4 f5 f6;have HS:H0 (SymAt B g c P X1 Y1 X2 Y2 Q w wr):=j6 (HF.o.still f.o j.o (.inr λq=>B3.o ⟨q,trivial⟩));go_wp2_with (go_at_call 223;refine(HF.o.right IH.o (HF.o.left0 HS.o (.inl λq=>B1.o ⟨q,trivial⟩)) B2.o.1 B4.o.1).mono ?_;rintro e w4 ⟨rfl,q4⟩;have HE:=j6 q4;clear q4)
        all_goals go_end0
        all_goals exact⟨rfl,HE.o⟩
       ·have B4:=j6 b4;clear b4;exfalso;have h1:¬ 0<Y1.length:=λq=>B3.o ⟨q,trivial⟩;have h2:¬ 0<Y2.length:=λq=>B4.o ⟨q,trivial⟩;have h3:=HF.o.lens;have h4:=HM.o;have h5:=HB.o;omega
     ·have B2:=j6 b2;clear b2;by_cases b3:0<Y1.length/\True
      ·have B3:=j6 b3;clear b3;by_cases b4:0<Y2.length/\True
       ·have B4:=j6 b4;clear b4;exfalso;have h1:¬ 0<X1.length:=λq=>B1.o ⟨q,trivial⟩;have h2:¬ 0<X2.length:=λq=>B2.o ⟨q,trivial⟩;have h3:=HF.o.lens;have h4:=HM.o;have h5:=HB.o;omega
       ·have B4:=j6 b4;clear b4;exfalso;have h1:¬ 0<X1.length:=λq=>B1.o ⟨q,trivial⟩;have h2:¬ 0<X2.length:=λq=>B2.o ⟨q,trivial⟩;have h3:=HF.o.lens;have h4:=HM.o;have h5:=HB.o;omega
      ·have B3:=j6 b3;clear b3;by_cases b4:0<Y2.length/\True
       ·have B4:=j6 b4;clear b4;exfalso;have h1:¬ 0<X1.length:=λq=>B1.o ⟨q,trivial⟩;have h2:¬ 0<X2.length:=λq=>B2.o ⟨q,trivial⟩;have h3:=HF.o.lens;have h4:=HM.o;have h5:=HB.o;omega
       ·have B4:=j6 b4;clear b4;exfalso;have h1:¬ 0<X1.length:=λq=>B1.o ⟨q,trivial⟩;have h2:¬ 0<X2.length:=λq=>B2.o ⟨q,trivial⟩;have h3:=HF.o.lens;have h4:=HM.o;have h5:=HB.o;omega
 ·have HC:H0 (m<=C):=j6 (by omega);go_wp2
  go_loopg [20,21] (m-a) (λz u v wr=>∃s r:Nat,z=r-s/\u=.int .i64 s/\v=.int .i64 r/\a<=s/\s<=r/\r<=m/\H0 (GenIn L nn p a m s r)/\Ext w wr)
  case atStart=>exact⟨a,m,rfl,rfl,rfl,AD _,by omega,AD _,j6 ⟨λh=>absurd h (CW _),λh=>absurd h (CW _)⟩,Ext.refl _⟩
  case round =>
   obtain⟨s,r,rfl,rfl,rfl,h1,h2,h3,HO,er⟩:=hrel;by_cases hlt:s<r
   ·have⟨q,hq⟩:=E9 ((s+r) / 2);have c3:s<=q:=by omega
    have e8:q<r:=by omega
    have e9:((s:Int)+(r:Int)) / 2=(q:Int):=by omega
    have⟨t,ht⟩:=E9 (p-q);have e0:(p:Int)-(q:Int)=(t:Int):=by omega
    have a8:a<=q/\q<m:=by omega
    have a9:m<=t/\t<b:=by omega
    have c4:q<n:=by omega
    have c5:t<n:=by omega
    have hA:=H.o.ext er;have⟨M,b0,O,b5⟩:=hA.at (i:=q) (by rw[<-HN.o];exact c4);have⟨S,b6,T,b7⟩:=hA.at (i:=t) (by rw[<-HN.o];exact c5);have E:L.getD q Ud.zero∈X++Y:=BE _ (by
     rw[HL.o];exact mem_mid (by rw[<-HA.o];exact a8.1) (by rw[<-HA.o,<-HM.o];exact a8.2))
    have F:L.getD t Ud.zero∈X++Y:=CD _ (by
     rw[HL.o];have:=mem_mid (P:=P++X) (X:=Y) (R:=Q) (i:=t) (by rw[AA,<-HA.o,<-HM.o];exact a9.1) (by rw[AA,<-HA.o,<-HM.o,<-HB.o];exact a9.2)
     rwa [AK]at this)
    have⟨x,hx⟩:=E9 (L.getD q Ud.zero);have⟨y,hy⟩:=E9 (L.getD t Ud.zero);rw[<-hx]at M b0 O b5 E;rw[<-hy]at S b6 T b7 F;have a5:=j6 hx;have a6:=j6 hy;have HT:=j6 ht;have⟨nx,G⟩:=E9 x.l.length;have⟨tx,J⟩:=E9 x.t.l.length;have⟨ny,I⟩:=E9 y.l.length;have⟨ty,K⟩:=E9 y.t.l.length;rw[<-G]at M;rw[<-J]at O;rw[<-I]at S;rw[<-K]at T;have Z:=j6 G;have a3:=j6 J;have a0:=j6 I;have a4:=j6 K;have XE:Ext wr wr.drew:=(Ext.refl wr).drew;have a1:=j6 (((HR.o x E).1.ext er).ext XE);have a2:=j6 (((HR.o y F).1.ext er).ext XE);have⟨v,hv⟩:=tz (cmpC y x);have HV:=j6 hv;have d6:∀z:Xt wr.drew,z.W.cell? ⟨g,t*4,none⟩=some (.slice y.A ny y.c):=λz=>(XE.trans z.x).cell S;have d7:∀z:Xt wr.drew,z.W.cell? ⟨g,t*4+1,none⟩=some (.int .u64 y.t.e):=λz=>(XE.trans z.x).cell b6;have d8:∀z:Xt wr.drew,z.W.cell? ⟨g,t*4+2,none⟩=some (.slice y.t.A ty y.t.c):=λz=>(XE.trans z.x).cell T;have d9:∀z:Xt wr.drew,z.W.cell? ⟨g,t*4+3,none⟩=some (.int .i64 y.d):=λz=>(XE.trans z.x).cell b7;have d2:∀z:Xt wr.drew,z.W.cell? ⟨g,q*4,none⟩=some (.slice x.A nx x.c):=λz=>(XE.trans z.x).cell M;have d3:∀z:Xt wr.drew,z.W.cell? ⟨g,q*4+1,none⟩=some (.int .u64 x.t.e):=λz=>(XE.trans z.x).cell b0;have d4:∀z:Xt wr.drew,z.W.cell? ⟨g,q*4+2,none⟩=some (.slice x.t.A tx x.t.c):=λz=>(XE.trans z.x).cell O;have d5:∀z:Xt wr.drew,z.W.cell? ⟨g,q*4+3,none⟩=some (.int .i64 x.d):=λz=>(XE.trans z.x).cell b5;clear hA hx hy E F G I J K hv hq ht;by_cases hv0:v<0
    ·have zv:decide (v<0)=true:=by simpa using hv0
     go_upto_region 35 with fail
     refine wro [0,0,0,0,12,30,62,0,0,384,896,2047,4095,8191] (.flo [0,1,2,3,4,5,6,7,8,9,10] (.one 11 (.flo [12,13] (.fin)))) ?_
     (refine Aa (pks rfl) ?_;(repeat (go_big_quiet_step (fail)));refine oq ?_)
     refine Ac (pks rfl) ?_;intro K_ b9;go_wp2_with (go_at_call 103;refine(Cv y x ny nx ty tx v _ HV a0 Z a4 a3 a2 a1).mono ?_;rintro e w1 ⟨rfl,x1⟩)
     (refine Aa (pks rfl) ?_;(repeat (go_big_quiet_step (fail)));refine oq ?_)
     refine Ad ?_;go_wp2
     go_roundg (q-s)
     case measure=>omega
     case rel=>exact⟨s,q,rfl,rfl,rfl,h1,c3,by omega,j6 ⟨HO.o.1,λ_=>by rw[<-HT.o,<-a6.o,<-a5.o];show cmpC y x<0;rw[HV.o];exact hv0⟩,er.trans (XE.trans x1)⟩
    ·have zv:decide (v<0)=false:=by simpa using hv0
     go_upto_region 35 with fail
     refine wro [0,0,0,0,12,30,62,0,0,384,896,2047,4095,8191] (.flo [0,1,2,3,4,5,6,7,8,9,10] (.one 11 (.flo [12,13] (.fin)))) ?_
     (refine Aa (pks rfl) ?_;(repeat (go_big_quiet_step (fail)));refine oq ?_)
     refine Ac (pks rfl) ?_;intro K_ b9;go_wp2_with (go_at_call 103;refine(Cv y x ny nx ty tx v _ HV a0 Z a4 a3 a2 a1).mono ?_;rintro e w1 ⟨rfl,x1⟩)
     (refine Aa (pks rfl) ?_;(repeat (go_big_quiet_step (fail)));refine oq ?_)
     refine Ad ?_;go_wp2
     go_roundg (r-(q+1))
     case measure=>omega
     case rel=>exact⟨q+1,r,rfl,by go_num,rfl,by omega,by omega,h3,j6 ⟨λ_=>by rw[show nn-(q+1)=t by have:=HT.o;omega,EB,<-a6.o,<-a5.o];show ¬cmpC y x<0;rw[HV.o];omega,HO.o.2⟩,er.trans (XE.trans x1)⟩
   ·obtain rfl:s=r:=by omega
    have⟨X1,X2,Y1,Y2,k1,k2,k3,k4,k5,k6,k7⟩:=sym_split HL.o HA.o HM.o HB.o U.o c7.o c8.o (.inr ⟨HC.o,rfl,rfl⟩) h1 h3 HO.o.1 HO.o.2;have⟨en,a7⟩:=E9 (nn-s);have e7:(nn:Int)-(s:Int)=(en:Int):=by omega
    have f0:s<=b:=by omega
    have d1:en<=b:=by omega
    have HF:H0 (SymF N g n a m b C en s P X X1 X2 Y Y1 Y2 Q w):=j6 ⟨k1,k2,HA.o,k3,HM.o,HB.o,by rw[a7];exact k4,k5,U.o,c6.o,HX.o,HY.o,HR.o,k6,k7,hbig,b8.o,by have:=HM.o;have:=HB.o;omega⟩;have f:H0 (Arr wr B g c (P++(X++(Y++Q)))):=j6 (by have:=H.o.ext er;rwa [HL.o]at this);have j:H0 (w.grownBy wr (some g)):=j6 (Aq er g);clear k1 k2 k3 k4 k5 k6 k7 a7 HO;have⟨f1,f2,f3,f4,f5,f6⟩:=HF.o.flags;rw[show(0<X2.length)=(0<X2.length/\True)by simp]at f1 f5;rw[show(0<Y1.length)=(0<Y1.length/\True)by simp]at f2 f4;rw[show(0<X1.length)=(0<X1.length/\True)by simp]at f3;rw[show(0<Y2.length)=(0<Y2.length/\True)by simp]at f6;by_cases b1:0<X1.length/\True
    ·have B1:=j6 b1;clear b1;by_cases b2:0<X2.length/\True
     ·have B2:=j6 b2;clear b2;by_cases b3:0<Y1.length/\True
      ·have B3:=j6 b3;clear b3;by_cases b4:0<Y2.length/\True
       ·have B4:=j6 b4;clear b4;have s1:=f1.2 B2.o;have s2:=f2.2 B3.o;have s3:=f3.2 B1.o;have s4:=f4.2 B3.o;have s5:=f5.2 B2.o;have s6:=f6.2 B4.o;clear f1 f2 f3 f4 f5 f6;go_wp2_with (first|(go_at_call 255;refine(HF.o.rot f.o j.o B2.o.1 B3.o.1).mono ?_;rintro e w2 ⟨rfl,q2⟩;have HS:=j6 q2;clear q2)|(go_at_call 223;refine(HF.o.right IH.o D.o B2.o.1 B4.o.1).mono ?_;rintro e w4 ⟨rfl,q4⟩;have HE:=j6 q4;clear q4)|(go_at_call 223;refine(HF.o.left IH.o HS.o B1.o.1 B3.o.1).mono ?_;rintro e w3 ⟨rfl,q3⟩;have D:=j6 q3;clear q3))
        all_goals go_end0
        all_goals exact⟨rfl,HE.o⟩
       ·have B4:=j6 b4;clear b4;have s1:=f1.2 B2.o;have s2:=f2.2 B3.o;have s3:=f3.2 B1.o;have s4:=f4.2 B3.o;have s5:=f5.2 B2.o;have s6:=λq=>B4.o (f6.1 q);clear f1 f2 f3 f4 f5 f6;go_wp2_with (first|(go_at_call 255;refine(HF.o.rot f.o j.o B2.o.1 B3.o.1).mono ?_;rintro e w2 ⟨rfl,q2⟩;have HS:=j6 q2;clear q2)|(go_at_call 223;refine(HF.o.left IH.o HS.o B1.o.1 B3.o.1).mono ?_;rintro e w3 ⟨rfl,q3⟩;have D:=j6 q3;clear q3))
        all_goals go_end0
        all_goals exact HF.o.right0 D.o (.inr λq=>B4.o ⟨q,trivial⟩)
      ·have B3:=j6 b3;clear b3;by_cases b4:0<Y2.length/\True
       ·have B4:=j6 b4;clear b4;have s1:=f1.2 B2.o;have s2:=λq=>B3.o (f2.1 q);have s3:=f3.2 B1.o;have s4:=λq=>B3.o (f4.1 q);have s5:=f5.2 B2.o;have s6:=f6.2 B4.o;clear f1 f2 f3 f4 f5 f6;have HS:H0 (SymAt B g c P X1 Y1 X2 Y2 Q w wr):=j6 (HF.o.still f.o j.o (.inr λq=>B3.o ⟨q,trivial⟩));go_wp2_with (go_at_call 223;refine(HF.o.right IH.o (HF.o.left0 HS.o (.inr λq=>B3.o ⟨q,trivial⟩)) B2.o.1 B4.o.1).mono ?_;rintro e w4 ⟨rfl,q4⟩;have HE:=j6 q4;clear q4)
        all_goals go_end0
        all_goals exact⟨rfl,HE.o⟩
       ·have B4:=j6 b4;clear b4;exfalso;have h1:¬ 0<Y1.length:=λq=>B3.o ⟨q,trivial⟩;have h2:¬ 0<Y2.length:=λq=>B4.o ⟨q,trivial⟩;have h3:=HF.o.lens;have h4:=HM.o;have h5:=HB.o;omega
     ·have B2:=j6 b2;clear b2;by_cases b3:0<Y1.length/\True
      ·have B3:=j6 b3;clear b3;by_cases b4:0<Y2.length/\True
       ·have B4:=j6 b4;clear b4;have s1:=λq=>B2.o (f1.1 q);have s2:=f2.2 B3.o;have s3:=f3.2 B1.o;have s4:=f4.2 B3.o;have s5:=λq=>B2.o (f5.1 q);have s6:=f6.2 B4.o;clear f1 f2 f3 f4 f5 f6;have HS:H0 (SymAt B g c P X1 Y1 X2 Y2 Q w wr):=j6 (HF.o.still f.o j.o (.inl λq=>B2.o ⟨q,trivial⟩));go_wp2_with (go_at_call 223;refine(HF.o.left IH.o HS.o B1.o.1 B3.o.1).mono ?_;rintro e w3 ⟨rfl,q3⟩;have D:=j6 q3;clear q3)
        all_goals go_end0
        all_goals exact HF.o.right0 D.o (.inl λq=>B2.o ⟨q,trivial⟩)
       ·have B4:=j6 b4;clear b4;have s1:=λq=>B2.o (f1.1 q);have s2:=f2.2 B3.o;have s3:=f3.2 B1.o;have s4:=f4.2 B3.o;have s5:=λq=>B2.o (f5.1 q);have s6:=λq=>B4.o (f6.1 q);clear f1 f2 f3 f4 f5 f6;have HS:H0 (SymAt B g c P X1 Y1 X2 Y2 Q w wr):=j6 (HF.o.still f.o j.o (.inl λq=>B2.o ⟨q,trivial⟩));go_wp2_with (go_at_call 223;refine(HF.o.left IH.o HS.o B1.o.1 B3.o.1).mono ?_;rintro e w3 ⟨rfl,q3⟩;have D:=j6 q3;clear q3)
        all_goals go_end0
        all_goals exact HF.o.right0 D.o (.inl λq=>B2.o ⟨q,trivial⟩)
      ·have B3:=j6 b3;clear b3;by_cases b4:0<Y2.length/\True
       ·have B4:=j6 b4;clear b4;have s1:=λq=>B2.o (f1.1 q);have s2:=λq=>B3.o (f2.1 q);have s3:=f3.2 B1.o;have s4:=λq=>B3.o (f4.1 q);have s5:=λq=>B2.o (f5.1 q);have s6:=f6.2 B4.o;clear f1 f2 f3 f4 f5 f6;have HS:H0 (SymAt B g c P X1 Y1 X2 Y2 Q w wr):=j6 (HF.o.still f.o j.o (.inl λq=>B2.o ⟨q,trivial⟩));go_wp2;all_goals go_end0
        all_goals exact HF.o.right0 (HF.o.left0 HS.o (.inr λq=>B3.o ⟨q,trivial⟩)) (.inl λq=>B2.o ⟨q,trivial⟩)
       ·have B4:=j6 b4;clear b4;exfalso;have h1:¬ 0<Y1.length:=λq=>B3.o ⟨q,trivial⟩;have h2:¬ 0<Y2.length:=λq=>B4.o ⟨q,trivial⟩;have h3:=HF.o.lens;have h4:=HM.o;have h5:=HB.o;omega
    ·have B1:=j6 b1;clear b1;by_cases b2:0<X2.length/\True
     ·have B2:=j6 b2;clear b2;by_cases b3:0<Y1.length/\True
      ·have B3:=j6 b3;clear b3;by_cases b4:0<Y2.length/\True
       ·have B4:=j6 b4;clear b4;have s1:=f1.2 B2.o;have s2:=f2.2 B3.o;have s3:=λq=>B1.o (f3.1 q);have s4:=f4.2 B3.o;have s5:=f5.2 B2.o;have s6:=f6.2 B4.o;clear f1 f2 f3 f4 f5 f6;go_wp2_with (first|(go_at_call 255;refine(HF.o.rot f.o j.o B2.o.1 B3.o.1).mono ?_;rintro e w2 ⟨rfl,q2⟩;have HS:=j6 q2;clear q2)|(go_at_call 223;refine(HF.o.right IH.o (HF.o.left0 HS.o (.inl λq=>B1.o ⟨q,trivial⟩)) B2.o.1 B4.o.1).mono ?_;rintro e w4 ⟨rfl,q4⟩;have HE:=j6 q4;clear q4))
        all_goals go_end0
        all_goals exact⟨rfl,HE.o⟩
       ·have B4:=j6 b4;clear b4;have s1:=f1.2 B2.o;have s2:=f2.2 B3.o;have s3:=λq=>B1.o (f3.1 q);have s4:=f4.2 B3.o;have s5:=f5.2 B2.o;have s6:=λq=>B4.o (f6.1 q);clear f1 f2 f3 f4 f5 f6;go_wp2_with (go_at_call 255;refine(HF.o.rot f.o j.o B2.o.1 B3.o.1).mono ?_;rintro e w2 ⟨rfl,q2⟩;have HS:=j6 q2;clear q2)
        all_goals go_end0
        all_goals exact HF.o.right0 (HF.o.left0 HS.o (.inl λq=>B1.o ⟨q,trivial⟩)) (.inr λq=>B4.o ⟨q,trivial⟩)
      ·have B3:=j6 b3;clear b3;by_cases b4:0<Y2.length/\True
       ·have B4:=j6 b4;clear b4;have s1:=f1.2 B2.o;have s2:=λq=>B3.o (f2.1 q);have s3:=λq=>B1.o (f3.1 q);have s4:=λq=>B3.o (f4.1 q);have s5:=f5.2 B2.o;have s6:=f6.2 B4.o;clear f1 f2 f3 f4 f5 f6;have HS:H0 (SymAt B g c P X1 Y1 X2 Y2 Q w wr):=j6 (HF.o.still f.o j.o (.inr λq=>B3.o ⟨q,trivial⟩));go_wp2_with (go_at_call 223;refine(HF.o.right IH.o (HF.o.left0 HS.o (.inl λq=>B1.o ⟨q,trivial⟩)) B2.o.1 B4.o.1).mono ?_;rintro e w4 ⟨rfl,q4⟩;have HE:=j6 q4;clear q4)
        all_goals go_end0
        all_goals exact⟨rfl,HE.o⟩
       ·have B4:=j6 b4;clear b4;exfalso;have h1:¬ 0<Y1.length:=λq=>B3.o ⟨q,trivial⟩;have h2:¬ 0<Y2.length:=λq=>B4.o ⟨q,trivial⟩;have h3:=HF.o.lens;have h4:=HM.o;have h5:=HB.o;omega
     ·have B2:=j6 b2;clear b2;by_cases b3:0<Y1.length/\True
      ·have B3:=j6 b3;clear b3;by_cases b4:0<Y2.length/\True
       ·have B4:=j6 b4;clear b4;exfalso;have h1:¬ 0<X1.length:=λq=>B1.o ⟨q,trivial⟩;have h2:¬ 0<X2.length:=λq=>B2.o ⟨q,trivial⟩;have h3:=HF.o.lens;have h4:=HM.o;have h5:=HB.o;omega
       ·have B4:=j6 b4;clear b4;exfalso;have h1:¬ 0<X1.length:=λq=>B1.o ⟨q,trivial⟩;have h2:¬ 0<X2.length:=λq=>B2.o ⟨q,trivial⟩;have h3:=HF.o.lens;have h4:=HM.o;have h5:=HB.o;omega
      ·have B3:=j6 b3;clear b3;by_cases b4:0<Y2.length/\True
       ·have B4:=j6 b4;clear b4;exfalso;have h1:¬ 0<X1.length:=λq=>B1.o ⟨q,trivial⟩;have h2:¬ 0<X2.length:=λq=>B2.o ⟨q,trivial⟩;have h3:=HF.o.lens;have h4:=HM.o;have h5:=HB.o;omega
       ·have B4:=j6 b4;clear b4;exfalso;have h1:¬ 0<X1.length:=λq=>B1.o ⟨q,trivial⟩;have h2:¬ 0<X2.length:=λq=>B2.o ⟨q,trivial⟩;have h3:=HF.o.lens;have h4:=HM.o;have h5:=HB.o;omega
def symM_all(N:Nat):SymIH N:=by
 induction N with
 | zero=>exact λB g c n a m b P X Y Q w h hx hy=>absurd h (by omega)
 | succ N ih =>
  intro B g c n a m b P X Y Q w hl hx hy ha hm hb hn sX sY h hr d;by_cases h1:X.length=1
  ·obtain⟨x,t,rfl⟩:=cons_of hx;have ht:t=[]:=AH (by rw[AJ]at h1;omega);subst ht;exact symOne_any B g c n a m b P Y Q x w ha (by rw[hm];rfl) hb hn sY h hr d
  ·by_cases h2:Y.length=1
   ·obtain⟨y,t,rfl⟩:=cons_of hy;have ht:t=[]:=AH (by rw[AJ]at h2;omega);subst ht;exact symLast_any B g c n a m b P X Q y w ha hm (by rw[hb];rfl) hn sX (by omega) h hr d
   ·exact symGen_any N (j6 ih) B g c n a m b P X Y Q w hl (by omega) (by omega) ha hm hb hn sX sY h hr d
def snoc_cases{α:Type}(s:List α):s=[]\/∃t y,s=t++[y]:=by
 rcases FQ s with h|⟨t,y,h⟩
 ·exact .inl h
 ·exact .inr ⟨t,y,by rw[h,FR]⟩
def InsIn.ext{P S T Q D':List Ud}{x:Ud}{s1 s2:List Ud}(h:InsIn B g c a P S T Q D' x w wi j s1 s2)(hz:Ext wi wz):InsIn B g c a P S T Q D' x w wz j s1 s2 :=
 ⟨h.1,h.2.1,h.2.2.1,h.2.2.2.1.ext hz,h.2.2.2.2.1.trans (Aq hz g),h.2.2.2.2.2.ext hz⟩
def ins_step{P S T Q D':List Ud}{x:Ud}{t s2:List Ud}{y:Ud}(h:InsIn B g c a P S T Q D' x w wi j (t++[y]) s2)(hv:cmpC x y<0)(ha:a=P.length)(hq:q=a+t.length){nx ny tx ty:Nat}(hx:nx=x.l.length)(hy:ny=y.l.length)(hx2:tx=x.t.l.length)(hy2:ty=y.t.l.length) :
  InsIn B g c a P S T Q D' x w (put4 (put4 wi g (q+1) y ny ty) g q x nx tx) q t (y::s2):=by
 subst hx hy hx2 hy2;obtain⟨h1,h2,h3,h4,h5,h6⟩:=h;have e:P++(t++[y]++x::(s2++(T++Q)))=(P++t)++y::x::(s2++(T++Q)):=by simp
 rw[e]at h4;have h7:=h4.swap (q:=q) (by rw[AA];omega);have hu:wi.grownBy (put4 (put4 wi g (q+1) y y.l.length y.t.l.length) g q x x.l.length x.t.l.length) (some g):=upd_swap;refine⟨hq,by rw[h2];simp,λz hz=>?_,?_,h5.trans hu,h6.upd hu⟩
 ·rcases AY.1 hz with rfl|hz
  ·exact hv
  ·exact h3 z hz
 ·have e2:P++(t++x::(y::s2++(T++Q)))=(P++t)++x::y::(s2++(T++Q)):=by simp
  rw[e2];exact h7
def ins_exit{P S T Q D D':List Ud}{x:Ud}{s1 s2:List Ud}(ho:InsOut B g c a P S Q w wo i D D' (x::T))(h:InsIn B g c a P S T Q D' x wo wi j s1 s2)(hl:∀y,s1.getLast?=some y->¬cmpC x y<0){wz:World}(hz:Ext wi wz) :
  InsOut B g c a P S Q w wz (i+1) (D++[x]) (s1++x::s2) T:=by
 obtain⟨o1,o2,o3,o4,o5,o6⟩:=ho;obtain⟨h1,h2,h3,h4,h5,h6⟩:=h;subst h2;refine⟨by rw[o1];simp,by rw[AA,AO];omega,o3.insert cmpC_tot h3 hl,?_,(o5.trans h5).trans (Aq hz g),(h6.sub (λz hz=>BM _ hz)).ext hz⟩;have e:P++(s1++x::s2++(T++Q))=P++(s1++x::(s2++(T++Q))):=by simp
 rw[e];exact h4.ext hz
def insSort_some(B g c n a b:Nat)(P S0 Q:List Ud)(x0:Ud)(w:World)(ha:a=P.length)(hb:b=P.length+(S0.length+1))(hn:n=(P++(x0::S0++Q)).length)(h:Arr w B g c (P++(x0::S0++Q)))(hr:Rws w g (x0::S0)) :
  C3 222 #[.slice (some ⟨g,0,none⟩) n c,.int .i64 a,.int .i64 b,.func (.func 103) #[] #[]] w λe w'=>e=.returned (.tuple #[])/\∃S',Af cmpC (x0::S0) S'/\Arr w' B g c (P++(S'++Q))/\w.grownBy w' (some g):=by
 have⟨S,hS⟩:=E9 (x0::S0);have c9:=h.le;rw[<-hn]at c9;have d1:b<=n:=by
  rw[hb,hn];simp only[AA,AJ];omega
 have HA:=j6 ha;have HB:=j6 hb;have HN:=j6 hn;have c6:a+1<=b:=by omega
 have HO:H0 (InsOut B g c a P S Q w w (a+1) [x0] [x0] S0):=j6 ⟨hS,rfl,Af.one x0,by rw[List.singleton_append,<-CI];exact h,CM w _,by rw[hS];exact hr⟩;have a6:H0 (b=a+S.length):=j6 (by rw[hS,AJ];omega);rw[<-hS];clear ha hb hn h hr hS;go_enter func222,ntmps222;go_wp2
 go_loopg [8] (b-(a+1)) (λz v wo=>∃(i:Nat) (D D' T:List Ud),z=b-i/\i<=b/\v=.int .i64 i/\H0 (InsOut B g c a P S Q w wo i D D' T))
 case atStart=>exact⟨a+1,[x0],[x0],S0,rfl,c6,by simp,HO⟩
 case round =>
  obtain⟨i,D,D',T,rfl,hi,rfl,HI⟩:=hrel;clear HO;obtain⟨wo,b0⟩:∃wo:World,wo=wr:=⟨_,rfl⟩;rw[<-b0]at HI ⊢;clear b0;by_cases hlt:i<b
  ·obtain⟨x,T,rfl⟩:∃x T',T=x::T':=by
    cases T with
    | nil =>
     have⟨q1,q2,_⟩:=HI.o;have:=a6.o;rw[q1,AV]at this;omega
    | cons x T=>exact⟨x,T,rfl⟩
   have a3:H0 (InsIn B g c a P S T Q D' x wo wo i D' []):=j6 (by
    have⟨q1,q2,q3,q4,q5,q6⟩:=HI.o;refine⟨by rw[stable_len q3];exact q2,(AV _).symm,λy hy=>(nomatch hy),by rw[BD];exact q4,CM wo _,λz hz=>?_⟩;rcases AY.1 hz with rfl|hz
    ·exact q6 z (by rw[q1];simp)
    ·exact q6 z hz)
   go_wp2
   go_loopg [9] D'.length (λz v wi=>∃(j:Nat) (s1 s2:List Ud),z=s1.length/\v=.int .i64 j/\j<=i/\H0 (InsIn B g c a P S T Q D' x wo wi j s1 s2))
   case atStart=>exact⟨i,D',[],rfl,rfl,AD _,a3⟩
   case round =>
    obtain⟨j,s1,s2,rfl,rfl,hj,HJ⟩:=hrel;clear a3;obtain⟨wi,a9⟩:∃wi:World,wi=wr:=⟨_,rfl⟩;rw[<-a9]at HJ ⊢;clear a9;rcases snoc_cases s1 with rfl|⟨t,y,rfl⟩
    ·have c7:j=a:=by have:=HJ.o.1;simpa using this
     subst c7
     go_upto_region 4 with fail
     refine wro [0,0,3,7,15,15,15,111,239,15,15,1039,3599,7695,16383,32767,65535] (.flo [0,1,2,3,4,5,6,7,8,9,10,11,12,13] (.one 14 (.flo [15,16] (.fin)))) ?_
     (refine Aa (pks rfl) ?_;(repeat (go_big_quiet_step (fail)));refine oq ?_)
     refine Ac (pks rfl) ?_;intro K_ K;go_wp2
     (refine Aa (pks rfl) ?_;(repeat (go_big_quiet_step (fail)));refine oq ?_)
     refine Ad ?_;go_wp2
     go_roundg (b-(i+1))
     case measure=>omega
     case rel=>exact⟨i+1,D++[x],_,T,rfl,by omega,by go_num,j6 (ins_exit HI.o HJ.o (λy hy=>(nomatch hy)) ((Ext.refl wi).drew))⟩
    ·have⟨q,hq⟩:=E9 (a+t.length);have c8:j=q+1:=by have:=HJ.o.1;rw[AA,AO]at this;omega
     subst c8;have U:q=(P++t).length:=by rw[AA,<-HA.o];exact hq
     have e:P++(t++[y]++x::(s2++(T++Q)))=(P++t)++y::x::(s2++(T++Q)):=by simp
     have f:=HJ.o.2.2.2.1;rw[e]at f;have⟨⟨C,M,F,a1⟩,r,L,E,a0⟩:=Arr.two (s2:=[]) f U;have f0:=f.free ((q+1)*4);have c0:=f.free ((q+1)*4+1);have f1:=f.free ((q+1)*4+2);have c3:=f.free ((q+1)*4+3);have f2:=f.free (q*4);have c4:=f.free (q*4+1);have f3:=f.free (q*4+2);have c5:=f.free (q*4+3);have a7:=HJ.o.2.2.2.2.2 x (BC ..);have a8:=HJ.o.2.2.2.2.2 y (BM _ (by
      have⟨o1,o2,o3,_⟩:=HI.o;have hd:y∈D':=by rw[HJ.o.2.1];simp
      rw[o1];exact BE _ ((o3.mem cmpC_tot y).1 hd)))
     have za:decide ((a:Int)<(q:Int)+1)=true:=by simp;omega
     have d0:a<=q:=by omega
     have d3:q+1<n:=by omega
     have d2:q+1<=i:=hj;have⟨v,hv⟩:=tz (cmpC x y);have⟨nx,O⟩:=E9 x.l.length;have⟨tx,Y⟩:=E9 x.t.l.length;have⟨ny,R⟩:=E9 y.l.length;have⟨ty,Z⟩:=E9 y.t.l.length;rw[<-O]at r;rw[<-Y]at E;rw[<-R]at C;rw[<-Z]at F;have X:Ext wi wi.drew:=(Ext.refl wi).drew;have a4:=j6 a7.1;have a5:=j6 a8.1;have G:=j6 O;have I:=j6 Y;have H:=j6 R;have J:=j6 Z;have HQ:=j6 hq;have b1:=j6 U;have a2:=j6 f;have HV:H0 (cmpC x y=v):=j6 hv;have b6:∀z:Xt wi.drew,z.W.cell? ⟨g,q*4,none⟩=some (.slice y.A ny y.c):=λz=>(X.trans z.x).cell C;have b7:∀z:Xt wi.drew,z.W.cell? ⟨g,q*4+1,none⟩=some (.int .u64 y.t.e):=λz=>(X.trans z.x).cell M;have b8:∀z:Xt wi.drew,z.W.cell? ⟨g,q*4+2,none⟩=some (.slice y.t.A ty y.t.c):=λz=>(X.trans z.x).cell F;have b9:∀z:Xt wi.drew,z.W.cell? ⟨g,q*4+3,none⟩=some (.int .i64 y.d):=λz=>(X.trans z.x).cell a1;have b2:∀z:Xt wi.drew,z.W.cell? ⟨g,(q+1)*4,none⟩=some (.slice x.A nx x.c):=λz=>(X.trans z.x).cell r;have b3:∀z:Xt wi.drew,z.W.cell? ⟨g,(q+1)*4+1,none⟩=some (.int .u64 x.t.e):=λz=>(X.trans z.x).cell L;have b4:∀z:Xt wi.drew,z.W.cell? ⟨g,(q+1)*4+2,none⟩=some (.slice x.t.A tx x.t.c):=λz=>(X.trans z.x).cell E;have b5:∀z:Xt wi.drew,z.W.cell? ⟨g,(q+1)*4+3,none⟩=some (.int .i64 x.d):=λz=>(X.trans z.x).cell a0;clear a7 a8 O R Y Z hv f e U C M r L hq hj;by_cases hv0:v<0
     ·have zv:decide (v<0)=true:=by simpa using hv0
      have N:H0 (cmpC x y<0):=j6 (by show cmpC x y<0;rw[HV.o];exact hv0)
      go_upto_region 4 with fail
      refine wro [0,0,3,7,15,15,15,111,239,15,15,1039,3599,7695,16383,32767,65535] (.flo [0,1,2,3,4,5,6,7,8,9,10,11,12,13] (.one 14 (.flo [15,16] (.fin)))) ?_
      (refine Aa (pks rfl) ?_;(repeat (go_big_quiet_step (fail)));refine oq ?_)
      refine Ac (pks rfl) ?_;intro K_ K;go_wp2_with (go_at_call 103;refine(Cv x y nx ny tx ty v _ HV G H I J (j6 (a4.o.ext X)) (j6 (a5.o.ext X))).mono ?_;rintro e w1 ⟨rfl,x1⟩)
      (refine Aa (pks rfl) ?_;(repeat (go_big_quiet_step (fail)));refine oq ?_)
      refine Ad ?_;have m:=j6 (a2.o.ext (X.trans x1));have⟨⟨C,M,F,a1⟩,r,L,E,a0⟩:=Arr.two (s2:=[]) m.o b1.o;rw[<-G.o]at r;rw[<-I.o]at E;rw[<-H.o]at C;rw[<-J.o]at F;have f0:=m.o.free ((q+1)*4);have c0:=m.o.free ((q+1)*4+1);have f1:=m.o.free ((q+1)*4+2);have c3:=m.o.free ((q+1)*4+3);have f2:=m.o.free (q*4);have c4:=m.o.free (q*4+1);have f3:=m.o.free (q*4+2);have c5:=m.o.free (q*4+3);have X1:Ext w1 w1.drew:=(Ext.refl w1).drew;have b6:∀z:Xt w1.drew,z.W.cell? ⟨g,q*4,none⟩=some (.slice y.A ny y.c):=λz=>(X1.trans z.x).cell C;have b7:∀z:Xt w1.drew,z.W.cell? ⟨g,q*4+1,none⟩=some (.int .u64 y.t.e):=λz=>(X1.trans z.x).cell M;have b8:∀z:Xt w1.drew,z.W.cell? ⟨g,q*4+2,none⟩=some (.slice y.t.A ty y.t.c):=λz=>(X1.trans z.x).cell F;have b9:∀z:Xt w1.drew,z.W.cell? ⟨g,q*4+3,none⟩=some (.int .i64 y.d):=λz=>(X1.trans z.x).cell a1;have b2:∀z:Xt w1.drew,z.W.cell? ⟨g,(q+1)*4,none⟩=some (.slice x.A nx x.c):=λz=>(X1.trans z.x).cell r;have b3:∀z:Xt w1.drew,z.W.cell? ⟨g,(q+1)*4+1,none⟩=some (.int .u64 x.t.e):=λz=>(X1.trans z.x).cell L;have b4:∀z:Xt w1.drew,z.W.cell? ⟨g,(q+1)*4+2,none⟩=some (.slice x.t.A tx x.t.c):=λz=>(X1.trans z.x).cell E;have b5:∀z:Xt w1.drew,z.W.cell? ⟨g,(q+1)*4+3,none⟩=some (.int .i64 x.d):=λz=>(X1.trans z.x).cell a0
      go_upto_region 6 with fail
      refine wro [0,0,0,0,8,0,0,64,224,480,0,0,3072,7168,16355,32739,65535,131071] (.flo [0,1,5,6,7,8,9,10,11,12,13,14] (.pur [2,3,4] (.one 15 (.flo [16] (.one 17 (.fin)))))) ?_
      (refine Aa (pks rfl) ?_;(repeat (go_big_quiet_step (fail)));refine oq ?_)
      (refine Bi (pks rfl) ?_;(repeat (go_big_quiet_step (fail)));refine oq ?_)
      refine Ac (pks rfl) ?_;intro K_ K;go_wp2
      (refine Aa (pks rfl) ?_;(repeat (go_big_quiet_step (fail)));refine oq ?_)
      refine Ac (pks rfl) ?_;intro K_ K;go_wp2;refine Ad ?_;go_wp2
      go_roundg t.length
      case measure=>simp
      case rel=>exact⟨q,t,y::s2,rfl,by go_num,by omega,j6 ((ins_step (HJ.o.ext (X.trans x1)) N.o HA.o HQ.o G.o H.o I.o J.o).ext (Ext.refl _).drew)⟩
     ·have zv:decide (v<0)=false:=by simpa using hv0
      have N:H0 (¬cmpC x y<0):=j6 (by show ¬cmpC x y<0;rw[HV.o];exact hv0)
      go_upto_region 4 with fail
      refine wro [0,0,3,7,15,15,15,111,239,15,15,1039,3599,7695,16383,32767,65535] (.flo [0,1,2,3,4,5,6,7,8,9,10,11,12,13] (.one 14 (.flo [15,16] (.fin)))) ?_
      (refine Aa (pks rfl) ?_;(repeat (go_big_quiet_step (fail)));refine oq ?_)
      refine Ac (pks rfl) ?_;intro K_ K;go_wp2_with (go_at_call 103;refine(Cv x y nx ny tx ty v _ HV G H I J (j6 (a4.o.ext X)) (j6 (a5.o.ext X))).mono ?_;rintro e w1 ⟨rfl,x1⟩)
      (refine Aa (pks rfl) ?_;(repeat (go_big_quiet_step (fail)));refine oq ?_)
      refine Ad ?_;go_wp2
      go_roundg (b-(i+1))
      case measure=>omega
      case rel=>exact⟨i+1,D++[x],_,T,rfl,by omega,by go_num,j6 (ins_exit HI.o HJ.o (λz hz=>by simp only[EK,EC,Option.some_or]at hz;injection hz with hz;rw[<-hz];exact Int.not_lt.2 N.o) (X.trans x1))⟩
  ·obtain rfl:i=b:=by omega
   have HT:H0 (T=[]):=j6 (by
    have⟨q1,q2,_⟩:=HI.o;have:=a6.o;rw[q1,AA]at this;exact AH (by omega))
   go_wp2
   go_end0
   have⟨q1,q2,q3,q4,q5,q6⟩:=HI.o;rw[HT.o]at q1 q4;rw[AV]at q1;exact⟨rfl,D',by rw[q1];exact q3,q4,q5⟩
end Go.Proofs.YtdgbkpoickbidaaGreatDoor.UdS
