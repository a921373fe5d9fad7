/- Parts of the proof. Conditions: as stated. -/
import Derived.Test.YtdgbkpoickbidaaGreatDoorHx4
set_option maxRecDepth 100000
set_option maxHeartbeats 16000000
open Go.RowKit Go.Proofs.Tryz
set_option linter.defProp false
namespace Go.Proofs.YtdgbkpoickbidaaGreatDoor
variable{B a c g i j q:Nat}{w w1 wi wo wr wz:World}
def SymRes(B g c:Nat)(P S Q:List Ct)(w:World)(e:Ending)(w':World):Prop:=e=.returned (.tuple #[])/\∃Z,Af cmpC S Z/\Arr w' B g c (P++(Z++Q))/\w.grownBy w' (some g)
def OneIn(L:List Ct)(x:Ct)(m b i j:Nat):Prop:=(m<i->cmpC (L.getD (i-1) Ct.zero) x<0)/\(j<b->¬cmpC (L.getD j Ct.zero) x<0)
def WayIn(B g c a:Nat)(P Y1 R:List Ct)(x:Ct)(w wi:World)(k:Nat)(Ya Yb:List Ct):Prop :=
 Y1=Ya++Yb/\k=a+Ya.length/\Arr wi B g c (P++(Ya++x::(Yb++R)))/\w.grownBy wi (some g)
def WayIn.step{B g c a:Nat}{P Y1 R:List Ct}{x y:Ct}{w wi wj:World}{k k1:Nat}{Ya Yb:List Ct}(h:WayIn B g c a P Y1 R x w wi k Ya (y::Yb))(ha:a=P.length)(hk:k1=k+1){nx ny:Nat}(hx:nx=x.l.length)(hy:ny=y.l.length)(hz:Ext wi wj) :
  WayIn B g c a P Y1 R x w ((((wj.setCell ⟨g,k*2,none⟩ (.slice y.A ny y.c)).setCell ⟨g,k*2+1,none⟩ (.int .i64 y.k)).setCell ⟨g,k1*2,none⟩ (.slice x.A nx x.c)).setCell ⟨g,k1*2+1,none⟩ (.int .i64 x.k)) (k+1) (Ya++[y]) Yb:=by
 obtain⟨h1,h2,h3,h4⟩:=h;have e:P++(Ya++x::(y::Yb++R))=(P++Ya)++x::([]++y::(Yb++R)):=by simp
 have hf:=h3.ext hz;rw[e]at hf;have h7:=hf.swapA (p:=k) (q:=k1) (by rw[AA];omega) (by rw[AA,CB];omega) hx hy;refine⟨by rw[h1];simp,by rw[AA,AO];omega,?_,(h4.trans (Aq hz g)).trans (upd_swap wj g _ _ _ _ _ _ _ _)⟩;have e2:P++(Ya++[y]++x::(Yb++R))=(P++Ya)++y::([]++x::(Yb++R)):=by simp
 rw[e2];exact h7
def symOne_any(B g c n a m b:Nat)(P Y Q:List Ct)(x:Ct)(w:World)(ha:a=P.length)(hm:m=a+1)(hb:b=m+Y.length)(hn:n=(P++([x]++(Y++Q))).length)(hY:SortedC Y)(h:Arr w B g c (P++([x]++(Y++Q))))(hr:Rws w g ([x]++Y))(hbig:n<=1000000000) :
  C3 257 #[.slice (some ⟨g,0,none⟩) n c,.int .i64 a,.int .i64 m,.int .i64 b,.func (.func 188) #[] #[]] w (SymRes B g c P ([x]++Y) Q w):=by
 have a6:=h.le;rw[<-hn]at a6;have⟨L,hL⟩:=E9 (P++([x]++(Y++Q)));have b1:b<=n:=by rw[hb,hm,ha,hn];simp only[AA,AO];omega
 have HA:=j6 ha;have HB:=j6 hb;have HM:=j6 hm;have HL:=j6 hL;have HY:=j6 hY;have HR:=j6 hr;have HN:H0 (n=L.length):=j6 (by rw[hL];exact hn);have H:H0 (Arr w B g c L):=j6 (by rw[hL];exact h);have e1:(m:Int)-(a:Int)=1:=by omega
 have a5:m<=b:=by omega
 have b0:a<m:=by omega
 clear ha hm hb hn hY h hr hL;go_enter func257,ntmps257;go_wp2
 go_loopg [10,11] (b-m) (λz u v wr=>∃i j:Nat,z=j-i/\u=.int .i64 i/\v=.int .i64 j/\m<=i/\i<=j/\j<=b/\H0 (OneIn L x m b i j)/\Ext w wr)
 case atStart=>exact⟨m,b,rfl,rfl,rfl,AD _,a5,AD _,j6 ⟨λh=>absurd h (CW _),λh=>absurd h (CW _)⟩,Ext.refl _⟩
 case round =>
  obtain⟨i,j,rfl,rfl,rfl,h1,h2,h3,HO,er⟩:=hrel;by_cases hlt:i<j
  ·have⟨q,hq⟩:=E9 ((i+j) / 2);have a7:i<=q:=by omega
   have b5:q<j:=by omega
   have b6:((i:Int)+(j:Int)) / 2=(q:Int):=by omega
   have hA:=H.o.ext er;have Z:q<L.length:=by rw[<-HN.o];omega
   have⟨r,E⟩:=hA.at Z;have hx:=hA;rw[HL.o]at hx;have⟨t,K⟩:=Arr.here (Q:=Y++Q) hx HA.o;have J:L.getD q Ct.zero∈[x]++Y:=CD _ (by
    rw[HL.o];have:=mem_mid (P:=P++[x]) (X:=Y) (R:=Q) (i:=q) (by rw[AA,AO,<-HA.o,<-HM.o];omega) (by rw[AA,AO,<-HA.o,<-HM.o,<-HB.o];omega)
    rwa [AK]at this)
   have N:=j6 J;have⟨y,hy⟩:=E9 (L.getD q Ct.zero);rw[<-hy]at r E N;have T:=j6 hy;have⟨nx,d⟩:=E9 x.l.length;have⟨ny,f⟩:=E9 y.l.length;rw[<-d]at t;rw[<-f]at r;have C:=j6 d;have D:=j6 f;have XE:Ext wr wr.drew:=(Ext.refl wr).drew;have O:=j6 (((HR.o x (by simp)).1.ext er).ext XE);have S:=j6 (((HR.o y N.o).1.ext er).ext XE);have⟨v,hv⟩:=tz (Ba y.l x.l);have HV:=j6 hv;have a3:∀z:Xt wr.drew,z.W.cell? ⟨g,q*2,none⟩=some (.slice y.A ny y.c):=λz=>(XE.trans z.x).cell r;have a4:∀z:Xt wr.drew,z.W.cell? ⟨g,q*2+1,none⟩=some (.int .i64 y.k):=λz=>(XE.trans z.x).cell E;have a1:∀z:Xt wr.drew,z.W.cell? ⟨g,a*2,none⟩=some (.slice x.A nx x.c):=λz=>(XE.trans z.x).cell t;have a2:∀z:Xt wr.drew,z.W.cell? ⟨g,a*2+1,none⟩=some (.int .i64 x.k):=λz=>(XE.trans z.x).cell K;clear hA Z hx J d f hv hy hq;by_cases hv0:v<0
   ·have zv:decide (v<0)=true:=by simpa using hv0
    go_upto_region 5 with fail
    refine wro [0,0,0,6,14,0,0,96,224,511,1023] (.flo [0,1,2,3,4,5,6,7,8] (.one 9 (.flo [10] (.fin)))) ?_
    (refine Aa (pks rfl) ?_;(repeat (go_big_quiet_step (fail)));refine oq ?_)
    refine Ac (pks rfl) ?_;intro K_ F;go_wp2_with (go_at_call 188;refine(Ez y.A x.A y.c x.c ny nx y.k x.k v y.l x.l _ HV D C S O).mono ?_;rintro e w1 ⟨rfl,x1⟩)
    (refine Aa (pks rfl) ?_;(repeat (go_big_quiet_step (fail)));refine oq ?_)
    refine Ad ?_;go_wp2
    go_roundg (j-(q+1))
    case measure=>omega
    case rel=>exact⟨q+1,j,rfl,by go_num,rfl,by omega,by omega,h3,j6 ⟨λ_=>by rw[EB,<-T.o];show Ba y.l x.l<0;rw[HV.o];exact hv0,HO.o.2⟩,er.trans (XE.trans x1)⟩
   ·have zv:decide (v<0)=false:=by simpa using hv0
    go_upto_region 5 with fail
    refine wro [0,0,0,6,14,0,0,96,224,511,1023] (.flo [0,1,2,3,4,5,6,7,8] (.one 9 (.flo [10] (.fin)))) ?_
    (refine Aa (pks rfl) ?_;(repeat (go_big_quiet_step (fail)));refine oq ?_)
    refine Ac (pks rfl) ?_;intro K_ F;go_wp2_with (go_at_call 188;refine(Ez y.A x.A y.c x.c ny nx y.k x.k v y.l x.l _ HV D C S O).mono ?_;rintro e w1 ⟨rfl,x1⟩)
    (refine Aa (pks rfl) ?_;(repeat (go_big_quiet_step (fail)));refine oq ?_)
    refine Ad ?_;go_wp2
    go_roundg (q-i)
    case measure=>omega
    case rel=>exact⟨i,q,rfl,rfl,rfl,h1,a7,by omega,j6 ⟨HO.o.1,λ_=>by rw[<-T.o];show ¬Ba y.l x.l<0;rw[HV.o];omega⟩,er.trans (XE.trans x1)⟩
  ·obtain rfl:i=j:=by omega
   have⟨Y1,Y2,k1,k2,k3⟩:=one_split HL.o HA.o HM.o HB.o h1 h3 HY.o HO.o.1 HO.o.2;have HK:=j6 k3;have a9:=j6 k1;have a8:=j6 k2;have HW:H0 (WayIn B g c a P Y1 (Y2++Q) x w wr a [] Y1):=j6 ⟨rfl,rfl,by
    have:=H.o.ext er;rw[HL.o,k1]at this;simpa using this,Aq er g⟩
   have b2:(i:Int)-1=((i-1:Nat):Int):=by omega
   have U:i-1=a+Y1.length:=by have:=HM.o;omega
   have M:=j6 U;clear k1 k2 k3 U HO;obtain⟨wo,a0⟩:∃wo:World,wo=wr:=⟨_,rfl⟩;rw[<-a0]at HW er ⊢;clear a0;go_wp2
   go_loopg [13] (i-1-a) (λz u wr=>∃(k:Nat) (Ya Yb:List Ct),z=i-1-k/\u=.int .i64 k/\a<=k/\k<=i-1/\H0 (WayIn B g c a P Y1 (Y2++Q) x w wr k Ya Yb))
   case atStart=>exact⟨a,[],Y1,rfl,rfl,AD _,by omega,HW⟩
   case round =>
    obtain⟨k,Ya,Yb,rfl,rfl,b3,b4,HJ⟩:=hrel;clear HW;by_cases hkl:k<i-1
    ·obtain⟨y,Yb,rfl⟩:=cons_of (l:=Yb) (by
      have⟨q1,q2,_⟩:=HJ.o;have:=M.o;rw[q1,AA]at this;omega)
     have hf:=HJ.o.2.2.1;have e2:P++(Ya++x::(y::Yb++(Y2++Q)))=(P++Ya)++x::(y::(Yb++(Y2++Q))):=by simp
     rw[e2]at hf;have I:k=(P++Ya).length:=by rw[AA,<-HA.o];exact HJ.o.2.1
     have⟨t,K⟩:=hf.here I;have e3:(P++Ya)++x::(y::(Yb++(Y2++Q)))=(P++Ya++[x])++y::(Yb++(Y2++Q)):=by simp
     have G:=hf;rw[e3]at G;have⟨r,E⟩:=G.here (p:=k+1) (by rw[AA,<-I,AO]);have f0:=hf.free (k*2);have f1:=hf.free (k*2+1);have f2:=hf.free ((k+1)*2);have f3:=hf.free ((k+1)*2+1);have⟨nx,d⟩:=E9 x.l.length;have⟨ny,f⟩:=E9 y.l.length;rw[<-d]at t;rw[<-f]at r;have C:=j6 d;have D:=j6 f;have XE:Ext wr wr.drew:=(Ext.refl wr).drew;have a3:∀z:Xt wr.drew,z.W.cell? ⟨g,(k+1)*2,none⟩=some (.slice y.A ny y.c):=λz=>(XE.trans z.x).cell r;have a4:∀z:Xt wr.drew,z.W.cell? ⟨g,(k+1)*2+1,none⟩=some (.int .i64 y.k):=λz=>(XE.trans z.x).cell E;have a1:∀z:Xt wr.drew,z.W.cell? ⟨g,k*2,none⟩=some (.slice x.A nx x.c):=λz=>(XE.trans z.x).cell t;have a2:∀z:Xt wr.drew,z.W.cell? ⟨g,k*2+1,none⟩=some (.int .i64 x.k):=λz=>(XE.trans z.x).cell K;clear hf G e2 e3 I d f
     go_upto_region 11 with fail
     refine wro [0,0,0,0,8,0,0,64,224,480,0,0,3072,7168,16355,32739,65535,131071] (.flo [0,1,5,6,7,8,9,10,11,12,13,14] (.pur [2,3,4] (.one 15 (.flo [16] (.one 17 (.fin)))))) ?_
     (refine Aa (pks rfl) ?_;(repeat (go_big_quiet_step (fail)));refine oq ?_)
     (refine Bi (pks rfl) ?_;(repeat (go_big_quiet_step (fail)));refine oq ?_)
     refine Ac (pks rfl) ?_;intro K_ F;go_wp2
     (refine Aa (pks rfl) ?_;(repeat (go_big_quiet_step (fail)));refine oq ?_)
     refine Ac (pks rfl) ?_;intro K_ F;go_wp2;refine Ad ?_;go_wp2
     go_roundg (i-1-(k+1))
     case measure=>omega
     case rel=>exact⟨k+1,Ya++[y],Yb,rfl,by go_num,by omega,by omega,j6 (HJ.o.step HA.o rfl C.o D.o XE)⟩
    ·obtain rfl:k=i-1:=by omega
     have HE:H0 (Yb=[]):=j6 (by
      have⟨q1,q2,_⟩:=HJ.o;have:=M.o;rw[q1,AA]at this;exact AH (by omega))
     go_wp2;refine bodyPost_ret (v:=.tuple #[]) (by simp only[results,Tryz.results257];go_simp) rfl ?_;have⟨q1,q2,q3,q4⟩:=HJ.o;rw[HE.o]at q1 q3;rw[AV]at q1;refine⟨rfl,Y1++x::Y2,HK.o,?_,q4⟩;rw[q1];simpa using q3
def LastIn(L:List Ct)(y:Ct)(a m i j:Nat):Prop:=(a<i->¬cmpC y (L.getD (i-1) Ct.zero)<0)/\(j<m->cmpC y (L.getD j Ct.zero)<0)
def BackIn(B g c a:Nat)(P X2 R:List Ct)(y:Ct)(w wi:World)(k:Nat)(Xa Xb:List Ct):Prop :=
 X2=Xa++Xb/\k=a+Xa.length/\Arr wi B g c (P++(Xa++y::(Xb++R)))/\w.grownBy wi (some g)
def BackIn.step{B g c a:Nat}{P X2 R:List Ct}{x y:Ct}{w wi wj:World}{k k1:Nat}{Xa Xb:List Ct}(h:BackIn B g c a P X2 R y w wi k (Xa++[x]) Xb)(ha:a=P.length)(hk:k=k1+1){nx ny:Nat}(hx:nx=x.l.length)(hy:ny=y.l.length)(hz:Ext wi wj) :
  BackIn B g c a P X2 R y w ((((wj.setCell ⟨g,k*2,none⟩ (.slice x.A nx x.c)).setCell ⟨g,k*2+1,none⟩ (.int .i64 x.k)).setCell ⟨g,k1*2,none⟩ (.slice y.A ny y.c)).setCell ⟨g,k1*2+1,none⟩ (.int .i64 y.k)) k1 Xa (x::Xb):=by
 obtain⟨h1,h2,h3,h4⟩:=h;rw[AA,AO]at h2;have e:P++(Xa++[x]++y::(Xb++R))=(P++Xa)++x::([]++y::(Xb++R)):=by simp
 have hf:=h3.ext hz;rw[e]at hf;have h7:=hf.swapB (p:=k1) (q:=k) (by rw[AA];omega) (by rw[AA,CB];omega) hx hy;refine⟨by rw[h1];simp,by omega,?_,(h4.trans (Aq hz g)).trans (upd_swap wj g _ _ _ _ _ _ _ _)⟩;have e2:P++(Xa++y::(x::Xb++R))=(P++Xa)++y::([]++x::(Xb++R)):=by simp
 rw[e2];exact h7
def symLast_any(B g c n a m b:Nat)(P X Q:List Ct)(y:Ct)(w:World)(ha:a=P.length)(hm:m=a+X.length)(hb:b=m+1)(hn:n=(P++(X++([y]++Q))).length)(hX:SortedC X)(h2:2<=X.length)(h:Arr w B g c (P++(X++([y]++Q))))(hr:Rws w g (X++[y]))(hbig:n<=1000000000) :
  C3 257 #[.slice (some ⟨g,0,none⟩) n c,.int .i64 a,.int .i64 m,.int .i64 b,.func (.func 188) #[] #[]] w (SymRes B g c P (X++[y]) Q w):=by
 have a4:=h.le;rw[<-hn]at a4;have⟨L,hL⟩:=E9 (P++(X++([y]++Q)));have a7:b<=n:=by rw[hb,hm,ha,hn];simp only[AA,AO];omega
 have HA:=j6 ha;have HB:=j6 hb;have HM:=j6 hm;have HL:=j6 hL;have HX:=j6 hX;have HR:=j6 hr;have HN:H0 (n=L.length):=j6 (by rw[hL];exact hn);have H:H0 (Arr w B g c L):=j6 (by rw[hL];exact h);have e1:((m:Int)-(a:Int)==1)=false:=by rw[beq_eq_false_iff_ne];omega
 have e2:(b:Int)-(m:Int)=1:=by omega
 have b1:m<b:=by omega
 have a2:a<=m:=by omega
 clear ha hm hb hn hX h hr hL h2;go_enter func257,ntmps257;go_wp2
 go_loopg [14,15] (m-a) (λz u v wr=>∃i j:Nat,z=j-i/\u=.int .i64 i/\v=.int .i64 j/\a<=i/\i<=j/\j<=m/\H0 (LastIn L y a m i j)/\Ext w wr)
 case atStart=>exact⟨a,m,rfl,rfl,rfl,AD _,a2,AD _,j6 ⟨λh=>absurd h (CW _),λh=>absurd h (CW _)⟩,Ext.refl _⟩
 case round =>
  obtain⟨i,j,rfl,rfl,rfl,h1,h2,h3,HO,er⟩:=hrel;by_cases hlt:i<j
  ·have⟨q,hq⟩:=E9 ((i+j) / 2);have a5:i<=q:=by omega
   have b2:q<j:=by omega
   have b3:((i:Int)+(j:Int)) / 2=(q:Int):=by omega
   have hA:=H.o.ext er;have T:q<L.length:=by rw[<-HN.o];omega
   have⟨r,E⟩:=hA.at T;have hx:=hA;rw[HL.o]at hx;have ex:P++(X++([y]++Q))=(P++X)++y::Q:=by simp
   rw[ex]at hx;have⟨t,K⟩:=hx.here (p:=m) (by rw[AA,<-HA.o];exact HM.o);have J:L.getD q Ct.zero∈X++[y]:=BE _ (by
    rw[HL.o];exact mem_mid (by rw[<-HA.o];omega) (by rw[<-HA.o,<-HM.o];omega))
   have N:=j6 J;have⟨x,hy⟩:=E9 (L.getD q Ct.zero);rw[<-hy]at r E N;have S:=j6 hy;have⟨nx,d⟩:=E9 x.l.length;have⟨ny,f⟩:=E9 y.l.length;rw[<-f]at t;rw[<-d]at r;have C:=j6 d;have D:=j6 f;have XE:Ext wr wr.drew:=(Ext.refl wr).drew;have R:=j6 (((HR.o y (by simp)).1.ext er).ext XE);have O:=j6 (((HR.o x N.o).1.ext er).ext XE);have⟨v,hv⟩:=tz (Ba y.l x.l);have HV:=j6 hv;have a0:∀z:Xt wr.drew,z.W.cell? ⟨g,q*2,none⟩=some (.slice x.A nx x.c):=λz=>(XE.trans z.x).cell r;have a1:∀z:Xt wr.drew,z.W.cell? ⟨g,q*2+1,none⟩=some (.int .i64 x.k):=λz=>(XE.trans z.x).cell E;have Y:∀z:Xt wr.drew,z.W.cell? ⟨g,m*2,none⟩=some (.slice y.A ny y.c):=λz=>(XE.trans z.x).cell t;have Z:∀z:Xt wr.drew,z.W.cell? ⟨g,m*2+1,none⟩=some (.int .i64 y.k):=λz=>(XE.trans z.x).cell K;clear hA T hx J d f hv hy hq ex;by_cases hv0:v<0
   ·have zv:decide (v<0)=true:=by simpa using hv0
    go_upto_region 17 with fail
    refine wro [0,0,0,6,14,0,0,96,224,511,1023,2047] (.flo [0,1,2,3,4,5,6,7,8] (.one 9 (.flo [10,11] (.fin)))) ?_
    (refine Aa (pks rfl) ?_;(repeat (go_big_quiet_step (fail)));refine oq ?_)
    refine Ac (pks rfl) ?_;intro K_ F;go_wp2_with (go_at_call 188;refine(Ez y.A x.A y.c x.c ny nx y.k x.k v y.l x.l _ HV D C R O).mono ?_;rintro e w1 ⟨rfl,x1⟩)
    (refine Aa (pks rfl) ?_;(repeat (go_big_quiet_step (fail)));refine oq ?_)
    refine Ad ?_;go_wp2
    go_roundg (q-i)
    case measure=>omega
    case rel=>exact⟨i,q,rfl,rfl,rfl,h1,a5,by omega,j6 ⟨HO.o.1,λ_=>by rw[<-S.o];show Ba y.l x.l<0;rw[HV.o];exact hv0⟩,er.trans (XE.trans x1)⟩
   ·have zv:decide (v<0)=false:=by simpa using hv0
    go_upto_region 17 with fail
    refine wro [0,0,0,6,14,0,0,96,224,511,1023,2047] (.flo [0,1,2,3,4,5,6,7,8] (.one 9 (.flo [10,11] (.fin)))) ?_
    (refine Aa (pks rfl) ?_;(repeat (go_big_quiet_step (fail)));refine oq ?_)
    refine Ac (pks rfl) ?_;intro K_ F;go_wp2_with (go_at_call 188;refine(Ez y.A x.A y.c x.c ny nx y.k x.k v y.l x.l _ HV D C R O).mono ?_;rintro e w1 ⟨rfl,x1⟩)
    (refine Aa (pks rfl) ?_;(repeat (go_big_quiet_step (fail)));refine oq ?_)
    refine Ad ?_;go_wp2
    go_roundg (j-(q+1))
    case measure=>omega
    case rel=>exact⟨q+1,j,rfl,by go_num,rfl,by omega,by omega,h3,j6 ⟨λ_=>by rw[EB,<-S.o];show ¬Ba y.l x.l<0;rw[HV.o];omega,HO.o.2⟩,er.trans (XE.trans x1)⟩
  ·obtain rfl:i=j:=by omega
   have⟨X1,X2,k1,k2,k3⟩:=last_split HL.o HA.o HM.o h1 h3 HX.o HO.o.1 HO.o.2;have HK:=j6 k3;have a6:=j6 k1;have M:H0 (i=(P++X1).length):=j6 (by rw[AA,<-HA.o];exact k2);have HW:H0 (BackIn B g c i (P++X1) X2 Q y w wr m X2 []):=j6 ⟨(AV _).symm,by
    have:=HM.o;rw[k1,AA]at this;omega,by
    have:=H.o.ext er;rw[HL.o,k1]at this;simpa using this,Aq er g⟩
   clear k1 k2 k3 HO;obtain⟨wo,U⟩:∃wo:World,wo=wr:=⟨_,rfl⟩;rw[<-U]at HW er ⊢;clear U;go_wp2
   go_loopg [17] (m-i) (λz u wr=>∃(k:Nat) (Xa Xb:List Ct),z=k-i/\u=.int .i64 k/\i<=k/\k<=m/\H0 (BackIn B g c i (P++X1) X2 Q y w wr k Xa Xb))
   case atStart=>exact⟨m,X2,[],rfl,rfl,h3,AD _,HW⟩
   case round =>
    obtain⟨k,Xa,Xb,rfl,rfl,a8,a9,HJ⟩:=hrel;clear HW;rcases He Xa with rfl|⟨Xa,x,rfl⟩
    ·obtain rfl:k=i:=by have:=HJ.o.2.1;simpa using this
     go_wp2;refine bodyPost_ret (v:=.tuple #[]) (by simp only[results,Tryz.results257];go_simp) rfl ?_;have⟨q1,q2,q3,q4⟩:=HJ.o;refine⟨rfl,X1++y::X2,HK.o,?_,q4⟩;rw[q1];simpa using q3
    ·obtain⟨k1,hk⟩:∃k1,k=k1+1:=⟨k-1,by have:=HJ.o.2.1;rw[AA,AO]at this;omega⟩;subst hk;have a3:i<=k1:=by have:=HJ.o.2.1;rw[AA,AO]at this;omega
     have b0:((k1+1:Nat):Int)-1=(k1:Int):=by omega
     have hf:=HJ.o.2.2.1;have e2:P++X1++(Xa++[x]++y::(Xb++Q))=(P++X1++Xa)++x::(y::(Xb++Q)):=by simp
     rw[e2]at hf;have I:k1=(P++X1++Xa).length:=by rw[AA,<-M.o];have:=HJ.o.2.1;rw[AA,AO]at this;omega
     have⟨t,K⟩:=hf.here I;have e3:(P++X1++Xa)++x::(y::(Xb++Q))=(P++X1++Xa++[x])++y::(Xb++Q):=by simp
     have G:=hf;rw[e3]at G;have⟨r,E⟩:=G.here (p:=k1+1) (by rw[AA,<-I,AO]);have f0:=hf.free (k1*2);have f1:=hf.free (k1*2+1);have f2:=hf.free ((k1+1)*2);have f3:=hf.free ((k1+1)*2+1);have⟨nx,d⟩:=E9 x.l.length;have⟨ny,f⟩:=E9 y.l.length;rw[<-d]at t;rw[<-f]at r;have C:=j6 d;have D:=j6 f;have XE:Ext wr wr.drew:=(Ext.refl wr).drew;have a0:∀z:Xt wr.drew,z.W.cell? ⟨g,(k1+1)*2,none⟩=some (.slice y.A ny y.c):=λz=>(XE.trans z.x).cell r;have a1:∀z:Xt wr.drew,z.W.cell? ⟨g,(k1+1)*2+1,none⟩=some (.int .i64 y.k):=λz=>(XE.trans z.x).cell E;have Y:∀z:Xt wr.drew,z.W.cell? ⟨g,k1*2,none⟩=some (.slice x.A nx x.c):=λz=>(XE.trans z.x).cell t;have Z:∀z:Xt wr.drew,z.W.cell? ⟨g,k1*2+1,none⟩=some (.int .i64 x.k):=λz=>(XE.trans z.x).cell K;clear hf G e2 e3 I d f
     go_upto_region 23 with fail
     refine wro [0,0,0,0,8,0,0,64,224,480,0,0,3072,7168,16355,32739,65535,131071] (.flo [0,1,5,6,7,8,9,10,11,12,13,14] (.pur [2,3,4] (.one 15 (.flo [16] (.one 17 (.fin)))))) ?_
     (refine Aa (pks rfl) ?_;(repeat (go_big_quiet_step (fail)));refine oq ?_)
     (refine Bi (pks rfl) ?_;(repeat (go_big_quiet_step (fail)));refine oq ?_)
     refine Ac (pks rfl) ?_;intro K_ F;go_wp2
     (refine Aa (pks rfl) ?_;(repeat (go_big_quiet_step (fail)));refine oq ?_)
     refine Ac (pks rfl) ?_;intro K_ F;go_wp2;refine Ad ?_;go_wp2
     go_roundg (k1-i)
     case measure=>omega
     case rel=>exact⟨k1,Xa,x::Xb,rfl,by go_num,a3,by omega,j6 (HJ.o.step M.o rfl C.o D.o XE)⟩
def SymIH(N:Nat):Prop:=∀(B g c n a m b:Nat) (P X Y Q:List Ct) (w:World),X.length+Y.length<=N->0<X.length->0<Y.length->a=P.length->m=a+X.length->b=m+Y.length->n=(P++(X++(Y++Q))).length->SortedC X->SortedC Y ->
 Arr w B g c (P++(X++(Y++Q)))->Rws w g (X++Y)->n<=1000000000 ->
 C3 257 #[.slice (some ⟨g,0,none⟩) n c,.int .i64 a,.int .i64 m,.int .i64 b,.func (.func 188) #[] #[]] w (SymRes B g c P (X++Y) Q w)
structure SymF (N g n a m b mid en s:Nat) (P X X1 X2 Y Y1 Y2 Q:List Ct) (w:World):Prop where
 hX:X=X1++X2
 hY:Y=Y1++Y2
 ha:a=P.length
 hs:s=a+X1.length
 hm:m=a+X.length
 hb:b=m+Y.length
 hen:en=m+Y1.length
 hmid:mid=a+(X1.length+Y1.length)
 half:mid=(a+b) / 2
 hn:n=(P++(X++(Y++Q))).length
 sX:SortedC X
 sY:SortedC Y
 rows:Rws w g (X++Y)
 cut1:∀t x y u,X1=t++[x]->Y2=y::u->cmpC x y<=0
 cut2:∀t y x u,Y1=t++[y]->X2=x::u->cmpC y x<0
 big:n<=1000000000
 len:X.length+Y.length<=N+1
 two:2<=X.length+Y.length
def SymAt(B g c:Nat)(P X1 Y1 X2 Y2 Q:List Ct)(w w2:World):Prop:=Arr w2 B g c (P++(X1++(Y1++(X2++(Y2++Q)))))/\w.grownBy w2 (some g)
def SymMid(B g c:Nat)(P X1 Y1 X2 Y2 Q:List Ct)(w w3:World):Prop:=∃Z1,Af cmpC (X1++Y1) Z1/\Arr w3 B g c (P++(Z1++(X2++(Y2++Q))))/\w.grownBy w3 (some g)
section
variable{N B g c n a m b mid en s:Nat}{P X X1 X2 Y Y1 Y2 Q:List Ct}{w w1 w2 w3:World}
def nil_or{α:Type}{l:List α}(h:¬ 0<l.length):l=[]:=AH (by omega)
def SymF.lens(F:SymF N g n a m b mid en s P X X1 X2 Y Y1 Y2 Q w):X.length=X1.length+X2.length/\Y.length=Y1.length+Y2.length/\n=P.length+(X.length+(Y.length+Q.length)):=
 ⟨by rw[F.hX,AA],by rw[F.hY,AA],by rw[F.hn];simp only[AA]⟩
def SymF.flags(F:SymF N g n a m b mid en s P X X1 X2 Y Y1 Y2 Q w):(s<m↔0<X2.length)/\(m<en↔0<Y1.length)/\(a<s↔0<X1.length)/\(s<mid↔0<Y1.length)/\(mid<en↔0<X2.length)/\(en<b↔0<Y2.length):=by
 have⟨l1,l2,l3⟩:=F.lens;have hs:=F.hs;have hm:=F.hm;have hb:=F.hb;have hmid:=F.hmid;have hen:=F.hen;refine⟨⟨λ_=>?_,λ_=>?_⟩,⟨λ_=>?_,λ_=>?_⟩,⟨λ_=>?_,λ_=>?_⟩,⟨λ_=>?_,λ_=>?_⟩,⟨λ_=>?_,λ_=>?_⟩,⟨λ_=>?_,λ_=>?_⟩⟩<;>omega
def SymF.still(F:SymF N g n a m b mid en s P X X1 X2 Y Y1 Y2 Q w)(h:Arr w1 B g c (P++(X++(Y++Q))))(up:w.grownBy w1 (some g))(hz:¬ 0<X2.length\/¬ 0<Y1.length):SymAt B g c P X1 Y1 X2 Y2 Q w w1:=by
 refine⟨?_,up⟩;rw[F.hX,F.hY]at h;rcases hz with q|q
 ·rw[nil_or q]at h ⊢;simpa using h
 ·rw[nil_or q]at h ⊢;simpa using h
def SymF.rot(F:SymF N g n a m b mid en s P X X1 X2 Y Y1 Y2 Q w)(h:Arr w1 B g c (P++(X++(Y++Q))))(up:w.grownBy w1 (some g))(h1:0<X2.length)(h2:0<Y1.length) :
  C3 284 #[.slice (some ⟨g,0,none⟩) n c,.int .i64 s,.int .i64 m,.int .i64 en,.func (.func 188) #[] #[]] w1 λe w'=>e=.returned (.tuple #[])/\SymAt B g c P X1 Y1 X2 Y2 Q w w':=by
 have⟨l1,l2,l3⟩:=F.lens;have e:P++(X++(Y++Q))=(P++X1)++(X2++(Y1++(Y2++Q))):=by rw[F.hX,F.hY];simp
 rw[e]at h;have ha:=F.ha;have hs:=F.hs;have hm:=F.hm;refine(rot_any B g c n s m en (P++X1) X2 Y1 (Y2++Q) w1 (by rw[AA];omega) (by omega) F.hen h1 h2 (by rw[F.hn,e]) h).mono ?_;rintro e w2 ⟨rfl,a2,g2⟩;refine⟨rfl,?_,up.trans g2⟩
 rwa [AK]at a2
def SymF.left(F:SymF N g n a m b mid en s P X X1 X2 Y Y1 Y2 Q w)(IH:SymIH N)(h:SymAt B g c P X1 Y1 X2 Y2 Q w w2)(h1:0<X1.length)(h2:0<Y1.length) :
  C3 257 #[.slice (some ⟨g,0,none⟩) n c,.int .i64 a,.int .i64 s,.int .i64 mid,.func (.func 188) #[] #[]] w2 λe w'=>e=.returned (.tuple #[])/\SymMid B g c P X1 Y1 X2 Y2 Q w w':=by
 have⟨l1,l2,l3⟩:=F.lens;obtain⟨q1,q2⟩:=h;have ha:=F.ha;have hs:=F.hs;have hm:=F.hm;have hb:=F.hb;have hh:=F.half;have hmid:=F.hmid;have hl:=F.len;have d:=F.two;refine(IH B g c n a s mid P X1 Y1 (X2++(Y2++Q)) w2 (by omega) h1 h2 ha hs (by omega) (by simp only[AA];omega) (SortedC.left (F.hX▸F.sX)) (SortedC.left (F.hY▸F.sY)) q1 ((F.rows.upd q2).sub λx hx=>?_) F.big).mono ?_
 ·rw[F.hX,F.hY];rcases AQ.1 hx with hx|hx<;>simp[hx]
 ·rintro e w3 ⟨rfl,Z,z1,z2,z3⟩;exact⟨rfl,Z,z1,z2,q2.trans z3⟩
def SymF.left0(F:SymF N g n a m b mid en s P X X1 X2 Y Y1 Y2 Q w)(h:SymAt B g c P X1 Y1 X2 Y2 Q w w2)(hz:¬ 0<X1.length\/¬ 0<Y1.length):SymMid B g c P X1 Y1 X2 Y2 Q w w2:=by
 obtain⟨q1,q2⟩:=h;refine⟨X1++Y1,?_,by rw[AK];exact q1,q2⟩;rcases hz with q|q
 ·rw[nil_or q,BD];exact Af.self (SortedC.left (F.hY▸F.sY))
 ·rw[nil_or q,AV];exact Af.self (SortedC.left (F.hX▸F.sX))
def SymF.all(F:SymF N g n a m b mid en s P X X1 X2 Y Y1 Y2 Q w){Z1 Z2:List Ct}(h1:Af cmpC (X1++Y1) Z1)(h2:Af cmpC (X2++Y2) Z2):Af cmpC (X++Y) (Z1++Z2):=by
 have:=Af.merge cmpC_tot (F.hX▸F.sX) (F.hY▸F.sY) F.cut1 F.cut2 h1 h2
 rwa [<-F.hX,<-F.hY]at this
def SymF.right(F:SymF N g n a m b mid en s P X X1 X2 Y Y1 Y2 Q w)(IH:SymIH N)(h:SymMid B g c P X1 Y1 X2 Y2 Q w w3)(h1:0<X2.length)(h2:0<Y2.length) :
  C3 257 #[.slice (some ⟨g,0,none⟩) n c,.int .i64 mid,.int .i64 en,.int .i64 b,.func (.func 188) #[] #[]] w3 (SymRes B g c P (X++Y) Q w):=by
 have⟨l1,l2,l3⟩:=F.lens;obtain⟨Z1,q0,q1,q2⟩:=h;have lz:=stable_len q0;rw[AA]at lz;have ha:=F.ha;have hs:=F.hs;have hm:=F.hm;have hb:=F.hb;have hh:=F.half;have hmid:=F.hmid;have hen:=F.hen;have hl:=F.len;have d:=F.two;rw[<-AK]at q1;refine(IH B g c n mid en b (P++Z1) X2 Y2 Q w3 (by omega) h1 h2 (by rw[AA];omega) (by omega) (by omega) (by simp only[AA];omega) (SortedC.right (F.hX▸F.sX)) (SortedC.right (F.hY▸F.sY)) q1 ((F.rows.upd q2).sub λx hx=>?_) F.big).mono ?_
 ·rw[F.hX,F.hY];rcases AQ.1 hx with hx|hx<;>simp[hx]
 ·rintro e w4 ⟨rfl,Z,z1,z2,z3⟩;exact⟨rfl,Z1++Z,F.all q0 z1,by simpa using z2,q2.trans z3⟩
def SymF.right0(F:SymF N g n a m b mid en s P X X1 X2 Y Y1 Y2 Q w)(h:SymMid B g c P X1 Y1 X2 Y2 Q w w3)(hz:¬ 0<X2.length\/¬ 0<Y2.length):SymRes B g c P (X++Y) Q w (.returned (.tuple #[])) w3:=by
 obtain⟨Z1,q0,q1,q2⟩:=h;refine⟨rfl,Z1++(X2++Y2),F.all q0 ?_,by simpa using q1,q2⟩;rcases hz with q|q
 ·rw[nil_or q,BD];exact Af.self (SortedC.right (F.hY▸F.sY))
 ·rw[nil_or q,AV];exact Af.self (SortedC.right (F.hX▸F.sX))
end
def GenIn(L:List Ct)(nn p lo hi s r:Nat):Prop:=(lo<s->¬cmpC (L.getD (nn-s) Ct.zero) (L.getD (s-1) Ct.zero)<0)/\(r<hi->cmpC (L.getD (p-r) Ct.zero) (L.getD r Ct.zero)<0)
def symGen_any(N:Nat)(IH:H0 (SymIH N))(B g c n a m b:Nat)(P X Y Q:List Ct)(w:World)(hlen:X.length+Y.length<=N+1)(h2X:2<=X.length)(h2Y:2<=Y.length)(ha:a=P.length)(hm:m=a+X.length)(hb:b=m+Y.length)(hn:n=(P++(X++(Y++Q))).length)(hX:SortedC X)(hY:SortedC Y)
  (h:Arr w B g c (P++(X++(Y++Q)))) (hr:Rws w g (X++Y)) (hbig:n<=1000000000) :
  C3 257 #[.slice (some ⟨g,0,none⟩) n c,.int .i64 a,.int .i64 m,.int .i64 b,.func (.func 188) #[] #[]] w (SymRes B g c P (X++Y) Q w):=by
 have⟨L,hL⟩:=E9 (P++(X++(Y++Q)));have d4:b<=n:=by rw[hb,hm,ha,hn];simp only[AA];omega
 have⟨j,a7⟩:=E9 ((a+b) / 2);have⟨nn,b9⟩:=E9 (j+m);obtain⟨p,hp⟩:∃p,nn=p+1:=⟨nn-1,by omega⟩;have HA:=j6 ha;have HB:=j6 hb;have HM:=j6 hm;have HL:=j6 hL;have HX:=j6 hX;have HY:=j6 hY;have HR:=j6 hr;have K:=j6 a7;have b6:=j6 b9;have b7:=j6 hp;have a5:=j6 hlen;have b5:=j6 hn;have HN:H0 (n=L.length):=j6 (by rw[hL];exact hn);have H:H0 (Arr w B g c L):=j6 (by rw[hL];exact h);have e1:((m:Int)-(a:Int)==1)=false:=by rw[beq_eq_false_iff_ne];omega
 have e2:((b:Int)-(m:Int)==1)=false:=by rw[beq_eq_false_iff_ne];omega
 have e3:((a:Int)+(b:Int)) / 2=(j:Int):=by omega
 have e4:(j:Int)+(m:Int)=(nn:Int):=by omega
 have e5:(nn:Int)-1=(p:Int):=by omega
 have d3:a+2<=m:=by omega
 have d7:m+2<=b:=by omega
 have d1:2*j<=a+b:=by omega
 have d2:a+b<=2*j+1:=by omega
 have d9:j+m<=p+1:=by omega
 have e0:p+1<=j+m:=by omega
 have d8:nn<=p+1:=by omega
 have e8:p+1<=nn:=by omega
 clear hlen h2X h2Y ha hm hb hn hX hY h hr hL a7 b9 hp;go_enter func257,ntmps257;by_cases hc:j<m
 ·have⟨lo,b8⟩:=E9 (nn-b);have e6:(nn:Int)-(b:Int)=(lo:Int):=by omega
  have HC:H0 (j<m/\lo=nn-b):=j6 ⟨hc,b8⟩;have d5:nn<=lo+b:=by omega
  have d6:lo+b<=nn:=by omega
  clear b8;go_wp2
  go_loopg [20,21] (j-lo) (λz u v wr=>∃s r:Nat,z=r-s/\u=.int .i64 s/\v=.int .i64 r/\lo<=s/\s<=r/\r<=j/\H0 (GenIn L nn p lo j s r)/\Ext w wr)
  case atStart=>exact⟨lo,j,rfl,rfl,rfl,AD _,by omega,AD _,j6 ⟨λh=>absurd h (CW _),λh=>absurd h (CW _)⟩,Ext.refl _⟩
  case round =>
   obtain⟨s,r,rfl,rfl,rfl,h1,h2,h3,HO,er⟩:=hrel;by_cases hlt:s<r
   ·have⟨q,hq⟩:=E9 ((s+r) / 2);have a8:s<=q:=by omega
    have c8:q<r:=by omega
    have c9:((s:Int)+(r:Int)) / 2=(q:Int):=by omega
    have⟨t,ht⟩:=E9 (p-q);have c7:(p:Int)-(q:Int)=(t:Int):=by omega
    have a1:a<=q/\q<m:=by omega
    have a2:m<=t/\t<b:=by omega
    have a9:q<n:=by omega
    have b0:t<n:=by omega
    have hA:=H.o.ext er;have⟨I,a3⟩:=hA.at (i:=q) (by rw[<-HN.o];exact a9);have⟨J,a4⟩:=hA.at (i:=t) (by rw[<-HN.o];exact b0);have D:L.getD q Ct.zero∈X++Y:=BE _ (by
     rw[HL.o];exact mem_mid (by rw[<-HA.o];exact a1.1) (by rw[<-HA.o,<-HM.o];exact a1.2))
    have E:L.getD t Ct.zero∈X++Y:=CD _ (by
     rw[HL.o];have:=mem_mid (P:=P++X) (X:=Y) (R:=Q) (i:=t) (by rw[AA,<-HA.o,<-HM.o];exact a2.1) (by rw[AA,<-HA.o,<-HM.o,<-HB.o];exact a2.2)
     rwa [AK]at this)
    have⟨x,hx⟩:=E9 (L.getD q Ct.zero);have⟨y,hy⟩:=E9 (L.getD t Ct.zero);rw[<-hx]at I a3 D;rw[<-hy]at J a4 E;have U:=j6 hx;have Z:=j6 hy;have HT:=j6 ht;have⟨nx,F⟩:=E9 x.l.length;have⟨ny,G⟩:=E9 y.l.length;rw[<-F]at I;rw[<-G]at J;have M:=j6 F;have O:=j6 G;have XE:Ext wr wr.drew:=(Ext.refl wr).drew;have S:=j6 (((HR.o x D).1.ext er).ext XE);have T:=j6 (((HR.o y E).1.ext er).ext XE);have⟨v,hv⟩:=tz (Ba y.l x.l);have HV:=j6 hv;have c5:∀z:Xt wr.drew,z.W.cell? ⟨g,t*2,none⟩=some (.slice y.A ny y.c):=λz=>(XE.trans z.x).cell J;have c6:∀z:Xt wr.drew,z.W.cell? ⟨g,t*2+1,none⟩=some (.int .i64 y.k):=λz=>(XE.trans z.x).cell a4;have c3:∀z:Xt wr.drew,z.W.cell? ⟨g,q*2,none⟩=some (.slice x.A nx x.c):=λz=>(XE.trans z.x).cell I;have c4:∀z:Xt wr.drew,z.W.cell? ⟨g,q*2+1,none⟩=some (.int .i64 x.k):=λz=>(XE.trans z.x).cell a3;clear hA hx hy D E F G hv hq ht;by_cases hv0:v<0
    ·have zv:decide (v<0)=true:=by simpa using hv0
     go_upto_region 35 with fail
     refine wro [0,0,0,0,12,30,62,0,0,384,896,2047,4095,8191] (.flo [0,1,2,3,4,5,6,7,8,9,10] (.one 11 (.flo [12,13] (.fin)))) ?_
     (refine Aa (pks rfl) ?_;(repeat (go_big_quiet_step (fail)));refine oq ?_)
     refine Ac (pks rfl) ?_;intro K_ a6;go_wp2_with (go_at_call 188;refine(Ez y.A x.A y.c x.c ny nx y.k x.k v y.l x.l _ HV O M T S).mono ?_;rintro e w1 ⟨rfl,x1⟩)
     (refine Aa (pks rfl) ?_;(repeat (go_big_quiet_step (fail)));refine oq ?_)
     refine Ad ?_;go_wp2
     go_roundg (q-s)
     case measure=>omega
     case rel=>exact⟨s,q,rfl,rfl,rfl,h1,a8,by omega,j6 ⟨HO.o.1,λ_=>by rw[<-HT.o,<-Z.o,<-U.o];show Ba y.l x.l<0;rw[HV.o];exact hv0⟩,er.trans (XE.trans x1)⟩
    ·have zv:decide (v<0)=false:=by simpa using hv0
     go_upto_region 35 with fail
     refine wro [0,0,0,0,12,30,62,0,0,384,896,2047,4095,8191] (.flo [0,1,2,3,4,5,6,7,8,9,10] (.one 11 (.flo [12,13] (.fin)))) ?_
     (refine Aa (pks rfl) ?_;(repeat (go_big_quiet_step (fail)));refine oq ?_)
     refine Ac (pks rfl) ?_;intro K_ a6;go_wp2_with (go_at_call 188;refine(Ez y.A x.A y.c x.c ny nx y.k x.k v y.l x.l _ HV O M T S).mono ?_;rintro e w1 ⟨rfl,x1⟩)
     (refine Aa (pks rfl) ?_;(repeat (go_big_quiet_step (fail)));refine oq ?_)
     refine Ad ?_;go_wp2
     go_roundg (r-(q+1))
     case measure=>omega
     case rel=>exact⟨q+1,r,rfl,by go_num,rfl,by omega,by omega,h3,j6 ⟨λ_=>by rw[show nn-(q+1)=t by have:=HT.o;omega,EB,<-Z.o,<-U.o];show ¬Ba y.l x.l<0;rw[HV.o];omega,HO.o.2⟩,er.trans (XE.trans x1)⟩
   ·obtain rfl:s=r:=by omega
    have⟨X1,X2,Y1,Y2,k1,k2,k3,k4,k5,k6,k7⟩:=sym_split HL.o HA.o HM.o HB.o K.o b6.o b7.o (.inl ⟨HC.o.1,HC.o.2,rfl⟩) h1 h3 HO.o.1 HO.o.2;have⟨en,a0⟩:=E9 (nn-s);have e7:(nn:Int)-(s:Int)=(en:Int):=by omega
    have d0:s<=b:=by omega
    have c0:en<=b:=by omega
    have HF:H0 (SymF N g n a m b j en s P X X1 X2 Y Y1 Y2 Q w):=j6 ⟨k1,k2,HA.o,k3,HM.o,HB.o,by rw[a0];exact k4,k5,K.o,b5.o,HX.o,HY.o,HR.o,k6,k7,hbig,a5.o,by have:=HM.o;have:=HB.o;omega⟩;have d:H0 (Arr wr B g c (P++(X++(Y++Q)))):=j6 (by have:=H.o.ext er;rwa [HL.o]at this);have f:H0 (w.grownBy wr (some g)):=j6 (Aq er g);clear k1 k2 k3 k4 k5 k6 k7 a0 HO;have⟨f1,f2,f3,f4,f5,f6⟩:=HF.o.flags;rw[show(0<X2.length)=(0<X2.length/\True)by simp]at f1 f5;rw[show(0<Y1.length)=(0<Y1.length/\True)by simp]at f2 f4;rw[show(0<X1.length)=(0<X1.length/\True)by simp]at f3;rw[show(0<Y2.length)=(0<Y2.length/\True)by simp]at f6;by_cases b1:0<X1.length/\True
    ·have B1:=j6 b1;clear b1;by_cases b2:0<X2.length/\True
     ·have B2:=j6 b2;clear b2;by_cases b3:0<Y1.length/\True
      ·have B3:=j6 b3;clear b3;by_cases b4:0<Y2.length/\True
       ·have B4:=j6 b4;clear b4;have s1:=f1.2 B2.o;have s2:=f2.2 B3.o;have s3:=f3.2 B1.o;have s4:=f4.2 B3.o;have s5:=f5.2 B2.o;have s6:=f6.2 B4.o;clear f1 f2 f3 f4 f5 f6;go_wp2_with (first|(go_at_call 284;refine(HF.o.rot d.o f.o B2.o.1 B3.o.1).mono ?_;rintro e w2 ⟨rfl,q2⟩;have HS:=j6 q2;clear q2)|(go_at_call 257;refine(HF.o.right IH.o C.o B2.o.1 B4.o.1).mono ?_;rintro e w4 ⟨rfl,q4⟩;have HE:=j6 q4;clear q4)|(go_at_call 257;refine(HF.o.left IH.o HS.o B1.o.1 B3.o.1).mono ?_;rintro e w3 ⟨rfl,q3⟩;have C:=j6 q3;clear q3))
        all_goals go_end0
        all_goals exact⟨rfl,HE.o⟩
       ·have B4:=j6 b4;clear b4;have s1:=f1.2 B2.o;have s2:=f2.2 B3.o;have s3:=f3.2 B1.o;have s4:=f4.2 B3.o;have s5:=f5.2 B2.o;have s6:=λq=>B4.o (f6.1 q);clear f1 f2 f3 f4 f5 f6;go_wp2_with (first|(go_at_call 284;refine(HF.o.rot d.o f.o B2.o.1 B3.o.1).mono ?_;rintro e w2 ⟨rfl,q2⟩;have HS:=j6 q2;clear q2)|(go_at_call 257;refine(HF.o.left IH.o HS.o B1.o.1 B3.o.1).mono ?_;rintro e w3 ⟨rfl,q3⟩;have C:=j6 q3;clear q3))
        all_goals go_end0
        all_goals exact HF.o.right0 C.o (.inr λq=>B4.o ⟨q,trivial⟩)
      ·have B3:=j6 b3;clear b3;by_cases b4:0<Y2.length/\True
       ·have B4:=j6 b4;clear b4;have s1:=f1.2 B2.o;have s2:=λq=>B3.o (f2.1 q);have s3:=f3.2 B1.o;have s4:=λq=>B3.o (f4.1 q);have s5:=f5.2 B2.o;have s6:=f6.2 B4.o;clear f1 f2 f3 f4 f5 f6;have HS:H0 (SymAt B g c P X1 Y1 X2 Y2 Q w wr):=j6 (HF.o.still d.o f.o (.inr λq=>B3.o ⟨q,trivial⟩));go_wp2_with (go_at_call 257;refine(HF.o.right IH.o (HF.o.left0 HS.o (.inr λq=>B3.o ⟨q,trivial⟩)) B2.o.1 B4.o.1).mono ?_;rintro e w4 ⟨rfl,q4⟩;have HE:=j6 q4;clear q4)
        all_goals go_end0
        all_goals exact⟨rfl,HE.o⟩
       ·have B4:=j6 b4;clear b4;exfalso;have h1:¬ 0<Y1.length:=λq=>B3.o ⟨q,trivial⟩;have h2:¬ 0<Y2.length:=λq=>B4.o ⟨q,trivial⟩;have h3:=HF.o.lens;have h4:=HM.o;have h5:=HB.o;omega
     ·have B2:=j6 b2;clear b2;by_cases b3:0<Y1.length/\True
      ·have B3:=j6 b3;clear b3;by_cases b4:0<Y2.length/\True
       ·have B4:=j6 b4;clear b4;have s1:=λq=>B2.o (f1.1 q);have s2:=f2.2 B3.o;have s3:=f3.2 B1.o;have s4:=f4.2 B3.o;have s5:=λq=>B2.o (f5.1 q);have s6:=f6.2 B4.o;clear f1 f2 f3 f4 f5 f6;have HS:H0 (SymAt B g c P X1 Y1 X2 Y2 Q w wr):=j6 (HF.o.still d.o f.o (.inl λq=>B2.o ⟨q,trivial⟩));go_wp2_with (go_at_call 257;refine(HF.o.left IH.o HS.o B1.o.1 B3.o.1).mono ?_;rintro e w3 ⟨rfl,q3⟩;have C:=j6 q3;clear q3)
        all_goals go_end0
        all_goals exact HF.o.right0 C.o (.inl λq=>B2.o ⟨q,trivial⟩)
       ·have B4:=j6 b4;clear b4;have s1:=λq=>B2.o (f1.1 q);have s2:=f2.2 B3.o;have s3:=f3.2 B1.o;have s4:=f4.2 B3.o;have s5:=λq=>B2.o (f5.1 q);have s6:=λq=>B4.o (f6.1 q);clear f1 f2 f3 f4 f5 f6;have HS:H0 (SymAt B g c P X1 Y1 X2 Y2 Q w wr):=j6 (HF.o.still d.o f.o (.inl λq=>B2.o ⟨q,trivial⟩));go_wp2_with (go_at_call 257;refine(HF.o.left IH.o HS.o B1.o.1 B3.o.1).mono ?_;rintro e w3 ⟨rfl,q3⟩;have C:=j6 q3;clear q3)
        all_goals go_end0
        all_goals exact HF.o.right0 C.o (.inl λq=>B2.o ⟨q,trivial⟩)
      ·have B3:=j6 b3;clear b3;by_cases b4:0<Y2.length/\True
       ·have B4:=j6 b4;clear b4;have s1:=λq=>B2.o (f1.1 q);have s2:=λq=>B3.o (f2.1 q);have s3:=f3.2 B1.o;have s4:=λq=>B3.o (f4.1 q);have s5:=λq=>B2.o (f5.1 q);have s6:=f6.2 B4.o;clear f1 f2 f3 f4 f5 f6;have HS:H0 (SymAt B g c P X1 Y1 X2 Y2 Q w wr):=j6 (HF.o.still d.o f.o (.inl λq=>B2.o ⟨q,trivial⟩));go_wp2;all_goals go_end0
        all_goals exact HF.o.right0 (HF.o.left0 HS.o (.inr λq=>B3.o ⟨q,trivial⟩)) (.inl λq=>B2.o ⟨q,trivial⟩)
       ·have B4:=j6 b4;clear b4;exfalso;have h1:¬ 0<Y1.length:=λq=>B3.o ⟨q,trivial⟩;have h2:¬ 0<Y2.length:=λq=>B4.o ⟨q,trivial⟩;have h3:=HF.o.lens;have h4:=HM.o;have h5:=HB.o;omega
    ·have B1:=j6 b1;clear b1;by_cases b2:0<X2.length/\True
     ·have B2:=j6 b2;clear b2;by_cases b3:0<Y1.length/\True
      ·have B3:=j6 b3;clear b3;by_cases b4:0<Y2.length/\True
       ·have B4:=j6 b4;clear b4;have s1:=f1.2 B2.o;have s2:=f2.2 B3.o;have s3:=λq=>B1.o (f3.1 q);have s4:=f4.2 B3.o;have s5:=f5.2 B2.o;have s6:=f6.2 B4.o;clear f1 f2 f3 f4 f5 f6;go_wp2_with (first|(go_at_call 284;refine(HF.o.rot d.o f.o B2.o.1 B3.o.1).mono ?_;rintro e w2 ⟨rfl,q2⟩;have HS:=j6 q2;clear q2)|(go_at_call 257;refine(HF.o.right IH.o (HF.o.left0 HS.o (.inl λq=>B1.o ⟨q,trivial⟩)) B2.o.1 B4.o.1).mono ?_;rintro e w4 ⟨rfl,q4⟩;have HE:=j6 q4;clear q4))
        all_goals go_end0
        all_goals exact⟨rfl,HE.o⟩
       ·have B4:=j6 b4;clear b4;have s1:=f1.2 B2.o;have s2:=f2.2 B3.o;have s3:=λq=>B1.o (f3.1 q);have s4:=f4.2 B3.o;have s5:=f5.2 B2.o;have s6:=λq=>B4.o (f6.1 q);clear f1 f2 f3 f4 f5 f6;go_wp2_with (go_at_call 284;refine(HF.o.rot d.o f.o B2.o.1 B3.o.1).mono ?_;rintro e w2 ⟨rfl,q2⟩;have HS:=j6 q2;clear q2)
        all_goals go_end0
        all_goals exact HF.o.right0 (HF.o.left0 HS.o (.inl λq=>B1.o ⟨q,trivial⟩)) (.inr λq=>B4.o ⟨q,trivial⟩)
      ·have B3:=j6 b3;clear b3;by_cases b4:0<Y2.length/\True
       ·have B4:=j6 b4;clear b4;have s1:=f1.2 B2.o;have s2:=λq=>B3.o (f2.1 q);have s3:=λq=>B1.o (f3.1 q);have s4:=λq=>B3.o (f4.1 q);have s5:=f5.2 B2.o;have s6:=f6.2 B4.o;clear f1 f2 f3 f4 f5 f6;have HS:H0 (SymAt B g c P X1 Y1 X2 Y2 Q w wr):=j6 (HF.o.still d.o f.o (.inr λq=>B3.o ⟨q,trivial⟩));go_wp2_with (go_at_call 257;refine(HF.o.right IH.o (HF.o.left0 HS.o (.inl λq=>B1.o ⟨q,trivial⟩)) B2.o.1 B4.o.1).mono ?_;rintro e w4 ⟨rfl,q4⟩;have HE:=j6 q4;clear q4)
        all_goals go_end0
        all_goals exact⟨rfl,HE.o⟩
       ·have B4:=j6 b4;clear b4;exfalso;have h1:¬ 0<Y1.length:=λq=>B3.o ⟨q,trivial⟩;have h2:¬ 0<Y2.length:=λq=>B4.o ⟨q,trivial⟩;have h3:=HF.o.lens;have h4:=HM.o;have h5:=HB.o;omega
     ·have B2:=j6 b2;clear b2;by_cases b3:0<Y1.length/\True
      ·have B3:=j6 b3;clear b3;by_cases b4:0<Y2.length/\True
       ·have B4:=j6 b4;clear b4;exfalso;have h1:¬ 0<X1.length:=λq=>B1.o ⟨q,trivial⟩;have h2:¬ 0<X2.length:=λq=>B2.o ⟨q,trivial⟩;have h3:=HF.o.lens;have h4:=HM.o;have h5:=HB.o;omega
       ·have B4:=j6 b4;clear b4;exfalso;have h1:¬ 0<X1.length:=λq=>B1.o ⟨q,trivial⟩;have h2:¬ 0<X2.length:=λq=>B2.o ⟨q,trivial⟩;have h3:=HF.o.lens;have h4:=HM.o;have h5:=HB.o;omega
      ·have B3:=j6 b3;clear b3;by_cases b4:0<Y2.length/\True
       ·have B4:=j6 b4;clear b4;exfalso;have h1:¬ 0<X1.length:=λq=>B1.o ⟨q,trivial⟩;have h2:¬ 0<X2.length:=λq=>B2.o ⟨q,trivial⟩;have h3:=HF.o.lens;have h4:=HM.o;have h5:=HB.o;omega
       ·have B4:=j6 b4;clear b4;exfalso;have h1:¬ 0<X1.length:=λq=>B1.o ⟨q,trivial⟩;have h2:¬ 0<X2.length:=λq=>B2.o ⟨q,trivial⟩;have h3:=HF.o.lens;have h4:=HM.o;have h5:=HB.o;omega
 ·have HC:H0 (m<=j):=j6 (by omega);go_wp2
  go_loopg [20,21] (m-a) (λz u v wr=>∃s r:Nat,z=r-s/\u=.int .i64 s/\v=.int .i64 r/\a<=s/\s<=r/\r<=m/\H0 (GenIn L nn p a m s r)/\Ext w wr)
  case atStart=>exact⟨a,m,rfl,rfl,rfl,AD _,by omega,AD _,j6 ⟨λh=>absurd h (CW _),λh=>absurd h (CW _)⟩,Ext.refl _⟩
  case round =>
   obtain⟨s,r,rfl,rfl,rfl,h1,h2,h3,HO,er⟩:=hrel;by_cases hlt:s<r
   ·have⟨q,hq⟩:=E9 ((s+r) / 2);have a8:s<=q:=by omega
    have c8:q<r:=by omega
    have c9:((s:Int)+(r:Int)) / 2=(q:Int):=by omega
    have⟨t,ht⟩:=E9 (p-q);have c7:(p:Int)-(q:Int)=(t:Int):=by omega
    have a1:a<=q/\q<m:=by omega
    have a2:m<=t/\t<b:=by omega
    have a9:q<n:=by omega
    have b0:t<n:=by omega
    have hA:=H.o.ext er;have⟨I,a3⟩:=hA.at (i:=q) (by rw[<-HN.o];exact a9);have⟨J,a4⟩:=hA.at (i:=t) (by rw[<-HN.o];exact b0);have D:L.getD q Ct.zero∈X++Y:=BE _ (by
     rw[HL.o];exact mem_mid (by rw[<-HA.o];exact a1.1) (by rw[<-HA.o,<-HM.o];exact a1.2))
    have E:L.getD t Ct.zero∈X++Y:=CD _ (by
     rw[HL.o];have:=mem_mid (P:=P++X) (X:=Y) (R:=Q) (i:=t) (by rw[AA,<-HA.o,<-HM.o];exact a2.1) (by rw[AA,<-HA.o,<-HM.o,<-HB.o];exact a2.2)
     rwa [AK]at this)
    have⟨x,hx⟩:=E9 (L.getD q Ct.zero);have⟨y,hy⟩:=E9 (L.getD t Ct.zero);rw[<-hx]at I a3 D;rw[<-hy]at J a4 E;have U:=j6 hx;have Z:=j6 hy;have HT:=j6 ht;have⟨nx,F⟩:=E9 x.l.length;have⟨ny,G⟩:=E9 y.l.length;rw[<-F]at I;rw[<-G]at J;have M:=j6 F;have O:=j6 G;have XE:Ext wr wr.drew:=(Ext.refl wr).drew;have S:=j6 (((HR.o x D).1.ext er).ext XE);have T:=j6 (((HR.o y E).1.ext er).ext XE);have⟨v,hv⟩:=tz (Ba y.l x.l);have HV:=j6 hv;have c5:∀z:Xt wr.drew,z.W.cell? ⟨g,t*2,none⟩=some (.slice y.A ny y.c):=λz=>(XE.trans z.x).cell J;have c6:∀z:Xt wr.drew,z.W.cell? ⟨g,t*2+1,none⟩=some (.int .i64 y.k):=λz=>(XE.trans z.x).cell a4;have c3:∀z:Xt wr.drew,z.W.cell? ⟨g,q*2,none⟩=some (.slice x.A nx x.c):=λz=>(XE.trans z.x).cell I;have c4:∀z:Xt wr.drew,z.W.cell? ⟨g,q*2+1,none⟩=some (.int .i64 x.k):=λz=>(XE.trans z.x).cell a3;clear hA hx hy D E F G hv hq ht;by_cases hv0:v<0
    ·have zv:decide (v<0)=true:=by simpa using hv0
     go_upto_region 35 with fail
     refine wro [0,0,0,0,12,30,62,0,0,384,896,2047,4095,8191] (.flo [0,1,2,3,4,5,6,7,8,9,10] (.one 11 (.flo [12,13] (.fin)))) ?_
     (refine Aa (pks rfl) ?_;(repeat (go_big_quiet_step (fail)));refine oq ?_)
     refine Ac (pks rfl) ?_;intro K_ a6;go_wp2_with (go_at_call 188;refine(Ez y.A x.A y.c x.c ny nx y.k x.k v y.l x.l _ HV O M T S).mono ?_;rintro e w1 ⟨rfl,x1⟩)
     (refine Aa (pks rfl) ?_;(repeat (go_big_quiet_step (fail)));refine oq ?_)
     refine Ad ?_;go_wp2
     go_roundg (q-s)
     case measure=>omega
     case rel=>exact⟨s,q,rfl,rfl,rfl,h1,a8,by omega,j6 ⟨HO.o.1,λ_=>by rw[<-HT.o,<-Z.o,<-U.o];show Ba y.l x.l<0;rw[HV.o];exact hv0⟩,er.trans (XE.trans x1)⟩
    ·have zv:decide (v<0)=false:=by simpa using hv0
     go_upto_region 35 with fail
     refine wro [0,0,0,0,12,30,62,0,0,384,896,2047,4095,8191] (.flo [0,1,2,3,4,5,6,7,8,9,10] (.one 11 (.flo [12,13] (.fin)))) ?_
     (refine Aa (pks rfl) ?_;(repeat (go_big_quiet_step (fail)));refine oq ?_)
     refine Ac (pks rfl) ?_;intro K_ a6;go_wp2_with (go_at_call 188;refine(Ez y.A x.A y.c x.c ny nx y.k x.k v y.l x.l _ HV O M T S).mono ?_;rintro e w1 ⟨rfl,x1⟩)
     (refine Aa (pks rfl) ?_;(repeat (go_big_quiet_step (fail)));refine oq ?_)
     refine Ad ?_;go_wp2
     go_roundg (r-(q+1))
     case measure=>omega
     case rel=>exact⟨q+1,r,rfl,by go_num,rfl,by omega,by omega,h3,j6 ⟨λ_=>by rw[show nn-(q+1)=t by have:=HT.o;omega,EB,<-Z.o,<-U.o];show ¬Ba y.l x.l<0;rw[HV.o];omega,HO.o.2⟩,er.trans (XE.trans x1)⟩
   ·obtain rfl:s=r:=by omega
    have⟨X1,X2,Y1,Y2,k1,k2,k3,k4,k5,k6,k7⟩:=sym_split HL.o HA.o HM.o HB.o K.o b6.o b7.o (.inr ⟨HC.o,rfl,rfl⟩) h1 h3 HO.o.1 HO.o.2;have⟨en,a0⟩:=E9 (nn-s);have e7:(nn:Int)-(s:Int)=(en:Int):=by omega
    have d0:s<=b:=by omega
    have c0:en<=b:=by omega
    have HF:H0 (SymF N g n a m b j en s P X X1 X2 Y Y1 Y2 Q w):=j6 ⟨k1,k2,HA.o,k3,HM.o,HB.o,by rw[a0];exact k4,k5,K.o,b5.o,HX.o,HY.o,HR.o,k6,k7,hbig,a5.o,by have:=HM.o;have:=HB.o;omega⟩;have d:H0 (Arr wr B g c (P++(X++(Y++Q)))):=j6 (by have:=H.o.ext er;rwa [HL.o]at this);have f:H0 (w.grownBy wr (some g)):=j6 (Aq er g);clear k1 k2 k3 k4 k5 k6 k7 a0 HO;have⟨f1,f2,f3,f4,f5,f6⟩:=HF.o.flags;rw[show(0<X2.length)=(0<X2.length/\True)by simp]at f1 f5;rw[show(0<Y1.length)=(0<Y1.length/\True)by simp]at f2 f4;rw[show(0<X1.length)=(0<X1.length/\True)by simp]at f3;rw[show(0<Y2.length)=(0<Y2.length/\True)by simp]at f6;by_cases b1:0<X1.length/\True
    ·have B1:=j6 b1;clear b1;by_cases b2:0<X2.length/\True
     ·have B2:=j6 b2;clear b2;by_cases b3:0<Y1.length/\True
      ·have B3:=j6 b3;clear b3;by_cases b4:0<Y2.length/\True
       ·have B4:=j6 b4;clear b4;have s1:=f1.2 B2.o;have s2:=f2.2 B3.o;have s3:=f3.2 B1.o;have s4:=f4.2 B3.o;have s5:=f5.2 B2.o;have s6:=f6.2 B4.o;clear f1 f2 f3 f4 f5 f6;go_wp2_with (first|(go_at_call 284;refine(HF.o.rot d.o f.o B2.o.1 B3.o.1).mono ?_;rintro e w2 ⟨rfl,q2⟩;have HS:=j6 q2;clear q2)|(go_at_call 257;refine(HF.o.right IH.o C.o B2.o.1 B4.o.1).mono ?_;rintro e w4 ⟨rfl,q4⟩;have HE:=j6 q4;clear q4)|(go_at_call 257;refine(HF.o.left IH.o HS.o B1.o.1 B3.o.1).mono ?_;rintro e w3 ⟨rfl,q3⟩;have C:=j6 q3;clear q3))
        all_goals go_end0
        all_goals exact⟨rfl,HE.o⟩
       ·have B4:=j6 b4;clear b4;have s1:=f1.2 B2.o;have s2:=f2.2 B3.o;have s3:=f3.2 B1.o;have s4:=f4.2 B3.o;have s5:=f5.2 B2.o;have s6:=λq=>B4.o (f6.1 q);clear f1 f2 f3 f4 f5 f6;go_wp2_with (first|(go_at_call 284;refine(HF.o.rot d.o f.o B2.o.1 B3.o.1).mono ?_;rintro e w2 ⟨rfl,q2⟩;have HS:=j6 q2;clear q2)|(go_at_call 257;refine(HF.o.left IH.o HS.o B1.o.1 B3.o.1).mono ?_;rintro e w3 ⟨rfl,q3⟩;have C:=j6 q3;clear q3))
        all_goals go_end0
        all_goals exact HF.o.right0 C.o (.inr λq=>B4.o ⟨q,trivial⟩)
      ·have B3:=j6 b3;clear b3;by_cases b4:0<Y2.length/\True
       ·have B4:=j6 b4;clear b4;have s1:=f1.2 B2.o;have s2:=λq=>B3.o (f2.1 q);have s3:=f3.2 B1.o;have s4:=λq=>B3.o (f4.1 q);have s5:=f5.2 B2.o;have s6:=f6.2 B4.o;clear f1 f2 f3 f4 f5 f6;have HS:H0 (SymAt B g c P X1 Y1 X2 Y2 Q w wr):=j6 (HF.o.still d.o f.o (.inr λq=>B3.o ⟨q,trivial⟩));go_wp2_with (go_at_call 257;refine(HF.o.right IH.o (HF.o.left0 HS.o (.inr λq=>B3.o ⟨q,trivial⟩)) B2.o.1 B4.o.1).mono ?_;rintro e w4 ⟨rfl,q4⟩;have HE:=j6 q4;clear q4)
        all_goals go_end0
        all_goals exact⟨rfl,HE.o⟩
       ·have B4:=j6 b4;clear b4;exfalso;have h1:¬ 0<Y1.length:=λq=>B3.o ⟨q,trivial⟩;have h2:¬ 0<Y2.length:=λq=>B4.o ⟨q,trivial⟩;have h3:=HF.o.lens;have h4:=HM.o;have h5:=HB.o;omega
     ·have B2:=j6 b2;clear b2;by_cases b3:0<Y1.length/\True
      ·have B3:=j6 b3;clear b3;by_cases b4:0<Y2.length/\True
       ·have B4:=j6 b4;clear b4;have s1:=λq=>B2.o (f1.1 q);have s2:=f2.2 B3.o;have s3:=f3.2 B1.o;have s4:=f4.2 B3.o;have s5:=λq=>B2.o (f5.1 q);have s6:=f6.2 B4.o;clear f1 f2 f3 f4 f5 f6;have HS:H0 (SymAt B g c P X1 Y1 X2 Y2 Q w wr):=j6 (HF.o.still d.o f.o (.inl λq=>B2.o ⟨q,trivial⟩));go_wp2_with (go_at_call 257;refine(HF.o.left IH.o HS.o B1.o.1 B3.o.1).mono ?_;rintro e w3 ⟨rfl,q3⟩;have C:=j6 q3;clear q3)
        all_goals go_end0
        all_goals exact HF.o.right0 C.o (.inl λq=>B2.o ⟨q,trivial⟩)
       ·have B4:=j6 b4;clear b4;have s1:=λq=>B2.o (f1.1 q);have s2:=f2.2 B3.o;have s3:=f3.2 B1.o;have s4:=f4.2 B3.o;have s5:=λq=>B2.o (f5.1 q);have s6:=λq=>B4.o (f6.1 q);clear f1 f2 f3 f4 f5 f6;have HS:H0 (SymAt B g c P X1 Y1 X2 Y2 Q w wr):=j6 (HF.o.still d.o f.o (.inl λq=>B2.o ⟨q,trivial⟩));go_wp2_with (go_at_call 257;refine(HF.o.left IH.o HS.o B1.o.1 B3.o.1).mono ?_;rintro e w3 ⟨rfl,q3⟩;have C:=j6 q3;clear q3)
        all_goals go_end0
        all_goals exact HF.o.right0 C.o (.inl λq=>B2.o ⟨q,trivial⟩)
      ·have B3:=j6 b3;clear b3;by_cases b4:0<Y2.length/\True
       ·have B4:=j6 b4;clear b4;have s1:=λq=>B2.o (f1.1 q);have s2:=λq=>B3.o (f2.1 q);have s3:=f3.2 B1.o;have s4:=λq=>B3.o (f4.1 q);have s5:=λq=>B2.o (f5.1 q);have s6:=f6.2 B4.o;clear f1 f2 f3 f4 f5 f6;have HS:H0 (SymAt B g c P X1 Y1 X2 Y2 Q w wr):=j6 (HF.o.still d.o f.o (.inl λq=>B2.o ⟨q,trivial⟩));go_wp2;all_goals go_end0
        all_goals exact HF.o.right0 (HF.o.left0 HS.o (.inr λq=>B3.o ⟨q,trivial⟩)) (.inl λq=>B2.o ⟨q,trivial⟩)
       ·have B4:=j6 b4;clear b4;exfalso;have h1:¬ 0<Y1.length:=λq=>B3.o ⟨q,trivial⟩;have h2:¬ 0<Y2.length:=λq=>B4.o ⟨q,trivial⟩;have h3:=HF.o.lens;have h4:=HM.o;have h5:=HB.o;omega
    ·have B1:=j6 b1;clear b1;by_cases b2:0<X2.length/\True
     ·have B2:=j6 b2;clear b2;by_cases b3:0<Y1.length/\True
      ·have B3:=j6 b3;clear b3;by_cases b4:0<Y2.length/\True
       ·have B4:=j6 b4;clear b4;have s1:=f1.2 B2.o;have s2:=f2.2 B3.o;have s3:=λq=>B1.o (f3.1 q);have s4:=f4.2 B3.o;have s5:=f5.2 B2.o;have s6:=f6.2 B4.o;clear f1 f2 f3 f4 f5 f6;go_wp2_with (first|(go_at_call 284;refine(HF.o.rot d.o f.o B2.o.1 B3.o.1).mono ?_;rintro e w2 ⟨rfl,q2⟩;have HS:=j6 q2;clear q2)|(go_at_call 257;refine(HF.o.right IH.o (HF.o.left0 HS.o (.inl λq=>B1.o ⟨q,trivial⟩)) B2.o.1 B4.o.1).mono ?_;rintro e w4 ⟨rfl,q4⟩;have HE:=j6 q4;clear q4))
        all_goals go_end0
        all_goals exact⟨rfl,HE.o⟩
       ·have B4:=j6 b4;clear b4;have s1:=f1.2 B2.o;have s2:=f2.2 B3.o;have s3:=λq=>B1.o (f3.1 q);have s4:=f4.2 B3.o;have s5:=f5.2 B2.o;have s6:=λq=>B4.o (f6.1 q);clear f1 f2 f3 f4 f5 f6;go_wp2_with (go_at_call 284;refine(HF.o.rot d.o f.o B2.o.1 B3.o.1).mono ?_;rintro e w2 ⟨rfl,q2⟩;have HS:=j6 q2;clear q2)
        all_goals go_end0
        all_goals exact HF.o.right0 (HF.o.left0 HS.o (.inl λq=>B1.o ⟨q,trivial⟩)) (.inr λq=>B4.o ⟨q,trivial⟩)
      ·have B3:=j6 b3;clear b3;by_cases b4:0<Y2.length/\True
       ·have B4:=j6 b4;clear b4;have s1:=f1.2 B2.o;have s2:=λq=>B3.o (f2.1 q);have s3:=λq=>B1.o (f3.1 q);have s4:=λq=>B3.o (f4.1 q);have s5:=f5.2 B2.o;have s6:=f6.2 B4.o;clear f1 f2 f3 f4 f5 f6;have HS:H0 (SymAt B g c P X1 Y1 X2 Y2 Q w wr):=j6 (HF.o.still d.o f.o (.inr λq=>B3.o ⟨q,trivial⟩));go_wp2_with (go_at_call 257;refine(HF.o.right IH.o (HF.o.left0 HS.o (.inl λq=>B1.o ⟨q,trivial⟩)) B2.o.1 B4.o.1).mono ?_;rintro e w4 ⟨rfl,q4⟩;have HE:=j6 q4;clear q4)
        all_goals go_end0
        all_goals exact⟨rfl,HE.o⟩
       ·have B4:=j6 b4;clear b4;exfalso;have h1:¬ 0<Y1.length:=λq=>B3.o ⟨q,trivial⟩;have h2:¬ 0<Y2.length:=λq=>B4.o ⟨q,trivial⟩;have h3:=HF.o.lens;have h4:=HM.o;have h5:=HB.o;omega
     ·have B2:=j6 b2;clear b2;by_cases b3:0<Y1.length/\True
      ·have B3:=j6 b3;clear b3;by_cases b4:0<Y2.length/\True
       ·have B4:=j6 b4;clear b4;exfalso;have h1:¬ 0<X1.length:=λq=>B1.o ⟨q,trivial⟩;have h2:¬ 0<X2.length:=λq=>B2.o ⟨q,trivial⟩;have h3:=HF.o.lens;have h4:=HM.o;have h5:=HB.o;omega
       ·have B4:=j6 b4;clear b4;exfalso;have h1:¬ 0<X1.length:=λq=>B1.o ⟨q,trivial⟩;have h2:¬ 0<X2.length:=λq=>B2.o ⟨q,trivial⟩;have h3:=HF.o.lens;have h4:=HM.o;have h5:=HB.o;omega
      ·have B3:=j6 b3;clear b3;by_cases b4:0<Y2.length/\True
       ·have B4:=j6 b4;clear b4;exfalso;have h1:¬ 0<X1.length:=λq=>B1.o ⟨q,trivial⟩;have h2:¬ 0<X2.length:=λq=>B2.o ⟨q,trivial⟩;have h3:=HF.o.lens;have h4:=HM.o;have h5:=HB.o;omega
       ·have B4:=j6 b4;clear b4;exfalso;have h1:¬ 0<X1.length:=λq=>B1.o ⟨q,trivial⟩;have h2:¬ 0<X2.length:=λq=>B2.o ⟨q,trivial⟩;have h3:=HF.o.lens;have h4:=HM.o;have h5:=HB.o;omega
def symM_all(N:Nat):SymIH N:=by
 induction N with
 | zero=>exact λB g c n a m b P X Y Q w h hx hy=>absurd h (by omega)
 | succ N ih =>
  intro B g c n a m b P X Y Q w hl hx hy ha hm hb hn sX sY h hr d;by_cases h1:X.length=1
  ·obtain⟨x,t,rfl⟩:=cons_of hx;have ht:t=[]:=AH (by rw[AJ]at h1;omega);subst ht;exact symOne_any B g c n a m b P Y Q x w ha (by rw[hm];rfl) hb hn sY h hr d
  ·by_cases h2:Y.length=1
   ·obtain⟨y,t,rfl⟩:=cons_of hy;have ht:t=[]:=AH (by rw[AJ]at h2;omega);subst ht;exact symLast_any B g c n a m b P X Q y w ha hm (by rw[hb];rfl) hn sX (by omega) h hr d
   ·exact symGen_any N (j6 ih) B g c n a m b P X Y Q w hl (by omega) (by omega) ha hm hb hn sX sY h hr d
def snoc_cases{α:Type}(s:List α):s=[]\/∃t y,s=t++[y]:=by
 rcases FQ s with h|⟨t,y,h⟩
 ·exact .inl h
 ·exact .inr ⟨t,y,by rw[h,FR]⟩
def InsIn.ext{P S T Q D':List Ct}{x:Ct}{s1 s2:List Ct}(h:InsIn B g c a P S T Q D' x w wi j s1 s2)(hz:Ext wi wz):InsIn B g c a P S T Q D' x w wz j s1 s2 :=
 ⟨h.1,h.2.1,h.2.2.1,h.2.2.2.1.ext hz,h.2.2.2.2.1.trans (Aq hz g),h.2.2.2.2.2.ext hz⟩
def ins_step{P S T Q D':List Ct}{x:Ct}{t s2:List Ct}{y:Ct}(h:InsIn B g c a P S T Q D' x w wi j (t++[y]) s2)(hv:cmpC x y<0)(ha:a=P.length)(hq:q=a+t.length){nx ny:Nat}(hx:nx=x.l.length)(hy:ny=y.l.length) :
  InsIn B g c a P S T Q D' x w ((((wi.setCell ⟨g,(q+1)*2,none⟩ (.slice y.A ny y.c)).setCell ⟨g,(q+1)*2+1,none⟩ (.int .i64 y.k)).setCell ⟨g,q*2,none⟩ (.slice x.A nx x.c)).setCell ⟨g,q*2+1,none⟩ (.int .i64 x.k)) q t (y::s2):=by
 subst hx hy;obtain⟨h1,h2,h3,h4,h5,h6⟩:=h;have e:P++(t++[y]++x::(s2++(T++Q)))=(P++t)++y::x::(s2++(T++Q)):=by simp
 rw[e]at h4;have h7:=h4.swap (q:=q) (by rw[AA];omega);have hu:=upd_swap wi g ((q+1)*2) ((q+1)*2+1) (q*2) (q*2+1) (.slice y.A y.l.length y.c) (.int .i64 y.k) (.slice x.A x.l.length x.c) (.int .i64 x.k);refine⟨hq,by rw[h2];simp,λz hz=>?_,?_,h5.trans hu,h6.upd hu⟩
 ·rcases AY.1 hz with rfl|hz
  ·exact hv
  ·exact h3 z hz
 ·have e2:P++(t++x::(y::s2++(T++Q)))=(P++t)++x::y::(s2++(T++Q)):=by simp
  rw[e2];exact h7
def ins_exit{P S T Q D D':List Ct}{x:Ct}{s1 s2:List Ct}(ho:InsOut B g c a P S Q w wo i D D' (x::T))(h:InsIn B g c a P S T Q D' x wo wi j s1 s2)(hl:∀y,s1.getLast?=some y->¬cmpC x y<0){wz:World}(hz:Ext wi wz) :
  InsOut B g c a P S Q w wz (i+1) (D++[x]) (s1++x::s2) T:=by
 obtain⟨o1,o2,o3,o4,o5,o6⟩:=ho;obtain⟨h1,h2,h3,h4,h5,h6⟩:=h;subst h2;refine⟨by rw[o1];simp,by rw[AA,AO];omega,o3.insert cmpC_tot h3 hl,?_,(o5.trans h5).trans (Aq hz g),(h6.sub (λz hz=>BM _ hz)).ext hz⟩;have e:P++(s1++x::s2++(T++Q))=P++(s1++x::(s2++(T++Q))):=by simp
 rw[e];exact h4.ext hz
def insSort_some(B g c n a b:Nat)(P S0 Q:List Ct)(x0:Ct)(w:World)(ha:a=P.length)(hb:b=P.length+(S0.length+1))(hn:n=(P++(x0::S0++Q)).length)(h:Arr w B g c (P++(x0::S0++Q)))(hr:Rws w g (x0::S0)) :
  C3 256 #[.slice (some ⟨g,0,none⟩) n c,.int .i64 a,.int .i64 b,.func (.func 188) #[] #[]] w λe w'=>e=.returned (.tuple #[])/\∃S',Af cmpC (x0::S0) S'/\Arr w' B g c (P++(S'++Q))/\w.grownBy w' (some g):=by
 have⟨S,hS⟩:=E9 (x0::S0);have b0:=h.le;rw[<-hn]at b0;have b2:b<=n:=by
  rw[hb,hn];simp only[AA,AJ];omega
 have HA:=j6 ha;have HB:=j6 hb;have HN:=j6 hn;have a7:a+1<=b:=by omega
 have HO:H0 (InsOut B g c a P S Q w w (a+1) [x0] [x0] S0):=j6 ⟨hS,rfl,Af.one x0,by rw[List.singleton_append,<-CI];exact h,CM w _,by rw[hS];exact hr⟩;have U:H0 (b=a+S.length):=j6 (by rw[hS,AJ];omega);rw[<-hS];clear ha hb hn h hr hS;go_enter func256,ntmps256;go_wp2
 go_loopg [8] (b-(a+1)) (λz v wo=>∃(i:Nat) (D D' T:List Ct),z=b-i/\i<=b/\v=.int .i64 i/\H0 (InsOut B g c a P S Q w wo i D D' T))
 case atStart=>exact⟨a+1,[x0],[x0],S0,rfl,a7,by simp,HO⟩
 case round =>
  obtain⟨i,D,D',T,rfl,hi,rfl,HI⟩:=hrel;clear HO;obtain⟨wo,a1⟩:∃wo:World,wo=wr:=⟨_,rfl⟩;rw[<-a1]at HI ⊢;clear a1;by_cases hlt:i<b
  ·obtain⟨x,T,rfl⟩:∃x T',T=x::T':=by
    cases T with
    | nil =>
     have⟨q1,q2,_⟩:=HI.o;have:=U.o;rw[q1,AV]at this;omega
    | cons x T=>exact⟨x,T,rfl⟩
   have N:H0 (InsIn B g c a P S T Q D' x wo wo i D' []):=j6 (by
    have⟨q1,q2,q3,q4,q5,q6⟩:=HI.o;refine⟨by rw[stable_len q3];exact q2,(AV _).symm,λy hy=>(nomatch hy),by rw[BD];exact q4,CM wo _,λz hz=>?_⟩;rcases AY.1 hz with rfl|hz
    ·exact q6 z (by rw[q1];simp)
    ·exact q6 z hz)
   go_wp2
   go_loopg [9] D'.length (λz v wi=>∃(j:Nat) (s1 s2:List Ct),z=s1.length/\v=.int .i64 j/\j<=i/\H0 (InsIn B g c a P S T Q D' x wo wi j s1 s2))
   case atStart=>exact⟨i,D',[],rfl,rfl,AD _,N⟩
   case round =>
    obtain⟨j,s1,s2,rfl,rfl,hj,HJ⟩:=hrel;clear N;obtain⟨wi,a0⟩:∃wi:World,wi=wr:=⟨_,rfl⟩;rw[<-a0]at HJ ⊢;clear a0;rcases snoc_cases s1 with rfl|⟨t,y,rfl⟩
    ·have a8:j=a:=by have:=HJ.o.1;simpa using this
     subst a8
     go_upto_region 4 with fail
     refine wro [0,0,3,7,15,15,15,111,239,15,15,1039,3599,7695,16383,32767,65535] (.flo [0,1,2,3,4,5,6,7,8,9,10,11,12,13] (.one 14 (.flo [15,16] (.fin)))) ?_
     (refine Aa (pks rfl) ?_;(repeat (go_big_quiet_step (fail)));refine oq ?_)
     refine Ac (pks rfl) ?_;intro K_ F;go_wp2
     (refine Aa (pks rfl) ?_;(repeat (go_big_quiet_step (fail)));refine oq ?_)
     refine Ad ?_;go_wp2
     go_roundg (b-(i+1))
     case measure=>omega
     case rel=>exact⟨i+1,D++[x],_,T,rfl,by omega,by go_num,j6 (ins_exit HI.o HJ.o (λy hy=>(nomatch hy)) ((Ext.refl wi).drew))⟩
    ·have⟨q,hq⟩:=E9 (a+t.length);have a9:j=q+1:=by have:=HJ.o.1;rw[AA,AO]at this;omega
     subst a9;have L:q=(P++t).length:=by rw[AA,<-HA.o];exact hq
     have e:P++(t++[y]++x::(s2++(T++Q)))=(P++t)++y::x::(s2++(T++Q)):=by simp
     have d:=HJ.o.2.2.2.1;rw[e]at d;have⟨⟨m,H⟩,f,G⟩:=Arr.two (s2:=[]) d L;have f0:=d.free ((q+1)*2);have f1:=d.free ((q+1)*2+1);have f2:=d.free (q*2);have f3:=d.free (q*2+1);have Y:=HJ.o.2.2.2.2.2 x (BC ..);have Z:=HJ.o.2.2.2.2.2 y (BM _ (by
      have⟨o1,o2,o3,_⟩:=HI.o;have hd:y∈D':=by rw[HJ.o.2.1];simp
      rw[o1];exact BE _ ((o3.mem cmpC_tot y).1 hd)))
     have za:decide ((a:Int)<(q:Int)+1)=true:=by simp;omega
     have b1:a<=q:=by omega
     have b4:q+1<n:=by omega
     have b3:q+1<=i:=hj;have⟨v,hv⟩:=tz (cmpC x y);have⟨nx,J⟩:=E9 x.l.length;have⟨ny,K⟩:=E9 y.l.length;rw[<-J]at f;rw[<-K]at m;have X:Ext wi wi.drew:=(Ext.refl wi).drew;have O:=j6 Y.1;have R:=j6 Z.1;have C:=j6 J;have E:=j6 K;have HQ:=j6 hq;have a2:=j6 L;have M:=j6 d;have HV:H0 (Ba x.l y.l=v):=j6 hv;have a5:∀z:Xt wi.drew,z.W.cell? ⟨g,q*2,none⟩=some (.slice y.A ny y.c):=λz=>(X.trans z.x).cell m;have a6:∀z:Xt wi.drew,z.W.cell? ⟨g,q*2+1,none⟩=some (.int .i64 y.k):=λz=>(X.trans z.x).cell H;have a3:∀z:Xt wi.drew,z.W.cell? ⟨g,(q+1)*2,none⟩=some (.slice x.A nx x.c):=λz=>(X.trans z.x).cell f;have a4:∀z:Xt wi.drew,z.W.cell? ⟨g,(q+1)*2+1,none⟩=some (.int .i64 x.k):=λz=>(X.trans z.x).cell G;clear Y Z J K hv d e L m H f G hq hj;by_cases hv0:v<0
     ·have zv:decide (v<0)=true:=by simpa using hv0
      have I:H0 (cmpC x y<0):=j6 (by show Ba x.l y.l<0;rw[HV.o];exact hv0)
      go_upto_region 4 with fail
      refine wro [0,0,3,7,15,15,15,111,239,15,15,1039,3599,7695,16383,32767,65535] (.flo [0,1,2,3,4,5,6,7,8,9,10,11,12,13] (.one 14 (.flo [15,16] (.fin)))) ?_
      (refine Aa (pks rfl) ?_;(repeat (go_big_quiet_step (fail)));refine oq ?_)
      refine Ac (pks rfl) ?_;intro K_ F;go_wp2_with (go_at_call 188;refine(Ez x.A y.A x.c y.c nx ny x.k y.k v x.l y.l _ HV C E (j6 (O.o.ext X)) (j6 (R.o.ext X))).mono ?_;rintro e w1 ⟨rfl,x1⟩)
      (refine Aa (pks rfl) ?_;(repeat (go_big_quiet_step (fail)));refine oq ?_)
      refine Ad ?_;have r:=j6 (M.o.ext (X.trans x1));have⟨⟨m,H⟩,f,G⟩:=Arr.two (s2:=[]) r.o a2.o;rw[<-C.o]at f;rw[<-E.o]at m;have f0:=r.o.free ((q+1)*2);have f1:=r.o.free ((q+1)*2+1);have f2:=r.o.free (q*2);have f3:=r.o.free (q*2+1);have X1:Ext w1 w1.drew:=(Ext.refl w1).drew;have a5:∀z:Xt w1.drew,z.W.cell? ⟨g,q*2,none⟩=some (.slice y.A ny y.c):=λz=>(X1.trans z.x).cell m;have a6:∀z:Xt w1.drew,z.W.cell? ⟨g,q*2+1,none⟩=some (.int .i64 y.k):=λz=>(X1.trans z.x).cell H;have a3:∀z:Xt w1.drew,z.W.cell? ⟨g,(q+1)*2,none⟩=some (.slice x.A nx x.c):=λz=>(X1.trans z.x).cell f;have a4:∀z:Xt w1.drew,z.W.cell? ⟨g,(q+1)*2+1,none⟩=some (.int .i64 x.k):=λz=>(X1.trans z.x).cell G
      go_upto_region 6 with fail
      refine wro [0,0,0,0,8,0,0,64,224,480,0,0,3072,7168,16355,32739,65535,131071] (.flo [0,1,5,6,7,8,9,10,11,12,13,14] (.pur [2,3,4] (.one 15 (.flo [16] (.one 17 (.fin)))))) ?_
      (refine Aa (pks rfl) ?_;(repeat (go_big_quiet_step (fail)));refine oq ?_)
      (refine Bi (pks rfl) ?_;(repeat (go_big_quiet_step (fail)));refine oq ?_)
      refine Ac (pks rfl) ?_;intro K_ F;go_wp2
      (refine Aa (pks rfl) ?_;(repeat (go_big_quiet_step (fail)));refine oq ?_)
      refine Ac (pks rfl) ?_;intro K_ F;go_wp2;refine Ad ?_;go_wp2
      go_roundg t.length
      case measure=>simp
      case rel=>exact⟨q,t,y::s2,rfl,by go_num,by omega,j6 (ins_step ((HJ.o.ext (X.trans x1)).ext X1) I.o HA.o HQ.o C.o E.o)⟩
     ·have zv:decide (v<0)=false:=by simpa using hv0
      have I:H0 (¬cmpC x y<0):=j6 (by show ¬Ba x.l y.l<0;rw[HV.o];exact hv0)
      go_upto_region 4 with fail
      refine wro [0,0,3,7,15,15,15,111,239,15,15,1039,3599,7695,16383,32767,65535] (.flo [0,1,2,3,4,5,6,7,8,9,10,11,12,13] (.one 14 (.flo [15,16] (.fin)))) ?_
      (refine Aa (pks rfl) ?_;(repeat (go_big_quiet_step (fail)));refine oq ?_)
      refine Ac (pks rfl) ?_;intro K_ F;go_wp2_with (go_at_call 188;refine(Ez x.A y.A x.c y.c nx ny x.k y.k v x.l y.l _ HV C E (j6 (O.o.ext X)) (j6 (R.o.ext X))).mono ?_;rintro e w1 ⟨rfl,x1⟩)
      (refine Aa (pks rfl) ?_;(repeat (go_big_quiet_step (fail)));refine oq ?_)
      refine Ad ?_;go_wp2
      go_roundg (b-(i+1))
      case measure=>omega
      case rel=>exact⟨i+1,D++[x],_,T,rfl,by omega,by go_num,j6 (ins_exit HI.o HJ.o (λz hz=>by simp only[EK,EC,Option.some_or]at hz;injection hz with hz;rw[<-hz];exact Int.not_lt.2 I.o) (X.trans x1))⟩
  ·obtain rfl:i=b:=by omega
   have HT:H0 (T=[]):=j6 (by
    have⟨q1,q2,_⟩:=HI.o;have:=U.o;rw[q1,AA]at this;exact AH (by omega))
   go_wp2
   go_end0
   have⟨q1,q2,q3,q4,q5,q6⟩:=HI.o;rw[HT.o]at q1 q4;rw[AV]at q1;exact⟨rfl,D',by rw[q1];exact q3,q4,q5⟩
def Sorted(B g c:Nat)(L:List Ct)(w:World)(e:Ending)(w':World):Prop:=e=.returned (.tuple #[])/\∃L',Af cmpC L L'/\Arr w' B g c L'/\w.grownBy w' (some g)
def insSort_none(A:Option Addr)(n c a b:Nat)(w:World)(h:b<=a)(ha:a<=1000000000) :
  C3 256 #[.slice A n c,.int .i64 a,.int .i64 b,.func (.func 188) #[] #[]] w λe w'=>e=.returned (.tuple #[])/\w=w':=by
 have h1:¬(a:Int)+1<b:=by omega
 go_enter func256,ntmps256;go_wp2
 go_loop [8] (λv=>v=.int .i64 ((a:Int)+1)) (λ_=>0)
 case atStart=>rfl
 case round =>
  subst hrel;go_wp2
  go_end0
  exact⟨rfl,rfl⟩
def Pass1(B g c:Nat)(L:List Ct)(w wr:World)(a:Nat)(S T:List Ct):Prop :=
 S.length=a/\a+T.length=L.length/\(∀x∈T,x∈L)/\(∀T',Bks cmpC 20 T T'->Bks cmpC 20 L (S++T'))/\Arr wr B g c (S++T)/\w.grownBy wr (some g)
def Pass1.step{B g c a:Nat}{L:List Ct}{w wr w1:World}{S T1 T2 Z:List Ct}(h:Pass1 B g c L w wr a S (T1++T2))(h1:T1.length=20)(hz:Af cmpC T1 Z)(ha:Arr w1 B g c (S++(Z++T2)))(hg:wr.grownBy w1 (some g)):Pass1 B g c L w w1 (a+20) (S++Z) T2:=by
 obtain⟨q1,q2,q3,q4,q5,q6⟩:=h;have lz:=stable_len hz;rw[AA]at q2;refine⟨by rw[AA];omega,by omega,λx hx=>q3 x (CD _ hx),λT' hT=>?_,by rw[AK];exact ha,q6.trans hg⟩;rw[AK];exact q4 (Z++T') (.more T1 Z T2 T' h1 hz hT)
def Pass1.last{L:List Ct}{S T Z:List Ct}(h:Pass1 B g c L w wr a S T)(h1:T.length<=20)(hz:Af cmpC T Z)(ha:Arr w1 B g c (S++Z))(hg:wr.grownBy w1 (some g)):Bks cmpC 20 L (S++Z)/\Arr w1 B g c (S++Z)/\w.grownBy w1 (some g):=
 ⟨h.2.2.2.1 Z (.last T Z h1 hz),ha,h.2.2.2.2.2.trans hg⟩
def Pass2(B g c s:Nat)(L:List Ct)(w wr:World)(S:List Ct):Prop:=Bks cmpC s L S/\Arr wr B g c S/\w.grownBy wr (some g)
def Pass3(B g c s:Nat)(L:List Ct)(w wr:World)(a:Nat)(D O R:List Ct):Prop :=
 D.length=a/\a+R.length=L.length/\Bks cmpC s O R/\(∀x∈R,x∈L)/\(∀R',Bks cmpC (2*s) O R'->Bks cmpC (2*s) L (D++R'))/\Arr wr B g c (D++R)/\w.grownBy wr (some g)
def bks_len{s:Nat}{O S:List Ct}(h:Bks cmpC s O S):S.length=O.length:=h.len stable_len
def Pass2.start{s:Nat}{L:List Ct}{S:List Ct}(h:Pass2 B g c s L w wr S):Pass3 B g c s L w wr 0 [] L S :=
 ⟨rfl,by rw[bks_len h.1,BV],h.1,λx hx=>(h.1.mem cmpC_tot x).1 hx,λ_ h=>h,h.2.1,h.2.2⟩
def Pass3.step{B g c s a:Nat}{L:List Ct}{w wr w1:World}{D O1 O2 O3 S1 S2 S3 Z:List Ct}(h:Pass3 B g c s L w wr a D (O1++(O2++O3)) (S1++(S2++S3)))(l1:O1.length=s)(l2:O2.length=s)(s1:Af cmpC O1 S1)(s2:Af cmpC O2 S2)(h3:Bks cmpC s O3 S3)
  (hz:Af cmpC (S1++S2) Z) (ha:Arr w1 B g c (D++(Z++S3))) (hg:wr.grownBy w1 (some g)):Pass3 B g c s L w w1 (a+2*s) (D++Z) O3 S3:=by
 obtain⟨q1,q2,q3,q4,q5,q6,q7⟩:=h;have e1:=stable_len s1;have e2:=stable_len s2;have lz:=stable_len hz;rw[AA]at lz;simp only[AA]at q2;refine⟨by rw[AA];omega,by omega,h3,λx hx=>q4 x (CD _ (CD _ hx)),λR' hR=>?_,by rw[AK];exact ha,q7.trans hg⟩;have:=q5 (Z++R') (by
  rw[<-AK];exact .more (O1++O2) Z O3 R' (by rw[AA];omega) (Af.join s1 s2 hz) hR)
 rwa [AK]
def Pass3.rest{s:Nat}{L:List Ct}{D O1 O2 S1 S2 Z:List Ct}(h:Pass3 B g c s L w wr a D (O1++O2) (S1++S2))(hl:(O1++O2).length<=2*s)(s1:Af cmpC O1 S1)(s2:Af cmpC O2 S2)
  (hz:Af cmpC (S1++S2) Z) (ha:Arr w1 B g c (D++(Z++[]))) (hg:wr.grownBy w1 (some g)):Pass2 B g c (2*s) L w w1 (D++Z):=by
 obtain⟨q1,q2,q3,q4,q5,q6,q7⟩:=h;exact⟨q5 Z (.last _ Z hl (Af.join s1 s2 hz)),by rwa [AV]at ha,q7.trans hg⟩
def Pass3.none{s:Nat}{L:List Ct}{D O R:List Ct}(h:Pass3 B g c s L w wr a D O R)(hs:0<s)(hl:O.length<=s):Pass2 B g c (2*s) L w wr (D++R):=by
 obtain⟨q1,q2,q3,q4,q5,q6,q7⟩:=h;exact⟨q5 R (.last O R (by omega) (q3.all cmpC_tot hs hl)),q6,q7⟩
def stable_any(B g c n:Nat)(L:List Ct)(w:World)(hn:n=L.length)(hbig:n<=1000000000)(h:Arr w B g c L)(hr:Rws w g L) :
  C3 225 #[.slice (some ⟨g,0,none⟩) n c,.int .i64 n,.func (.func 188) #[] #[]] w (Sorted B g c L w):=by
 have HR:=j6 hr;have HN:=j6 hn;have r:H0 (Pass1 B g c L w w 0 [] L):=j6 ⟨rfl,BV _,λ_ h=>h,λ_ h=>h,h,CM w _⟩;clear h hr hn;go_enter func225,ntmps225;go_wp2
 go_loopg [7,8] n (λz u v wr=>∃(a:Nat) (S T:List Ct),z=n-a/\a<=n/\u=.int .i64 a/\v=.int .i64 ((a+20:Nat):Int)/\H0 (Pass1 B g c L w wr a S T))
 case atStart=>exact⟨0,[],L,rfl,AG _,rfl,by go_num,r⟩
 case round =>
  obtain⟨a,S,T,rfl,I,rfl,rfl,HJ⟩:=hrel;clear r;by_cases hlt:a+20<=n
  ·obtain⟨T1,T2,rfl,ht⟩:=cut_at T 20 (by have:=HJ.o.2.1;have:=HN.o;omega);obtain⟨x0,S0,rfl⟩:=cons_of (l:=T1) (by omega);have HT:=j6 ht;clear ht;have zl:((a+20:Nat):Int)<=(n:Int):=by omega
   go_wp2_with (go_at_call 256;refine(insSort_some B g c n a (a+20) S S0 T2 x0 _ HJ.o.1.symm (by have:=HJ.o.1;have:=HT.o;rw[AJ]at this;omega) (by have:=HJ.o;have e1:=this.1;have e2:=this.2.1;have e3:=HN.o;rw[AA,e1];omega) HJ.o.2.2.2.2.1 ((HR.o.upd HJ.o.2.2.2.2.2).sub λx hx=>HJ.o.2.2.1 x (BE _ hx))).mono ?_;rintro e w1 ⟨rfl,Z,s1,s2,s3⟩;have H:=j6 (HJ.o.step HT.o s1 s2 s3);clear s1 s2 s3)
   go_roundg (n-(a+20))
   case measure=>omega
   case rel=>exact⟨a+20,S++Z,T2,rfl,hlt,by go_num,by go_num,H⟩
  ·have zl:¬((a+20:Nat):Int)<=(n:Int):=by omega
   have HX:∃P:World->Prop,(∀w1,P w1->∃S1,Pass2 B g c 20 L w w1 S1)/\C3 256 #[.slice (some ⟨g,0,none⟩) n c,.int .i64 a,.int .i64 n,.func (.func 188) #[] #[]] wr λe w'=>e=.returned (.tuple #[])/\P w':=by
    refine⟨λw1=>∃S1,Pass2 B g c 20 L w w1 S1,λ_ h=>h,?_⟩;have hl:=HJ.o.2.1;rw[<-HN.o]at hl;by_cases ht:0<T.length
    ·obtain⟨x0,S0,rfl⟩:=cons_of ht;refine(insSort_some B g c n a n S S0 [] x0 wr HJ.o.1.symm (by have:=HJ.o.1;rw[AJ]at hl;omega) (by rw[AV,AA,HJ.o.1];exact hl.symm) (by rw[AV];exact HJ.o.2.2.2.2.1) ((HR.o.upd HJ.o.2.2.2.2.2).sub λx hx=>HJ.o.2.2.1 x hx)).mono ?_;rintro e w1 ⟨rfl,Z,s1,s2,s3⟩;rw[AV]at s2;exact⟨rfl,_,HJ.o.last (by omega) s1 s2 s3⟩
    ·have e:T=[]:=nil_or ht;subst e;refine(insSort_none _ n c a n wr (by rw[CB]at hl;omega) (by omega)).mono ?_;rintro e w1 ⟨rfl,rfl⟩;exact⟨rfl,_,HJ.o.last (AG _) Af.nil HJ.o.2.2.2.2.1 (CM _ _)⟩
   obtain⟨PP,E,F⟩:=HX;have y:=j6 E;have A:=j6 F;clear E F;go_wp2_with (go_at_call 256;refine A.o.mono ?_;rintro e w1 ⟨rfl,s1⟩;have⟨S1,s2⟩:=y.o _ s1;have HS:=j6 s2;clear s1 s2)
   clear y A
   go_loopg [6,7,8] (n-20) (λz u v t wr=>∃(s:Nat) (S:List Ct),z=n-s/\0<s/\s<=3000000000/\u=.int .i64 s/\H0 (Pass2 B g c s L w wr S))
   case atStart=>exact⟨20,S1,rfl,by omega,by omega,rfl,HS⟩
   case round =>
    obtain⟨s,S,rfl,j,M,rfl,HQ⟩:=hrel;clear HS HJ;obtain⟨wo,G⟩:∃wo:World,wo=wr:=⟨_,rfl⟩;rw[<-G]at HQ ⊢;clear G;by_cases hsn:s<n
    ·have C:=j6 HQ.o.start;go_wp2
     go_loopg [7,8] n (λz u v wr=>∃(a:Nat) (D O R:List Ct),z=n-a/\a<=n/\u=.int .i64 a/\v=.int .i64 ((a+2*s:Nat):Int)/\H0 (Pass3 B g c s L w wr a D O R))
     case atStart=>exact⟨0,[],L,S,rfl,AG _,rfl,by go_num,C⟩
     case round =>
      obtain⟨a,D,O,R,rfl,I,rfl,rfl,HI⟩:=hrel;clear C;have m:O.length=R.length:=(bks_len HI.o.2.2.1).symm;have i:a+R.length=n:=by rw[HN.o];exact HI.o.2.1
      by_cases hlt:a+2*s<=n
      ·obtain⟨O1,S1,O2,S2,O3,S3,rfl,rfl,l1,l2,s1,s2,s3⟩:=HI.o.2.2.1.two j (by omega);have⟨ms,d⟩:=E9 (a+s);have zm:(a:Int)+(s:Int)=(ms:Int):=by omega
       have e1:=stable_len s1;have e2:=stable_len s2;have HG:=j6 (And.intro l1 (And.intro l2 (And.intro s1 (And.intro s2 s3))));have HE:=j6 (And.intro e1 (And.intro e2 d));have K:ms<=n:=by omega
       clear l1 l2 s1 s2 s3 e1 e2 m i d;have zl:((a+2*s:Nat):Int)<=(n:Int):=by omega
       go_wp2_with (go_at_call 257;refine(symM_all (S1.length+S2.length) B g c n a ms (a+2*s) D S1 S2 S3 _ (AD _) (by have:=HE.o;have:=HG.o;omega) (by have:=HE.o;have:=HG.o;omega) HI.o.1.symm (by have:=HE.o;have:=HG.o;omega) (by have:=HE.o;have:=HG.o;omega) (by have:=HI.o.2.1;have:=HI.o.1;have:=HN.o;rw[AA];omega) HG.o.2.2.1.sorted HG.o.2.2.2.1.sorted HI.o.2.2.2.2.2.1 ((HR.o.upd HI.o.2.2.2.2.2.2).sub λx hx=>HI.o.2.2.2.1 x (by rcases AQ.1 hx with hx|hx<;>simp[hx])) hbig).mono ?_;rintro e w1 ⟨rfl,Z,z1,z2,z3⟩;have f:=j6 (HI.o.step HG.o.1 HG.o.2.1 HG.o.2.2.1 HG.o.2.2.2.1 HG.o.2.2.2.2 z1 z2 z3);clear z1 z2 z3)
       go_roundg (n-(a+2*s))
       case measure=>omega
       case rel=>exact⟨a+2*s,D++Z,O3,S3,rfl,hlt,by go_num,by go_num,f⟩
      ·have zl:¬((a+2*s:Nat):Int)<=(n:Int):=by omega
       have⟨ms,d⟩:=E9 (a+s);have zm:(a:Int)+(s:Int)=(ms:Int):=by omega
       by_cases hm:a+s<n
       ·obtain⟨O1,S1,O2,S2,rfl,rfl,l1,s1,s2⟩:=HI.o.2.2.1.rest cmpC_tot j (by omega) (by omega);have e1:=stable_len s1;have e2:=stable_len s2;have HO:H0 ((O1++O2).length<=2*s):=j6 (by omega);have HG:=j6 (And.intro l1 (And.intro s1 s2));have HE:=j6 (And.intro e1 (And.intro e2 (And.intro i d)));have zn:(ms:Int)<(n:Int):=by omega
        clear l1 s1 s2 e1 e2 m i d;go_wp2_with (go_at_call 257;refine(symM_all (S1.length+S2.length) B g c n a ms n D S1 S2 [] _ (AD _) (by have:=HE.o;have:=HG.o;omega) (by have:=HE.o;have:=HG.o;simp only[AA]at *;omega) HI.o.1.symm (by have:=HE.o;have:=HG.o;omega) (by have:=HE.o;have:=HG.o;simp only[AA]at *;omega) (by have:=HI.o.2.1;have:=HI.o.1;have:=HN.o;rw[AV,AA];omega) HG.o.2.1.sorted HG.o.2.2.sorted (by rw[AV];exact HI.o.2.2.2.2.2.1) ((HR.o.upd HI.o.2.2.2.2.2.2).sub λx hx=>HI.o.2.2.2.1 x hx) hbig).mono ?_;rintro e w1 ⟨rfl,Z,z1,z2,z3⟩;have f:=j6 (HI.o.rest HO.o HG.o.2.1 HG.o.2.2 z1 z2 z3);clear z1 z2 z3)
        go_roundg (n-2*s)
        case measure=>omega
        case rel=>exact⟨2*s,D++Z,rfl,by omega,by omega,by go_num,f⟩
       ·have zn:¬(ms:Int)<(n:Int):=by omega
        have f:=j6 (HI.o.none j (by omega));have J:ms<=2000000000:=by omega
        clear m i d;go_wp2
        go_roundg (n-2*s)
        case measure=>omega
        case rel=>exact⟨2*s,D++R,rfl,by omega,by omega,by go_num,f⟩
    ·have HE:H0 (Sorted B g c L w (.returned (.tuple #[])) wo):=j6 ⟨rfl,S,HQ.o.1.all cmpC_tot j (by rw[<-HN.o];omega),HQ.o.2.1,HQ.o.2.2⟩;go_wp2
     go_end0
     exact HE.o
def sortStable_any(B g c n:Nat)(L:List Ct)(w:World)(hn:n=L.length)(hbig:n<=1000000000)(h:Arr w B g c L)(hr:Rws w g L) :
  C3 187 #[.slice (some ⟨g,0,none⟩) n c,.func (.func 188) #[] #[]] w (Sorted B g c L w):=by
 have H:=j6 h;have HR:=j6 hr;have HN:=j6 hn;clear h hr hn;go_enter func187,ntmps187;go_wp2_with (go_at_call 225;refine(stable_any B g c n L _ HN.o hbig H.o HR.o).mono ?_;rintro e w1 ⟨rfl,s1⟩;replace s1:=j6 s1)
 go_end0
 exact⟨rfl,s1.o⟩
end Go.Proofs.YtdgbkpoickbidaaGreatDoor
