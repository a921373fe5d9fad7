/- penstockref10: cmp, add. penstockref10: Sum. penstockref00.LentRow: copies with marked room behind. penstockref02.Add, Sum at rows with counts. penstockref04.Leq, Cmp: what they answer. Conditions: each theorem states its own. -/
import Derived.Test.YtdgbkpoickbidaaGreatDoorHx12
set_option maxRecDepth 100000
set_option maxHeartbeats 16000000
open Go.RowKit Go.Proofs.Tryz
set_option linter.defProp false
namespace Go.Proofs.YtdgbkpoickbidaaGreatDoor
variable{ad:Addr}{xs:List Value}{B c c3 c6 g i j m m2 n rc:Nat}{A A2 A6 rA:Option Addr}{w w' w1 w2 w3 wr:World}
def Nc(x y:Ud)(nx ny tx ty:Nat)(v:Int)(w:World)(hv:H0 (UdS.cmpC x y=v))(hnx:H0 (nx=x.l.length))(hny:H0 (ny=y.l.length))(htx:H0 (tx=x.t.l.length))(hty:H0 (ty=y.t.l.length))(hx:H0 (UdR w x))(hy:H0 (UdR w y))(ux:H0 (U32 x.t.l))(uy:H0 (U32 y.t.l))(h9:tx<=1000000)(h8:ty<=1000000) :
  C3 194 #[.agg #[.slice x.A nx x.c,.int .u64 x.t.e,.slice x.t.A tx x.t.c,.int .i64 x.d],.agg #[.slice y.A ny y.c,.int .u64 y.t.e,.slice y.t.A ty y.t.c,.int .i64 y.d]] w λe w'=>e=.returned (.int .i64 v)/\Ext w w':=by
 have⟨r,hr⟩:=tz (Ba x.l y.l);have⟨t,ht⟩:=tz (Cr (x.t.e,x.t.l) (y.t.e,y.t.l));have a:(if r=0 then t else r)=v:=by rw[<-hv.o,<-hr,<-ht];rfl
 have HR:=j6 hr;have HT:=j6 ht;have X1:H0 (∀W,Ext w W->Sl W 1 x.t.A tx x.t.c (wds x.t.l)):=j6 (λW q=>by rw[htx.o];exact hx.o.t.ext q);have Y1:H0 (∀W,Ext w W->Sl W 1 y.t.A ty y.t.c (wds y.t.l)):=j6 (λW q=>by rw[hty.o];exact hy.o.t.ext q);clear hr ht;go_enter func194,ntmps194;have x0:Ext w ((w.alloc (Obj.cells #[.slice x.A nx x.c,.int .u64 x.t.e,.slice x.t.A tx x.t.c,.int .i64 x.d] 95)).alloc (Obj.cells #[.slice y.A ny y.c,.int .u64 y.t.e,.slice y.t.A ty y.t.c,.int .i64 y.d] 95)):=((Ext.refl w).alloc _).alloc _;have a0:H0 (Bk ((w.alloc (Obj.cells #[.slice x.A nx x.c,.int .u64 x.t.e,.slice x.t.A tx x.t.c,.int .i64 x.d] 95)).alloc (Obj.cells #[.slice y.A ny y.c,.int .u64 y.t.e,.slice y.t.A ty y.t.c,.int .i64 y.d] 95)) w.heap.size 95 #[.slice x.A nx x.c,.int .u64 x.t.e,.slice x.t.A tx x.t.c,.int .i64 x.d]):=j6 ((Bk.new _ _ _).alloc _);have b0:H0 (Bk ((w.alloc (Obj.cells #[.slice x.A nx x.c,.int .u64 x.t.e,.slice x.t.A tx x.t.c,.int .i64 x.d] 95)).alloc (Obj.cells #[.slice y.A ny y.c,.int .u64 y.t.e,.slice y.t.A ty y.t.c,.int .i64 y.d] 95)) (w.heap.size+1) 95 #[.slice y.A ny y.c,.int .u64 y.t.e,.slice y.t.A ty y.t.c,.int .i64 y.d]):=j6 (Bk.at (by simp));have p0:=a0.o.cell 0;have p1:=b0.o.cell 0;have m1:=TI;by_cases hr0:r=0
 ·subst hr0;rw[if_pos rfl]at a;have HV:=j6 a;clear a;go_wp2_with (first
   | (go_at_call 53;clear m1;refine(Ek x.A y.A x.c y.c nx ny x.l y.l _ HR hnx hny (j6 (hx.o.r.ext x0)) (j6 (hy.o.r.ext x0))).mono ?_;rintro e w1 ⟨rfl,x1⟩;have r1:=(a0.o.ext x1).cell 1;have r2:=(a0.o.ext x1).cell 2;have s1:=(b0.o.ext x1).cell 1;have s2:=(b0.o.ext x1).cell 2;have X2:=j6 (x0.trans x1);clear x1;have m2:=TI)
   | (go_at_call 149;clear m2;refine(a2c x.t.e y.t.e x.t.A y.t.A tx ty x.t.c y.t.c x.t.l y.t.l _ HT (j6 (X1.o _ X2.o)) (j6 (Y1.o _ X2.o)) ux uy h9 h8).mono ?_;rintro e w2 ⟨rfl,x2⟩)
   | fail)
  go_ret;exact⟨Bw HV.o,X2.o.trans x2⟩
 ·have zr:(r==0)=false:=by simpa using hr0
  rw[if_neg hr0]at a;have HV:=j6 a;clear a;go_wp2_with (first
   | (go_at_call 53;clear m1;refine(Ek x.A y.A x.c y.c nx ny x.l y.l _ HR hnx hny (j6 (hx.o.r.ext x0)) (j6 (hy.o.r.ext x0))).mono ?_;rintro e w1 ⟨rfl,x1⟩)
   | fail)
  go_ret;exact⟨Bw HV.o,x0.trans x1⟩
def Ko(y x:Ud):Prop:=y.A=x.A/\y.c=x.c/\y.l=x.l/\y.t=x.t
def Ko.udr{x y:Ud}(h:Ko y x)(u:UdR w x):UdR w y:=by
 obtain⟨e1,e2,e3,e4⟩:=h;exact⟨by rw[e1,e2,e3];exact u.r,by rw[e4];exact u.t⟩
def nC(w:World)(L:List Ud)(V:List UV)(e:Ending)(w':World):Prop:=∃A m c M,e=.returned (.slice A m c)/\m=M.length/\Own w' w.heap.size 95 4 A m c (Ah M)/\(∀y∈M,∃x∈L,Ko y x)/\M.map Ud.uv=V/\Ext w w'
def xR{L M:List Ud}{x:Ud}(o:Own w' B 95 4 A m c (Ah M))(hm:m=M.length)(p:∀y∈M,∃z∈x::L,Ko y z)(hx:UdR w x)(h:∀z∈L,UdR w z)(X:Ext w w'):Uin w' A c M:=by
 refine⟨by rw[<-hm];exact o.sl,λy hy=>?_⟩;have⟨z,hz,q⟩:=p y hy;rcases AY.1 hz with rfl|hz
 ·exact(q.udr hx).ext X
 ·exact(q.udr (h z hz)).ext X
def Uin.dropS{k:Nat}{L:List Ud}(h:Uin w A c L)(hn:n=L.length)(hk:k<=n):Sl w 4 (if c=k then A else A.map (·.add (k*4))) (n-k) (c-k) (Ah (L.drop k)):=by
 have:=Sl.drop (k:=k) h.sl (by omega)
 rwa [nI,<-hn]at this
def Uin.takeS{k:Nat}{L:List Ud}(h:Uin w A c L)(hn:n=L.length)(hk:k<=n):Sl w 4 A k c (Ah (L.take k)):=by
 have:=Sl.take (k:=k) h.sl (by omega)
 rwa [nH]at this
def Ml{L:List Ud}{k:Nat}{x:Ud}(hn:n=L.length)(hk:k<=n)(hs:UdS.Srt L)(h1:∀j,k=j+1->Hy (L.getD j Ud.zero).k x.k<0)(h2:∀y∈L.drop k,0<UdS.cmpC y x)(hm:m=n+1)
  (o:Own w' B 95 4 A6 m c6 (Ah (L.take k)++udC x++Ah (L.drop k))) (X:Ext w w') (hB:w.heap.size<=B):nC w (x::L) (UdS.addV (L.map Ud.uv) x.uv) (.returned (.slice A6 m c6)) w':=by
 have hl:(L.take k++x::L.drop k).length=m:=by rw[AA,AJ,CE,CZ];omega
 refine⟨A6,m,c6,L.take k++x::L.drop k,rfl,hl.symm,?_,λy hy=>⟨y,?_,rfl,rfl,rfl,rfl⟩,UdS.a3a hs (by omega) rfl h1 (λy hy=>h2 y (List.mem_of_mem_head? hy)),X⟩
 ·have e:Ah (L.take k++x::L.drop k)=Ah (L.take k)++udC x++Ah (L.drop k):=by rw[Au,AK];rfl
  rw[e];exact o.mono hB
 ·rcases AQ.1 hy with hy|hy
  ·exact BM _ (CK hy)
  ·rcases AY.1 hy with rfl|hy
   ·exact BC ..
   ·exact BM _ (CY hy)
def a0s{L:List Ud}{x y:Ud}{s:Int}(hn:n=L.length)(hj:j<n)(hs:UdS.Srt L)(hy:L.getD j Ud.zero=y)(hv:UdS.cmpC y x=0)(hsm:w64 (y.d+x.d)=s)(hg:w.heap.size<=g)
  (o:Own w3 B 95 4 (some ⟨g,0,none⟩) n c3 (Ah L)) (X:Ext w w3) (hB:w.heap.size<=B):nC w (x::L) (UdS.addV (L.map Ud.uv) x.uv) (.returned (.slice (some ⟨g,0,none⟩) n c3)) (w3.setCell ⟨g,j*4+3,none⟩ (.int .i64 s)):=by
 have XE:Ext w (w3.setCell ⟨g,j*4+3,none⟩ (.int .i64 s)):=X.set (p:=⟨g,_,none⟩) hg _;refine⟨_,n,c3,L.set j ⟨y.A,y.c,y.l,y.t,s⟩,rfl,by rw[ED];exact hn,?_,λz hz=>?_,UdS.a3d hs (by omega) hy hv hsm,XE⟩
 ·have:=(o.put (j*4+3) (.int .i64 s)).mono hB;rw[UdS.a3b L j y s (by omega) hy]at this;exact this
 ·rcases List.mem_or_eq_of_mem_set hz with hz|rfl
  ·exact⟨z,BM _ hz,rfl,rfl,rfl,rfl⟩
  ·exact⟨y,BM _ (hy▸As (by omega)),rfl,rfl,rfl,rfl⟩
def jU{V:List UV}(A:Option Addr)(c n:Nat)(L:List Ud)(x:Ud)(nx tx:Nat)(w:World)(hV:H0 (UdS.addV (L.map Ud.uv) x.uv=V))(hn:H0 (n=L.length))(hnx:H0 (nx=x.l.length))(htx:H0 (tx=x.t.l.length))(h:H0 (Uin w A c L))(hx:H0 (UdR w x))(hs:H0 (UdS.Srt L))(ux:H0 (U32 x.t.l))(uL:H0 (∀y∈L,U32 y.t.l/\y.t.l.length<=1000000))(h9:n<=1000000)(h8:tx<=1000000) :
  C3 118 #[.slice A n c,.agg #[.slice x.A nx x.c,.int .u64 x.t.e,.slice x.t.A tx x.t.c,.int .i64 x.d]] w (nC w (x::L) V):=by
 rw[<-hV.o];have b4:n<=c/\c<=9223372036854775807:=by have:=h.o.sl.cap;rwa [<-hn.o]at this
 go_enter func118,ntmps118;go_wp2;have⟨wb,O⟩:=E9 (w.alloc (.cells #[.slice x.A nx x.c,.int .u64 x.t.e,.slice x.t.A tx x.t.c,.int .i64 x.d] 95));have XB:H0 (Ext w wb):=j6 (by rw[O];exact(Ext.refl _).alloc _);have BU:H0 (Bk wb w.heap.size 95 #[.slice x.A nx x.c,.int .u64 x.t.e,.slice x.t.A tx x.t.c,.int .i64 x.d]):=j6 (by rw[O];exact Bk.new _ _ _);rw[<-O];clear O;have⟨gu,a6⟩:=E9 w.heap.size;rw[<-a6]at BU ⊢;clear a6;have E:H0 (udC x=[.slice x.A nx x.c,.int .u64 x.t.e,.slice x.t.A tx x.t.c,.int .i64 x.d]):=j6 (by rw[hnx.o,htx.o];rfl);have a0:H0 (∀y∈L.drop n,0<UdS.cmpC y x):=j6 (λy hy=>by rw[DS (by rw[<-hn.o];exact AD _)]at hy;cases hy)
 go_loopg [5] n (λz v wr=>∃k:Nat,z=k/\k<=n/\v=.int .i64 k/\H0 (∀y∈L.drop k,0<UdS.cmpC y x)/\H0 (Ext wb wr))
 case atStart=>exact⟨n,rfl,AD _,rfl,a0,j6 (Ext.refl _)⟩
 case round =>
  clear a0;obtain⟨k,b7,hk,rfl,HD,HE⟩:=hrel;have X:Ext wr wr.drew:=(Ext.refl wr).drew;have q0:∀z:Xt wr.drew,z.W.cell? ⟨gu,0,none⟩=some (.slice x.A nx x.c):=λz=>(BU.o.ext ((HE.o.trans X).trans z.x)).cell 0;have q1:∀z:Xt wr.drew,z.W.cell? ⟨gu,1,none⟩=some (.int .u64 x.t.e):=λz=>(BU.o.ext ((HE.o.trans X).trans z.x)).cell 1;have q2:∀z:Xt wr.drew,z.W.cell? ⟨gu,2,none⟩=some (.slice x.t.A tx x.t.c):=λz=>(BU.o.ext ((HE.o.trans X).trans z.x)).cell 2;have q3:∀z:Xt wr.drew,z.W.cell? ⟨gu,3,none⟩=some (.int .i64 x.d):=λz=>(BU.o.ext ((HE.o.trans X).trans z.x)).cell 3;have J:H0 (∀W,Ext wb W->UdR W x):=j6 (λW q=>(hx.o.ext XB.o).ext q);cases k with
  | zero =>
   go_upto_region 2 with fail
   refine wro [0,1,3,7,7,23,63,127,7,511,1023,2047] (.flo [0,1,2,3,4,5,6,7,8] (.one 9 (.flo [10,11] (.fin)))) ?_
   (refine Aa (pks rfl) ?_;(repeat (go_big_quiet_step (fail)));refine oq ?_)
   refine Ac (pks rfl) ?_;intro K_ i;go_wp2
   (refine Aa (pks rfl) ?_;(repeat (go_big_quiet_step (fail)));refine oq ?_)
   refine Ad ?_;have x3:Ext wr.drew wr.drew:=Ext.refl _;obtain⟨w3,G⟩:∃W:World,W=wr.drew:=⟨_,rfl⟩;rw[<-G]at X x3 ⊢;have x3:Ext w3 w3:=Ext.refl _;clear G;have HE:=j6 (HE.o.trans (X.trans x3));clear q0 q1 q2 q3 X;obtain⟨wr,f⟩:∃W:World,W=w3:=⟨_,rfl⟩;rw[<-f]at HE ⊢;clear f x3;have X:Ext wr wr.drew:=(Ext.refl wr).drew;have q0:∀z:Xt wr.drew,z.W.cell? ⟨gu,0,none⟩=some (.slice x.A nx x.c):=λz=>(BU.o.ext ((HE.o.trans X).trans z.x)).cell 0;have q1:∀z:Xt wr.drew,z.W.cell? ⟨gu,1,none⟩=some (.int .u64 x.t.e):=λz=>(BU.o.ext ((HE.o.trans X).trans z.x)).cell 1;have q2:∀z:Xt wr.drew,z.W.cell? ⟨gu,2,none⟩=some (.slice x.t.A tx x.t.c):=λz=>(BU.o.ext ((HE.o.trans X).trans z.x)).cell 2;have q3:∀z:Xt wr.drew,z.W.cell? ⟨gu,3,none⟩=some (.int .i64 x.d):=λz=>(BU.o.ext ((HE.o.trans X).trans z.x)).cell 3
   go_upto_region 4 with fail
   refine wro [0,1,3,7,7,23,63,127,7,511,1023,2047] (.flo [0,1,2,3,4,5,6,7,8] (.one 9 (.flo [10,11] (.fin)))) ?_
   (refine Aa (pks rfl) ?_;(repeat (go_big_quiet_step (fail)));refine oq ?_)
   refine Ac (pks rfl) ?_;intro K_ i;go_wp2
   (refine Aa (pks rfl) ?_;(repeat (go_big_quiet_step (fail)));refine oq ?_)
   refine Ad ?_;have x3:Ext wr.drew wr.drew:=Ext.refl _;obtain⟨w3,G⟩:∃W:World,W=wr.drew:=⟨_,rfl⟩;rw[<-G]at X x3 ⊢;have x3:Ext w3 w3:=Ext.refl _;clear G;have HE:=j6 (HE.o.trans (X.trans x3));clear q0 q1 q2 q3 X;obtain⟨wr,f⟩:∃W:World,W=w3:=⟨_,rfl⟩;rw[<-f]at HE ⊢;clear f x3;have ST:H0 (Sl wr 4 A (0) c (Ah (L.take (0)))):=j6 ((h.o.ext (XB.o.trans HE.o)).takeS hn.o hk);have SD:H0 (Sl wr 4 (if c=0 then A else A.map (·.add ((0)*4))) (n-(0)) (c-(0)) (Ah (L.drop (0)))):=j6 ((h.o.ext (XB.o.trans HE.o)).dropS hn.o hk);cases A with
   | none =>
    obtain rfl:c=0:=h.o.sl.2.2.2.1 rfl;have Q:n=0:=by omega
    subst Q;have p1:=TI;go_wp2_with (first
     | (at_builtin;clear p1;refine Ab _ Ao wr.heap.size _ _ rfl rfl none 0 0 [] rfl (Own.nil _ _ _ _) none 0 0 (Ah (L.take 0)) rfl ST.o (Bz _) (by omega) (by decide) (AD _) ?_;intro A4 c4 w4 o4 g4 h4;clear h4;have y4:Ext wr w4:=Ext.grown (Ext.refl _) g4 (λk e=>nomatch e);have O4:H0 (Own w4 wr.heap.size 95 4 A4 0 c4 (Ah (L.take 0))):=j6 (by have:=o4;rwa [BV,BD]at this);have e0:=(BU.o.ext (HE.o.trans y4)).cell 0;have e1:=(BU.o.ext (HE.o.trans y4)).cell 1;have e2:=(BU.o.ext (HE.o.trans y4)).cell 2;have e3:=(BU.o.ext (HE.o.trans y4)).cell 3;have Y4:=j6 y4;clear o4 g4 y4;have p2:=TI)
     | (at_builtin;clear p2;refine Ab _ Ao wr.heap.size _ _ rfl rfl A4 0 c4 (Ah (L.take 0)) rfl (O4.o.alloc _) (some ⟨w4.heap.size,0,none⟩) 1 1 [.slice x.A nx x.c,.int .u64 x.t.e,.slice x.t.A tx x.t.c,.int .i64 x.d] rfl (Sl.one w4 #[.slice x.A nx x.c,.int .u64 x.t.e,.slice x.t.A tx x.t.c,.int .i64 x.d] 95 4 rfl) (by intro u hu;simp at hu;rcases hu with rfl|rfl|rfl|rfl<;>rfl) (by omega) (by decide) (AR Y4.o.size ((Ext.refl w4).alloc _).size) ?_;intro A5 c5 w5 o5 g5 h5;clear h5;have Y5:H0 (Ext wr w5):=j6 (Ext.grown (Y4.o.alloc _) g5 (λk e=>(O4.o.lt k e).1));have O5:=j6 o5;clear o5 g5;have p3:=TI)
     | (at_builtin;clear p3;refine Ab _ Ao wr.heap.size _ _ rfl rfl A5 (0+1) c5 _ rfl O5.o none (0) (0) (Ah (L.drop 0)) rfl ((Sl.ext (by have:=SD.o;simpa using this) Y5.o)) (Bz _) (by omega) (by decide) Y5.o.size ?_;intro A6 c6 w6 o6 g6 h6;clear h6;have Y6:H0 (Ext wr w6):=j6 (Ext.grown Y5.o g6 (λk e=>(O5.o.lt k e).1));have O6:=j6 o6;clear o6 g6)
     | fail)
    go_ret;exact Ml (k:=0) (m:=0+1+(0)) hn.o (by omega) hs.o (λj e=>by omega) HD.o (by omega) (by have:=O6.o;rw[E.o];exact this) ((XB.o.trans HE.o).trans Y6.o) (XB.o.trans HE.o).size
   | some a3 =>
    by_cases hcj:c=0
    ·subst hcj;have Q:n=0:=by omega
     subst Q;have p1:=TI;go_wp2_with (first
      | (at_builtin;clear p1;refine Ab _ Ao wr.heap.size _ _ rfl rfl none 0 0 [] rfl (Own.nil _ _ _ _) (some a3) 0 0 (Ah (L.take 0)) rfl ST.o (Bz _) (by omega) (by decide) (AD _) ?_;intro A4 c4 w4 o4 g4 h4;clear h4;have y4:Ext wr w4:=Ext.grown (Ext.refl _) g4 (λk e=>nomatch e);have O4:H0 (Own w4 wr.heap.size 95 4 A4 0 c4 (Ah (L.take 0))):=j6 (by have:=o4;rwa [BV,BD]at this);have e0:=(BU.o.ext (HE.o.trans y4)).cell 0;have e1:=(BU.o.ext (HE.o.trans y4)).cell 1;have e2:=(BU.o.ext (HE.o.trans y4)).cell 2;have e3:=(BU.o.ext (HE.o.trans y4)).cell 3;have Y4:=j6 y4;clear o4 g4 y4;have p2:=TI)
      | (at_builtin;clear p2;refine Ab _ Ao wr.heap.size _ _ rfl rfl A4 0 c4 (Ah (L.take 0)) rfl (O4.o.alloc _) (some ⟨w4.heap.size,0,none⟩) 1 1 [.slice x.A nx x.c,.int .u64 x.t.e,.slice x.t.A tx x.t.c,.int .i64 x.d] rfl (Sl.one w4 #[.slice x.A nx x.c,.int .u64 x.t.e,.slice x.t.A tx x.t.c,.int .i64 x.d] 95 4 rfl) (by intro u hu;simp at hu;rcases hu with rfl|rfl|rfl|rfl<;>rfl) (by omega) (by decide) (AR Y4.o.size ((Ext.refl w4).alloc _).size) ?_;intro A5 c5 w5 o5 g5 h5;clear h5;have Y5:H0 (Ext wr w5):=j6 (Ext.grown (Y4.o.alloc _) g5 (λk e=>(O4.o.lt k e).1));have O5:=j6 o5;clear o5 g5;have p3:=TI)
      | (at_builtin;clear p3;refine Ab _ Ao wr.heap.size _ _ rfl rfl A5 (0+1) c5 _ rfl O5.o _ (0) (0) (Ah (L.drop 0)) rfl ((Sl.ext (by have:=SD.o;simpa using this) Y5.o)) (Bz _) (by omega) (by decide) Y5.o.size ?_;intro A6 c6 w6 o6 g6 h6;clear h6;have Y6:H0 (Ext wr w6):=j6 (Ext.grown Y5.o g6 (λk e=>(O5.o.lt k e).1));have O6:=j6 o6;clear o6 g6)
      | fail)
     go_ret;exact Ml (k:=0) (m:=0+1+(0)) hn.o (by omega) hs.o (λj e=>by omega) HD.o (by omega) (by have:=O6.o;rw[E.o];exact this) ((XB.o.trans HE.o).trans Y6.o) (XB.o.trans HE.o).size
    ·have p1:=TI;go_wp2_with (first
      | (at_builtin;clear p1;refine Ab _ Ao wr.heap.size _ _ rfl rfl none 0 0 [] rfl (Own.nil _ _ _ _) (some a3) 0 c (Ah (L.take 0)) rfl ST.o (Bz _) (by omega) (by decide) (AD _) ?_;intro A4 c4 w4 o4 g4 h4;clear h4;have y4:Ext wr w4:=Ext.grown (Ext.refl _) g4 (λk e=>nomatch e);have O4:H0 (Own w4 wr.heap.size 95 4 A4 0 c4 (Ah (L.take 0))):=j6 (by have:=o4;rwa [BV,BD]at this);have e0:=(BU.o.ext (HE.o.trans y4)).cell 0;have e1:=(BU.o.ext (HE.o.trans y4)).cell 1;have e2:=(BU.o.ext (HE.o.trans y4)).cell 2;have e3:=(BU.o.ext (HE.o.trans y4)).cell 3;have Y4:=j6 y4;clear o4 g4 y4;have p2:=TI)
      | (at_builtin;clear p2;refine Ab _ Ao wr.heap.size _ _ rfl rfl A4 0 c4 (Ah (L.take 0)) rfl (O4.o.alloc _) (some ⟨w4.heap.size,0,none⟩) 1 1 [.slice x.A nx x.c,.int .u64 x.t.e,.slice x.t.A tx x.t.c,.int .i64 x.d] rfl (Sl.one w4 #[.slice x.A nx x.c,.int .u64 x.t.e,.slice x.t.A tx x.t.c,.int .i64 x.d] 95 4 rfl) (by intro u hu;simp at hu;rcases hu with rfl|rfl|rfl|rfl<;>rfl) (by omega) (by decide) (AR Y4.o.size ((Ext.refl w4).alloc _).size) ?_;intro A5 c5 w5 o5 g5 h5;clear h5;have Y5:H0 (Ext wr w5):=j6 (Ext.grown (Y4.o.alloc _) g5 (λk e=>(O4.o.lt k e).1));have O5:=j6 o5;clear o5 g5;have p3:=TI)
      | (at_builtin;clear p3;refine Ab _ Ao wr.heap.size _ _ rfl rfl A5 (0+1) c5 _ rfl O5.o _ (n) (c) (Ah (L.drop 0)) rfl ((Sl.ext (by have:=SD.o;rw[if_neg hcj]at this;simpa [Addr.add] using this) Y5.o)) (Bz _) (by omega) (by decide) Y5.o.size ?_;intro A6 c6 w6 o6 g6 h6;clear h6;have Y6:H0 (Ext wr w6):=j6 (Ext.grown Y5.o g6 (λk e=>(O5.o.lt k e).1));have O6:=j6 o6;clear o6 g6)
      | fail)
     go_ret;exact Ml (k:=0) (m:=0+1+(n)) hn.o (by omega) hs.o (λj e=>by omega) HD.o (by omega) (by have:=O6.o;rw[E.o];exact this) ((XB.o.trans HE.o).trans Y6.o) (XB.o.trans HE.o).size
  | succ j =>
   have F:j<L.length:=by rw[<-hn.o];omega
   have g:∀W,Ext wb W->∃ad,A=some ad/\W.cell? (ad.add (j*4))=some (.slice (L.getD j Ud.zero).A (L.getD j Ud.zero).l.length (L.getD j Ud.zero).c) /\
     W.cell? ⟨(ad.add (j*4)).block,(ad.add (j*4)).off+1,none⟩=some (.int .u64 (L.getD j Ud.zero).t.e)/\W.cell? ⟨(ad.add (j*4)).block,(ad.add (j*4)).off+2,none⟩=some (.slice (L.getD j Ud.zero).t.A (L.getD j Ud.zero).t.l.length (L.getD j Ud.zero).t.c) /\
     W.cell? ⟨(ad.add (j*4)).block,(ad.add (j*4)).off+3,none⟩=some (.int .i64 (L.getD j Ud.zero).d):=λW q=>((h.o.ext XB.o).ext q).at F
   have⟨ad,eA,_⟩:=g wb (Ext.refl _);have P:∀W,Ext wb W->UdR W (L.getD j Ud.zero):=λW q=>((h.o.ls _ (As F)).ext XB.o).ext q;have M:=uL.o _ (As F);have C:L.drop j=L.getD j Ud.zero::L.drop (j+1):=Xe F;have⟨y,hy⟩:=tz (L.getD j Ud.zero);simp only[hy,eA,EX,exists_eq_left']at g P M C;have⟨ny,R⟩:=E9 y.l.length;have⟨ty,N⟩:=E9 y.t.l.length;simp only[<-R,<-N]at g;have H:=j6 R;have I:=j6 N;have HY:=j6 hy;have K:=j6 P;have r:H0 (U32 y.t.l):=j6 M.1;have D:ty<=1000000:=by rw[N];exact M.2
   have a8:=j6 C;have T:=j6 (λW q=>(g W q).1);have U:=j6 (λW q=>(g W q).2.1);have Y:=j6 (λW q=>(g W q).2.2.1);have Z:=j6 (λW q=>(g W q).2.2.2);have⟨v,hv⟩:=tz (UdS.cmpC y x);have HV:=j6 hv;subst eA;clear g P M hy R N hv C F;have za:decide ((0:Int)<(j:Int)+1)=true:=decide_eq_true (by omega);have s0:∀z:Xt wr.drew,z.W.cell? (ad.add (j*4))=some (.slice y.A ny y.c):=λz=>T.o _ ((HE.o.trans X).trans z.x);have s1:∀z:Xt wr.drew,z.W.cell? ⟨(ad.add (j*4)).block,(ad.add (j*4)).off+1,none⟩=some (.int .u64 y.t.e):=λz=>U.o _ ((HE.o.trans X).trans z.x);have s2:∀z:Xt wr.drew,z.W.cell? ⟨(ad.add (j*4)).block,(ad.add (j*4)).off+2,none⟩=some (.slice y.t.A ty y.t.c):=λz=>Y.o _ ((HE.o.trans X).trans z.x);have s3:∀z:Xt wr.drew,z.W.cell? ⟨(ad.add (j*4)).block,(ad.add (j*4)).off+3,none⟩=some (.int .i64 y.d):=λz=>Z.o _ ((HE.o.trans X).trans z.x);by_cases hp:0<v
   ·have zv:decide (0<v)=true:=decide_eq_true hp;have HP:=j6 hp;clear hp
    go_upto_region 2 with fail
    refine wro [0,1,3,7,7,23,63,127,7,511,1023,2047] (.flo [0,1,2,3,4,5,6,7,8] (.one 9 (.flo [10,11] (.fin)))) ?_
    (refine Aa (pks rfl) ?_;(repeat (go_big_quiet_step (fail)));refine oq ?_)
    refine Ac (pks rfl) ?_;intro K_ i;go_wp2_with (go_at_call 194;refine(Nc y x ny nx ty tx _ _ HV H hnx I htx (j6 (K.o _ (HE.o.trans X))) (j6 (J.o _ (HE.o.trans X))) r ux D h8).mono ?_;rintro e w3 ⟨rfl,x3⟩)
    (refine Aa (pks rfl) ?_;(repeat (go_big_quiet_step (fail)));refine oq ?_)
    refine Ad ?_;go_wp2
    go_roundg j
    case measure=>omega
    case rel=>exact⟨j,rfl,by omega,by go_num,j6 (λz hz=>by rw[a8.o]at hz;rcases AY.1 hz with rfl|hz;(rw[HV.o];exact HP.o);exact HD.o z hz),j6 (HE.o.trans (X.trans x3))⟩
   ·have zv:decide (0<v)=false:=decide_eq_false hp;replace hp:=j6 hp
    go_upto_region 2 with fail
    refine wro [0,1,3,7,7,23,63,127,7,511,1023,2047] (.flo [0,1,2,3,4,5,6,7,8] (.one 9 (.flo [10,11] (.fin)))) ?_
    (refine Aa (pks rfl) ?_;(repeat (go_big_quiet_step (fail)));refine oq ?_)
    refine Ac (pks rfl) ?_;intro K_ i;go_wp2_with (go_at_call 194;refine(Nc y x ny nx ty tx _ _ HV H hnx I htx (j6 (K.o _ (HE.o.trans X))) (j6 (J.o _ (HE.o.trans X))) r ux D h8).mono ?_;rintro e w3 ⟨rfl,x3⟩)
    (refine Aa (pks rfl) ?_;(repeat (go_big_quiet_step (fail)));refine oq ?_)
    refine Ad ?_;clear s0 s1 s2 s3;have HE:=j6 (HE.o.trans (X.trans x3));clear q0 q1 q2 q3 X;obtain⟨wr,f⟩:∃W:World,W=w3:=⟨_,rfl⟩;rw[<-f]at HE ⊢;clear f x3;have X:Ext wr wr.drew:=(Ext.refl wr).drew;have q0:∀z:Xt wr.drew,z.W.cell? ⟨gu,0,none⟩=some (.slice x.A nx x.c):=λz=>(BU.o.ext ((HE.o.trans X).trans z.x)).cell 0;have q1:∀z:Xt wr.drew,z.W.cell? ⟨gu,1,none⟩=some (.int .u64 x.t.e):=λz=>(BU.o.ext ((HE.o.trans X).trans z.x)).cell 1;have q2:∀z:Xt wr.drew,z.W.cell? ⟨gu,2,none⟩=some (.slice x.t.A tx x.t.c):=λz=>(BU.o.ext ((HE.o.trans X).trans z.x)).cell 2;have q3:∀z:Xt wr.drew,z.W.cell? ⟨gu,3,none⟩=some (.int .i64 x.d):=λz=>(BU.o.ext ((HE.o.trans X).trans z.x)).cell 3;have s0:∀z:Xt wr.drew,z.W.cell? (ad.add (j*4))=some (.slice y.A ny y.c):=λz=>T.o _ ((HE.o.trans X).trans z.x);have s1:∀z:Xt wr.drew,z.W.cell? ⟨(ad.add (j*4)).block,(ad.add (j*4)).off+1,none⟩=some (.int .u64 y.t.e):=λz=>U.o _ ((HE.o.trans X).trans z.x);have s2:∀z:Xt wr.drew,z.W.cell? ⟨(ad.add (j*4)).block,(ad.add (j*4)).off+2,none⟩=some (.slice y.t.A ty y.t.c):=λz=>Y.o _ ((HE.o.trans X).trans z.x);have s3:∀z:Xt wr.drew,z.W.cell? ⟨(ad.add (j*4)).block,(ad.add (j*4)).off+3,none⟩=some (.int .i64 y.d):=λz=>Z.o _ ((HE.o.trans X).trans z.x);by_cases hv0:v=0
    ·have b6:=j6 hv0;subst hv0
     go_upto_region 4 with fail
     refine wro [0,1,3,7,7,23,63,127,7,511,1023,2047] (.flo [0,1,2,3,4,5,6,7,8] (.one 9 (.flo [10,11] (.fin)))) ?_
     (refine Aa (pks rfl) ?_;(repeat (go_big_quiet_step (fail)));refine oq ?_)
     refine Ac (pks rfl) ?_;intro K_ i;go_wp2_with (go_at_call 194;refine(Nc y x ny nx ty tx _ _ HV H hnx I htx (j6 (K.o _ (HE.o.trans X))) (j6 (J.o _ (HE.o.trans X))) r ux D h8).mono ?_;rintro e w3 ⟨rfl,x3⟩)
     (refine Aa (pks rfl) ?_;(repeat (go_big_quiet_step (fail)));refine oq ?_)
     refine Ad ?_;have HE:=j6 (HE.o.trans (X.trans x3));clear q0 q1 q2 q3 s0 s1 s2 s3 X;obtain⟨wr,f⟩:∃W:World,W=w3:=⟨_,rfl⟩;rw[<-f]at HE ⊢;clear f x3;have SL:H0 (Sl wr 4 (some ad) n c (Ah L)):=j6 (by have:=(h.o.ext (XB.o.trans HE.o)).sl;rwa [<-hn.o]at this);have⟨s,S⟩:=tz (w64 (y.d+x.d));have b5:IntKind.i64.wrap (y.d+x.d)=s:=S;replace S:=j6 S
     go_upto_region 7 with (first
      | (at_builtin;refine Ab _ Ao wr.heap.size _ _ rfl rfl none 0 0 [] rfl (Own.nil _ _ _ _) (some ad) n c (Ah L) rfl SL.o (Bz _) (by omega) (by decide) (AD _) ?_;intro A4 c4 w4 o4 g4 h4;clear h4;have y4:Ext wr w4:=Ext.grown (Ext.refl _) g4 (λk e=>nomatch e);have o4:Own w4 wr.heap.size 95 4 A4 n c4 (Ah L):=(by have:=o4;rwa [BV,BD]at this);have hf:=o4.form (show 0<n by omega);obtain⟨b3,b2,_,a5,_,a2,a4⟩:=hf;subst b2;have O4:=j6 o4;have Y4:=j6 y4;have a9:=j6 a5;have d3:=a2 (j*4+3) (.int .i64 y.d) (by rw[Em L j 3 (by rw[<-hn.o];omega) (by omega),HY.o];rfl);have f3:=a4 (j*4+3);clear o4 g4 a5 a2 a4)
      | fail)
     have X:Ext w4 w4.drew:=(Ext.refl w4).drew;have e3:∀z:Xt w4.drew,z.W.cell? ⟨b3,j*4+3,none⟩=some (.int .i64 y.d):=λz=>(X.trans z.x).cell d3;have u3:∀z:Xt w4.drew,z.W.cell? ⟨gu,3,none⟩=some (.int .i64 x.d):=λz=>(BU.o.ext (((HE.o.trans Y4.o).trans X).trans z.x)).cell 3;have a7:=j6 (a0s (B:=wr.heap.size) (n:=n) (x:=x) hn.o (by omega) hs.o HY.o HV.o S.o (AR (XB.o.trans HE.o).size a9.o) (O4.o.ext X) (((XB.o.trans HE.o).trans Y4.o).trans X) (XB.o.trans HE.o).size);refine wro [0,0,2,7,15,31,0,64,255,511,1023,2047] (.flo [0,1,2,3,4,5,6,7,8,9,10] (.one 11 (.fin))) ?_
     (refine Aa (pks rfl) ?_;(repeat (go_big_quiet_step (fail)));refine oq ?_)
     refine Ac (pks rfl) ?_;intro K_ i;go_wp2;refine Ad ?_;go_wp2;go_ret;exact a7.o
    ·have b8:(v==0)=false:=by simpa using hv0
     have a1:H0 (Hy y.k x.k<0):=j6 (by have a:=hp.o;have b:=HV.o;show UdS.cmpC y x<0;omega);clear hv0
     go_upto_region 4 with fail
     refine wro [0,1,3,7,7,23,63,127,7,511,1023,2047] (.flo [0,1,2,3,4,5,6,7,8] (.one 9 (.flo [10,11] (.fin)))) ?_
     (refine Aa (pks rfl) ?_;(repeat (go_big_quiet_step (fail)));refine oq ?_)
     refine Ac (pks rfl) ?_;intro K_ i;go_wp2_with (go_at_call 194;refine(Nc y x ny nx ty tx _ _ HV H hnx I htx (j6 (K.o _ (HE.o.trans X))) (j6 (J.o _ (HE.o.trans X))) r ux D h8).mono ?_;rintro e w3 ⟨rfl,x3⟩)
     (refine Aa (pks rfl) ?_;(repeat (go_big_quiet_step (fail)));refine oq ?_)
     refine Ad ?_;clear s0 s1 s2 s3;have HE:=j6 (HE.o.trans (X.trans x3));clear q0 q1 q2 q3 X;obtain⟨wr,f⟩:∃W:World,W=w3:=⟨_,rfl⟩;rw[<-f]at HE ⊢;clear f x3;have ST:H0 (Sl wr 4 (some ad) (j+1) c (Ah (L.take (j+1)))):=j6 ((h.o.ext (XB.o.trans HE.o)).takeS hn.o hk);have SD:H0 (Sl wr 4 (if c=j+1 then some ad else (some ad:Option Addr).map (·.add ((j+1)*4))) (n-(j+1)) (c-(j+1)) (Ah (L.drop (j+1)))):=j6 ((h.o.ext (XB.o.trans HE.o)).dropS hn.o hk);by_cases hcj:c=j+1
     ·obtain rfl:n=j+1:=by omega
      subst hcj;have p1:=TI;go_wp2_with (first
       | (at_builtin;clear p1;refine Ab _ Ao wr.heap.size _ _ rfl rfl none 0 0 [] rfl (Own.nil _ _ _ _) (some ad) (j+1) (j+1) (Ah (L.take (j+1))) rfl ST.o (Bz _) (by omega) (by decide) (AD _) ?_;intro A4 c4 w4 o4 g4 h4;clear h4;have y4:Ext wr w4:=Ext.grown (Ext.refl _) g4 (λk e=>nomatch e);have O4:H0 (Own w4 wr.heap.size 95 4 A4 (j+1) c4 (Ah (L.take (j+1)))):=j6 (by have:=o4;rwa [BV,BD]at this);have e0:=(BU.o.ext (HE.o.trans y4)).cell 0;have e1:=(BU.o.ext (HE.o.trans y4)).cell 1;have e2:=(BU.o.ext (HE.o.trans y4)).cell 2;have e3:=(BU.o.ext (HE.o.trans y4)).cell 3;have Y4:=j6 y4;clear o4 g4 y4;have p2:=TI)
       | (at_builtin;clear p2;refine Ab _ Ao wr.heap.size _ _ rfl rfl A4 (j+1) c4 (Ah (L.take (j+1))) rfl (O4.o.alloc _) (some ⟨w4.heap.size,0,none⟩) 1 1 [.slice x.A nx x.c,.int .u64 x.t.e,.slice x.t.A tx x.t.c,.int .i64 x.d] rfl (Sl.one w4 #[.slice x.A nx x.c,.int .u64 x.t.e,.slice x.t.A tx x.t.c,.int .i64 x.d] 95 4 rfl) (by intro u hu;simp at hu;rcases hu with rfl|rfl|rfl|rfl<;>rfl) (by omega) (by decide) (AR Y4.o.size ((Ext.refl w4).alloc _).size) ?_;intro A5 c5 w5 o5 g5 h5;clear h5;have Y5:H0 (Ext wr w5):=j6 (Ext.grown (Y4.o.alloc _) g5 (λk e=>(O4.o.lt k e).1));have O5:=j6 o5;clear o5 g5;have p3:=TI)
       | (at_builtin;clear p3;refine Ab _ Ao wr.heap.size _ _ rfl rfl A5 ((j+1)+1) c5 _ rfl O5.o _ (0) (0) (Ah (L.drop (j+1))) rfl ((Sl.ext (by have:=SD.o;rw[if_pos rfl,DQ]at this;exact this) Y5.o)) (Bz _) (by omega) (by decide) Y5.o.size ?_;intro A6 c6 w6 o6 g6 h6;clear h6;have Y6:H0 (Ext wr w6):=j6 (Ext.grown Y5.o g6 (λk e=>(O5.o.lt k e).1));have O6:=j6 o6;clear o6 g6)
       | fail)
      go_ret;exact Ml (k:=(j+1)) (m:=(j+1)+1+(0)) hn.o (by omega) hs.o (λj' e=>by obtain rfl:j=j':=(by omega);rw[HY.o];exact a1.o) HD.o (by omega) (by have:=O6.o;rw[E.o];exact this) ((XB.o.trans HE.o).trans Y6.o) (XB.o.trans HE.o).size
     ·have p1:=TI;go_wp2_with (first
       | (at_builtin;clear p1;refine Ab _ Ao wr.heap.size _ _ rfl rfl none 0 0 [] rfl (Own.nil _ _ _ _) (some ad) (j+1) c (Ah (L.take (j+1))) rfl ST.o (Bz _) (by omega) (by decide) (AD _) ?_;intro A4 c4 w4 o4 g4 h4;clear h4;have y4:Ext wr w4:=Ext.grown (Ext.refl _) g4 (λk e=>nomatch e);have O4:H0 (Own w4 wr.heap.size 95 4 A4 (j+1) c4 (Ah (L.take (j+1)))):=j6 (by have:=o4;rwa [BV,BD]at this);have e0:=(BU.o.ext (HE.o.trans y4)).cell 0;have e1:=(BU.o.ext (HE.o.trans y4)).cell 1;have e2:=(BU.o.ext (HE.o.trans y4)).cell 2;have e3:=(BU.o.ext (HE.o.trans y4)).cell 3;have Y4:=j6 y4;clear o4 g4 y4;have p2:=TI)
       | (at_builtin;clear p2;refine Ab _ Ao wr.heap.size _ _ rfl rfl A4 (j+1) c4 (Ah (L.take (j+1))) rfl (O4.o.alloc _) (some ⟨w4.heap.size,0,none⟩) 1 1 [.slice x.A nx x.c,.int .u64 x.t.e,.slice x.t.A tx x.t.c,.int .i64 x.d] rfl (Sl.one w4 #[.slice x.A nx x.c,.int .u64 x.t.e,.slice x.t.A tx x.t.c,.int .i64 x.d] 95 4 rfl) (by intro u hu;simp at hu;rcases hu with rfl|rfl|rfl|rfl<;>rfl) (by omega) (by decide) (AR Y4.o.size ((Ext.refl w4).alloc _).size) ?_;intro A5 c5 w5 o5 g5 h5;clear h5;have Y5:H0 (Ext wr w5):=j6 (Ext.grown (Y4.o.alloc _) g5 (λk e=>(O4.o.lt k e).1));have O5:=j6 o5;clear o5 g5;have p3:=TI)
       | (at_builtin;clear p3;refine Ab _ Ao wr.heap.size _ _ rfl rfl A5 ((j+1)+1) c5 _ rfl O5.o (some (ad.add ((j+1)*4))) (n-(j+1)) (c-(j+1)) (Ah (L.drop (j+1))) rfl ((Sl.ext (by have:=SD.o;rw[if_neg hcj]at this;exact this) Y5.o)) (Bz _) (by omega) (by decide) Y5.o.size ?_;intro A6 c6 w6 o6 g6 h6;clear h6;have Y6:H0 (Ext wr w6):=j6 (Ext.grown Y5.o g6 (λk e=>(O5.o.lt k e).1));have O6:=j6 o6;clear o6 g6)
       | fail)
      go_ret;exact Ml (k:=(j+1)) (m:=(j+1)+1+(n-(j+1))) hn.o (by omega) hs.o (λj' e=>by obtain rfl:j=j':=(by omega);rw[HY.o];exact a1.o) HD.o (by omega) (by have:=O6.o;rw[E.o];exact this) ((XB.o.trans HE.o).trans Y6.o) (XB.o.trans HE.o).size
namespace UdS
def eP:∀(R:List V) (x y:V),y∈addV R x->y.1=x.1\/∃z∈R,z.1=y.1
 | [],x,y,h=>.inl (by rw[AE.1 h])
 | a::R,x,y,h=>by
  unfold addV at h;split at h
  ·rcases AY.1 h with rfl|h
   ·exact .inr ⟨_,BC ..,rfl⟩
   ·rcases eP R x y h with q|⟨z,hz,q⟩
    ·exact .inl q
    ·exact .inr ⟨z,BM _ hz,q⟩
  ·split at h
   ·rcases AY.1 h with rfl|h
    ·exact .inr ⟨_,BC ..,rfl⟩
    ·exact .inr ⟨y,BM _ h,rfl⟩
   ·rcases AY.1 h with rfl|h
    ·exact .inl rfl
    ·exact .inr ⟨y,h,rfl⟩
def Un{L:List Ud}:∀(i:Nat) (y:V),y∈Fh L i->∃x∈L,x.k=y.1
 | 0,y,h=>by unfold Fh at h;simp at h
 | i+1,y,h=>by
  by_cases hi:i<L.length
  ·rw[Qz hi rfl]at h;rcases eP _ _ _ h with q|⟨z,hz,q⟩
   ·exact⟨_,As hi,q.symm⟩
   ·have⟨x,hx,e⟩:=Un i z hz;exact⟨x,hx,e.trans q⟩
  ·have e:Fh L (i+1)=Fh L i:=by unfold Fh;rw[AW (by omega),AW (by omega)]
   rw[e]at h;exact Un i y h
end UdS
def Lo(w1 wr:World)(M:List Ud)(j:Nat)(A:Option Addr)(m c:Nat):Prop:=m=((M.take j).filter UdS.nzC).length/\Own wr w1.heap.size 95 4 A m c (Ah ((M.take j).filter UdS.nzC))/\Ext w1 wr
def Lo.skip{M:List Ud}{x:Ud}(h:Lo w1 wr M j A m c)(hj:j<M.length)(hx:M.getD j Ud.zero=x)(hz:(x.d==0)=true):Lo w1 wr M (j+1) A m c:=by
 have e:(M.take (j+1)).filter UdS.nzC=(M.take j).filter UdS.nzC:=by
  rw[Iy hj,hx,CT];have:[x].filter UdS.nzC=[]:=by simp[UdS.nzC,hz]
  rw[this,AV]
 unfold Lo;rw[e];exact h
def Lo.more{M:List Ud}{c2:Nat}{x:Ud}(h:Lo w1 wr M j A m c)(hj:j<M.length)(hx:M.getD j Ud.zero=x)(hz:(x.d==0)=false)(hm:m2=m+1)
  (o:Own w2 w1.heap.size 95 4 A2 m2 c2 (Ah ((M.take j).filter UdS.nzC)++udC x)) (X:Ext w1 w2):Lo w1 w2 M (j+1) A2 m2 c2:=by
 have e:(M.take (j+1)).filter UdS.nzC=(M.take j).filter UdS.nzC++[x]:=by
  rw[Iy hj,hx,CT];have:[x].filter UdS.nzC=[x]:=by simp[UdS.nzC,hz]
  rw[this]
 unfold Lo;rw[e,AA,Au];exact⟨by rw[hm,h.1];rfl,by rw[show Ah [x]=udC x by simp[Ah]];exact o,X⟩
def iG(w wr:World)(L:List Ud)(i:Nat)(A:Option Addr)(m c:Nat):Prop:=∃M,m=M.length/\Uin wr A c M/\M.map Ud.uv=UdS.Fh L i/\(∀y∈M,∃x∈L,Ko y x)/\Ext w wr
def xS{L M M4:List Ud}{x:Ud}(hx:x∈L)(h:∀y∈M,∃z∈L,Ko y z)(h4:∀y∈M4,∃z∈x::M,Ko y z):∀y∈M4,∃z∈L,Ko y z:=λy hy=>by
 have⟨z,hz,a1,a2,a3,a4⟩:=h4 y hy;rcases AY.1 hz with rfl|hz
 ·exact⟨z,hx,a1,a2,a3,a4⟩
 ·have⟨q,hq,b1,b2,b3,b4⟩:=h z hz;exact⟨q,hq,a1.trans b1,a2.trans b2,a3.trans b3,a4.trans b4⟩
def In{V:List UV}(A:Option Addr)(c n:Nat)(L:List Ud)(w:World)(hV:H0 (UdS.sumV (L.map Ud.uv)=V))(hn:H0 (n=L.length))(h:H0 (Uin w A c L))(h9:n<=1000000)(hin:H0 (∀x∈L,UdS.InN x.uv))(uL:H0 (∀y∈L,U32 y.t.l/\y.t.l.length<=1000000)) :
  C3 24 #[.slice A n c] w (nC w L V):=by
 have H:H0 (iG w w L 0 none 0 0):=j6 ⟨[],rfl,Uin.nil _,rfl,λy hy=>(nomatch hy),Ext.refl w⟩;go_enter func24,ntmps24;go_wp2
 go_loopg [3,4] n (λz u v wr=>∃(i m c3:Nat) (A3:Option Addr),z=n-i/\i<=n/\m<=i/\u=.slice A3 m c3/\v=.int .i64 i/\H0 (iG w wr L i A3 m c3))
 case atStart=>exact⟨0,0,0,none,rfl,AG _,AD _,rfl,rfl,H⟩
 case round =>
  clear H;obtain⟨i,m,c3,A3,rfl,hi,a2,rfl,rfl,HP⟩:=hrel;by_cases hlt:i<n
  ·have⟨M,hM,hC,hv,hp,X⟩:=HP.o;have B:=j6 hp;have g:i<L.length:=by rw[<-hn.o];exact hlt
   obtain⟨ad,rfl,p0,p1,p2,p3⟩:=(h.o.ext X).at g;have hm:=As g;have⟨x,hx⟩:=tz (L.getD i Ud.zero);rw[hx]at p0 p1 p2 p3 hm;have⟨nx,f⟩:=E9 x.l.length;have⟨tx,a⟩:=E9 x.t.l.length;rw[<-f]at p0;rw[<-a]at p2;have I:=j6 ((h.o.ls x hm).ext X);have G:=j6 hC;have T:=j6 f;have W:=j6 a;have R:=j6 hM;have UX:H0 (U32 x.t.l):=j6 (uL.o x hm).1;have P:tx<=1000000:=by rw[a];exact(uL.o x hm).2
   have HS:H0 (UdS.Srt M):=j6 (UdS.Srt.of (by rw[hv];exact UdS.a2z hin.o i));have Q:H0 (∀y∈M,U32 y.t.l/\y.t.l.length<=1000000):=j6 (λy hy=>by
    have:y.uv∈UdS.Fh L i:=by rw[<-hv];exact AP.2 ⟨y,hy,rfl⟩
    have⟨z,hz,e⟩:=UdS.Un i _ this;have e2:z.t.l=y.t.l:=congrArg (λq:UK=>q.2.2) e;rw[<-e2];exact uL.o z hz)
   have HV:H0 (UdS.addV (M.map Ud.uv) x.uv=UdS.Fh L (i+1)):=j6 (by rw[UdS.Qz g hx,hv]);have a0:=j6 X;have Y:H0 (x∈L):=j6 hm;clear hM hC hv hp X g hm hx f a HP;go_wp2_with (go_at_call 118;refine(jU A3 c3 m M x nx tx _ HV R T W G I HS UX Q (by omega) P).mono ?_;rintro e w1 O;obtain⟨A4,m4,c4,M4,rfl,r,o4,p4,E,X4⟩:=O;have K:=xR o4 r p4 I.o G.o.ls X4;have a1:m4<=i+1:=(by rw[r];have q:=congrArg List.length E;rw[AN]at q;rw[q];exact UdS.iJ L (i+1));have U:H0 (iG w w1 L (i+1) A4 m4 c4):=j6 ⟨M4,r,K,E,xS Y.o B.o p4,a0.o.trans X4⟩;clear r K E X4 o4 p4)
   go_roundg (n-(i+1))
   case measure=>omega
   case rel=>exact⟨i+1,m4,c4,A4,rfl,by omega,a1,rfl,by go_num,U⟩
  ·obtain rfl:i=n:=by omega
   have⟨M,hM,hC,hv,hp,X⟩:=HP.o;have B:=j6 hp;clear hp;obtain⟨w1,N⟩:∃w1:World,w1=wr:=⟨_,rfl⟩;rw[<-N]at hC X ⊢;clear N;have HM:=j6 hM;have HC:=j6 hC;have S:=j6 hv;have HX:=j6 X;have F:H0 (Lo w1 w1 M 0 none 0 0):=j6 ⟨rfl,Own.nil _ _ _ _,Ext.refl _⟩;clear hM hC hv X HP;go_wp2
   go_loopg [5,6] m (λz u v wr=>∃(j n5 c5:Nat) (A5:Option Addr),z=m-j/\j<=m/\n5<=j/\u=.slice A5 n5 c5/\v=.int .i64 j/\H0 (Lo w1 wr M j A5 n5 c5))
   case atStart=>exact⟨0,0,0,none,rfl,AG _,AD _,rfl,rfl,F⟩
   case round =>
    clear F;obtain⟨j,n5,c5,A5,rfl,hj,a3,rfl,rfl,HQ⟩:=hrel;by_cases hlt:j<m
    ·have D:j<M.length:=by rw[<-HM.o];exact hlt
     obtain⟨ad,rfl,p0,p1,p2,p3⟩:=(HC.o.ext HQ.o.2.2).at D;have⟨x,hx⟩:=tz (M.getD j Ud.zero);rw[hx]at p0 p1 p2 p3;have⟨nx,f⟩:=E9 x.l.length;have⟨tx,a⟩:=E9 x.t.l.length;rw[<-f]at p0;rw[<-a]at p2;have HJ:=j6 D;have J:=j6 hx;have Z:H0 (udC x=[.slice x.A nx x.c,.int .u64 x.t.e,.slice x.t.A tx x.t.c,.int .i64 x.d]):=j6 (by rw[f,a];rfl);clear D hx f a;cases hz:(x.d==0)
     ·have HZ:=j6 hz;go_wp2_with (at_builtin;refine Ab _ Ao w1.heap.size _ _ rfl rfl A5 n5 c5 (Ah ((M.take j).filter UdS.nzC)) rfl (Own.alloc HQ.o.2.1 _) (some ⟨wr.heap.size,0,none⟩) 1 1 [.slice x.A nx x.c,.int .u64 x.t.e,.slice x.t.A tx x.t.c,.int .i64 x.d] rfl (Sl.one wr #[.slice x.A nx x.c,.int .u64 x.t.e,.slice x.t.A tx x.t.c,.int .i64 x.d] 95 4 rfl) (by intro u hu;simp at hu;rcases hu with rfl|rfl|rfl|rfl<;>rfl) (by omega) (by decide) (by have:=Ext.size HQ.o.2.2;simp;omega) ?_;intro A6 c6 w6 o6 g6 h6;clear h6;have C:=j6 (Lo.more (m2:=n5+1) HQ.o HJ.o J.o HZ.o rfl (by rw[Z.o];exact o6) (Ext.grown (Ext.alloc HQ.o.2.2 _) g6 (λk e=>(HQ.o.2.1.lt k e).1)));clear o6 g6)
      go_roundg (m-(j+1))
      case measure=>omega
      case rel=>exact⟨j+1,n5+1,c6,A6,rfl,by omega,by omega,rfl,by go_num,C⟩
     ·have C:=j6 (HQ.o.skip HJ.o J.o hz);go_wp2
      go_roundg (m-(j+1))
      case measure=>omega
      case rel=>exact⟨j+1,n5,c5,A5,rfl,by omega,by omega,rfl,by go_num,C⟩
    ·obtain rfl:j=m:=by omega
     have HE:H0 (nC w L V (.returned (.slice A5 n5 c5)) wr):=j6 (by
      have⟨q1,q2,q3⟩:=HQ.o;rw[AW (by rw[<-HM.o];exact AD _)]at q1 q2;refine⟨A5,n5,c5,M.filter UdS.nzC,rfl,q1,q2.mono HX.o.size,λy hy=>B.o y (BI.1 hy).1,?_,HX.o.trans q3⟩;have e:M.map Ud.uv=UdS.sumAll (L.map Ud.uv):=by rw[S.o];unfold UdS.Fh UdS.sumAll;rw[AW (by rw[<-hn.o];exact AD _)]
      rw[<-hV.o];unfold UdS.sumV;rw[<-e,EE];rfl)
     go_wp2;go_ret;exact HE.o
def Jk:Gr prog 78 204 4 32 (.agg #[.int .u8 0,.bool false,.int .i64 0,.string ⟨#[]⟩]):=⟨by kernel_rfl,by kernel_rfl,rfl,by decide⟩
def Tr(n:Nat):Obj:=.cells (madeCells #[.int .u8 0,.bool false,.int .i64 0,.string ⟨#[]⟩] (n*4)) 204
def pD(n:Nat)(hn:n<=1000000000)(W:World):(Instr.makeSlice 78 (.int .i64 0) (.int .i64 (n:Int))).run prog W=.ok (.slice (some ⟨W.heap.size,0,none⟩) 0 n) (W.alloc (Tr n)):=by
 have⟨i,hi,hz,hs,hb⟩:=info_parts Jk.info;have:=run_make (P:=prog) (w:=W) 78 204 i _ Jk.under hi hz .i64 .i64 0 (n:Int) (DX _) (by omega) (by rw[hb];omega) (by omega);rw[hs]at this;exact this
def vG(W:World)(n:Nat)(hn:n<=1000000000):Own (W.alloc (Tr n)) W.heap.size 204 4 (some ⟨W.heap.size,0,none⟩) 0 n []:=
 ⟨rfl,.inr ⟨W.heap.size,_,rfl,AD _,heap_alloc_new W _,AG _,by unfold maxLen;omega,ET (size_madeCells _ _).symm,rfl⟩⟩
def bZ(k:Int):Dat:=⟨k,false,0,⟨#[]⟩⟩
def Ie:List Dat:=[bZ 91,bZ 92]
def a1n(w:World)(n:Nat)(l:List Dat)(e:Ending)(w':World):Prop:=∃g,e=.returned (.slice (some ⟨g,0,none⟩) n (n+2))/\w.heap.size<=g/\Own w' w.heap.size 204 4 (some ⟨g,0,none⟩) (n+2) (n+2) (Dd (l++Ie))/\Ext w w'
def gA(A:Option Addr)(c n:Nat)(l:List Dat)(w:World)(hn:n=l.length)(h:Rw w A c l)(hs:n<=1000000) :
  C3 99 #[.slice A n c] w (a1n w n l):=by
 have HN:=j6 hn;have H:=j6 h;have a:=pD (n+2) (by omega);have d:∀W:World,(Instr.makeSlice 78 (.int .i64 0) (.int .i64 ((n:Int)+2))).run prog W=.ok (.slice (some ⟨W.heap.size,0,none⟩) 0 (n+2)) (W.alloc (Tr (n+2))):=a;have m1:=TI;clear hn h a;go_enter func99,ntmps99;go_wp2_with (first
  | (at_builtin;have mk:=m1;clear m1;refine Bj _ Jk w.heap.size _ _ rfl rfl w.heap.size 0 (n+2) [] rfl (vG w (n+2) (by omega)) (by omega) A n c (Dd l) rfl (by rw[HN.o];exact Sl.ext H.o ((Ext.refl w).alloc _)) (Ti l) (by omega) ?_;intro w1 o1 g1;have O1:=j6 o1;have X1:Ext w w1:=((Ext.refl w).alloc _).grown g1 (λk e=>by cases e;exact AD _);have m2:=TI;clear o1 g1)
  | (at_builtin;have mk:=m2;refine Bj _ Jk w.heap.size _ _ rfl rfl w.heap.size n (n+2) (Dd l) rfl (by have:=O1.o.alloc (.cells (#[.int .u8 91,.bool false,.int .i64 0,.string ⟨#[]⟩,.int .u8 92,.bool false,.int .i64 0,.string ⟨#[]⟩]:Array Value) 204);rwa [BD,BV]at this) (by omega) (some ⟨w1.heap.size,0,none⟩) 2 2 (Dd Ie) rfl (Hq w1 _ _ _ 4 2 rfl rfl (by decide)) (Ti Ie) (by omega) ?_;intro w2 o2 g2;have O2:=j6 o2;have X2:Ext w w2:=(X1.alloc _).grown g2 (λk e=>by cases e;exact AD _);clear o2 g2))
 go_ret;exact⟨w.heap.size,by simp,AD _,by have:=O2.o;rwa [<-fF]at this,X2⟩
def fZ(A:Option Addr)(c n:Nat)(l:List Dat)(w:World)(hn:H0 (n=l.length))(h:H0 (Rw w A c l))(hs:n<=1000000) :
  C3 99 #[.slice A n c] w (a1n w n l):=gA A c n l w hn.o h.o hs
def addV_split:∀(P R:List V) (x:V),(∀y∈P,cmpV y x<0)->addV (P++R) x=P++addV R x
 | [],_,_,_=>rfl
 | y::P,R,x,h=>by
  show(if cmpV y x<0 then y::addV (P++R) x else _)=_;rw[if_pos (h y (BC ..)),addV_split P R x (λz hz=>h z (BM _ hz))];rfl
def addV_eq(y x:V)(R:List V)(h:cmpV y x=0):addV (y::R) x=(y.1,w64 (y.2+x.2))::R:=by
 show(if cmpV y x<0 then _ else if cmpV y x=0 then _ else _)=_;rw[if_neg (by omega),if_pos h]
def addV_gt(y x:V)(R:List V)(h:0<cmpV y x):addV (y::R) x=x::y::R:=by
 show(if cmpV y x<0 then _ else if cmpV y x=0 then _ else _)=_;rw[if_neg (by omega),if_neg (by omega)]
def Yk:∀(L:List Ct) (k:Nat),(Az L).take (k*2)=Az (L.take k)
 | [],k=>by simp[Az]
 | d::l,0=>rfl
 | d::l,k+1=>by
  unfold Az;rw[BQ,List.take_succ_cons,BQ,IA,show(ctC d).length=2 from rfl,AW (show(ctC d).length<=(k+1)*2 by rw[show(ctC d).length=2 from rfl];omega),show(k+1)*2-2=k*2 by omega];exact congrArg _ (Yk l k)
def Yl:∀(L:List Ct) (k:Nat),(Az L).drop (k*2)=Az (L.drop k)
 | [],k=>by simp[Az]
 | d::l,0=>rfl
 | d::l,k+1=>by
  unfold Az;rw[BQ,List.drop_succ_cons,IB,show(ctC d).length=2 from rfl,CV (show(ctC d).length<=(k+1)*2 by rw[show(ctC d).length=2 from rfl];omega),show(k+1)*2-2=k*2 by omega,BD];exact Yl l k
def Ev.takeS{L:List Ct}(h:Ev w A c L)(hn:n=L.length)(hi:i<=n):Sl w 2 A i c (Az (L.take i)):=by
 have:=Sl.take (k:=i) h.sl (by omega)
 rwa [Yk]at this
def Ev.dropS{L:List Ct}(h:Ev w A c L)(hn:n=L.length)(hi:i<=n):Sl w 2 (if c=i then A else A.map (·.add (i*2))) (n-i) (c-i) (Az (L.drop i)):=by
 have:=Sl.drop (k:=i) h.sl (by omega)
 rwa [Yl,<-hn]at this
def Ev.drop0{L:List Ct}(w:World)(A:Option Addr)(hn:n=L.length)(hi:n<=i):Sl w 2 A 0 0 (Az (L.drop i)):=by
 rw[DS (by omega)];exact⟨rfl,AD _,AG _,λ_=>rfl,λh=>absurd h (CW _)⟩
def Ev.drop3{L:List Ct}(w:World)(a:Addr)(hn:n=L.length)(hi:n<=i)(hc:c<=9223372036854775807):Sl w 2 (some a) 0 c (Az (L.drop i)):=by
 rw[DS (by omega)];exact⟨rfl,AG _,by unfold maxLen;omega,(λh=>nomatch h),λh=>absurd h (CW _)⟩
def Ev.drop2{L:List Ct}(h:Ev w (some ad) c L)(hn:n=L.length)(hi:i<=n)(hc:¬c=i):Sl w 2 (some (ad.add (i*2))) (n-i) (c-i) (Az (L.drop i)):=by
 have:=h.dropS hn hi
 rwa [if_neg hc]at this
def Od(y x:Ct):Prop:=y.A=x.A/\y.c=x.c/\y.l=x.l
def Nt(w:World)(L:List Ct)(rA:Option Addr)(rc:Nat)(rl:List Dat)(R:List V)(e:Ending)(w':World):Prop:=∃A m c M,e=.returned (.slice A m c)/\m=M.length/\Ev w' A c M/\(∀y∈M,(∃x∈L,Od y x)\/(y.A=rA/\y.c=rc/\y.l=rl))/\M.map Al=R/\Ext w w'
def mX{M L:List Ct}{rl:List Dat}{R:List V}(o:Own w' B 154 2 A m c xs)(hx:xs=Az M)(hm:m=M.length)(hr:∀x∈M,Rw w' x.A x.c x.l)(hp:∀y∈M,(∃x∈L,Od y x)\/(y.A=rA/\y.c=rc/\y.l=rl))(hv:M.map Al=R)(X:Ext w w'):Nt w L rA rc rl R (.returned (.slice A m c)) w' :=
 ⟨A,m,c,M,rfl,hm,⟨by subst hx hm;exact o.sl,hr⟩,hp,hv,X⟩
def Sp{L:List Ct}{rl:List Dat}{k:Int}(h:Ev w A c L)(hr:Rw w rA rc rl)(X:Ext w w')(hlt:∀y∈L.take i,Ba y.l rl<0)(hgt:∀y R,L.drop i=y::R->0<Ba y.l rl){B m c5:Nat}{A5:Option Addr}
  (hn:n=L.length) (hi:i<=n) (hm:m=n+1) (o:Own w' B 154 2 A5 m c5 (Az (L.take i)++[.slice rA rl.length rc,.int .i64 k]++Az (L.drop i))):Nt w L rA rc rl (addV (L.map Al) (rl,k)) (.returned (.slice A5 m c5)) w':=by
 refine mX (M:=L.take i++⟨rA,rc,rl,k⟩::L.drop i) o ?_ ?_ (λx hx=>?_) (λx hx=>?_) ?_ X
 ·rw[Fo,AK];rfl
 ·rw[AA,AJ,CE,CZ];omega
 ·rcases AQ.1 hx with hx|hx
  ·exact(h.rows x (CK hx)).ext X
  ·rcases AY.1 hx with rfl|hx
   ·exact hr.ext X
   ·exact(h.rows x (CY hx)).ext X
 ·rcases AQ.1 hx with hx|hx
  ·exact .inl ⟨x,CK hx,rfl,rfl,rfl⟩
  ·rcases AY.1 hx with rfl|hx
   ·exact .inr ⟨rfl,rfl,rfl⟩
   ·exact .inl ⟨x,CY hx,rfl,rfl,rfl⟩
 ·have e:L.map Al=(L.take i).map Al++(L.drop i).map Al:=by rw[<-AI,CF]
  rw[e,addV_split _ _ _ (λy hy=>by obtain⟨x,hx,rfl⟩:=AP.1 hy;exact hlt x hx),AI,CJ]
  congr 1
  cases hd:L.drop i with
  | nil=>rfl
  | cons y R =>
   rw[CJ,addV_gt _ _ _ (show 0<cmpV (Al y) (rl,k)from hgt y R hd)];rfl
def mW{L:List Ct}{x:Ct}{rl:List Dat}{k s:Int}(h:Ev w A c L)(X:Ext w w')(hlt:∀y∈L.take i,Ba y.l rl<0)(hx:L.getD i Ct.zero=x)(hc:Ba x.l rl=0)(hs:w64 (x.k+k)=s){B m c5:Nat}{A5:Option Addr}
  (hn:n=L.length) (hi:i<n) (hm:m=n) (o:Own w' B 154 2 A5 m c5 (Az (L.take i)++[.slice x.A x.l.length x.c,.int .i64 s]++Az (L.drop (i+1)))):Nt w L rA rc rl (addV (L.map Al) (rl,k)) (.returned (.slice A5 m c5)) w':=by
 have a:x∈L:=hx▸Dp (by omega);have hd:L.drop i=x::L.drop (i+1):=by
  rw[BY (by omega)]
  congr 1
  rw[<-hx,AB,AC (by omega)];rfl
 refine mX (M:=L.take i++⟨x.A,x.c,x.l,s⟩::L.drop (i+1)) o ?_ ?_ (λy hy=>?_) (λy hy=>?_) ?_ X
 ·rw[Fo,AK];rfl
 ·rw[AA,AJ,CE,CZ];omega
 ·rcases AQ.1 hy with hy|hy
  ·exact(h.rows y (CK hy)).ext X
  ·rcases AY.1 hy with rfl|hy
   ·exact(h.rows x a).ext X
   ·exact(h.rows y (CY hy)).ext X
 ·rcases AQ.1 hy with hy|hy
  ·exact .inl ⟨y,CK hy,rfl,rfl,rfl⟩
  ·rcases AY.1 hy with rfl|hy
   ·exact .inl ⟨x,hx▸Dp (by omega),rfl,rfl,rfl⟩
   ·exact .inl ⟨y,CY hy,rfl,rfl,rfl⟩
 ·have e:L.map Al=(L.take i).map Al++(L.drop i).map Al:=by rw[<-AI,CF]
  rw[e,addV_split _ _ _ (λy hy=>by obtain⟨x,hx,rfl⟩:=AP.1 hy;exact hlt x hx),AI,CJ,hd,CJ,addV_eq _ _ _ (show cmpV (Al x) (rl,k)=0 from hc),<-hs];rfl
def a0t(A rA:Option Addr)(c rc n rn:Nat)(L:List Ct)(rl:List Dat)(k:Int)(w:World)(hn:n=L.length)(hrn:rn=rl.length)(h:Ev w A c L)(hr:Rw w rA rc rl)(hs:n<=100000000) :
  C3 195 #[.slice A n c,.slice rA rn rc,.int .i64 k] w (Nt w L rA rc rl (addV (L.map Al) (rl,k))):=by
 have G:=h.sl.cap;rw[<-hn]at G;have HN:=j6 hn;have a:=j6 hrn;have H:=j6 h;have HR:=j6 hr;clear hn hrn h hr;go_enter func195,ntmps195;go_wp2
 go_loopw [7] (λv wr=>∃i:Nat,i<=n/\v=.int .i64 i/\H0 (∀y∈L.take i,Ba y.l rl<0)/\Ext w wr) (λv _=>n-(intOf v).toNat)
 case atStart=>exact⟨0,AG _,rfl,j6 (λy hy=>by simp at hy),Ext.refl _⟩
 case round =>
  obtain⟨i,hi,rfl,d,er⟩:=hrel;by_cases hlt:i<n
  ·have g:i<L.length:=by rw[<-HN.o];exact hlt
   have r:=(H.o.ext er).at g;have hm:=Dp g;have⟨x,hx⟩:=tz (L.getD i Ct.zero);rw[hx]at r hm;obtain⟨ad,eA,p0,p1⟩:=r;subst eA;have⟨nx,t⟩:=E9 x.l.length;rw[<-t]at p0;have f:=j6 t;have HX:=j6 hx;have E:=j6 g;have m:=j6 ((H.o.rows x hm).ext er);have j:=j6 (HR.o.ext er);have⟨v,hv⟩:=tz (Ba x.l rl);have HV:=j6 hv;have HD:H0 (L.drop i=x::L.drop (i+1)):=j6 (by
    rw[BY g]
    congr 1
    rw[<-hx,AB,AC g];rfl)
   clear g hm hx t hv;have m1:=TI;by_cases hv0:v<0
   ·have zv:decide (v<0)=true:=by simpa using hv0
    go_wp2_with (go_at_call 53;refine(Ek x.A rA x.c rc nx rn x.l rl _ HV f a m j).mono ?_;rintro e w1 ⟨rfl,x1⟩)
    go_roundw
    case rel=>exact⟨i+1,by omega,by go_num,j6 (by rw[Ef E.o,HX.o];exact λy hy=>by rcases AQ.1 hy with q|q;exact d.o y q;rw[AE.1 q,HV.o];exact hv0),er.trans x1⟩
    case measure=>simp[intOf];omega
   ·have zv:decide (v<0)=false:=by simpa using hv0
    have I:=er.size;by_cases hv1:v=0
    ·have⟨s,hs⟩:=tz (w64 (x.k+k));have K:IntKind.i64.wrap (x.k+k)=s:=hs;have HS:=j6 hs;subst hv1;clear hs
     go_upto_region 7 with (first
      | (go_at_call 53;clear m1;refine(Ek x.A rA x.c rc nx rn x.l rl _ HV f a (j6 (m.o.ext (Ext.refl _))) (j6 (j.o.ext (Ext.refl _)))).mono ?_;rintro e w1 ⟨rfl,x1⟩;have X1:=er.trans x1;have m2:=TI)
      | (at_builtin;clear m2;refine Ab _ Bo w1.heap.size _ _ rfl rfl none 0 0 [] rfl (Own.nil _ _ _ _) (some ad) i c (Az (L.take i)) rfl ((H.o.takeS HN.o hi).ext X1) (Ed _) (by omega) (by decide) (AD _) ?_;intro A3 c3 w3 o3 g3 h3;clear h3;have y3:Ext w1 w3:=Ext.grown (Ext.refl _) g3 (λk e=>nomatch e);have X3:=Ext.trans X1 y3;have O3:H0 (Own w3 w1.heap.size 154 2 A3 i c3 (Az (L.take i))):=j6 (by have:=o3;rwa [BV,BD]at this);clear o3 g3;have q0:=Ext.cell (x1.trans y3) p0;have q1:=Ext.cell (x1.trans y3) p1;have m3:=TI)
      | (go_at_call 53;clear m3;refine(Ek x.A rA x.c rc nx rn x.l rl _ HV f a (j6 (m.o.ext (x1.trans y3))) (j6 (j.o.ext (x1.trans y3)))).mono ?_;rintro e w4 ⟨rfl,x4⟩;have X4:=X3.trans x4;have O4:=j6 (O3.o.ext x4);have m4:=TI))
     have C:=Ext.cell (x1.trans (y3.trans x4)) p0;have D:=Ext.cell (x1.trans (y3.trans x4)) p1;have XE:Ext w4 w4.drew:=(Ext.refl w4).drew;have P0:∀z:Xt w4.drew,z.W.cell? (ad.add (i*2))=some (.slice x.A nx x.c):=λz=>(XE.trans z.x).cell C;have P1:∀z:Xt w4.drew,z.W.cell? ⟨(ad.add (i*2)).block,(ad.add (i*2)).off+1,none⟩=some (.int .i64 x.k):=λz=>(XE.trans z.x).cell D;clear p0 p1 C D;refine wro [0,0,0,6,14,30,0,0,192,448,960,0,4032,8190,16382,32767,65535] (.pur [0] (.flo [1,2,3,4,5,6,7,8,9,10,11,12,13] (.one 14 (.one 15 (.flo [16] (.fin)))))) ?_
     (refine Bi (pks rfl) ?_;(repeat (go_big_quiet_step (fail)));refine oq ?_)
     (refine Aa (pks rfl) ?_;(repeat (go_big_quiet_step (fail)));refine oq ?_)
     refine Ac (pks rfl) ?_;intro K_ F;go_wp2;refine Ac (pks rfl) ?_;intro K_ F;go_wp2_with (at_builtin;refine Ab _ Bo w1.heap.size _ _ rfl rfl A3 i c3 (Az (L.take i)) rfl (O4.o.drew.alloc _) (some ⟨w4.heap.size,0,none⟩) 1 1 [.slice x.A nx x.c,.int .i64 s] rfl (No _ _ _ _) (by intro u hu;simp at hu;rcases hu with rfl|rfl<;>rfl) (by omega) (by decide) (by have:=y3.size;have:=x4.size;simp;omega) ?_;intro A5 c5 w5 o5 g5 h5;clear h5;have X5:Ext w w5:=Ext.grown (X4.drew.alloc _) g5 (λk e=>AR X1.size (O4.o.lt k e).1);have y5:Ext w1 w5:=Ext.grown ((y3.trans x4).drew.alloc _) g5 (λk e=>(O4.o.lt k e).1);have O5:=j6 o5;clear o5 g5)
     go_simp
     (refine Aa (pks rfl) ?_;(repeat (go_big_quiet_step (fail)));refine oq ?_)
     refine Ad ?_;by_cases hci:c=i+1
     ·subst hci;have m5:=TI;go_wp2_with (at_builtin;clear m5;refine Ab _ Bo w1.heap.size _ _ rfl rfl A5 (i+1) c5 _ rfl O5.o _ _ _ _ rfl (Sl.ext (Ev.drop0 w _ HN.o (show n<=i+1 by omega)) X5) (Ed _) (by omega) (by decide) y5.size ?_;intro A6 c6 w6 o6 g6 h6;clear h6;have X6:Ext w w6:=Ext.grown X5 g6 (λk e=>AR X1.size (O5.o.lt k e).1);have HE:H0 (Nt w L rA rc rl (addV (L.map Al) (rl,k)) (.returned (.slice A6 (i+1) c6)) w6):=j6 (mW H.o X6 d.o HX.o HV.o HS.o HN.o hlt (by omega) (by have:=o6;rwa [f.o]at this));clear o6 g6)
      go_ret;exact HE.o
     ·have m5:=TI;go_wp2_with (at_builtin;clear m5;refine Ab _ Bo w1.heap.size _ _ rfl rfl A5 (i+1) c5 _ rfl O5.o _ _ _ _ rfl (Sl.ext (H.o.drop2 HN.o hlt hci) X5) (Ed _) (by omega) (by decide) y5.size ?_;intro A6 c6 w6 o6 g6 h6;clear h6;have X6:Ext w w6:=Ext.grown X5 g6 (λk e=>AR X1.size (O5.o.lt k e).1);have HE:H0 (Nt w L rA rc rl (addV (L.map Al) (rl,k)) (.returned (.slice A6 (i+1+(n-(i+1))) c6)) w6):=j6 (mW H.o X6 d.o HX.o HV.o HS.o HN.o hlt (by omega) (by have:=o6;rwa [f.o]at this));clear o6 g6)
      go_ret;exact HE.o
    ·have hg:H0 (∀y R,L.drop i=y::R->0<Ba y.l rl):=j6 (λy R e=>by rw[HD.o]at e;injection e with e1 e2;rw[<-e1,HV.o];omega);have M:(v==0)=false:=by simpa using hv1
     by_cases hci:c=i
     ·exfalso;omega
     ·go_wp2_with (first
       | (go_at_call 53;clear m1;refine(Ek x.A rA x.c rc nx rn x.l rl _ HV f a (j6 (m.o.ext (Ext.refl _))) (j6 (j.o.ext (Ext.refl _)))).mono ?_;rintro e w1 ⟨rfl,x1⟩;have X1:=er.trans x1;have m2:=TI)
       | (at_builtin;clear m2;refine Ab _ Bo w1.heap.size _ _ rfl rfl none 0 0 [] rfl (Own.nil _ _ _ _) (some ad) i c (Az (L.take i)) rfl ((H.o.takeS HN.o hi).ext X1) (Ed _) (by omega) (by decide) (AD _) ?_;intro A3 c3 w3 o3 g3 h3;clear h3;have y3:Ext w1 w3:=Ext.grown (Ext.refl _) g3 (λk e=>nomatch e);have X3:=Ext.trans X1 y3;have O3:H0 (Own w3 w1.heap.size 154 2 A3 i c3 (Az (L.take i))):=j6 (by have:=o3;rwa [BV,BD]at this);clear o3 g3;have q0:=Ext.cell (x1.trans y3) p0;have q1:=Ext.cell (x1.trans y3) p1;have m3:=TI)
       | (go_at_call 53;clear m3;refine(Ek x.A rA x.c rc nx rn x.l rl _ HV f a (j6 (m.o.ext (x1.trans y3))) (j6 (j.o.ext (x1.trans y3)))).mono ?_;rintro e w4 ⟨rfl,x4⟩;have X4:=X3.trans x4;have O4:=j6 (O3.o.ext x4);have m4:=TI)
       | (at_builtin;clear m4;refine Ab _ Bo w1.heap.size _ _ rfl rfl A3 i c3 (Az (L.take i)) rfl (O4.o.alloc _) (some ⟨w4.heap.size,0,none⟩) 1 1 [.slice rA rn rc,.int .i64 k] rfl (No _ _ _ _) (by intro u hu;simp at hu;rcases hu with rfl|rfl<;>rfl) (by omega) (by decide) (by have:=Ext.size (y3.trans x4);simp;omega) ?_;intro A5 c5 w5 o5 g5 h5;clear h5;have X5:Ext w w5:=Ext.grown (Ext.alloc X4 _) g5 (λk e=>AR (Ext.size X1) (O4.o.lt k e).1);have y5:Ext w1 w5:=Ext.grown (Ext.alloc (y3.trans x4) _) g5 (λk e=>(O4.o.lt k e).1);have O5:=j6 o5;clear o5 g5;have m5:=TI)
       | (at_builtin;clear m5;refine Ab _ Bo w1.heap.size _ _ rfl rfl A5 (i+1) c5 _ rfl O5.o _ _ _ _ rfl (Sl.ext (H.o.drop2 HN.o hi hci) X5) (Ed _) (by omega) (by decide) y5.size ?_;intro A6 c6 w6 o6 g6 h6;clear h6;have X6:Ext w w6:=Ext.grown X5 g6 (λk e=>AR X1.size (O5.o.lt k e).1);have HE:H0 (Nt w L rA rc rl (addV (L.map Al) (rl,k)) (.returned (.slice A6 (i+1+(n-i)) c6)) w6):=j6 (Sp H.o HR.o X6 d.o hg.o HN.o hi (by omega) (by have:=o6;rwa [a.o]at this));clear o6 g6))
      go_ret;exact HE.o
  ·obtain rfl:i=n:=by omega
   have hg:H0 (∀y R,L.drop i=y::R->0<Ba y.l rl):=j6 (λy R e=>by rw[DS (by rw[<-HN.o];exact AD _)]at e;exact nomatch e);have I:=er.size;have X1:Ext w wr:=er;obtain⟨w1,B⟩:∃w1:World,w1=wr:=⟨_,rfl⟩;rw[<-B]at X1 ⊢;clear B;have m2:=TI;have m4:=TI;cases A with
   | none =>
    obtain rfl:c=0:=H.o.sl.2.2.2.1 rfl;obtain rfl:i=0:=by omega
    go_wp2_with (first
     | (at_builtin;clear m2;refine Ab _ Bo w1.heap.size _ _ rfl rfl none 0 0 [] rfl (Own.nil _ _ _ _) none 0 0 (Az (L.take 0)) rfl ((H.o.takeS HN.o hi).ext X1) (Ed _) (by omega) (by decide) (AD _) ?_;intro A3 c3 w3 o3 g3 h3;clear h3;have y3:Ext w1 w3:=Ext.grown (Ext.refl _) g3 (λk e=>nomatch e);have X3:=Ext.trans X1 y3;have O3:H0 (Own w3 w1.heap.size 154 2 A3 0 c3 (Az (L.take 0))):=j6 (by have:=o3;rwa [BV,BD]at this);clear o3 g3;have O4:=O3;have m3:=TI)
     | (at_builtin;clear m3;refine Ab _ Bo w1.heap.size _ _ rfl rfl A3 0 c3 (Az (L.take 0)) rfl (O4.o.alloc _) (some ⟨w3.heap.size,0,none⟩) 1 1 [.slice rA rn rc,.int .i64 k] rfl (No _ _ _ _) (by intro u hu;simp at hu;rcases hu with rfl|rfl<;>rfl) (by omega) (by decide) (by have:=Ext.size y3;simp;omega) ?_;intro A5 c5 w5 o5 g5 h5;clear h5;have X5:Ext w w5:=Ext.grown (Ext.alloc X3 _) g5 (λk e=>AR (Ext.size X1) (O4.o.lt k e).1);have y5:Ext w1 w5:=Ext.grown (Ext.alloc y3 _) g5 (λk e=>(O4.o.lt k e).1);have O5:=j6 o5;clear o5 g5;have m5:=TI)
     | (at_builtin;clear m5;refine Ab _ Bo w1.heap.size _ _ rfl rfl A5 1 c5 _ rfl O5.o _ _ _ _ rfl (Sl.ext (Ev.drop0 w _ HN.o (AD 0)) X5) (Ed _) (by omega) (by decide) y5.size ?_;intro A6 c6 w6 o6 g6 h6;clear h6;have X6:Ext w w6:=Ext.grown X5 g6 (λk e=>AR X1.size (O5.o.lt k e).1);have HE:H0 (Nt w L rA rc rl (addV (L.map Al) (rl,k)) (.returned (.slice A6 1 c6)) w6):=j6 (Sp H.o HR.o X6 d.o hg.o HN.o (AD _) (by omega) (by have:=o6;rwa [a.o]at this));clear o6 g6))
    go_ret;exact HE.o
   | some ad =>
    by_cases hci:i=c
    ·subst hci;go_wp2_with (first
      | (at_builtin;clear m2;refine Ab _ Bo w1.heap.size _ _ rfl rfl none 0 0 [] rfl (Own.nil _ _ _ _) (some ad) i i (Az (L.take i)) rfl ((H.o.takeS HN.o hi).ext X1) (Ed _) (by omega) (by decide) (AD _) ?_;intro A3 c3 w3 o3 g3 h3;clear h3;have y3:Ext w1 w3:=Ext.grown (Ext.refl _) g3 (λk e=>nomatch e);have X3:=Ext.trans X1 y3;have O3:H0 (Own w3 w1.heap.size 154 2 A3 i c3 (Az (L.take i))):=j6 (by have:=o3;rwa [BV,BD]at this);clear o3 g3;have O4:=O3;have m3:=TI)
      | (at_builtin;clear m3;refine Ab _ Bo w1.heap.size _ _ rfl rfl A3 i c3 (Az (L.take i)) rfl (O4.o.alloc _) (some ⟨w3.heap.size,0,none⟩) 1 1 [.slice rA rn rc,.int .i64 k] rfl (No _ _ _ _) (by intro u hu;simp at hu;rcases hu with rfl|rfl<;>rfl) (by omega) (by decide) (by have:=Ext.size y3;simp;omega) ?_;intro A5 c5 w5 o5 g5 h5;clear h5;have X5:Ext w w5:=Ext.grown (Ext.alloc X3 _) g5 (λk e=>AR (Ext.size X1) (O4.o.lt k e).1);have y5:Ext w1 w5:=Ext.grown (Ext.alloc y3 _) g5 (λk e=>(O4.o.lt k e).1);have O5:=j6 o5;clear o5 g5;have m5:=TI)
      | (at_builtin;clear m5;refine Ab _ Bo w1.heap.size _ _ rfl rfl A5 (i+1) c5 _ rfl O5.o _ _ _ _ rfl (Sl.ext (Ev.drop0 w _ HN.o (AD _)) X5) (Ed _) (by omega) (by decide) y5.size ?_;intro A6 c6 w6 o6 g6 h6;clear h6;have X6:Ext w w6:=Ext.grown X5 g6 (λk e=>AR X1.size (O5.o.lt k e).1);have HE:H0 (Nt w L rA rc rl (addV (L.map Al) (rl,k)) (.returned (.slice A6 (i+1) c6)) w6):=j6 (Sp H.o HR.o X6 d.o hg.o HN.o (AD _) (by omega) (by have:=o6;rwa [a.o]at this));clear o6 g6))
     go_ret;exact HE.o
    ·have J:¬c=i:=λq=>hci q.symm;go_wp2_with (first
      | (at_builtin;clear m2;refine Ab _ Bo w1.heap.size _ _ rfl rfl none 0 0 [] rfl (Own.nil _ _ _ _) (some ad) i c (Az (L.take i)) rfl ((H.o.takeS HN.o hi).ext X1) (Ed _) (by omega) (by decide) (AD _) ?_;intro A3 c3 w3 o3 g3 h3;clear h3;have y3:Ext w1 w3:=Ext.grown (Ext.refl _) g3 (λk e=>nomatch e);have X3:=Ext.trans X1 y3;have O3:H0 (Own w3 w1.heap.size 154 2 A3 i c3 (Az (L.take i))):=j6 (by have:=o3;rwa [BV,BD]at this);clear o3 g3;have O4:=O3;have m3:=TI)
      | (at_builtin;clear m3;refine Ab _ Bo w1.heap.size _ _ rfl rfl A3 i c3 (Az (L.take i)) rfl (O4.o.alloc _) (some ⟨w3.heap.size,0,none⟩) 1 1 [.slice rA rn rc,.int .i64 k] rfl (No _ _ _ _) (by intro u hu;simp at hu;rcases hu with rfl|rfl<;>rfl) (by omega) (by decide) (by have:=Ext.size y3;simp;omega) ?_;intro A5 c5 w5 o5 g5 h5;clear h5;have X5:Ext w w5:=Ext.grown (Ext.alloc X3 _) g5 (λk e=>AR (Ext.size X1) (O4.o.lt k e).1);have y5:Ext w1 w5:=Ext.grown (Ext.alloc y3 _) g5 (λk e=>(O4.o.lt k e).1);have O5:=j6 o5;clear o5 g5;have m5:=TI)
      | (at_builtin;clear m5;refine Ab _ Bo w1.heap.size _ _ rfl rfl A5 (i+1) c5 _ rfl O5.o _ _ _ _ rfl (Sl.ext (Ev.drop3 w _ HN.o (AD _) (by omega)) X5) (Ed _) (by omega) (by decide) y5.size ?_;intro A6 c6 w6 o6 g6 h6;clear h6;have X6:Ext w w6:=Ext.grown X5 g6 (λk e=>AR X1.size (O5.o.lt k e).1);have HE:H0 (Nt w L rA rc rl (addV (L.map Al) (rl,k)) (.returned (.slice A6 (i+1) c6)) w6):=j6 (Sp H.o HR.o X6 d.o hg.o HN.o (AD _) (by omega) (by have:=o6;rwa [a.o]at this));clear o6 g6))
     go_ret;exact HE.o
def rV(w:World)(L:List Ct)(R:List V)(e:Ending)(w':World):Prop:=∃A m c M,e=.returned (.slice A m c)/\m=M.length/\Own w' w.heap.size 154 2 A m c (Az M)/\(∀y∈M,∃x∈L,Od y x)/\M.map Al=R/\Ext w w'
def addV_len:∀(R:List V) (x:V),(addV R x).length<=R.length+1
 | [],_=>AD _
 | y::R,x=>by
  unfold addV;split
  ·rw[AJ,AJ];have:=addV_len R x;omega
  ·split
   ·rw[AJ,AJ];omega
   ·rw[AJ,AJ];omega
def Lb(L:List Ct)(i:Nat):List V:=((L.take i).map Al).foldl addV []
def Uq{L:List Ct}{x:Ct}(hi:i<L.length)(hx:L.getD i Ct.zero=x):Lb L (i+1)=addV (Lb L i) (x.l,x.k):=by
 unfold Lb;rw[Ef hi,hx,AI,DU];rfl
def Xm(L:List Ct):∀i,(Lb L i).length<=i
 | 0=>by unfold Lb;simp
 | i+1=>by
  have ih:=Xm L i;by_cases hi:i<L.length
  ·rw[Uq hi rfl];have:=addV_len (Lb L i) ((L.getD i Ct.zero).l,(L.getD i Ct.zero).k);omega
  ·have e:Lb L (i+1)=Lb L i:=by unfold Lb;rw[AW (by omega),AW (by omega)]
   rw[e];omega
def rW(w wr:World)(L:List Ct)(i:Nat)(A:Option Addr)(m c:Nat):Prop:=∃M,m=M.length/\Ev wr A c M/\M.map Al=Lb L i/\(∀y∈M,∃x∈L,Od y x)/\Ext w wr
def Jf(w1 wr:World)(M:List Ct)(j:Nat)(A:Option Addr)(m c:Nat):Prop:=m=((M.take j).filter nzC).length/\Own wr w1.heap.size 154 2 A m c (Az ((M.take j).filter nzC))/\Ext w1 wr
def Jf.skip{M:List Ct}{x:Ct}(h:Jf w1 wr M j A m c)(hj:j<M.length)(hx:M.getD j Ct.zero=x)(hz:(x.k==0)=true):Jf w1 wr M (j+1) A m c:=by
 have e:(M.take (j+1)).filter nzC=(M.take j).filter nzC:=by
  rw[Ef hj,hx,CT];have:[x].filter nzC=[]:=by simp[nzC,hz]
  rw[this,AV]
 unfold Jf;rw[e];exact h
def Jf.more{M:List Ct}{c2:Nat}{x:Ct}(h:Jf w1 wr M j A m c)(hj:j<M.length)(hx:M.getD j Ct.zero=x)(hz:(x.k==0)=false)(hm:m2=m+1)
  (o:Own w2 w1.heap.size 154 2 A2 m2 c2 (Az ((M.take j).filter nzC)++[.slice x.A x.l.length x.c,.int .i64 x.k])) (X:Ext w1 w2):Jf w1 w2 M (j+1) A2 m2 c2:=by
 have e:(M.take (j+1)).filter nzC=(M.take j).filter nzC++[x]:=by
  rw[Ef hj,hx,CT];have:[x].filter nzC=[x]:=by simp[nzC,hz]
  rw[this]
 unfold Jf;rw[e,AA,Fo];exact⟨by rw[hm,h.1];rfl,o,X⟩
def a0d{L M M4:List Ct}{x:Ct}(hx:x∈L)(h:∀y∈M,∃z∈L,Od y z)(h4:∀y∈M4,(∃z∈M,Od y z)\/(y.A=x.A/\y.c=x.c/\y.l=x.l)):∀y∈M4,∃z∈L,Od y z:=λy hy=>by
 rcases h4 y hy with ⟨z,hz,a1,a2,a3⟩|q
 ·have⟨u,hu,b1,b2,b3⟩:=h z hz;exact⟨u,hu,a1.trans b1,a2.trans b2,a3.trans b3⟩
 ·exact⟨x,hx,q⟩
def jH(A:Option Addr)(c n:Nat)(L:List Ct)(w:World)(hn:n=L.length)(h:Ev w A c L)(hs:n<=1000000) :
  C3 120 #[.slice A n c] w (rV w L (sumV (L.map Al))):=by
 have HN:=j6 hn;have H:=j6 h;have E:H0 (rW w w L 0 none 0 0):=j6 ⟨[],rfl,⟨Sl.nil w 2,λx hx=>(nomatch hx)⟩,rfl,λx hx=>(nomatch hx),Ext.refl w⟩;clear hn h;go_enter func120,ntmps120;go_wp2
 go_loopg [3,4] n (λz u v wr=>∃(i m c3:Nat) (A3:Option Addr),z=n-i/\i<=n/\m<=i/\u=.slice A3 m c3/\v=.int .i64 i/\H0 (rW w wr L i A3 m c3))
 case atStart=>exact⟨0,0,0,none,rfl,AG _,AD _,rfl,rfl,E⟩
 case round =>
  clear E;obtain⟨i,m,c3,A3,rfl,hi,U,rfl,rfl,HP⟩:=hrel;by_cases hlt:i<n
  ·have⟨M,hM,hC,hv,hp,X⟩:=HP.o;have r:=j6 hp;have d:i<L.length:=by rw[<-HN.o];exact hlt
   obtain⟨ad,rfl,p0,p1⟩:=(H.o.ext X).at d;have hm:=Dp d;have⟨x,hx⟩:=tz (L.getD i Ct.zero);rw[hx]at p0 p1 hm;have⟨nx,a⟩:=E9 x.l.length;rw[<-a]at p0;have XE:Ext wr wr.drew:=(Ext.refl wr).drew;have P:=j6 (((H.o.rows x hm).ext X).ext XE);have K:=j6 (hC.ext XE);have g:=j6 a;have N:=j6 hM;have HV:H0 (addV (M.map Al) (x.l,x.k)=Lb L (i+1)):=j6 (by rw[Uq d hx,hv]);have R:=j6 (X.trans XE);have P0:∀z:Xt wr.drew,z.W.cell? (ad.add (i*2))=some (.slice x.A nx x.c):=λz=>(XE.trans z.x).cell p0;have P1:∀z:Xt wr.drew,z.W.cell? ⟨(ad.add (i*2)).block,(ad.add (i*2)).off+1,none⟩=some (.int .i64 x.k):=λz=>(XE.trans z.x).cell p1;have Q:H0 (x∈L):=j6 hm;clear hM hC hv hp X d hm hx a HP
   go_upto_region 5 with fail
   refine wro [0,0,0,6,14,30,0,0,192,448,960,2047,4095] (.flo [0,1,2,3,4,5,6,7,8,9,10] (.one 11 (.flo [12] (.fin)))) ?_
   (refine Aa (pks rfl) ?_;(repeat (go_big_quiet_step (fail)));refine oq ?_)
   refine Ac (pks rfl) ?_;intro K_ T;go_wp2_with (go_at_call 195;refine(a0t A3 x.A c3 x.c m nx M x.l x.k _ N.o g.o K.o P.o (by omega)).mono ?_;rintro e w1 ⟨A4,m4,c4,M4,rfl,B,G,I,C,X4⟩;have S:m4<=i+1:=(by rw[B];have q:=congrArg List.length C;rw[AN,HV.o]at q;rw[q];exact Xm L (i+1));have O:H0 (rW w w1 L (i+1) A4 m4 c4):=j6 ⟨M4,B,G,by rw[C,HV.o],a0d Q.o r.o I,R.o.trans X4⟩;clear B G C X4 I)
   (refine Aa (pks rfl) ?_;(repeat (go_big_quiet_step (fail)));refine oq ?_)
   refine Ad ?_;go_wp2
   go_roundg (n-(i+1))
   case measure=>omega
   case rel=>exact⟨i+1,m4,c4,A4,rfl,by omega,S,rfl,by go_num,O⟩
  ·obtain rfl:i=n:=by omega
   have⟨M,hM,hC,hv,hp,X⟩:=HP.o;have r:=j6 hp;clear hp;obtain⟨w1,J⟩:∃w1:World,w1=wr:=⟨_,rfl⟩;rw[<-J]at hC X ⊢;clear J;have HM:=j6 hM;have HC:=j6 hC;have HV:=j6 hv;have HX:=j6 X;have D:H0 (Jf w1 w1 M 0 none 0 0):=j6 ⟨rfl,Own.nil _ _ _ _,Ext.refl _⟩;clear hM hC hv X HP;go_wp2
   go_loopg [5,6] m (λz u v wr=>∃(j n5 c5:Nat) (A5:Option Addr),z=m-j/\j<=m/\n5<=j/\u=.slice A5 n5 c5/\v=.int .i64 j/\H0 (Jf w1 wr M j A5 n5 c5))
   case atStart=>exact⟨0,0,0,none,rfl,AG _,AD _,rfl,rfl,D⟩
   case round =>
    clear D;obtain⟨j,n5,c5,A5,rfl,hj,Y,rfl,rfl,HQ⟩:=hrel;by_cases hlt:j<m
    ·have f:j<M.length:=by rw[<-HM.o];exact hlt
     obtain⟨ad,rfl,p0,p1⟩:=(HC.o.ext HQ.o.2.2).at f;have hm:=Dp f;have⟨x,hx⟩:=tz (M.getD j Ct.zero);rw[hx]at p0 p1 hm;have⟨nx,a⟩:=E9 x.l.length;rw[<-a]at p0;have HJ:=j6 f;have F:=j6 hx;have g:=j6 a;clear f hx hm a;cases hz:(x.k==0)
     ·have HZ:=j6 hz;go_wp2_with (at_builtin;refine Ab _ Bo w1.heap.size _ _ rfl rfl A5 n5 c5 (Az ((M.take j).filter nzC)) rfl (Own.alloc HQ.o.2.1 _) (some ⟨wr.heap.size,0,none⟩) 1 1 [.slice x.A nx x.c,.int .i64 x.k] rfl (No _ _ _ _) (by intro u hu;simp at hu;rcases hu with rfl|rfl<;>rfl) (by omega) (by decide) (by have:=Ext.size HQ.o.2.2;simp;omega) ?_;intro A6 c6 w6 o6 g6 h6;clear h6;have t:=j6 (Jf.more (m2:=n5+1) HQ.o HJ.o F.o HZ.o rfl (by have:=o6;rwa [g.o]at this) (Ext.grown (Ext.alloc HQ.o.2.2 _) g6 (λk e=>(HQ.o.2.1.lt k e).1)));clear o6 g6)
      go_roundg (m-(j+1))
      case measure=>omega
      case rel=>exact⟨j+1,n5+1,c6,A6,rfl,by omega,by omega,rfl,by go_num,t⟩
     ·have t:=j6 (HQ.o.skip HJ.o F.o hz);go_wp2
      go_roundg (m-(j+1))
      case measure=>omega
      case rel=>exact⟨j+1,n5,c5,A5,rfl,by omega,by omega,rfl,by go_num,t⟩
    ·obtain rfl:j=m:=by omega
     have HE:H0 (rV w L (sumV (L.map Al)) (.returned (.slice A5 n5 c5)) wr):=j6 (by
      have⟨q1,q2,q3⟩:=HQ.o;rw[AW (by rw[<-HM.o];exact AD _)]at q1 q2;refine⟨_,_,_,M.filter nzC,rfl,q1,q2.mono HX.o.size,λy hy=>r.o y (BI.1 hy).1,?_,HX.o.trans q3⟩;have e:M.map Al=sumAll (L.map Al):=by rw[HV.o];unfold Lb sumAll;rw[AW (by rw[<-HN.o];exact AD _)]
      unfold sumV;rw[<-e,EE];rfl)
     go_wp2;go_ret;exact HE.o
def oP(e1 e2:Int)(A1 A2:Option Addr)(n1 n2 c1 c2:Nat)(w:World)(hne:((n1:Int) != (n2:Int))=true) :
  C3 119 #[.agg #[.int .u64 e1,.slice A1 n1 c1],.agg #[.int .u64 e2,.slice A2 n2 c2]] w λe w'=>e=.returned (.bool false)/\Ext w w':=by
 go_enter func119,ntmps119;go_wp2;go_ret;exact⟨rfl,((Ext.refl w).alloc _).alloc _⟩
def oO(e1 e2:Int)(A1 A2:Option Addr)(n c1 c2:Nat)(w:World)(hlt:e2<e1) :
  C3 119 #[.agg #[.int .u64 e1,.slice A1 n c1],.agg #[.int .u64 e2,.slice A2 n c2]] w λe w'=>e=.returned (.bool false)/\Ext w w':=by
 have he:((n:Int) != (n:Int))=false:=by simp
 go_enter func119,ntmps119;go_wp2;go_ret;exact⟨rfl,((Ext.refl w).alloc _).alloc _⟩
def oN(e1 e2:Int)(A1 A2:Option Addr)(n c1 c2:Nat)(l1 l2:List Int)(w:World)(h1:Sl w 1 A1 n c1 (wds l1))(h2:Sl w 1 A2 n c2 (wds l2))(hle:e1<=e2) :
  C3 119 #[.agg #[.int .u64 e1,.slice A1 n c1],.agg #[.int .u64 e2,.slice A2 n c2]] w λe w'=>e=.returned (.bool (decide (∀k,k<n->l1.getD k 0<=l2.getD k 0)))/\Ext w w':=by
 have hm:=h1.le;have he:((n:Int) != (n:Int))=false:=by simp
 go_enter func119,ntmps119;go_wp2;have⟨w0,a⟩:=E9 ((w.alloc (Obj.cells #[Value.int IntKind.u64 e1,Value.slice A1 n c1] 26)).alloc (Obj.cells #[Value.int IntKind.u64 e2,Value.slice A2 n c2] 26));have e0:Ext w w0:=a▸((Ext.refl w).alloc _).alloc _;have b1:w0.cell? ⟨w.heap.size,1,none⟩=some (Value.slice A1 n c1):=by subst a;go_simp
 have b2:w0.cell? ⟨w.heap.size+1,1,none⟩=some (Value.slice A2 n c2):=by subst a;go_simp
 rw[<-a];clear a
 go_loopw [5] (λv wr=>∃k:Nat,k<=n/\v=.int .i64 k/\(∀j,j<k->l1.getD j 0<=l2.getD j 0)/\∃m,wr=w0.drewN m) (λv _=>n-(intOf v).toNat)
 case atStart=>exact⟨0,AG _,rfl,λj hj=>absurd hj (by omega),0,rfl⟩
 case round =>
  obtain⟨k,hk,rfl,c,m,rfl⟩:=hrel;replace c:=j6 c;by_cases hlt:k<n
  ·have⟨a1,d,g,_⟩:=(h1.ext e0).word hlt;have⟨a2,f,h,_⟩:=(h2.ext e0).word hlt;go_wp2;go_quiet (fail);go_wp2
   ·have hv:l2[k]?.getD 0<l1[k]?.getD 0:=by assumption
    go_ret;refine⟨Cm (Eq.symm (decide_eq_false λhh=>?_)),(e0.drewN _).drewN _⟩;have:=hh k hlt;simp only[AB]at this;omega
   ·have hv:l1[k]?.getD 0<=l2[k]?.getD 0:=by assumption
    go_roundw
    case rel =>
     refine⟨k+1,by omega,by go_num,λj hj=>?_,_,rfl⟩;by_cases hjk:j<k
     ·exact c.o j hjk
     ·obtain rfl:j=k:=by omega
      simpa only[AB] using hv
    case measure=>simp[intOf];omega
  ·go_wp2;go_ret;refine⟨Cm (Eq.symm (decide_eq_true λj hj=>c.o j (by omega))),e0.drewN _⟩
def cW(e1 e2:Int)(A1 A2:Option Addr)(n1 n2 c1 c2:Nat)(l1 l2:List Int)(w:World)(h1:Sl w 1 A1 n1 c1 (wds l1))(h2:Sl w 1 A2 n2 c2 (wds l2)) :
  C3 119 #[.agg #[.int .u64 e1,.slice A1 n1 c1],.agg #[.int .u64 e2,.slice A2 n2 c2]] w λe w'=>e=.returned (.bool (Jn e1 l1 e2 l2))/\Ext w w':=by
 have a:=h1.wlen;have c:=h2.wlen;by_cases hn:n1=n2
 ·subst hn;by_cases hlt:e2<e1
  ·have hf:Jn e1 l1 e2 l2=false:=decide_eq_false λhh=>by have:=hh.2.1;omega
   rw[hf];exact oO e1 e2 A1 A2 n1 c1 c2 w hlt
  ·refine(oN e1 e2 A1 A2 n1 c1 c2 l1 l2 w h1 h2 (by omega)).mono λe w' ⟨he,hx⟩=>⟨he.trans (Cm ?_),hx⟩;unfold Jn;rw[decide_eq_decide,a,c];exact⟨λh=>⟨rfl,by omega,h⟩,λh=>h.2.2⟩
 ·have hf:Jn e1 l1 e2 l2=false:=decide_eq_false λhh=>by have:=hh.1;omega
  rw[hf];exact oP e1 e2 A1 A2 n1 n2 c1 c2 w (by simp;omega)
end Go.Proofs.YtdgbkpoickbidaaGreatDoor
