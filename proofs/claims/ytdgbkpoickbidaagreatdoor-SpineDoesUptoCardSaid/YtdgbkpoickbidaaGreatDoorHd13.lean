/- Parts of the proof, put together. Conditions: each theorem states its own. -/
import Derived.Test.YtdgbkpoickbidaaGreatDoorHd12
set_option maxRecDepth 100000
set_option maxHeartbeats 16000000
open Go.RowKit
namespace Go.Proofs.YtdgbkpoickbidaaGreatDoor
theorem dU(A1 A2:Option Addr)(c1 c2 n1 n2:Nat)(l m:List Dat)(w:World)(e1:n1=l.length)(e2:n2=m.length)(h1:Rw w A1 c1 l)(h2:Rw w A2 c2 m) :
  Calls Tryz.prog 53 #[.slice A1 n1 c1,.slice A2 n2 c2] w fun e w'=>e=.returned (.int .i64 (As l m))/\Ext w w':=by
 have E1:=hid e1;have E2:=hid e2;have hl1:=h1.le;have hl2:=h2.le;rw[<-e1]at hl1;rw[<-e2]at hl2;have H1:=hid h1;have H2:=hid h2;clear e1 e2 h1 h2;go_enter Tryz.func53,Tryz.ntmps53;go_wp2
 go_loopw [5] (fun v wr=>∃i:Nat,i<=n1/\v=.int .i64 i/\Hid (i<=m.length/\As (l.drop i) (m.drop i)=As l m)/\Ext w wr) (fun v _=>n1-(intOf v).toNat)
 case atStart=>exact⟨0,AE _,rfl,hid ⟨AE _,rfl⟩,Ext.refl _⟩
 case round =>
  obtain⟨i,hi,rfl,hr,er⟩:=hrel;have hsz:=er.size;by_cases hlt:i<n1
  ·by_cases hlt2:i<n2
   ·obtain⟨a1,rfl,p0,p1,p2,p3⟩:=(H1.out.ext er).at (show i<l.length by rw[<-E1.out];exact hlt);obtain⟨d,hd⟩:∃d,l.getD i Dat.zero=d:=⟨_,rfl⟩;rw[hd]at p0 p1 p2 p3;obtain⟨a2,rfl,q0,q1,q2,q3⟩:=(H2.out.ext er).at (show i<m.length by rw[<-E2.out];exact hlt2);obtain⟨d2,hd2⟩:∃d,m.getD i Dat.zero=d:=⟨_,rfl⟩;rw[hd2]at q0 q1 q2 q3;obtain⟨v,hv⟩:∃v,Dj d d2=v:=⟨_,rfl⟩;have HS:Hid (As l m=if v=0 then As (l.drop (i+1)) (m.drop (i+1)) else v):=hid (by rw[<-hr.out.2,Xg (by rw[<-E1.out];exact hlt) (by rw[<-E2.out];exact hlt2),hd,hd2,hv]);have HB:Hid (i+1<=m.length):=hid (by rw[<-E2.out];exact hlt2);clear hd hd2 hr;obtain⟨ka,ba,na,sa⟩:=d;obtain⟨kb,bb,nb,sb⟩:=d2;simp only at p0 p1 p2 p3 q0 q1 q2 q3;have HV:=hid hv;clear hv;have X:Ext wr wr.drew:=(Ext.refl wr).drew;have P0:∀y:Xt wr.drew,y.W.cell? (a1.add (i*4))=some (.int .u8 ka):=fun y=>(X.trans y.x).cell p0;have P1:∀y:Xt wr.drew,y.W.cell? ⟨(a1.add (i*4)).block,(a1.add (i*4)).off+1,none⟩=some (.bool ba):=fun y=>(X.trans y.x).cell p1;have P2:∀y:Xt wr.drew,y.W.cell? ⟨(a1.add (i*4)).block,(a1.add (i*4)).off+2,none⟩=some (.int .i64 na):=fun y=>(X.trans y.x).cell p2;have P3:∀y:Xt wr.drew,y.W.cell? ⟨(a1.add (i*4)).block,(a1.add (i*4)).off+3,none⟩=some (.string sa):=fun y=>(X.trans y.x).cell p3;have Q0:∀y:Xt wr.drew,y.W.cell? (a2.add (i*4))=some (.int .u8 kb):=fun y=>(X.trans y.x).cell q0;have Q1:∀y:Xt wr.drew,y.W.cell? ⟨(a2.add (i*4)).block,(a2.add (i*4)).off+1,none⟩=some (.bool bb):=fun y=>(X.trans y.x).cell q1;have Q2:∀y:Xt wr.drew,y.W.cell? ⟨(a2.add (i*4)).block,(a2.add (i*4)).off+2,none⟩=some (.int .i64 nb):=fun y=>(X.trans y.x).cell q2;have Q3:∀y:Xt wr.drew,y.W.cell? ⟨(a2.add (i*4)).block,(a2.add (i*4)).off+3,none⟩=some (.string sb):=fun y=>(X.trans y.x).cell q3;by_cases hv0:v=0
    ·subst hv0
     go_upto_region 4 with fail
     refine wro [0,0,3,7,0,0,48,112,255,511] (.flo [0,1,2,3,4,5,6,7] (.one 8 (.flo [9] (.fin)))) ?_
     (refine Aa (pks rfl) ?_;(repeat (go_big_quiet_step (fail)));refine oq ?_)
     refine Ac (pks rfl) ?_;intro K_ hK_;go_wp2_with (go_at_call 165;refine(Wr _ _ _ _ _ _ _ _ _ HV).mono ?_;rintro e w1 ⟨rfl,x1⟩)
     (refine Aa (pks rfl) ?_;(repeat (go_big_quiet_step (fail)));refine oq ?_)
     refine Ad ?_;go_wp2
     go_roundw
     case rel=>exact⟨i+1,by omega,by go_num,hid ⟨HB.out,by rw[HS.out];simp⟩,er.trans (X.trans x1)⟩
     case measure=>simp[intOf];omega
    ·have z:(v != 0)=true:=by simpa using hv0
     have HZ:=hid hv0;clear hv0
     go_upto_region 4 with fail
     refine wro [0,0,3,7,0,0,48,112,255,511] (.flo [0,1,2,3,4,5,6,7] (.one 8 (.flo [9] (.fin)))) ?_
     (refine Aa (pks rfl) ?_;(repeat (go_big_quiet_step (fail)));refine oq ?_)
     refine Ac (pks rfl) ?_;intro K_ hK_;go_wp2_with (go_at_call 165;refine(Wr _ _ _ _ _ _ _ _ _ HV).mono ?_;rintro e w1 ⟨rfl,x1⟩)
     (refine Aa (pks rfl) ?_;(repeat (go_big_quiet_step (fail)));refine oq ?_)
     refine Ad ?_;go_wp2;go_ret;exact⟨(by rw[HS.out,if_neg HZ.out];rfl),er.trans (X.trans x1)⟩
   ·have HS:Hid (As l m=1):=hid (by rw[<-hr.out.2];exact Xf (by rw[<-E1.out];exact hlt) (by rw[<-E2.out];omega));have h3:n2<n1:=by omega
    clear hr;go_wp2;go_ret;exact⟨(by rw[HS.out];rfl),er⟩
  ·have HS:Hid (As l m=if i<m.length then -1 else 0):=hid (by rw[<-hr.out.2];exact cV (by rw[<-E1.out];omega));have HB:Hid (i<=m.length):=hid hr.out.1;obtain rfl:i=n1:=by omega
   by_cases h2:i<n2
   ·have HT:Hid (As l m = -1):=hid (by rw[HS.out,if_pos (by rw[<-E2.out];exact h2)]);clear HS hr;go_wp2;go_ret;exact⟨(by rw[HT.out];rfl),er⟩
   ·have HT:Hid (As l m=0):=hid (by rw[HS.out,if_neg (by rw[<-E2.out];exact h2)]);have h3:¬n2<i:=by have:=HB.out;rw[<-E2.out]at this;omega
    clear HS hr;go_wp2;go_ret;exact⟨(by rw[HT.out];rfl),er⟩
theorem Cy{v:Int}(A1 A2:Option Addr)(c1 c2 n1 n2:Nat)(l m:List Dat)(w:World)(hv:Hid (As l m=v))(e1:Hid (n1=l.length))(e2:Hid (n2=m.length))(h1:Hid (Rw w A1 c1 l))(h2:Hid (Rw w A2 c2 m)) :
  Calls Tryz.prog 53 #[.slice A1 n1 c1,.slice A2 n2 c2] w fun e w'=>e=.returned (.int .i64 v)/\Ext w w':=hv.out▸dU A1 A2 c1 c2 n1 n2 l m w e1.out e2.out h1.out h2.out
theorem Mj(x y:Ud)(nx ny tx ty:Nat)(v:Int)(w:World)(hv:Hid (UdS.cmpC x y=v))(hnx:Hid (nx=x.l.length))(hny:Hid (ny=y.l.length))(htx:Hid (tx=x.t.l.length))(hty:Hid (ty=y.t.l.length))(hx:Hid (UdR w x))(hy:Hid (UdR w y))(ux:Hid (U32 x.t.l))(uy:Hid (U32 y.t.l))(h9:tx<=1000000)(h8:ty<=1000000) :
  Calls Tryz.prog 194 #[.agg #[.slice x.A nx x.c,.int .u64 x.t.e,.slice x.t.A tx x.t.c,.int .i64 x.d],.agg #[.slice y.A ny y.c,.int .u64 y.t.e,.slice y.t.A ty y.t.c,.int .i64 y.d]] w fun e w'=>e=.returned (.int .i64 v)/\Ext w w':=by
 obtain⟨r,hr⟩:∃r,As x.l y.l=r:=⟨_,rfl⟩;obtain⟨t,ht⟩:∃t,Cp (x.t.e,x.t.l) (y.t.e,y.t.l)=t:=⟨_,rfl⟩;have hvv:(if r=0 then t else r)=v:=by rw[<-hv.out,<-hr,<-ht];rfl
 have HR:=hid hr;have HT:=hid ht;have X1:Hid (∀W,Ext w W->Sl W 1 x.t.A tx x.t.c (wds x.t.l)):=hid (fun W q=>by rw[htx.out];exact hx.out.t.ext q);have Y1:Hid (∀W,Ext w W->Sl W 1 y.t.A ty y.t.c (wds y.t.l)):=hid (fun W q=>by rw[hty.out];exact hy.out.t.ext q);clear hr ht;go_enter Tryz.func194,Tryz.ntmps194;have x0:Ext w ((w.alloc (Obj.cells #[.slice x.A nx x.c,.int .u64 x.t.e,.slice x.t.A tx x.t.c,.int .i64 x.d] 95)).alloc (Obj.cells #[.slice y.A ny y.c,.int .u64 y.t.e,.slice y.t.A ty y.t.c,.int .i64 y.d] 95)):=((Ext.refl w).alloc _).alloc _;have a0:Hid (Bk ((w.alloc (Obj.cells #[.slice x.A nx x.c,.int .u64 x.t.e,.slice x.t.A tx x.t.c,.int .i64 x.d] 95)).alloc (Obj.cells #[.slice y.A ny y.c,.int .u64 y.t.e,.slice y.t.A ty y.t.c,.int .i64 y.d] 95)) w.heap.size 95 #[.slice x.A nx x.c,.int .u64 x.t.e,.slice x.t.A tx x.t.c,.int .i64 x.d]):=hid ((Bk.new _ _ _).alloc _);have b0:Hid (Bk ((w.alloc (Obj.cells #[.slice x.A nx x.c,.int .u64 x.t.e,.slice x.t.A tx x.t.c,.int .i64 x.d] 95)).alloc (Obj.cells #[.slice y.A ny y.c,.int .u64 y.t.e,.slice y.t.A ty y.t.c,.int .i64 y.d] 95)) (w.heap.size+1) 95 #[.slice y.A ny y.c,.int .u64 y.t.e,.slice y.t.A ty y.t.c,.int .i64 y.d]):=hid (Bk.at (by simp));have p0:=a0.out.cell 0;have p1:=b0.out.cell 0;have m1:True:=trivial;by_cases hr0:r=0
 ·subst hr0;rw[if_pos rfl]at hvv;have HV:=hid hvv;clear hvv;go_wp2_with (first
   | (go_at_call 53;have mk:=m1;clear m1 mk;refine(Cy x.A y.A x.c y.c nx ny x.l y.l _ HR hnx hny (hid (hx.out.r.ext x0)) (hid (hy.out.r.ext x0))).mono ?_;rintro e w1 ⟨rfl,x1⟩;have r1:=(a0.out.ext x1).cell 1;have r2:=(a0.out.ext x1).cell 2;have s1:=(b0.out.ext x1).cell 1;have s2:=(b0.out.ext x1).cell 2;have X2:=hid (x0.trans x1);clear x1;have m2:True:=trivial)
   | (go_at_call 149;have mk:=m2;clear m2 mk;refine(yK x.t.e y.t.e x.t.A y.t.A tx ty x.t.c y.t.c x.t.l y.t.l _ HT (hid (X1.out _ X2.out)) (hid (Y1.out _ X2.out)) ux uy h9 h8).mono ?_;rintro e w2 ⟨rfl,x2⟩)
   | fail)
  go_ret;exact⟨Bu HV.out,X2.out.trans x2⟩
 ·have zr:(r==0)=false:=by simpa using hr0
  rw[if_neg hr0]at hvv;have HV:=hid hvv;clear hvv;go_wp2_with (first
   | (go_at_call 53;have mk:=m1;clear m1 mk;refine(Cy x.A y.A x.c y.c nx ny x.l y.l _ HR hnx hny (hid (hx.out.r.ext x0)) (hid (hy.out.r.ext x0))).mono ?_;rintro e w1 ⟨rfl,x1⟩)
   | fail)
  go_ret;exact⟨Bu HV.out,x0.trans x1⟩
def xZ(w:World)(V:List UV)(e:Ending)(w':World):Prop:=∃A m c M,e=.returned (.slice A m c)/\m=M.length/\Uin w' A c M/\M.map Ud.uv=V/\Ext w w'
def Jy(y x:Ud):Prop:=y.A=x.A/\y.c=x.c/\y.l=x.l/\y.t=x.t
theorem Jy.udr{w:World}{x y:Ud}(h:Jy y x)(u:UdR w x):UdR w y:=by
 obtain⟨e1,e2,e3,e4⟩:=h;exact⟨by rw[e1,e2,e3];exact u.r,by rw[e4];exact u.t⟩
def kO(w:World)(L:List Ud)(V:List UV)(e:Ending)(w':World):Prop:=∃A m c M,e=.returned (.slice A m c)/\m=M.length/\Own w' w.heap.size 95 4 A m c (Ah M)/\(∀y∈M,∃x∈L,Jy y x)/\M.map Ud.uv=V/\Ext w w'
theorem tV{w w':World}{B m c:Nat}{A:Option Addr}{L M:List Ud}{x:Ud}(o:Own w' B 95 4 A m c (Ah M))(hm:m=M.length)(p:∀y∈M,∃z∈x::L,Jy y z)(hx:UdR w x)(h:∀z∈L,UdR w z)(X:Ext w w'):Uin w' A c M:=by
 refine⟨by rw[<-hm];exact o.sl,fun y hy=>?_⟩;obtain⟨z,hz,q⟩:=p y hy;rcases AZ.1 hz with rfl|hz
 ·exact(q.udr hx).ext X
 ·exact(q.udr (h z hz)).ext X
theorem Uin.dropS{w:World}{A:Option Addr}{c n k:Nat}{L:List Ud}(h:Uin w A c L)(hn:n=L.length)(hk:k<=n):Sl w 4 (if c=k then A else A.map (·.add (k*4))) (n-k) (c-k) (Ah (L.drop k)):=by
 have:=Sl.drop (k:=k) h.sl (by omega)
 rwa [kV,<-hn]at this
theorem Uin.takeS{w:World}{A:Option Addr}{c n k:Nat}{L:List Ud}(h:Uin w A c L)(hn:n=L.length)(hk:k<=n):Sl w 4 A k c (Ah (L.take k)):=by
 have:=Sl.take (k:=k) h.sl (by omega)
 rwa [kU]at this
theorem Lo{w w':World}{L:List Ud}{A6:Option Addr}{c6 n k m B:Nat}{x:Ud}(hn:n=L.length)(hk:k<=n)(hs:UdS.Srt L)(h1:∀j,k=j+1->Hp (L.getD j Ud.zero).k x.k<0)(h2:∀y∈L.drop k,0<UdS.cmpC y x)(hm:m=n+1)
  (o:Own w' B 95 4 A6 m c6 (Ah (L.take k)++udC x++Ah (L.drop k))) (X:Ext w w') (hB:w.heap.size<=B):kO w (x::L) (UdS.addV (L.map Ud.uv) x.uv) (.returned (.slice A6 m c6)) w':=by
 have hl:(L.take k++x::L.drop k).length=m:=by rw[AA,AI,CA,CQ];omega
 refine⟨A6,m,c6,L.take k++x::L.drop k,rfl,hl.symm,?_,fun y hy=>⟨y,?_,rfl,rfl,rfl,rfl⟩,UdS.zK hs (by omega) rfl h1 (fun y hy=>h2 y (List.mem_of_mem_head? hy)),X⟩
 ·have e:Ah (L.take k++x::L.drop k)=Ah (L.take k)++udC x++Ah (L.drop k):=by rw[Bb,AJ];rfl
  rw[e];exact o.mono hB
 ·rcases AR.1 hy with hy|hy
  ·exact BN _ (CF hy)
  ·rcases AZ.1 hy with rfl|hy
   ·exact BE ..
   ·exact BN _ (CP hy)
theorem wW{w w3:World}{L:List Ud}{c3 n j g B:Nat}{x y:Ud}{s:Int}(hn:n=L.length)(hj:j<n)(hs:UdS.Srt L)(hy:L.getD j Ud.zero=y)(hv:UdS.cmpC y x=0)(hsm:w64 (y.d+x.d)=s)(hg:w.heap.size<=g)
  (o:Own w3 B 95 4 (some ⟨g,0,none⟩) n c3 (Ah L)) (X:Ext w w3) (hB:w.heap.size<=B):kO w (x::L) (UdS.addV (L.map Ud.uv) x.uv) (.returned (.slice (some ⟨g,0,none⟩) n c3)) (w3.setCell ⟨g,j*4+3,none⟩ (.int .i64 s)):=by
 have XE:Ext w (w3.setCell ⟨g,j*4+3,none⟩ (.int .i64 s)):=X.set (p:=⟨g,_,none⟩) hg _;refine⟨_,n,c3,L.set j ⟨y.A,y.c,y.l,y.t,s⟩,rfl,by rw[DY];exact hn,?_,fun z hz=>?_,UdS.zM hs (by omega) hy hv hsm,XE⟩
 ·have:=(o.put (j*4+3) (.int .i64 s)).mono hB;rw[UdS.zL L j y s (by omega) hy]at this;exact this
 ·rcases List.mem_or_eq_of_mem_set hz with hz|rfl
  ·exact⟨z,BN _ hz,rfl,rfl,rfl,rfl⟩
  ·exact⟨y,BN _ (hy▸Ar (by omega)),rfl,rfl,rfl,rfl⟩
theorem iC{V:List UV}(A:Option Addr)(c n:Nat)(L:List Ud)(x:Ud)(nx tx:Nat)(w:World)(hV:Hid (UdS.addV (L.map Ud.uv) x.uv=V))(hn:Hid (n=L.length))(hnx:Hid (nx=x.l.length))(htx:Hid (tx=x.t.l.length))(h:Hid (Uin w A c L))(hx:Hid (UdR w x))(hs:Hid (UdS.Srt L))(ux:Hid (U32 x.t.l))(uL:Hid (∀y∈L,U32 y.t.l/\y.t.l.length<=1000000))(h9:n<=1000000)(h8:tx<=1000000) :
  Calls Tryz.prog 118 #[.slice A n c,.agg #[.slice x.A nx x.c,.int .u64 x.t.e,.slice x.t.A tx x.t.c,.int .i64 x.d]] w (kO w (x::L) V):=by
 rw[<-hV.out];have hcap:n<=c/\c<=9223372036854775807:=by have:=h.out.sl.cap;rwa [<-hn.out]at this
 go_enter Tryz.func118,Tryz.ntmps118;go_wp2;obtain⟨wb,hwb⟩:∃wb,wb=w.alloc (.cells #[.slice x.A nx x.c,.int .u64 x.t.e,.slice x.t.A tx x.t.c,.int .i64 x.d] 95):=⟨_,rfl⟩;have XB:Hid (Ext w wb):=hid (by rw[hwb];exact(Ext.refl _).alloc _);have BU:Hid (Bk wb w.heap.size 95 #[.slice x.A nx x.c,.int .u64 x.t.e,.slice x.t.A tx x.t.c,.int .i64 x.d]):=hid (by rw[hwb];exact Bk.new _ _ _);rw[<-hwb];clear hwb;obtain⟨gu,hgu⟩:∃k,k=w.heap.size:=⟨_,rfl⟩;rw[<-hgu]at BU ⊢;clear hgu;have HXN:Hid (udC x=[.slice x.A nx x.c,.int .u64 x.t.e,.slice x.t.A tx x.t.c,.int .i64 x.d]):=hid (by rw[hnx.out,htx.out];rfl);have HD0:Hid (∀y∈L.drop n,0<UdS.cmpC y x):=hid (fun y hy=>by rw[DN (by rw[<-hn.out];exact AD _)]at hy;cases hy)
 go_loopg [5] n (fun z v wr=>∃k:Nat,z=k/\k<=n/\v=.int .i64 k/\Hid (∀y∈L.drop k,0<UdS.cmpC y x)/\Hid (Ext wb wr))
 case atStart=>exact⟨n,rfl,AD _,rfl,HD0,hid (Ext.refl _)⟩
 case round =>
  clear HD0;obtain⟨k,hzk,hk,rfl,HD,HE⟩:=hrel;have X:Ext wr wr.drew:=(Ext.refl wr).drew;have q0:∀z:Xt wr.drew,z.W.cell? ⟨gu,0,none⟩=some (.slice x.A nx x.c):=fun z=>(BU.out.ext ((HE.out.trans X).trans z.x)).cell 0;have q1:∀z:Xt wr.drew,z.W.cell? ⟨gu,1,none⟩=some (.int .u64 x.t.e):=fun z=>(BU.out.ext ((HE.out.trans X).trans z.x)).cell 1;have q2:∀z:Xt wr.drew,z.W.cell? ⟨gu,2,none⟩=some (.slice x.t.A tx x.t.c):=fun z=>(BU.out.ext ((HE.out.trans X).trans z.x)).cell 2;have q3:∀z:Xt wr.drew,z.W.cell? ⟨gu,3,none⟩=some (.int .i64 x.d):=fun z=>(BU.out.ext ((HE.out.trans X).trans z.x)).cell 3;have HUX:Hid (∀W,Ext wb W->UdR W x):=hid (fun W q=>(hx.out.ext XB.out).ext q);cases k with
  | zero =>
   go_upto_region 2 with fail
   refine wro [0,1,3,7,7,23,63,127,7,511,1023,2047] (.flo [0,1,2,3,4,5,6,7,8] (.one 9 (.flo [10,11] (.fin)))) ?_
   (refine Aa (pks rfl) ?_;(repeat (go_big_quiet_step (fail)));refine oq ?_)
   refine Ac (pks rfl) ?_;intro K_ hK_;go_wp2
   (refine Aa (pks rfl) ?_;(repeat (go_big_quiet_step (fail)));refine oq ?_)
   refine Ad ?_;have x3:Ext wr.drew wr.drew:=Ext.refl _;obtain⟨w3,hw3⟩:∃W:World,W=wr.drew:=⟨_,rfl⟩;rw[<-hw3]at X x3 ⊢;have x3:Ext w3 w3:=Ext.refl _;clear hw3;have HE:=hid (HE.out.trans (X.trans x3));clear q0 q1 q2 q3 X;obtain⟨wr,hwr⟩:∃W:World,W=w3:=⟨_,rfl⟩;rw[<-hwr]at HE ⊢;clear hwr x3;have X:Ext wr wr.drew:=(Ext.refl wr).drew;have q0:∀z:Xt wr.drew,z.W.cell? ⟨gu,0,none⟩=some (.slice x.A nx x.c):=fun z=>(BU.out.ext ((HE.out.trans X).trans z.x)).cell 0;have q1:∀z:Xt wr.drew,z.W.cell? ⟨gu,1,none⟩=some (.int .u64 x.t.e):=fun z=>(BU.out.ext ((HE.out.trans X).trans z.x)).cell 1;have q2:∀z:Xt wr.drew,z.W.cell? ⟨gu,2,none⟩=some (.slice x.t.A tx x.t.c):=fun z=>(BU.out.ext ((HE.out.trans X).trans z.x)).cell 2;have q3:∀z:Xt wr.drew,z.W.cell? ⟨gu,3,none⟩=some (.int .i64 x.d):=fun z=>(BU.out.ext ((HE.out.trans X).trans z.x)).cell 3
   go_upto_region 4 with fail
   refine wro [0,1,3,7,7,23,63,127,7,511,1023,2047] (.flo [0,1,2,3,4,5,6,7,8] (.one 9 (.flo [10,11] (.fin)))) ?_
   (refine Aa (pks rfl) ?_;(repeat (go_big_quiet_step (fail)));refine oq ?_)
   refine Ac (pks rfl) ?_;intro K_ hK_;go_wp2
   (refine Aa (pks rfl) ?_;(repeat (go_big_quiet_step (fail)));refine oq ?_)
   refine Ad ?_;have x3:Ext wr.drew wr.drew:=Ext.refl _;obtain⟨w3,hw3⟩:∃W:World,W=wr.drew:=⟨_,rfl⟩;rw[<-hw3]at X x3 ⊢;have x3:Ext w3 w3:=Ext.refl _;clear hw3;have HE:=hid (HE.out.trans (X.trans x3));clear q0 q1 q2 q3 X;obtain⟨wr,hwr⟩:∃W:World,W=w3:=⟨_,rfl⟩;rw[<-hwr]at HE ⊢;clear hwr x3;have ST:Hid (Sl wr 4 A (0) c (Ah (L.take (0)))):=hid ((h.out.ext (XB.out.trans HE.out)).takeS hn.out hk);have SD:Hid (Sl wr 4 (if c=0 then A else A.map (·.add ((0)*4))) (n-(0)) (c-(0)) (Ah (L.drop (0)))):=hid ((h.out.ext (XB.out.trans HE.out)).dropS hn.out hk);cases A with
   | none =>
    obtain rfl:c=0:=h.out.sl.2.2.2.1 rfl;have hn0:n=0:=by omega
    subst hn0;have p1:True:=trivial;go_wp2_with (first
     | (at_builtin;have mk:=p1;clear p1 mk;refine Ab _ Aw wr.heap.size _ _ rfl rfl none 0 0 [] rfl (Own.nil _ _ _ _) none 0 0 (Ah (L.take 0)) rfl ST.out (Ca _) (by omega) (by decide) (AD _) ?_;intro A4 c4 w4 o4 g4 h4;clear h4;have y4:Ext wr w4:=Ext.grown (Ext.refl _) g4 (fun k e=>nomatch e);have O4:Hid (Own w4 wr.heap.size 95 4 A4 0 c4 (Ah (L.take 0))):=hid (by have:=o4;rwa [BR,BC]at this);have e0:=(BU.out.ext (HE.out.trans y4)).cell 0;have e1:=(BU.out.ext (HE.out.trans y4)).cell 1;have e2:=(BU.out.ext (HE.out.trans y4)).cell 2;have e3:=(BU.out.ext (HE.out.trans y4)).cell 3;have Y4:=hid y4;clear o4 g4 y4;have p2:True:=trivial)
     | (at_builtin;have mk:=p2;clear p2 mk;refine Ab _ Aw wr.heap.size _ _ rfl rfl A4 0 c4 (Ah (L.take 0)) rfl (O4.out.alloc _) (some ⟨w4.heap.size,0,none⟩) 1 1 [.slice x.A nx x.c,.int .u64 x.t.e,.slice x.t.A tx x.t.c,.int .i64 x.d] rfl (Sl.one w4 #[.slice x.A nx x.c,.int .u64 x.t.e,.slice x.t.A tx x.t.c,.int .i64 x.d] 95 4 rfl) (by intro u hu;simp at hu;rcases hu with rfl|rfl|rfl|rfl<;>rfl) (by omega) (by decide) (AQ Y4.out.size ((Ext.refl w4).alloc _).size) ?_;intro A5 c5 w5 o5 g5 h5;clear h5;have Y5:Hid (Ext wr w5):=hid (Ext.grown (Y4.out.alloc _) g5 (fun k e=>(O4.out.lt k e).1));have O5:=hid o5;clear o5 g5;have p3:True:=trivial)
     | (at_builtin;have mk:=p3;clear p3 mk;refine Ab _ Aw wr.heap.size _ _ rfl rfl A5 (0+1) c5 _ rfl O5.out none (0) (0) (Ah (L.drop 0)) rfl ((Sl.ext (by have:=SD.out;simpa using this) Y5.out)) (Ca _) (by omega) (by decide) Y5.out.size ?_;intro A6 c6 w6 o6 g6 h6;clear h6;have Y6:Hid (Ext wr w6):=hid (Ext.grown Y5.out g6 (fun k e=>(O5.out.lt k e).1));have O6:=hid o6;clear o6 g6)
     | fail)
    go_ret;exact Lo (k:=0) (m:=0+1+(0)) hn.out (by omega) hs.out (fun j e=>by omega) HD.out (by omega) (by have:=O6.out;rw[HXN.out];exact this) ((XB.out.trans HE.out).trans Y6.out) (XB.out.trans HE.out).size
   | some a3 =>
    by_cases hcj:c=0
    ·subst hcj;have hn0:n=0:=by omega
     subst hn0;have p1:True:=trivial;go_wp2_with (first
      | (at_builtin;have mk:=p1;clear p1 mk;refine Ab _ Aw wr.heap.size _ _ rfl rfl none 0 0 [] rfl (Own.nil _ _ _ _) (some a3) 0 0 (Ah (L.take 0)) rfl ST.out (Ca _) (by omega) (by decide) (AD _) ?_;intro A4 c4 w4 o4 g4 h4;clear h4;have y4:Ext wr w4:=Ext.grown (Ext.refl _) g4 (fun k e=>nomatch e);have O4:Hid (Own w4 wr.heap.size 95 4 A4 0 c4 (Ah (L.take 0))):=hid (by have:=o4;rwa [BR,BC]at this);have e0:=(BU.out.ext (HE.out.trans y4)).cell 0;have e1:=(BU.out.ext (HE.out.trans y4)).cell 1;have e2:=(BU.out.ext (HE.out.trans y4)).cell 2;have e3:=(BU.out.ext (HE.out.trans y4)).cell 3;have Y4:=hid y4;clear o4 g4 y4;have p2:True:=trivial)
      | (at_builtin;have mk:=p2;clear p2 mk;refine Ab _ Aw wr.heap.size _ _ rfl rfl A4 0 c4 (Ah (L.take 0)) rfl (O4.out.alloc _) (some ⟨w4.heap.size,0,none⟩) 1 1 [.slice x.A nx x.c,.int .u64 x.t.e,.slice x.t.A tx x.t.c,.int .i64 x.d] rfl (Sl.one w4 #[.slice x.A nx x.c,.int .u64 x.t.e,.slice x.t.A tx x.t.c,.int .i64 x.d] 95 4 rfl) (by intro u hu;simp at hu;rcases hu with rfl|rfl|rfl|rfl<;>rfl) (by omega) (by decide) (AQ Y4.out.size ((Ext.refl w4).alloc _).size) ?_;intro A5 c5 w5 o5 g5 h5;clear h5;have Y5:Hid (Ext wr w5):=hid (Ext.grown (Y4.out.alloc _) g5 (fun k e=>(O4.out.lt k e).1));have O5:=hid o5;clear o5 g5;have p3:True:=trivial)
      | (at_builtin;have mk:=p3;clear p3 mk;refine Ab _ Aw wr.heap.size _ _ rfl rfl A5 (0+1) c5 _ rfl O5.out _ (0) (0) (Ah (L.drop 0)) rfl ((Sl.ext (by have:=SD.out;simpa using this) Y5.out)) (Ca _) (by omega) (by decide) Y5.out.size ?_;intro A6 c6 w6 o6 g6 h6;clear h6;have Y6:Hid (Ext wr w6):=hid (Ext.grown Y5.out g6 (fun k e=>(O5.out.lt k e).1));have O6:=hid o6;clear o6 g6)
      | fail)
     go_ret;exact Lo (k:=0) (m:=0+1+(0)) hn.out (by omega) hs.out (fun j e=>by omega) HD.out (by omega) (by have:=O6.out;rw[HXN.out];exact this) ((XB.out.trans HE.out).trans Y6.out) (XB.out.trans HE.out).size
    ·have p1:True:=trivial;go_wp2_with (first
      | (at_builtin;have mk:=p1;clear p1 mk;refine Ab _ Aw wr.heap.size _ _ rfl rfl none 0 0 [] rfl (Own.nil _ _ _ _) (some a3) 0 c (Ah (L.take 0)) rfl ST.out (Ca _) (by omega) (by decide) (AD _) ?_;intro A4 c4 w4 o4 g4 h4;clear h4;have y4:Ext wr w4:=Ext.grown (Ext.refl _) g4 (fun k e=>nomatch e);have O4:Hid (Own w4 wr.heap.size 95 4 A4 0 c4 (Ah (L.take 0))):=hid (by have:=o4;rwa [BR,BC]at this);have e0:=(BU.out.ext (HE.out.trans y4)).cell 0;have e1:=(BU.out.ext (HE.out.trans y4)).cell 1;have e2:=(BU.out.ext (HE.out.trans y4)).cell 2;have e3:=(BU.out.ext (HE.out.trans y4)).cell 3;have Y4:=hid y4;clear o4 g4 y4;have p2:True:=trivial)
      | (at_builtin;have mk:=p2;clear p2 mk;refine Ab _ Aw wr.heap.size _ _ rfl rfl A4 0 c4 (Ah (L.take 0)) rfl (O4.out.alloc _) (some ⟨w4.heap.size,0,none⟩) 1 1 [.slice x.A nx x.c,.int .u64 x.t.e,.slice x.t.A tx x.t.c,.int .i64 x.d] rfl (Sl.one w4 #[.slice x.A nx x.c,.int .u64 x.t.e,.slice x.t.A tx x.t.c,.int .i64 x.d] 95 4 rfl) (by intro u hu;simp at hu;rcases hu with rfl|rfl|rfl|rfl<;>rfl) (by omega) (by decide) (AQ Y4.out.size ((Ext.refl w4).alloc _).size) ?_;intro A5 c5 w5 o5 g5 h5;clear h5;have Y5:Hid (Ext wr w5):=hid (Ext.grown (Y4.out.alloc _) g5 (fun k e=>(O4.out.lt k e).1));have O5:=hid o5;clear o5 g5;have p3:True:=trivial)
      | (at_builtin;have mk:=p3;clear p3 mk;refine Ab _ Aw wr.heap.size _ _ rfl rfl A5 (0+1) c5 _ rfl O5.out _ (n) (c) (Ah (L.drop 0)) rfl ((Sl.ext (by have:=SD.out;rw[if_neg hcj]at this;simpa [Addr.add] using this) Y5.out)) (Ca _) (by omega) (by decide) Y5.out.size ?_;intro A6 c6 w6 o6 g6 h6;clear h6;have Y6:Hid (Ext wr w6):=hid (Ext.grown Y5.out g6 (fun k e=>(O5.out.lt k e).1));have O6:=hid o6;clear o6 g6)
      | fail)
     go_ret;exact Lo (k:=0) (m:=0+1+(n)) hn.out (by omega) hs.out (fun j e=>by omega) HD.out (by omega) (by have:=O6.out;rw[HXN.out];exact this) ((XB.out.trans HE.out).trans Y6.out) (XB.out.trans HE.out).size
  | succ j =>
   have hjL:j<L.length:=by rw[<-hn.out];omega
   have hcel:∀W,Ext wb W->∃ad,A=some ad/\W.cell? (ad.add (j*4))=some (.slice (L.getD j Ud.zero).A (L.getD j Ud.zero).l.length (L.getD j Ud.zero).c) /\
     W.cell? ⟨(ad.add (j*4)).block,(ad.add (j*4)).off+1,none⟩=some (.int .u64 (L.getD j Ud.zero).t.e)/\W.cell? ⟨(ad.add (j*4)).block,(ad.add (j*4)).off+2,none⟩=some (.slice (L.getD j Ud.zero).t.A (L.getD j Ud.zero).t.l.length (L.getD j Ud.zero).t.c) /\
     W.cell? ⟨(ad.add (j*4)).block,(ad.add (j*4)).off+3,none⟩=some (.int .i64 (L.getD j Ud.zero).d):=fun W q=>((h.out.ext XB.out).ext q).at hjL
   obtain⟨ad,eA,_⟩:=hcel wb (Ext.refl _);have hUY:∀W,Ext wb W->UdR W (L.getD j Ud.zero):=fun W q=>((h.out.ls _ (Ar hjL)).ext XB.out).ext q;have h32:=uL.out _ (Ar hjL);have hdrop:L.drop j=L.getD j Ud.zero::L.drop (j+1):=Wf hjL;obtain⟨y,hy⟩:∃y,L.getD j Ud.zero=y:=⟨_,rfl⟩;simp only[hy,eA,ER,exists_eq_left']at hcel hUY h32 hdrop;obtain⟨ny,hny⟩:∃ny,ny=y.l.length:=⟨_,rfl⟩;obtain⟨ty,hty⟩:∃ty,ty=y.t.l.length:=⟨_,rfl⟩;simp only[<-hny,<-hty]at hcel;have HNY:=hid hny;have HTY:=hid hty;have HY:=hid hy;have HUY:=hid hUY;have HU32:Hid (U32 y.t.l):=hid h32.1;have hty9:ty<=1000000:=by rw[hty];exact h32.2
   have HDR:=hid hdrop;have HC0:=hid (fun W q=>(hcel W q).1);have HC1:=hid (fun W q=>(hcel W q).2.1);have HC2:=hid (fun W q=>(hcel W q).2.2.1);have HC3:=hid (fun W q=>(hcel W q).2.2.2);obtain⟨v,hv⟩:∃v,UdS.cmpC y x=v:=⟨_,rfl⟩;have HV:=hid hv;subst eA;clear hcel hUY h32 hy hny hty hv hdrop hjL;have za:decide ((0:Int)<(j:Int)+1)=true:=decide_eq_true (by omega);have s0:∀z:Xt wr.drew,z.W.cell? (ad.add (j*4))=some (.slice y.A ny y.c):=fun z=>HC0.out _ ((HE.out.trans X).trans z.x);have s1:∀z:Xt wr.drew,z.W.cell? ⟨(ad.add (j*4)).block,(ad.add (j*4)).off+1,none⟩=some (.int .u64 y.t.e):=fun z=>HC1.out _ ((HE.out.trans X).trans z.x);have s2:∀z:Xt wr.drew,z.W.cell? ⟨(ad.add (j*4)).block,(ad.add (j*4)).off+2,none⟩=some (.slice y.t.A ty y.t.c):=fun z=>HC2.out _ ((HE.out.trans X).trans z.x);have s3:∀z:Xt wr.drew,z.W.cell? ⟨(ad.add (j*4)).block,(ad.add (j*4)).off+3,none⟩=some (.int .i64 y.d):=fun z=>HC3.out _ ((HE.out.trans X).trans z.x);by_cases hp:0<v
   ·have zv:decide (0<v)=true:=decide_eq_true hp;have HP:=hid hp;clear hp
    go_upto_region 2 with fail
    refine wro [0,1,3,7,7,23,63,127,7,511,1023,2047] (.flo [0,1,2,3,4,5,6,7,8] (.one 9 (.flo [10,11] (.fin)))) ?_
    (refine Aa (pks rfl) ?_;(repeat (go_big_quiet_step (fail)));refine oq ?_)
    refine Ac (pks rfl) ?_;intro K_ hK_;go_wp2_with (go_at_call 194;refine(Mj y x ny nx ty tx _ _ HV HNY hnx HTY htx (hid (HUY.out _ (HE.out.trans X))) (hid (HUX.out _ (HE.out.trans X))) HU32 ux hty9 h8).mono ?_;rintro e w3 ⟨rfl,x3⟩)
    (refine Aa (pks rfl) ?_;(repeat (go_big_quiet_step (fail)));refine oq ?_)
    refine Ad ?_;go_wp2
    go_roundg j
    case measure=>omega
    case rel=>exact⟨j,rfl,by omega,by go_num,hid (fun z hz=>by rw[HDR.out]at hz;rcases AZ.1 hz with rfl|hz;(rw[HV.out];exact HP.out);exact HD.out z hz),hid (HE.out.trans (X.trans x3))⟩
   ·have zv:decide (0<v)=false:=decide_eq_false hp;have HNP:=hid hp;clear hp
    go_upto_region 2 with fail
    refine wro [0,1,3,7,7,23,63,127,7,511,1023,2047] (.flo [0,1,2,3,4,5,6,7,8] (.one 9 (.flo [10,11] (.fin)))) ?_
    (refine Aa (pks rfl) ?_;(repeat (go_big_quiet_step (fail)));refine oq ?_)
    refine Ac (pks rfl) ?_;intro K_ hK_;go_wp2_with (go_at_call 194;refine(Mj y x ny nx ty tx _ _ HV HNY hnx HTY htx (hid (HUY.out _ (HE.out.trans X))) (hid (HUX.out _ (HE.out.trans X))) HU32 ux hty9 h8).mono ?_;rintro e w3 ⟨rfl,x3⟩)
    (refine Aa (pks rfl) ?_;(repeat (go_big_quiet_step (fail)));refine oq ?_)
    refine Ad ?_;clear s0 s1 s2 s3;have HE:=hid (HE.out.trans (X.trans x3));clear q0 q1 q2 q3 X;obtain⟨wr,hwr⟩:∃W:World,W=w3:=⟨_,rfl⟩;rw[<-hwr]at HE ⊢;clear hwr x3;have X:Ext wr wr.drew:=(Ext.refl wr).drew;have q0:∀z:Xt wr.drew,z.W.cell? ⟨gu,0,none⟩=some (.slice x.A nx x.c):=fun z=>(BU.out.ext ((HE.out.trans X).trans z.x)).cell 0;have q1:∀z:Xt wr.drew,z.W.cell? ⟨gu,1,none⟩=some (.int .u64 x.t.e):=fun z=>(BU.out.ext ((HE.out.trans X).trans z.x)).cell 1;have q2:∀z:Xt wr.drew,z.W.cell? ⟨gu,2,none⟩=some (.slice x.t.A tx x.t.c):=fun z=>(BU.out.ext ((HE.out.trans X).trans z.x)).cell 2;have q3:∀z:Xt wr.drew,z.W.cell? ⟨gu,3,none⟩=some (.int .i64 x.d):=fun z=>(BU.out.ext ((HE.out.trans X).trans z.x)).cell 3;have s0:∀z:Xt wr.drew,z.W.cell? (ad.add (j*4))=some (.slice y.A ny y.c):=fun z=>HC0.out _ ((HE.out.trans X).trans z.x);have s1:∀z:Xt wr.drew,z.W.cell? ⟨(ad.add (j*4)).block,(ad.add (j*4)).off+1,none⟩=some (.int .u64 y.t.e):=fun z=>HC1.out _ ((HE.out.trans X).trans z.x);have s2:∀z:Xt wr.drew,z.W.cell? ⟨(ad.add (j*4)).block,(ad.add (j*4)).off+2,none⟩=some (.slice y.t.A ty y.t.c):=fun z=>HC2.out _ ((HE.out.trans X).trans z.x);have s3:∀z:Xt wr.drew,z.W.cell? ⟨(ad.add (j*4)).block,(ad.add (j*4)).off+3,none⟩=some (.int .i64 y.d):=fun z=>HC3.out _ ((HE.out.trans X).trans z.x);by_cases hv0:v=0
    ·have HV0:=hid hv0;subst hv0
     go_upto_region 4 with fail
     refine wro [0,1,3,7,7,23,63,127,7,511,1023,2047] (.flo [0,1,2,3,4,5,6,7,8] (.one 9 (.flo [10,11] (.fin)))) ?_
     (refine Aa (pks rfl) ?_;(repeat (go_big_quiet_step (fail)));refine oq ?_)
     refine Ac (pks rfl) ?_;intro K_ hK_;go_wp2_with (go_at_call 194;refine(Mj y x ny nx ty tx _ _ HV HNY hnx HTY htx (hid (HUY.out _ (HE.out.trans X))) (hid (HUX.out _ (HE.out.trans X))) HU32 ux hty9 h8).mono ?_;rintro e w3 ⟨rfl,x3⟩)
     (refine Aa (pks rfl) ?_;(repeat (go_big_quiet_step (fail)));refine oq ?_)
     refine Ad ?_;have HE:=hid (HE.out.trans (X.trans x3));clear q0 q1 q2 q3 s0 s1 s2 s3 X;obtain⟨wr,hwr⟩:∃W:World,W=w3:=⟨_,rfl⟩;rw[<-hwr]at HE ⊢;clear hwr x3;have SL:Hid (Sl wr 4 (some ad) n c (Ah L)):=hid (by have:=(h.out.ext (XB.out.trans HE.out)).sl;rwa [<-hn.out]at this);obtain⟨s,hsm⟩:∃s,w64 (y.d+x.d)=s:=⟨_,rfl⟩;have hsm2:IntKind.i64.wrap (y.d+x.d)=s:=hsm;have HSM:=hid hsm;clear hsm
     go_upto_region 7 with (first
      | (at_builtin;refine Ab _ Aw wr.heap.size _ _ rfl rfl none 0 0 [] rfl (Own.nil _ _ _ _) (some ad) n c (Ah L) rfl SL.out (Ca _) (by omega) (by decide) (AD _) ?_;intro A4 c4 w4 o4 g4 h4;clear h4;have y4:Ext wr w4:=Ext.grown (Ext.refl _) g4 (fun k e=>nomatch e);have o4:Own w4 wr.heap.size 95 4 A4 n c4 (Ah L):=(by have:=o4;rwa [BR,BC]at this);have hf:=o4.form (show 0<n by omega);obtain⟨g4',eA4,_,hg4,_,hc4,hf4⟩:=hf;subst eA4;have O4:=hid o4;have Y4:=hid y4;have HG4:=hid hg4;have d3:=hc4 (j*4+3) (.int .i64 y.d) (by rw[Eg L j 3 (by rw[<-hn.out];omega) (by omega),HY.out];rfl);have f3:=hf4 (j*4+3);clear o4 g4 hg4 hc4 hf4)
      | fail)
     have X:Ext w4 w4.drew:=(Ext.refl w4).drew;have e3:∀z:Xt w4.drew,z.W.cell? ⟨g4',j*4+3,none⟩=some (.int .i64 y.d):=fun z=>(X.trans z.x).cell d3;have u3:∀z:Xt w4.drew,z.W.cell? ⟨gu,3,none⟩=some (.int .i64 x.d):=fun z=>(BU.out.ext (((HE.out.trans Y4.out).trans X).trans z.x)).cell 3;have HRES:=hid (wW (B:=wr.heap.size) (n:=n) (x:=x) hn.out (by omega) hs.out HY.out HV.out HSM.out (AQ (XB.out.trans HE.out).size HG4.out) (O4.out.ext X) (((XB.out.trans HE.out).trans Y4.out).trans X) (XB.out.trans HE.out).size);refine wro [0,0,2,7,15,31,0,64,255,511,1023,2047] (.flo [0,1,2,3,4,5,6,7,8,9,10] (.one 11 (.fin))) ?_
     (refine Aa (pks rfl) ?_;(repeat (go_big_quiet_step (fail)));refine oq ?_)
     refine Ac (pks rfl) ?_;intro K_ hK_;go_wp2;refine Ad ?_;go_wp2;go_ret;exact HRES.out
    ·have zv0:(v==0)=false:=by simpa using hv0
     have HLT:Hid (Hp y.k x.k<0):=hid (by have a:=HNP.out;have b:=HV.out;show UdS.cmpC y x<0;omega);clear hv0
     go_upto_region 4 with fail
     refine wro [0,1,3,7,7,23,63,127,7,511,1023,2047] (.flo [0,1,2,3,4,5,6,7,8] (.one 9 (.flo [10,11] (.fin)))) ?_
     (refine Aa (pks rfl) ?_;(repeat (go_big_quiet_step (fail)));refine oq ?_)
     refine Ac (pks rfl) ?_;intro K_ hK_;go_wp2_with (go_at_call 194;refine(Mj y x ny nx ty tx _ _ HV HNY hnx HTY htx (hid (HUY.out _ (HE.out.trans X))) (hid (HUX.out _ (HE.out.trans X))) HU32 ux hty9 h8).mono ?_;rintro e w3 ⟨rfl,x3⟩)
     (refine Aa (pks rfl) ?_;(repeat (go_big_quiet_step (fail)));refine oq ?_)
     refine Ad ?_;clear s0 s1 s2 s3;have HE:=hid (HE.out.trans (X.trans x3));clear q0 q1 q2 q3 X;obtain⟨wr,hwr⟩:∃W:World,W=w3:=⟨_,rfl⟩;rw[<-hwr]at HE ⊢;clear hwr x3;have ST:Hid (Sl wr 4 (some ad) (j+1) c (Ah (L.take (j+1)))):=hid ((h.out.ext (XB.out.trans HE.out)).takeS hn.out hk);have SD:Hid (Sl wr 4 (if c=j+1 then some ad else (some ad:Option Addr).map (·.add ((j+1)*4))) (n-(j+1)) (c-(j+1)) (Ah (L.drop (j+1)))):=hid ((h.out.ext (XB.out.trans HE.out)).dropS hn.out hk);by_cases hcj:c=j+1
     ·obtain rfl:n=j+1:=by omega
      subst hcj;have p1:True:=trivial;go_wp2_with (first
       | (at_builtin;have mk:=p1;clear p1 mk;refine Ab _ Aw wr.heap.size _ _ rfl rfl none 0 0 [] rfl (Own.nil _ _ _ _) (some ad) (j+1) (j+1) (Ah (L.take (j+1))) rfl ST.out (Ca _) (by omega) (by decide) (AD _) ?_;intro A4 c4 w4 o4 g4 h4;clear h4;have y4:Ext wr w4:=Ext.grown (Ext.refl _) g4 (fun k e=>nomatch e);have O4:Hid (Own w4 wr.heap.size 95 4 A4 (j+1) c4 (Ah (L.take (j+1)))):=hid (by have:=o4;rwa [BR,BC]at this);have e0:=(BU.out.ext (HE.out.trans y4)).cell 0;have e1:=(BU.out.ext (HE.out.trans y4)).cell 1;have e2:=(BU.out.ext (HE.out.trans y4)).cell 2;have e3:=(BU.out.ext (HE.out.trans y4)).cell 3;have Y4:=hid y4;clear o4 g4 y4;have p2:True:=trivial)
       | (at_builtin;have mk:=p2;clear p2 mk;refine Ab _ Aw wr.heap.size _ _ rfl rfl A4 (j+1) c4 (Ah (L.take (j+1))) rfl (O4.out.alloc _) (some ⟨w4.heap.size,0,none⟩) 1 1 [.slice x.A nx x.c,.int .u64 x.t.e,.slice x.t.A tx x.t.c,.int .i64 x.d] rfl (Sl.one w4 #[.slice x.A nx x.c,.int .u64 x.t.e,.slice x.t.A tx x.t.c,.int .i64 x.d] 95 4 rfl) (by intro u hu;simp at hu;rcases hu with rfl|rfl|rfl|rfl<;>rfl) (by omega) (by decide) (AQ Y4.out.size ((Ext.refl w4).alloc _).size) ?_;intro A5 c5 w5 o5 g5 h5;clear h5;have Y5:Hid (Ext wr w5):=hid (Ext.grown (Y4.out.alloc _) g5 (fun k e=>(O4.out.lt k e).1));have O5:=hid o5;clear o5 g5;have p3:True:=trivial)
       | (at_builtin;have mk:=p3;clear p3 mk;refine Ab _ Aw wr.heap.size _ _ rfl rfl A5 ((j+1)+1) c5 _ rfl O5.out _ (0) (0) (Ah (L.drop (j+1))) rfl ((Sl.ext (by have:=SD.out;rw[if_pos rfl,DG]at this;exact this) Y5.out)) (Ca _) (by omega) (by decide) Y5.out.size ?_;intro A6 c6 w6 o6 g6 h6;clear h6;have Y6:Hid (Ext wr w6):=hid (Ext.grown Y5.out g6 (fun k e=>(O5.out.lt k e).1));have O6:=hid o6;clear o6 g6)
       | fail)
      go_ret;exact Lo (k:=(j+1)) (m:=(j+1)+1+(0)) hn.out (by omega) hs.out (fun j' e=>by obtain rfl:j=j':=(by omega);rw[HY.out];exact HLT.out) HD.out (by omega) (by have:=O6.out;rw[HXN.out];exact this) ((XB.out.trans HE.out).trans Y6.out) (XB.out.trans HE.out).size
     ·have p1:True:=trivial;go_wp2_with (first
       | (at_builtin;have mk:=p1;clear p1 mk;refine Ab _ Aw wr.heap.size _ _ rfl rfl none 0 0 [] rfl (Own.nil _ _ _ _) (some ad) (j+1) c (Ah (L.take (j+1))) rfl ST.out (Ca _) (by omega) (by decide) (AD _) ?_;intro A4 c4 w4 o4 g4 h4;clear h4;have y4:Ext wr w4:=Ext.grown (Ext.refl _) g4 (fun k e=>nomatch e);have O4:Hid (Own w4 wr.heap.size 95 4 A4 (j+1) c4 (Ah (L.take (j+1)))):=hid (by have:=o4;rwa [BR,BC]at this);have e0:=(BU.out.ext (HE.out.trans y4)).cell 0;have e1:=(BU.out.ext (HE.out.trans y4)).cell 1;have e2:=(BU.out.ext (HE.out.trans y4)).cell 2;have e3:=(BU.out.ext (HE.out.trans y4)).cell 3;have Y4:=hid y4;clear o4 g4 y4;have p2:True:=trivial)
       | (at_builtin;have mk:=p2;clear p2 mk;refine Ab _ Aw wr.heap.size _ _ rfl rfl A4 (j+1) c4 (Ah (L.take (j+1))) rfl (O4.out.alloc _) (some ⟨w4.heap.size,0,none⟩) 1 1 [.slice x.A nx x.c,.int .u64 x.t.e,.slice x.t.A tx x.t.c,.int .i64 x.d] rfl (Sl.one w4 #[.slice x.A nx x.c,.int .u64 x.t.e,.slice x.t.A tx x.t.c,.int .i64 x.d] 95 4 rfl) (by intro u hu;simp at hu;rcases hu with rfl|rfl|rfl|rfl<;>rfl) (by omega) (by decide) (AQ Y4.out.size ((Ext.refl w4).alloc _).size) ?_;intro A5 c5 w5 o5 g5 h5;clear h5;have Y5:Hid (Ext wr w5):=hid (Ext.grown (Y4.out.alloc _) g5 (fun k e=>(O4.out.lt k e).1));have O5:=hid o5;clear o5 g5;have p3:True:=trivial)
       | (at_builtin;have mk:=p3;clear p3 mk;refine Ab _ Aw wr.heap.size _ _ rfl rfl A5 ((j+1)+1) c5 _ rfl O5.out (some (ad.add ((j+1)*4))) (n-(j+1)) (c-(j+1)) (Ah (L.drop (j+1))) rfl ((Sl.ext (by have:=SD.out;rw[if_neg hcj]at this;exact this) Y5.out)) (Ca _) (by omega) (by decide) Y5.out.size ?_;intro A6 c6 w6 o6 g6 h6;clear h6;have Y6:Hid (Ext wr w6):=hid (Ext.grown Y5.out g6 (fun k e=>(O5.out.lt k e).1));have O6:=hid o6;clear o6 g6)
       | fail)
      go_ret;exact Lo (k:=(j+1)) (m:=(j+1)+1+(n-(j+1))) hn.out (by omega) hs.out (fun j' e=>by obtain rfl:j=j':=(by omega);rw[HY.out];exact HLT.out) HD.out (by omega) (by have:=O6.out;rw[HXN.out];exact this) ((XB.out.trans HE.out).trans Y6.out) (XB.out.trans HE.out).size
namespace UdS
theorem dF:∀(R:List V) (x y:V),y∈addV R x->y.1=x.1\/∃z∈R,z.1=y.1
 | [],x,y,h=>.inl (by rw[AH.1 h])
 | a::R,x,y,h=>by
  unfold addV at h;split at h
  ·rcases AZ.1 h with rfl|h
   ·exact .inr ⟨_,BE ..,rfl⟩
   ·rcases dF R x y h with q|⟨z,hz,q⟩
    ·exact .inl q
    ·exact .inr ⟨z,BN _ hz,q⟩
  ·split at h
   ·rcases AZ.1 h with rfl|h
    ·exact .inr ⟨_,BE ..,rfl⟩
    ·exact .inr ⟨y,BN _ h,rfl⟩
   ·rcases AZ.1 h with rfl|h
    ·exact .inl rfl
    ·exact .inr ⟨y,h,rfl⟩
theorem Ts{L:List Ud}:∀(i:Nat) (y:V),y∈Fh L i->∃x∈L,x.k=y.1
 | 0,y,h=>by unfold Fh at h;simp at h
 | i+1,y,h=>by
  by_cases hi:i<L.length
  ·rw[Qi hi rfl]at h;rcases dF _ _ _ h with q|⟨z,hz,q⟩
   ·exact⟨_,Ar hi,q.symm⟩
   ·obtain⟨x,hx,e⟩:=Ts i z hz;exact⟨x,hx,e.trans q⟩
  ·have e:Fh L (i+1)=Fh L i:=by unfold Fh;rw[AT (by omega),AT (by omega)]
   rw[e]at h;exact Ts i y h
end UdS
def Lb(w1 wr:World)(M:List Ud)(j:Nat)(A:Option Addr)(m c:Nat):Prop:=m=((M.take j).filter UdS.nzC).length/\Own wr w1.heap.size 95 4 A m c (Ah ((M.take j).filter UdS.nzC))/\Ext w1 wr
theorem Lb.skip{w1 wr:World}{M:List Ud}{j m c:Nat}{A:Option Addr}{x:Ud}(h:Lb w1 wr M j A m c)(hj:j<M.length)(hx:M.getD j Ud.zero=x)(hz:(x.d==0)=true):Lb w1 wr M (j+1) A m c:=by
 have e:(M.take (j+1)).filter UdS.nzC=(M.take j).filter UdS.nzC:=by
  rw[Ig hj,hx,DR];have:[x].filter UdS.nzC=[]:=by simp[UdS.nzC,hz]
  rw[this,AP]
 unfold Lb;rw[e];exact h
theorem Lb.more{w1 wr w2:World}{M:List Ud}{j m c m2 c2:Nat}{A A2:Option Addr}{x:Ud}(h:Lb w1 wr M j A m c)(hj:j<M.length)(hx:M.getD j Ud.zero=x)(hz:(x.d==0)=false)(hm:m2=m+1)
  (o:Own w2 w1.heap.size 95 4 A2 m2 c2 (Ah ((M.take j).filter UdS.nzC)++udC x)) (X:Ext w1 w2):Lb w1 w2 M (j+1) A2 m2 c2:=by
 have e:(M.take (j+1)).filter UdS.nzC=(M.take j).filter UdS.nzC++[x]:=by
  rw[Ig hj,hx,DR];have:[x].filter UdS.nzC=[x]:=by simp[UdS.nzC,hz]
  rw[this]
 unfold Lb;rw[e,AA,Bb];exact⟨by rw[hm,h.1];rfl,by rw[show Ah [x]=udC x by simp[Ah]];exact o,X⟩
def fY(w wr:World)(L:List Ud)(i:Nat)(A:Option Addr)(m c:Nat):Prop:=∃M,m=M.length/\Uin wr A c M/\M.map Ud.uv=UdS.Fh L i/\(∀y∈M,∃x∈L,Jy y x)/\Ext w wr
theorem tW{L M M4:List Ud}{x:Ud}(hx:x∈L)(h:∀y∈M,∃z∈L,Jy y z)(h4:∀y∈M4,∃z∈x::M,Jy y z):∀y∈M4,∃z∈L,Jy y z:=fun y hy=>by
 obtain⟨z,hz,a1,a2,a3,a4⟩:=h4 y hy;rcases AZ.1 hz with rfl|hz
 ·exact⟨z,hx,a1,a2,a3,a4⟩
 ·obtain⟨q,hq,b1,b2,b3,b4⟩:=h z hz;exact⟨q,hq,a1.trans b1,a2.trans b2,a3.trans b3,a4.trans b4⟩
theorem Ov{V:List UV}(A:Option Addr)(c n:Nat)(L:List Ud)(w:World)(hV:Hid (UdS.sumV (L.map Ud.uv)=V))(hn:Hid (n=L.length))(h:Hid (Uin w A c L))(h9:n<=1000000)(hin:Hid (∀x∈L,UdS.InN x.uv))(uL:Hid (∀y∈L,U32 y.t.l/\y.t.l.length<=1000000)) :
  Calls Tryz.prog 24 #[.slice A n c] w (kO w L V):=by
 have HR0:Hid (fY w w L 0 none 0 0):=hid ⟨[],rfl,Uin.nil _,rfl,fun y hy=>(nomatch hy),Ext.refl w⟩;go_enter Tryz.func24,Tryz.ntmps24;go_wp2
 go_loopg [3,4] n (fun z u v wr=>∃(i m c3:Nat) (A3:Option Addr),z=n-i/\i<=n/\m<=i/\u=.slice A3 m c3/\v=.int .i64 i/\Hid (fY w wr L i A3 m c3))
 case atStart=>exact⟨0,0,0,none,rfl,AE _,AD _,rfl,rfl,HR0⟩
 case round =>
  clear HR0;obtain⟨i,m,c3,A3,rfl,hi,hmi,rfl,rfl,HP⟩:=hrel;by_cases hlt:i<n
  ·obtain⟨M,hM,hC,hv,hp,X⟩:=HP.out;have HPV:=hid hp;have hil:i<L.length:=by rw[<-hn.out];exact hlt
   obtain⟨ad,rfl,p0,p1,p2,p3⟩:=(h.out.ext X).at hil;have hm:=Ar hil;obtain⟨x,hx⟩:∃x,L.getD i Ud.zero=x:=⟨_,rfl⟩;rw[hx]at p0 p1 p2 p3 hm;obtain⟨nx,hnx⟩:∃nx,nx=x.l.length:=⟨_,rfl⟩;obtain⟨tx,htx⟩:∃tx,tx=x.t.l.length:=⟨_,rfl⟩;rw[<-hnx]at p0;rw[<-htx]at p2;have HUX:=hid ((h.out.ls x hm).ext X);have HMC:=hid hC;have HNX:=hid hnx;have HTX:=hid htx;have HMM:=hid hM;have UX:Hid (U32 x.t.l):=hid (uL.out x hm).1;have htx9:tx<=1000000:=by rw[htx];exact(uL.out x hm).2
   have HS:Hid (UdS.Srt M):=hid (UdS.Srt.of (by rw[hv];exact UdS.zJ hin.out i));have HML:Hid (∀y∈M,U32 y.t.l/\y.t.l.length<=1000000):=hid (fun y hy=>by
    have:y.uv∈UdS.Fh L i:=by rw[<-hv];exact AW.2 ⟨y,hy,rfl⟩
    obtain⟨z,hz,e⟩:=UdS.Ts i _ this;have e2:z.t.l=y.t.l:=congrArg (fun q:UK=>q.2.2) e;rw[<-e2];exact uL.out z hz)
   have HV:Hid (UdS.addV (M.map Ud.uv) x.uv=UdS.Fh L (i+1)):=hid (by rw[UdS.Qi hil hx,hv]);have HXX:=hid X;have HXM:Hid (x∈L):=hid hm;clear hM hC hv hp X hil hm hx hnx htx HP;go_wp2_with (go_at_call 118;refine(iC A3 c3 m M x nx tx _ HV HMM HNX HTX HMC HUX HS UX HML (by omega) htx9).mono ?_;rintro e w1 hadd;obtain⟨A4,m4,c4,M4,rfl,hm4,o4,p4,hv4,X4⟩:=hadd;have hC4:=tV o4 hm4 p4 HUX.out HMC.out.ls X4;have hml:m4<=i+1:=(by rw[hm4];have q:=congrArg List.length hv4;rw[AN]at q;rw[q];exact UdS.gB L (i+1));have HP4:Hid (fY w w1 L (i+1) A4 m4 c4):=hid ⟨M4,hm4,hC4,hv4,tW HXM.out HPV.out p4,HXX.out.trans X4⟩;clear hm4 hC4 hv4 X4 o4 p4)
   go_roundg (n-(i+1))
   case measure=>omega
   case rel=>exact⟨i+1,m4,c4,A4,rfl,by omega,hml,rfl,by go_num,HP4⟩
  ·obtain rfl:i=n:=by omega
   obtain⟨M,hM,hC,hv,hp,X⟩:=HP.out;have HPV:=hid hp;clear hp;obtain⟨w1,hw1⟩:∃w1:World,w1=wr:=⟨_,rfl⟩;rw[<-hw1]at hC X ⊢;clear hw1;have HM:=hid hM;have HC:=hid hC;have HMV:=hid hv;have HX:=hid X;have HL0:Hid (Lb w1 w1 M 0 none 0 0):=hid ⟨rfl,Own.nil _ _ _ _,Ext.refl _⟩;clear hM hC hv X HP;go_wp2
   go_loopg [5,6] m (fun z u v wr=>∃(j n5 c5:Nat) (A5:Option Addr),z=m-j/\j<=m/\n5<=j/\u=.slice A5 n5 c5/\v=.int .i64 j/\Hid (Lb w1 wr M j A5 n5 c5))
   case atStart=>exact⟨0,0,0,none,rfl,AE _,AD _,rfl,rfl,HL0⟩
   case round =>
    clear HL0;obtain⟨j,n5,c5,A5,rfl,hj,hnj,rfl,rfl,HQ⟩:=hrel;by_cases hlt:j<m
    ·have hjl:j<M.length:=by rw[<-HM.out];exact hlt
     obtain⟨ad,rfl,p0,p1,p2,p3⟩:=(HC.out.ext HQ.out.2.2).at hjl;obtain⟨x,hx⟩:∃x,M.getD j Ud.zero=x:=⟨_,rfl⟩;rw[hx]at p0 p1 p2 p3;obtain⟨nx,hnx⟩:∃nx,nx=x.l.length:=⟨_,rfl⟩;obtain⟨tx,htx⟩:∃tx,tx=x.t.l.length:=⟨_,rfl⟩;rw[<-hnx]at p0;rw[<-htx]at p2;have HJ:=hid hjl;have HXJ:=hid hx;have HXN:Hid (udC x=[.slice x.A nx x.c,.int .u64 x.t.e,.slice x.t.A tx x.t.c,.int .i64 x.d]):=hid (by rw[hnx,htx];rfl);clear hjl hx hnx htx;cases hz:(x.d==0)
     ·have HZ:=hid hz;go_wp2_with (at_builtin;refine Ab _ Aw w1.heap.size _ _ rfl rfl A5 n5 c5 (Ah ((M.take j).filter UdS.nzC)) rfl (Own.alloc HQ.out.2.1 _) (some ⟨wr.heap.size,0,none⟩) 1 1 [.slice x.A nx x.c,.int .u64 x.t.e,.slice x.t.A tx x.t.c,.int .i64 x.d] rfl (Sl.one wr #[.slice x.A nx x.c,.int .u64 x.t.e,.slice x.t.A tx x.t.c,.int .i64 x.d] 95 4 rfl) (by intro u hu;simp at hu;rcases hu with rfl|rfl|rfl|rfl<;>rfl) (by omega) (by decide) (by have:=Ext.size HQ.out.2.2;simp;omega) ?_;intro A6 c6 w6 o6 g6 h6;clear h6;have HQ6:=hid (Lb.more (m2:=n5+1) HQ.out HJ.out HXJ.out HZ.out rfl (by rw[HXN.out];exact o6) (Ext.grown (Ext.alloc HQ.out.2.2 _) g6 (fun k e=>(HQ.out.2.1.lt k e).1)));clear o6 g6)
      go_roundg (m-(j+1))
      case measure=>omega
      case rel=>exact⟨j+1,n5+1,c6,A6,rfl,by omega,by omega,rfl,by go_num,HQ6⟩
     ·have HQ6:=hid (HQ.out.skip HJ.out HXJ.out hz);go_wp2
      go_roundg (m-(j+1))
      case measure=>omega
      case rel=>exact⟨j+1,n5,c5,A5,rfl,by omega,by omega,rfl,by go_num,HQ6⟩
    ·obtain rfl:j=m:=by omega
     have HE:Hid (kO w L V (.returned (.slice A5 n5 c5)) wr):=hid (by
      obtain⟨q1,q2,q3⟩:=HQ.out;rw[AT (by rw[<-HM.out];exact AD _)]at q1 q2;refine⟨A5,n5,c5,M.filter UdS.nzC,rfl,q1,q2.mono HX.out.size,fun y hy=>HPV.out y (BV.1 hy).1,?_,HX.out.trans q3⟩;have e:M.map Ud.uv=UdS.sumAll (L.map Ud.uv):=by rw[HMV.out];unfold UdS.Fh UdS.sumAll;rw[AT (by rw[<-hn.out];exact AD _)]
      rw[<-hV.out];unfold UdS.sumV;rw[<-e,EH];rfl)
     go_wp2;go_ret;exact HE.out
theorem Io:Gj Tryz.prog 78 204 4 32 (.agg #[.int .u8 0,.bool false,.int .i64 0,.string ⟨#[]⟩]):=⟨by kernel_rfl,by kernel_rfl,rfl,by decide⟩
def Sw(n:Nat):Obj:=.cells (madeCells #[.int .u8 0,.bool false,.int .i64 0,.string ⟨#[]⟩] (n*4)) 204
theorem mE(n:Nat)(hn:n<=1000000000)(W:World):(Instr.makeSlice 78 (.int .i64 0) (.int .i64 (n:Int))).run Tryz.prog W=.ok (.slice (some ⟨W.heap.size,0,none⟩) 0 n) (W.alloc (Sw n)):=by
 obtain⟨i,hi,hz,hs,hb⟩:=info_parts Io.info;have:=run_make (P:=Tryz.prog) (w:=W) 78 204 i _ Io.under hi hz .i64 .i64 0 (n:Int) (EL _) (by omega) (by rw[hb];omega) (by omega);rw[hs]at this;exact this
theorem rL(W:World)(n:Nat)(hn:n<=1000000000):Own (W.alloc (Sw n)) W.heap.size 204 4 (some ⟨W.heap.size,0,none⟩) 0 n []:=
 ⟨rfl,.inr ⟨W.heap.size,_,rfl,AD _,heap_alloc_new W _,AE _,by unfold maxLen;omega,EF (size_madeCells _ _).symm,rfl⟩⟩
def aU(k:Int):Dat:=⟨k,false,0,⟨#[]⟩⟩
def Hu:List Dat:=[aU 91,aU 92]
def xV(w:World)(n:Nat)(l:List Dat)(e:Ending)(w':World):Prop:=∃g,e=.returned (.slice (some ⟨g,0,none⟩) n (n+2))/\w.heap.size<=g/\Own w' w.heap.size 204 4 (some ⟨g,0,none⟩) (n+2) (n+2) (Dc (l++Hu))/\Ext w w'
theorem eS(A:Option Addr)(c n:Nat)(l:List Dat)(w:World)(hn:n=l.length)(h:Rw w A c l)(hs:n<=1000000) :
  Calls Tryz.prog 99 #[.slice A n c] w (xV w n l):=by
 have HN:=hid hn;have H:=hid h;have hmk:=mE (n+2) (by omega);have hmk2:∀W:World,(Instr.makeSlice 78 (.int .i64 0) (.int .i64 ((n:Int)+2))).run Tryz.prog W=.ok (.slice (some ⟨W.heap.size,0,none⟩) 0 (n+2)) (W.alloc (Sw (n+2))):=hmk;have m1:True:=trivial;clear hn h hmk;go_enter Tryz.func99,Tryz.ntmps99;go_wp2_with (first
  | (at_builtin;have mk:=m1;clear m1;refine Bd _ Io w.heap.size _ _ rfl rfl w.heap.size 0 (n+2) [] rfl (rL w (n+2) (by omega)) (by omega) A n c (Dc l) rfl (by rw[HN.out];exact Sl.ext H.out ((Ext.refl w).alloc _)) (Sp l) (by omega) ?_;intro w1 o1 g1;have O1:=hid o1;have X1:Ext w w1:=((Ext.refl w).alloc _).grown g1 (fun k e=>by cases e;exact AD _);have m2:True:=trivial;clear o1 g1)
  | (at_builtin;have mk:=m2;refine Bd _ Io w.heap.size _ _ rfl rfl w.heap.size n (n+2) (Dc l) rfl (by have:=O1.out.alloc (.cells (#[.int .u8 91,.bool false,.int .i64 0,.string ⟨#[]⟩,.int .u8 92,.bool false,.int .i64 0,.string ⟨#[]⟩]:Array Value) 204);rwa [BC,BR]at this) (by omega) (some ⟨w1.heap.size,0,none⟩) 2 2 (Dc Hu) rfl (Ea w1 _ _ _ 4 2 rfl rfl (by decide)) (Sp Hu) (by omega) ?_;intro w2 o2 g2;have O2:=hid o2;have X2:Ext w w2:=(X1.alloc _).grown g2 (fun k e=>by cases e;exact AD _);clear o2 g2))
 go_ret;exact⟨w.heap.size,by simp,AD _,by have:=O2.out;rwa [<-dV]at this,X2⟩
theorem eQ(A:Option Addr)(c n:Nat)(l:List Dat)(w:World)(hn:Hid (n=l.length))(h:Hid (Rw w A c l))(hs:n<=1000000) :
  Calls Tryz.prog 99 #[.slice A n c] w (xV w n l):=eS A c n l w hn.out h.out hs
theorem addV_split:∀(P R:List V) (x:V),(∀y∈P,cmpV y x<0)->addV (P++R) x=P++addV R x
 | [],_,_,_=>rfl
 | y::P,R,x,h=>by
  show(if cmpV y x<0 then y::addV (P++R) x else _)=_;rw[if_pos (h y (BE ..)),addV_split P R x (fun z hz=>h z (BN _ hz))];rfl
theorem addV_eq(y x:V)(R:List V)(h:cmpV y x=0):addV (y::R) x=(y.1,w64 (y.2+x.2))::R:=by
 show(if cmpV y x<0 then _ else if cmpV y x=0 then _ else _)=_;rw[if_neg (by omega),if_pos h]
theorem addV_gt(y x:V)(R:List V)(h:0<cmpV y x):addV (y::R) x=x::y::R:=by
 show(if cmpV y x<0 then _ else if cmpV y x=0 then _ else _)=_;rw[if_neg (by omega),if_neg (by omega)]
theorem Xc:∀(L:List Ct) (k:Nat),(Bg L).take (k*2)=Bg (L.take k)
 | [],k=>by simp[Bg]
 | d::l,0=>rfl
 | d::l,k+1=>by
  unfold Bg;rw[BM,List.take_succ_cons,BM,GV,show(ctC d).length=2 from rfl,AT (show(ctC d).length<=(k+1)*2 by rw[show(ctC d).length=2 from rfl];omega),show(k+1)*2-2=k*2 by omega];exact congrArg _ (Xc l k)
theorem Xd:∀(L:List Ct) (k:Nat),(Bg L).drop (k*2)=Bg (L.drop k)
 | [],k=>by simp[Bg]
 | d::l,0=>rfl
 | d::l,k+1=>by
  unfold Bg;rw[BM,List.drop_succ_cons,GX,show(ctC d).length=2 from rfl,CM (show(ctC d).length<=(k+1)*2 by rw[show(ctC d).length=2 from rfl];omega),show(k+1)*2-2=k*2 by omega,BC];exact Xd l k
theorem Er.takeS{w:World}{A:Option Addr}{c n i:Nat}{L:List Ct}(h:Er w A c L)(hn:n=L.length)(hi:i<=n):Sl w 2 A i c (Bg (L.take i)):=by
 have:=Sl.take (k:=i) h.sl (by omega)
 rwa [Xc]at this
theorem Er.dropS{w:World}{A:Option Addr}{c n i:Nat}{L:List Ct}(h:Er w A c L)(hn:n=L.length)(hi:i<=n):Sl w 2 (if c=i then A else A.map (·.add (i*2))) (n-i) (c-i) (Bg (L.drop i)):=by
 have:=Sl.drop (k:=i) h.sl (by omega)
 rwa [Xd,<-hn]at this
theorem Er.drop0{n i:Nat}{L:List Ct}(w:World)(A:Option Addr)(hn:n=L.length)(hi:n<=i):Sl w 2 A 0 0 (Bg (L.drop i)):=by
 rw[DN (by omega)];exact⟨rfl,AD _,AE _,fun _=>rfl,fun h=>absurd h (CO _)⟩
theorem Er.drop3{n i c:Nat}{L:List Ct}(w:World)(a:Addr)(hn:n=L.length)(hi:n<=i)(hc:c<=9223372036854775807):Sl w 2 (some a) 0 c (Bg (L.drop i)):=by
 rw[DN (by omega)];exact⟨rfl,AE _,by unfold maxLen;omega,(fun h=>nomatch h),fun h=>absurd h (CO _)⟩
theorem Er.drop2{w:World}{ad:Addr}{c n i:Nat}{L:List Ct}(h:Er w (some ad) c L)(hn:n=L.length)(hi:i<=n)(hc:¬c=i):Sl w 2 (some (ad.add (i*2))) (n-i) (c-i) (Bg (L.drop i)):=by
 have:=h.dropS hn hi
 rwa [if_neg hc]at this
def Nl(y x:Ct):Prop:=y.A=x.A/\y.c=x.c/\y.l=x.l
def Mv(w:World)(L:List Ct)(rA:Option Addr)(rc:Nat)(rl:List Dat)(R:List V)(e:Ending)(w':World):Prop:=∃A m c M,e=.returned (.slice A m c)/\m=M.length/\Er w' A c M/\(∀y∈M,(∃x∈L,Nl y x)\/(y.A=rA/\y.c=rc/\y.l=rl))/\M.map Am=R/\Ext w w'
theorem kJ{w w':World}{B m c:Nat}{A:Option Addr}{xs:List Value}{M L:List Ct}{rA:Option Addr}{rc:Nat}{rl:List Dat}{R:List V}(o:Own w' B 154 2 A m c xs)(hx:xs=Bg M)(hm:m=M.length)(hr:∀x∈M,Rw w' x.A x.c x.l)(hp:∀y∈M,(∃x∈L,Nl y x)\/(y.A=rA/\y.c=rc/\y.l=rl))(hv:M.map Am=R)(X:Ext w w'):Mv w L rA rc rl R (.returned (.slice A m c)) w' :=
 ⟨A,m,c,M,rfl,hm,⟨by subst hx hm;exact o.sl,hr⟩,hp,hv,X⟩
theorem Rx{w w':World}{i n:Nat}{L:List Ct}{rA:Option Addr}{rc:Nat}{rl:List Dat}{k:Int}{A:Option Addr}{c:Nat}(h:Er w A c L)(hr:Rw w rA rc rl)(X:Ext w w')(hlt:∀y∈L.take i,As y.l rl<0)(hgt:∀y R,L.drop i=y::R->0<As y.l rl){B m c5:Nat}{A5:Option Addr}
  (hn:n=L.length) (hi:i<=n) (hm:m=n+1) (o:Own w' B 154 2 A5 m c5 (Bg (L.take i)++[.slice rA rl.length rc,.int .i64 k]++Bg (L.drop i))):Mv w L rA rc rl (addV (L.map Am) (rl,k)) (.returned (.slice A5 m c5)) w':=by
 refine kJ (M:=L.take i++⟨rA,rc,rl,k⟩::L.drop i) o ?_ ?_ (fun x hx=>?_) (fun x hx=>?_) ?_ X
 ·rw[Fp,AJ];rfl
 ·rw[AA,AI,CA,CQ];omega
 ·rcases AR.1 hx with hx|hx
  ·exact(h.rows x (CF hx)).ext X
  ·rcases AZ.1 hx with rfl|hx
   ·exact hr.ext X
   ·exact(h.rows x (CP hx)).ext X
 ·rcases AR.1 hx with hx|hx
  ·exact .inl ⟨x,CF hx,rfl,rfl,rfl⟩
  ·rcases AZ.1 hx with rfl|hx
   ·exact .inr ⟨rfl,rfl,rfl⟩
   ·exact .inl ⟨x,CP hx,rfl,rfl,rfl⟩
 ·have e:L.map Am=(L.take i).map Am++(L.drop i).map Am:=by rw[<-AO,CE]
  rw[e,addV_split _ _ _ (fun y hy=>by obtain⟨x,hx,rfl⟩:=AW.1 hy;exact hlt x hx),AO,CN]
  congr 1
  cases hd:L.drop i with
  | nil=>rfl
  | cons y R =>
   rw[CN,addV_gt _ _ _ (show 0<cmpV (Am y) (rl,k)from hgt y R hd)];rfl
theorem kI{w w':World}{i n:Nat}{L:List Ct}{x:Ct}{rA:Option Addr}{rc:Nat}{rl:List Dat}{k s:Int}{A:Option Addr}{c:Nat}(h:Er w A c L)(X:Ext w w')(hlt:∀y∈L.take i,As y.l rl<0)(hx:L.getD i Ct.zero=x)(hc:As x.l rl=0)(hs:w64 (x.k+k)=s){B m c5:Nat}{A5:Option Addr}
  (hn:n=L.length) (hi:i<n) (hm:m=n) (o:Own w' B 154 2 A5 m c5 (Bg (L.take i)++[.slice x.A x.l.length x.c,.int .i64 s]++Bg (L.drop (i+1)))):Mv w L rA rc rl (addV (L.map Am) (rl,k)) (.returned (.slice A5 m c5)) w':=by
 have hm':x∈L:=hx▸Dr (by omega);have hd:L.drop i=x::L.drop (i+1):=by
  rw[BY (by omega)]
  congr 1
  rw[<-hx,AB,AC (by omega)];rfl
 refine kJ (M:=L.take i++⟨x.A,x.c,x.l,s⟩::L.drop (i+1)) o ?_ ?_ (fun y hy=>?_) (fun y hy=>?_) ?_ X
 ·rw[Fp,AJ];rfl
 ·rw[AA,AI,CA,CQ];omega
 ·rcases AR.1 hy with hy|hy
  ·exact(h.rows y (CF hy)).ext X
  ·rcases AZ.1 hy with rfl|hy
   ·exact(h.rows x hm').ext X
   ·exact(h.rows y (CP hy)).ext X
 ·rcases AR.1 hy with hy|hy
  ·exact .inl ⟨y,CF hy,rfl,rfl,rfl⟩
  ·rcases AZ.1 hy with rfl|hy
   ·exact .inl ⟨x,hx▸Dr (by omega),rfl,rfl,rfl⟩
   ·exact .inl ⟨y,CP hy,rfl,rfl,rfl⟩
 ·have e:L.map Am=(L.take i).map Am++(L.drop i).map Am:=by rw[<-AO,CE]
  rw[e,addV_split _ _ _ (fun y hy=>by obtain⟨x,hx,rfl⟩:=AW.1 hy;exact hlt x hx),AO,CN,hd,CN,addV_eq _ _ _ (show cmpV (Am x) (rl,k)=0 from hc),<-hs];rfl
theorem wX(A rA:Option Addr)(c rc n rn:Nat)(L:List Ct)(rl:List Dat)(k:Int)(w:World)(hn:n=L.length)(hrn:rn=rl.length)(h:Er w A c L)(hr:Rw w rA rc rl)(hs:n<=100000000) :
  Calls Tryz.prog 195 #[.slice A n c,.slice rA rn rc,.int .i64 k] w (Mv w L rA rc rl (addV (L.map Am) (rl,k))):=by
 have hcn:=h.sl.cap;rw[<-hn]at hcn;have HN:=hid hn;have HRN:=hid hrn;have H:=hid h;have HR:=hid hr;clear hn hrn h hr;go_enter Tryz.func195,Tryz.ntmps195;go_wp2
 go_loopw [7] (fun v wr=>∃i:Nat,i<=n/\v=.int .i64 i/\Hid (∀y∈L.take i,As y.l rl<0)/\Ext w wr) (fun v _=>n-(intOf v).toNat)
 case atStart=>exact⟨0,AE _,rfl,hid (fun y hy=>by simp at hy),Ext.refl _⟩
 case round =>
  obtain⟨i,hi,rfl,HLT,er⟩:=hrel;by_cases hlt:i<n
  ·have hil:i<L.length:=by rw[<-HN.out];exact hlt
   have hcells:=(H.out.ext er).at hil;have hm:=Dr hil;obtain⟨x,hx⟩:∃x,L.getD i Ct.zero=x:=⟨_,rfl⟩;rw[hx]at hcells hm;obtain⟨ad,eA,p0,p1⟩:=hcells;subst eA;obtain⟨nx,hnx⟩:∃nx,nx=x.l.length:=⟨_,rfl⟩;rw[<-hnx]at p0;have HNX:=hid hnx;have HX:=hid hx;have HIL:=hid hil;have HRX:=hid ((H.out.rows x hm).ext er);have HRR:=hid (HR.out.ext er);obtain⟨v,hv⟩:∃v,As x.l rl=v:=⟨_,rfl⟩;have HV:=hid hv;have HD:Hid (L.drop i=x::L.drop (i+1)):=hid (by
    rw[BY hil]
    congr 1
    rw[<-hx,AB,AC hil];rfl)
   clear hil hm hx hnx hv;have m1:True:=trivial;by_cases hv0:v<0
   ·have zv:decide (v<0)=true:=by simpa using hv0
    go_wp2_with (go_at_call 53;refine(Cy x.A rA x.c rc nx rn x.l rl _ HV HNX HRN HRX HRR).mono ?_;rintro e w1 ⟨rfl,x1⟩)
    go_roundw
    case rel=>exact⟨i+1,by omega,by go_num,hid (by rw[Ee HIL.out,HX.out];exact fun y hy=>by rcases AR.1 hy with q|q;exact HLT.out y q;rw[AH.1 q,HV.out];exact hv0),er.trans x1⟩
    case measure=>simp[intOf];omega
   ·have zv:decide (v<0)=false:=by simpa using hv0
    have hwr:=er.size;by_cases hv1:v=0
    ·obtain⟨s,hs⟩:∃s,w64 (x.k+k)=s:=⟨_,rfl⟩;have hs2:IntKind.i64.wrap (x.k+k)=s:=hs;have HS:=hid hs;subst hv1;clear hs
     go_upto_region 7 with (first
      | (go_at_call 53;have mk:=m1;clear m1 mk;refine(Cy x.A rA x.c rc nx rn x.l rl _ HV HNX HRN (hid (HRX.out.ext (Ext.refl _))) (hid (HRR.out.ext (Ext.refl _)))).mono ?_;rintro e w1 ⟨rfl,x1⟩;have X1:=er.trans x1;have m2:True:=trivial)
      | (at_builtin;have mk:=m2;clear m2 mk;refine Ab _ Br w1.heap.size _ _ rfl rfl none 0 0 [] rfl (Own.nil _ _ _ _) (some ad) i c (Bg (L.take i)) rfl ((H.out.takeS HN.out hi).ext X1) (Ec _) (by omega) (by decide) (AD _) ?_;intro A3 c3 w3 o3 g3 h3;clear h3;have y3:Ext w1 w3:=Ext.grown (Ext.refl _) g3 (fun k e=>nomatch e);have X3:=Ext.trans X1 y3;have O3:Hid (Own w3 w1.heap.size 154 2 A3 i c3 (Bg (L.take i))):=hid (by have:=o3;rwa [BR,BC]at this);clear o3 g3;have q0:=Ext.cell (x1.trans y3) p0;have q1:=Ext.cell (x1.trans y3) p1;have m3:True:=trivial)
      | (go_at_call 53;have mk:=m3;clear m3 mk;refine(Cy x.A rA x.c rc nx rn x.l rl _ HV HNX HRN (hid (HRX.out.ext (x1.trans y3))) (hid (HRR.out.ext (x1.trans y3)))).mono ?_;rintro e w4 ⟨rfl,x4⟩;have X4:=X3.trans x4;have O4:=hid (O3.out.ext x4);have m4:True:=trivial))
     have p0':=Ext.cell (x1.trans (y3.trans x4)) p0;have p1':=Ext.cell (x1.trans (y3.trans x4)) p1;have XE:Ext w4 w4.drew:=(Ext.refl w4).drew;have P0:∀z:Xt w4.drew,z.W.cell? (ad.add (i*2))=some (.slice x.A nx x.c):=fun z=>(XE.trans z.x).cell p0';have P1:∀z:Xt w4.drew,z.W.cell? ⟨(ad.add (i*2)).block,(ad.add (i*2)).off+1,none⟩=some (.int .i64 x.k):=fun z=>(XE.trans z.x).cell p1';clear p0 p1 p0' p1';refine wro [0,0,0,6,14,30,0,0,192,448,960,0,4032,8190,16382,32767,65535] (.pur [0] (.flo [1,2,3,4,5,6,7,8,9,10,11,12,13] (.one 14 (.one 15 (.flo [16] (.fin)))))) ?_
     (refine Bv (pks rfl) ?_;(repeat (go_big_quiet_step (fail)));refine oq ?_)
     (refine Aa (pks rfl) ?_;(repeat (go_big_quiet_step (fail)));refine oq ?_)
     refine Ac (pks rfl) ?_;intro K_ hK_;go_wp2;refine Ac (pks rfl) ?_;intro K_ hK_;go_wp2_with (at_builtin;refine Ab _ Br w1.heap.size _ _ rfl rfl A3 i c3 (Bg (L.take i)) rfl (O4.out.drew.alloc _) (some ⟨w4.heap.size,0,none⟩) 1 1 [.slice x.A nx x.c,.int .i64 s] rfl (Mt _ _ _ _) (by intro u hu;simp at hu;rcases hu with rfl|rfl<;>rfl) (by omega) (by decide) (by have:=y3.size;have:=x4.size;simp;omega) ?_;intro A5 c5 w5 o5 g5 h5;clear h5;have X5:Ext w w5:=Ext.grown (X4.drew.alloc _) g5 (fun k e=>AQ X1.size (O4.out.lt k e).1);have y5:Ext w1 w5:=Ext.grown ((y3.trans x4).drew.alloc _) g5 (fun k e=>(O4.out.lt k e).1);have O5:=hid o5;clear o5 g5)
     go_simp
     (refine Aa (pks rfl) ?_;(repeat (go_big_quiet_step (fail)));refine oq ?_)
     refine Ad ?_;by_cases hci:c=i+1
     ·subst hci;have m5:True:=trivial;go_wp2_with (at_builtin;have mk:=m5;clear m5 mk;refine Ab _ Br w1.heap.size _ _ rfl rfl A5 (i+1) c5 _ rfl O5.out _ _ _ _ rfl (Sl.ext (Er.drop0 w _ HN.out (show n<=i+1 by omega)) X5) (Ec _) (by omega) (by decide) y5.size ?_;intro A6 c6 w6 o6 g6 h6;clear h6;have X6:Ext w w6:=Ext.grown X5 g6 (fun k e=>AQ X1.size (O5.out.lt k e).1);have HE:Hid (Mv w L rA rc rl (addV (L.map Am) (rl,k)) (.returned (.slice A6 (i+1) c6)) w6):=hid (kI H.out X6 HLT.out HX.out HV.out HS.out HN.out hlt (by omega) (by have:=o6;rwa [HNX.out]at this));clear o6 g6)
      go_ret;exact HE.out
     ·have m5:True:=trivial;go_wp2_with (at_builtin;have mk:=m5;clear m5 mk;refine Ab _ Br w1.heap.size _ _ rfl rfl A5 (i+1) c5 _ rfl O5.out _ _ _ _ rfl (Sl.ext (H.out.drop2 HN.out hlt hci) X5) (Ec _) (by omega) (by decide) y5.size ?_;intro A6 c6 w6 o6 g6 h6;clear h6;have X6:Ext w w6:=Ext.grown X5 g6 (fun k e=>AQ X1.size (O5.out.lt k e).1);have HE:Hid (Mv w L rA rc rl (addV (L.map Am) (rl,k)) (.returned (.slice A6 (i+1+(n-(i+1))) c6)) w6):=hid (kI H.out X6 HLT.out HX.out HV.out HS.out HN.out hlt (by omega) (by have:=o6;rwa [HNX.out]at this));clear o6 g6)
      go_ret;exact HE.out
    ·have hg:Hid (∀y R,L.drop i=y::R->0<As y.l rl):=hid (fun y R e=>by rw[HD.out]at e;injection e with e1 e2;rw[<-e1,HV.out];omega);have zv1:(v==0)=false:=by simpa using hv1
     by_cases hci:c=i
     ·exfalso;omega
     ·go_wp2_with (first
       | (go_at_call 53;have mk:=m1;clear m1 mk;refine(Cy x.A rA x.c rc nx rn x.l rl _ HV HNX HRN (hid (HRX.out.ext (Ext.refl _))) (hid (HRR.out.ext (Ext.refl _)))).mono ?_;rintro e w1 ⟨rfl,x1⟩;have X1:=er.trans x1;have m2:True:=trivial)
       | (at_builtin;have mk:=m2;clear m2 mk;refine Ab _ Br w1.heap.size _ _ rfl rfl none 0 0 [] rfl (Own.nil _ _ _ _) (some ad) i c (Bg (L.take i)) rfl ((H.out.takeS HN.out hi).ext X1) (Ec _) (by omega) (by decide) (AD _) ?_;intro A3 c3 w3 o3 g3 h3;clear h3;have y3:Ext w1 w3:=Ext.grown (Ext.refl _) g3 (fun k e=>nomatch e);have X3:=Ext.trans X1 y3;have O3:Hid (Own w3 w1.heap.size 154 2 A3 i c3 (Bg (L.take i))):=hid (by have:=o3;rwa [BR,BC]at this);clear o3 g3;have q0:=Ext.cell (x1.trans y3) p0;have q1:=Ext.cell (x1.trans y3) p1;have m3:True:=trivial)
       | (go_at_call 53;have mk:=m3;clear m3 mk;refine(Cy x.A rA x.c rc nx rn x.l rl _ HV HNX HRN (hid (HRX.out.ext (x1.trans y3))) (hid (HRR.out.ext (x1.trans y3)))).mono ?_;rintro e w4 ⟨rfl,x4⟩;have X4:=X3.trans x4;have O4:=hid (O3.out.ext x4);have m4:True:=trivial)
       | (at_builtin;have mk:=m4;clear m4 mk;refine Ab _ Br w1.heap.size _ _ rfl rfl A3 i c3 (Bg (L.take i)) rfl (O4.out.alloc _) (some ⟨w4.heap.size,0,none⟩) 1 1 [.slice rA rn rc,.int .i64 k] rfl (Mt _ _ _ _) (by intro u hu;simp at hu;rcases hu with rfl|rfl<;>rfl) (by omega) (by decide) (by have:=Ext.size (y3.trans x4);simp;omega) ?_;intro A5 c5 w5 o5 g5 h5;clear h5;have X5:Ext w w5:=Ext.grown (Ext.alloc X4 _) g5 (fun k e=>AQ (Ext.size X1) (O4.out.lt k e).1);have y5:Ext w1 w5:=Ext.grown (Ext.alloc (y3.trans x4) _) g5 (fun k e=>(O4.out.lt k e).1);have O5:=hid o5;clear o5 g5;have m5:True:=trivial)
       | (at_builtin;have mk:=m5;clear m5 mk;refine Ab _ Br w1.heap.size _ _ rfl rfl A5 (i+1) c5 _ rfl O5.out _ _ _ _ rfl (Sl.ext (H.out.drop2 HN.out hi hci) X5) (Ec _) (by omega) (by decide) y5.size ?_;intro A6 c6 w6 o6 g6 h6;clear h6;have X6:Ext w w6:=Ext.grown X5 g6 (fun k e=>AQ X1.size (O5.out.lt k e).1);have HE:Hid (Mv w L rA rc rl (addV (L.map Am) (rl,k)) (.returned (.slice A6 (i+1+(n-i)) c6)) w6):=hid (Rx H.out HR.out X6 HLT.out hg.out HN.out hi (by omega) (by have:=o6;rwa [HRN.out]at this));clear o6 g6))
      go_ret;exact HE.out
  ·obtain rfl:i=n:=by omega
   have hg:Hid (∀y R,L.drop i=y::R->0<As y.l rl):=hid (fun y R e=>by rw[DN (by rw[<-HN.out];exact AD _)]at e;exact nomatch e);have hwr:=er.size;have X1:Ext w wr:=er;obtain⟨w1,hw1⟩:∃w1:World,w1=wr:=⟨_,rfl⟩;rw[<-hw1]at X1 ⊢;clear hw1;have m2:True:=trivial;have m4:True:=trivial;cases A with
   | none =>
    obtain rfl:c=0:=H.out.sl.2.2.2.1 rfl;obtain rfl:i=0:=by omega
    go_wp2_with (first
     | (at_builtin;have mk:=m2;clear m2 mk;refine Ab _ Br w1.heap.size _ _ rfl rfl none 0 0 [] rfl (Own.nil _ _ _ _) none 0 0 (Bg (L.take 0)) rfl ((H.out.takeS HN.out hi).ext X1) (Ec _) (by omega) (by decide) (AD _) ?_;intro A3 c3 w3 o3 g3 h3;clear h3;have y3:Ext w1 w3:=Ext.grown (Ext.refl _) g3 (fun k e=>nomatch e);have X3:=Ext.trans X1 y3;have O3:Hid (Own w3 w1.heap.size 154 2 A3 0 c3 (Bg (L.take 0))):=hid (by have:=o3;rwa [BR,BC]at this);clear o3 g3;have O4:=O3;have m3:True:=trivial)
     | (at_builtin;have mk:=m3;clear m3 mk;refine Ab _ Br w1.heap.size _ _ rfl rfl A3 0 c3 (Bg (L.take 0)) rfl (O4.out.alloc _) (some ⟨w3.heap.size,0,none⟩) 1 1 [.slice rA rn rc,.int .i64 k] rfl (Mt _ _ _ _) (by intro u hu;simp at hu;rcases hu with rfl|rfl<;>rfl) (by omega) (by decide) (by have:=Ext.size y3;simp;omega) ?_;intro A5 c5 w5 o5 g5 h5;clear h5;have X5:Ext w w5:=Ext.grown (Ext.alloc X3 _) g5 (fun k e=>AQ (Ext.size X1) (O4.out.lt k e).1);have y5:Ext w1 w5:=Ext.grown (Ext.alloc y3 _) g5 (fun k e=>(O4.out.lt k e).1);have O5:=hid o5;clear o5 g5;have m5:True:=trivial)
     | (at_builtin;have mk:=m5;clear m5 mk;refine Ab _ Br w1.heap.size _ _ rfl rfl A5 1 c5 _ rfl O5.out _ _ _ _ rfl (Sl.ext (Er.drop0 w _ HN.out (AD 0)) X5) (Ec _) (by omega) (by decide) y5.size ?_;intro A6 c6 w6 o6 g6 h6;clear h6;have X6:Ext w w6:=Ext.grown X5 g6 (fun k e=>AQ X1.size (O5.out.lt k e).1);have HE:Hid (Mv w L rA rc rl (addV (L.map Am) (rl,k)) (.returned (.slice A6 1 c6)) w6):=hid (Rx H.out HR.out X6 HLT.out hg.out HN.out (AD _) (by omega) (by have:=o6;rwa [HRN.out]at this));clear o6 g6))
    go_ret;exact HE.out
   | some ad =>
    by_cases hci:i=c
    ·subst hci;go_wp2_with (first
      | (at_builtin;have mk:=m2;clear m2 mk;refine Ab _ Br w1.heap.size _ _ rfl rfl none 0 0 [] rfl (Own.nil _ _ _ _) (some ad) i i (Bg (L.take i)) rfl ((H.out.takeS HN.out hi).ext X1) (Ec _) (by omega) (by decide) (AD _) ?_;intro A3 c3 w3 o3 g3 h3;clear h3;have y3:Ext w1 w3:=Ext.grown (Ext.refl _) g3 (fun k e=>nomatch e);have X3:=Ext.trans X1 y3;have O3:Hid (Own w3 w1.heap.size 154 2 A3 i c3 (Bg (L.take i))):=hid (by have:=o3;rwa [BR,BC]at this);clear o3 g3;have O4:=O3;have m3:True:=trivial)
      | (at_builtin;have mk:=m3;clear m3 mk;refine Ab _ Br w1.heap.size _ _ rfl rfl A3 i c3 (Bg (L.take i)) rfl (O4.out.alloc _) (some ⟨w3.heap.size,0,none⟩) 1 1 [.slice rA rn rc,.int .i64 k] rfl (Mt _ _ _ _) (by intro u hu;simp at hu;rcases hu with rfl|rfl<;>rfl) (by omega) (by decide) (by have:=Ext.size y3;simp;omega) ?_;intro A5 c5 w5 o5 g5 h5;clear h5;have X5:Ext w w5:=Ext.grown (Ext.alloc X3 _) g5 (fun k e=>AQ (Ext.size X1) (O4.out.lt k e).1);have y5:Ext w1 w5:=Ext.grown (Ext.alloc y3 _) g5 (fun k e=>(O4.out.lt k e).1);have O5:=hid o5;clear o5 g5;have m5:True:=trivial)
      | (at_builtin;have mk:=m5;clear m5 mk;refine Ab _ Br w1.heap.size _ _ rfl rfl A5 (i+1) c5 _ rfl O5.out _ _ _ _ rfl (Sl.ext (Er.drop0 w _ HN.out (AD _)) X5) (Ec _) (by omega) (by decide) y5.size ?_;intro A6 c6 w6 o6 g6 h6;clear h6;have X6:Ext w w6:=Ext.grown X5 g6 (fun k e=>AQ X1.size (O5.out.lt k e).1);have HE:Hid (Mv w L rA rc rl (addV (L.map Am) (rl,k)) (.returned (.slice A6 (i+1) c6)) w6):=hid (Rx H.out HR.out X6 HLT.out hg.out HN.out (AD _) (by omega) (by have:=o6;rwa [HRN.out]at this));clear o6 g6))
     go_ret;exact HE.out
    ·have hci2:¬c=i:=fun q=>hci q.symm;go_wp2_with (first
      | (at_builtin;have mk:=m2;clear m2 mk;refine Ab _ Br w1.heap.size _ _ rfl rfl none 0 0 [] rfl (Own.nil _ _ _ _) (some ad) i c (Bg (L.take i)) rfl ((H.out.takeS HN.out hi).ext X1) (Ec _) (by omega) (by decide) (AD _) ?_;intro A3 c3 w3 o3 g3 h3;clear h3;have y3:Ext w1 w3:=Ext.grown (Ext.refl _) g3 (fun k e=>nomatch e);have X3:=Ext.trans X1 y3;have O3:Hid (Own w3 w1.heap.size 154 2 A3 i c3 (Bg (L.take i))):=hid (by have:=o3;rwa [BR,BC]at this);clear o3 g3;have O4:=O3;have m3:True:=trivial)
      | (at_builtin;have mk:=m3;clear m3 mk;refine Ab _ Br w1.heap.size _ _ rfl rfl A3 i c3 (Bg (L.take i)) rfl (O4.out.alloc _) (some ⟨w3.heap.size,0,none⟩) 1 1 [.slice rA rn rc,.int .i64 k] rfl (Mt _ _ _ _) (by intro u hu;simp at hu;rcases hu with rfl|rfl<;>rfl) (by omega) (by decide) (by have:=Ext.size y3;simp;omega) ?_;intro A5 c5 w5 o5 g5 h5;clear h5;have X5:Ext w w5:=Ext.grown (Ext.alloc X3 _) g5 (fun k e=>AQ (Ext.size X1) (O4.out.lt k e).1);have y5:Ext w1 w5:=Ext.grown (Ext.alloc y3 _) g5 (fun k e=>(O4.out.lt k e).1);have O5:=hid o5;clear o5 g5;have m5:True:=trivial)
      | (at_builtin;have mk:=m5;clear m5 mk;refine Ab _ Br w1.heap.size _ _ rfl rfl A5 (i+1) c5 _ rfl O5.out _ _ _ _ rfl (Sl.ext (Er.drop3 w _ HN.out (AD _) (by omega)) X5) (Ec _) (by omega) (by decide) y5.size ?_;intro A6 c6 w6 o6 g6 h6;clear h6;have X6:Ext w w6:=Ext.grown X5 g6 (fun k e=>AQ X1.size (O5.out.lt k e).1);have HE:Hid (Mv w L rA rc rl (addV (L.map Am) (rl,k)) (.returned (.slice A6 (i+1) c6)) w6):=hid (Rx H.out HR.out X6 HLT.out hg.out HN.out (AD _) (by omega) (by have:=o6;rwa [HRN.out]at this));clear o6 g6))
     go_ret;exact HE.out
def oS(w:World)(L:List Ct)(R:List V)(e:Ending)(w':World):Prop:=∃A m c M,e=.returned (.slice A m c)/\m=M.length/\Own w' w.heap.size 154 2 A m c (Bg M)/\(∀y∈M,∃x∈L,Nl y x)/\M.map Am=R/\Ext w w'
theorem addV_len:∀(R:List V) (x:V),(addV R x).length<=R.length+1
 | [],_=>AD _
 | y::R,x=>by
  unfold addV;split
  ·rw[AI,AI];have:=addV_len R x;omega
  ·split
   ·rw[AI,AI];omega
   ·rw[AI,AI];omega
def Km(L:List Ct)(i:Nat):List V:=((L.take i).map Am).foldl addV []
theorem Tu{L:List Ct}{i:Nat}{x:Ct}(hi:i<L.length)(hx:L.getD i Ct.zero=x):Km L (i+1)=addV (Km L i) (x.l,x.k):=by
 unfold Km;rw[Ee hi,hx,AO,DT];rfl
theorem Wl(L:List Ct):∀i,(Km L i).length<=i
 | 0=>by unfold Km;simp
 | i+1=>by
  have ih:=Wl L i;by_cases hi:i<L.length
  ·rw[Tu hi rfl];have:=addV_len (Km L i) ((L.getD i Ct.zero).l,(L.getD i Ct.zero).k);omega
  ·have e:Km L (i+1)=Km L i:=by unfold Km;rw[AT (by omega),AT (by omega)]
   rw[e];omega
def oT(w wr:World)(L:List Ct)(i:Nat)(A:Option Addr)(m c:Nat):Prop:=∃M,m=M.length/\Er wr A c M/\M.map Am=Km L i/\(∀y∈M,∃x∈L,Nl y x)/\Ext w wr
def Il(w1 wr:World)(M:List Ct)(j:Nat)(A:Option Addr)(m c:Nat):Prop:=m=((M.take j).filter nzC).length/\Own wr w1.heap.size 154 2 A m c (Bg ((M.take j).filter nzC))/\Ext w1 wr
theorem Il.skip{w1 wr:World}{M:List Ct}{j m c:Nat}{A:Option Addr}{x:Ct}(h:Il w1 wr M j A m c)(hj:j<M.length)(hx:M.getD j Ct.zero=x)(hz:(x.k==0)=true):Il w1 wr M (j+1) A m c:=by
 have e:(M.take (j+1)).filter nzC=(M.take j).filter nzC:=by
  rw[Ee hj,hx,DR];have:[x].filter nzC=[]:=by simp[nzC,hz]
  rw[this,AP]
 unfold Il;rw[e];exact h
theorem Il.more{w1 wr w2:World}{M:List Ct}{j m c m2 c2:Nat}{A A2:Option Addr}{x:Ct}(h:Il w1 wr M j A m c)(hj:j<M.length)(hx:M.getD j Ct.zero=x)(hz:(x.k==0)=false)(hm:m2=m+1)
  (o:Own w2 w1.heap.size 154 2 A2 m2 c2 (Bg ((M.take j).filter nzC)++[.slice x.A x.l.length x.c,.int .i64 x.k])) (X:Ext w1 w2):Il w1 w2 M (j+1) A2 m2 c2:=by
 have e:(M.take (j+1)).filter nzC=(M.take j).filter nzC++[x]:=by
  rw[Ee hj,hx,DR];have:[x].filter nzC=[x]:=by simp[nzC,hz]
  rw[this]
 unfold Il;rw[e,AA,Fp];exact⟨by rw[hm,h.1];rfl,o,X⟩
theorem wG{L M M4:List Ct}{x:Ct}(hx:x∈L)(h:∀y∈M,∃z∈L,Nl y z)(h4:∀y∈M4,(∃z∈M,Nl y z)\/(y.A=x.A/\y.c=x.c/\y.l=x.l)):∀y∈M4,∃z∈L,Nl y z:=fun y hy=>by
 rcases h4 y hy with ⟨z,hz,a1,a2,a3⟩|q
 ·obtain⟨u,hu,b1,b2,b3⟩:=h z hz;exact⟨u,hu,a1.trans b1,a2.trans b2,a3.trans b3⟩
 ·exact⟨x,hx,q⟩
theorem gT(A:Option Addr)(c n:Nat)(L:List Ct)(w:World)(hn:n=L.length)(h:Er w A c L)(hs:n<=1000000) :
  Calls Tryz.prog 120 #[.slice A n c] w (oS w L (sumV (L.map Am))):=by
 have HN:=hid hn;have H:=hid h;have HR0:Hid (oT w w L 0 none 0 0):=hid ⟨[],rfl,⟨Sl.nil w 2,fun x hx=>(nomatch hx)⟩,rfl,fun x hx=>(nomatch hx),Ext.refl w⟩;clear hn h;go_enter Tryz.func120,Tryz.ntmps120;go_wp2
 go_loopg [3,4] n (fun z u v wr=>∃(i m c3:Nat) (A3:Option Addr),z=n-i/\i<=n/\m<=i/\u=.slice A3 m c3/\v=.int .i64 i/\Hid (oT w wr L i A3 m c3))
 case atStart=>exact⟨0,0,0,none,rfl,AE _,AD _,rfl,rfl,HR0⟩
 case round =>
  clear HR0;obtain⟨i,m,c3,A3,rfl,hi,hmi,rfl,rfl,HP⟩:=hrel;by_cases hlt:i<n
  ·obtain⟨M,hM,hC,hv,hp,X⟩:=HP.out;have HPV:=hid hp;have hil:i<L.length:=by rw[<-HN.out];exact hlt
   obtain⟨ad,rfl,p0,p1⟩:=(H.out.ext X).at hil;have hm:=Dr hil;obtain⟨x,hx⟩:∃x,L.getD i Ct.zero=x:=⟨_,rfl⟩;rw[hx]at p0 p1 hm;obtain⟨nx,hnx⟩:∃nx,nx=x.l.length:=⟨_,rfl⟩;rw[<-hnx]at p0;have XE:Ext wr wr.drew:=(Ext.refl wr).drew;have HRX:=hid (((H.out.rows x hm).ext X).ext XE);have HMC:=hid (hC.ext XE);have HNX:=hid hnx;have HMM:=hid hM;have HV:Hid (addV (M.map Am) (x.l,x.k)=Km L (i+1)):=hid (by rw[Tu hil hx,hv]);have HXX:=hid (X.trans XE);have P0:∀z:Xt wr.drew,z.W.cell? (ad.add (i*2))=some (.slice x.A nx x.c):=fun z=>(XE.trans z.x).cell p0;have P1:∀z:Xt wr.drew,z.W.cell? ⟨(ad.add (i*2)).block,(ad.add (i*2)).off+1,none⟩=some (.int .i64 x.k):=fun z=>(XE.trans z.x).cell p1;have HXM:Hid (x∈L):=hid hm;clear hM hC hv hp X hil hm hx hnx HP
   go_upto_region 5 with fail
   refine wro [0,0,0,6,14,30,0,0,192,448,960,2047,4095] (.flo [0,1,2,3,4,5,6,7,8,9,10] (.one 11 (.flo [12] (.fin)))) ?_
   (refine Aa (pks rfl) ?_;(repeat (go_big_quiet_step (fail)));refine oq ?_)
   refine Ac (pks rfl) ?_;intro K_ hK_;go_wp2_with (go_at_call 195;refine(wX A3 x.A c3 x.c m nx M x.l x.k _ HMM.out HNX.out HMC.out HRX.out (by omega)).mono ?_;rintro e w1 ⟨A4,m4,c4,M4,rfl,hm4,hC4,hp4,hv4,X4⟩;have hml:m4<=i+1:=(by rw[hm4];have q:=congrArg List.length hv4;rw[AN,HV.out]at q;rw[q];exact Wl L (i+1));have HP4:Hid (oT w w1 L (i+1) A4 m4 c4):=hid ⟨M4,hm4,hC4,by rw[hv4,HV.out],wG HXM.out HPV.out hp4,HXX.out.trans X4⟩;clear hm4 hC4 hv4 X4 hp4)
   (refine Aa (pks rfl) ?_;(repeat (go_big_quiet_step (fail)));refine oq ?_)
   refine Ad ?_;go_wp2
   go_roundg (n-(i+1))
   case measure=>omega
   case rel=>exact⟨i+1,m4,c4,A4,rfl,by omega,hml,rfl,by go_num,HP4⟩
  ·obtain rfl:i=n:=by omega
   obtain⟨M,hM,hC,hv,hp,X⟩:=HP.out;have HPV:=hid hp;clear hp;obtain⟨w1,hw1⟩:∃w1:World,w1=wr:=⟨_,rfl⟩;rw[<-hw1]at hC X ⊢;clear hw1;have HM:=hid hM;have HC:=hid hC;have HV:=hid hv;have HX:=hid X;have HL0:Hid (Il w1 w1 M 0 none 0 0):=hid ⟨rfl,Own.nil _ _ _ _,Ext.refl _⟩;clear hM hC hv X HP;go_wp2
   go_loopg [5,6] m (fun z u v wr=>∃(j n5 c5:Nat) (A5:Option Addr),z=m-j/\j<=m/\n5<=j/\u=.slice A5 n5 c5/\v=.int .i64 j/\Hid (Il w1 wr M j A5 n5 c5))
   case atStart=>exact⟨0,0,0,none,rfl,AE _,AD _,rfl,rfl,HL0⟩
   case round =>
    clear HL0;obtain⟨j,n5,c5,A5,rfl,hj,hnj,rfl,rfl,HQ⟩:=hrel;by_cases hlt:j<m
    ·have hjl:j<M.length:=by rw[<-HM.out];exact hlt
     obtain⟨ad,rfl,p0,p1⟩:=(HC.out.ext HQ.out.2.2).at hjl;have hm:=Dr hjl;obtain⟨x,hx⟩:∃x,M.getD j Ct.zero=x:=⟨_,rfl⟩;rw[hx]at p0 p1 hm;obtain⟨nx,hnx⟩:∃nx,nx=x.l.length:=⟨_,rfl⟩;rw[<-hnx]at p0;have HJ:=hid hjl;have HXJ:=hid hx;have HNX:=hid hnx;clear hjl hx hm hnx;cases hz:(x.k==0)
     ·have HZ:=hid hz;go_wp2_with (at_builtin;refine Ab _ Br w1.heap.size _ _ rfl rfl A5 n5 c5 (Bg ((M.take j).filter nzC)) rfl (Own.alloc HQ.out.2.1 _) (some ⟨wr.heap.size,0,none⟩) 1 1 [.slice x.A nx x.c,.int .i64 x.k] rfl (Mt _ _ _ _) (by intro u hu;simp at hu;rcases hu with rfl|rfl<;>rfl) (by omega) (by decide) (by have:=Ext.size HQ.out.2.2;simp;omega) ?_;intro A6 c6 w6 o6 g6 h6;clear h6;have HQ6:=hid (Il.more (m2:=n5+1) HQ.out HJ.out HXJ.out HZ.out rfl (by have:=o6;rwa [HNX.out]at this) (Ext.grown (Ext.alloc HQ.out.2.2 _) g6 (fun k e=>(HQ.out.2.1.lt k e).1)));clear o6 g6)
      go_roundg (m-(j+1))
      case measure=>omega
      case rel=>exact⟨j+1,n5+1,c6,A6,rfl,by omega,by omega,rfl,by go_num,HQ6⟩
     ·have HQ6:=hid (HQ.out.skip HJ.out HXJ.out hz);go_wp2
      go_roundg (m-(j+1))
      case measure=>omega
      case rel=>exact⟨j+1,n5,c5,A5,rfl,by omega,by omega,rfl,by go_num,HQ6⟩
    ·obtain rfl:j=m:=by omega
     have HE:Hid (oS w L (sumV (L.map Am)) (.returned (.slice A5 n5 c5)) wr):=hid (by
      obtain⟨q1,q2,q3⟩:=HQ.out;rw[AT (by rw[<-HM.out];exact AD _)]at q1 q2;refine⟨_,_,_,M.filter nzC,rfl,q1,q2.mono HX.out.size,fun y hy=>HPV.out y (BV.1 hy).1,?_,HX.out.trans q3⟩;have e:M.map Am=sumAll (L.map Am):=by rw[HV.out];unfold Km sumAll;rw[AT (by rw[<-HN.out];exact AD _)]
      unfold sumV;rw[<-e,EH];rfl)
     go_wp2;go_ret;exact HE.out
end Go.Proofs.YtdgbkpoickbidaaGreatDoor
