/- Parts of the proof. Conditions: as stated. -/
import Derived.Test.YtdgbkpoickbidaaGreatDoorHx20
import Derived.Test.YtdgbkpoickbidaaGreatDoorHx17
set_option maxRecDepth 100000
set_option maxHeartbeats 8000000
open Go.RowKit Go.Proofs.Tryz
set_option linter.defProp false
namespace Go.Proofs.YtdgbkpoickbidaaGreatDoor
variable{l:List Int}{xs:List Value}{B B' N c g gb hr ht i m n nx tx:Nat}{G S:Nat->Prop}{A:Option Addr}{e e':TypeId}{w w' w1 w3 w4 wr wz:World}
def enC(x:Ct):En:=⟨x.A,x.l.length,x.c⟩
def Nn(gb n ac:Nat)(R:Nat->Prop)(A:Option Addr)(Lw Lr Lc Lu:List En)(w_ r_ c_ u_:En)(w:World)(h:H0 (Bc w gb R Lw Lr Lc Lu w_ r_ c_ u_))(hl:Lr.length<=100000) :
  C3 115 #[.pointer (some ⟨gb,0,none⟩),.slice A n ac] w λe w'=>e=.returned (.tuple #[])/\∃x,Bc w' gb (RN R w w') Lw (Lr++[⟨A,n,ac⟩]) Lc Lu w_ x c_ u_/\Upd R w w':=Ru gb n ac R A Lw Lr Lc Lu w_ r_ c_ u_ w h hl
def Qt(gb m ac:Nat)(R:Nat->Prop)(A:Option Addr)(Q:List Ct)(Lw Lr Lc Lu:List En)(w_ r_ c_ u_:En)(w:World)(h:H0 (Bc w gb R Lw Lr Lc Lu w_ r_ c_ u_))(hrr:Lr.length+m<=100000)(hl:Lc.length<=100000)(hm:H0 (m=Q.length))(hs:H0 (Sl w 2 A m ac (Az Q)))(hsep:H0 (∀k,blk A ac=some k->¬R k)) :
  C3 22 #[.pointer (some ⟨gb,0,none⟩),.slice A m ac] w λe w'=>e=.returned (.tuple #[])/\∃vr vc,Bc w' gb (RN R w w') Lw (Lr++Q.map enC) (Lc++[⟨A,m,ac⟩]) Lu w_ vr vc u_/\Upd R w w':=by
 have g:H0 (Bc w gb (RN R w w) Lw (Lr++(Q.take 0).map enC) Lc Lu w_ r_ c_ u_/\Upd R w w):=j6 ⟨by simp only[List.take_zero,FO,AV];exact h.o.wide (λk _ hk=>.inl hk),Upd.refl _ _⟩;go_enter func22,ntmps22;go_wp2
 go_loopg [4] m (λz v wr=>∃(i:Nat) (vr:En),z=m-i/\i<=m/\v=.int .i64 i/\H0 (Bc wr gb (RN R w wr) Lw (Lr++(Q.take i).map enC) Lc Lu w_ vr c_ u_/\Upd R w wr))
 case atStart=>exact⟨0,r_,rfl,AG _,rfl,g⟩
 case round =>
  clear g;obtain⟨i,vr,rfl,hi,rfl,HP⟩:=hrel;by_cases hlt:i<m
  ·have d:i<Q.length:=by rw[<-hm.o];exact hlt
   have a:∀W,Upd R w W->∃ad,A=some ad/\W.cell? (ad.add (i*2))=some (.slice (Q.getD i Ct.zero).A (Q.getD i Ct.zero).l.length (Q.getD i Ct.zero).c)/\W.cell? ⟨(ad.add (i*2)).block,(ad.add (i*2)).off+1,none⟩=some (.int .i64 (Q.getD i Ct.zero).k):=λW hW=>Pb (hs.o.upd hW hsep.o) hlt (show ctC (Q.getD i Ct.zero)=[.slice (Q.getD i Ct.zero).A (Q.getD i Ct.zero).l.length (Q.getD i Ct.zero).c,.int .i64 (Q.getD i Ct.zero).k]from rfl) (λq hq=>Hk Q i q d hq);have HT:H0 (Q.take (i+1)=Q.take i++[(Q.getD i Ct.zero)]):=j6 (by rw[CC d,AB,AC d];rfl);have⟨x,hx⟩:=tz ((Q.getD i Ct.zero));rw[hx]at a HT;have⟨nr,f⟩:=tz x.l.length;simp only[f]at a;have j:=j6 f;have HA:=j6 a;have HB:=j6 HP.o.1;have HU:=j6 HP.o.2;obtain⟨ad,rfl,p0,_⟩:=a wr HP.o.2;have r:(Lr++(Q.take i).map enC).length<=100000:=by rw[AA,AN,CE];omega
   clear a hx f d HP;have p1:=TI;go_wp2_with (first
    | (go_at_call 115;clear p1;refine(Nn gb nr x.c _ x.A Lw (Lr++(Q.take i).map enC) Lc Lu w_ vr c_ u_ _ HB r).mono ?_;rintro e w1 ⟨rfl,yr,b1,u1⟩;replace HB:H0 (Bc w1 gb (RN R w w1) Lw ((Lr++(Q.take i).map enC)++[⟨x.A,nr,x.c⟩]) Lc Lu w_ yr c_ u_):=j6 (b1.wide (λk _ hk=>RN.step HU.o.size u1.size k hk));replace HU:H0 (Upd R w w1):=j6 (Sx HU.o u1);clear b1 u1;have p2:=TI)
    | fail)
   go_roundg (m-(i+1))
   case measure=>omega
   case rel=>exact⟨i+1,yr,rfl,by omega,by go_num,j6 ⟨by have:=HB.o;rw[HT.o];simp only[AI,<-AK];rw[<-j.o]at this;exact this,HU.o⟩⟩
  ·obtain rfl:i=m:=by omega
   have hb:=HP.o.1;rw[show Q.take i=Q from AW (by rw[<-hm.o];exact AD _)]at hb;have hn:c_.n<=100000:=by have:=hb.nc;omega
   have HB:=j6 hb;have HU:=j6 HP.o.2;have hq:=hb.bk.cell 9;have hz:=hb.bk.free 9;obtain⟨cA,cn,cc⟩:=c_;replace hq:wr.cell? ⟨gb,9,none⟩=some (.slice cA cn cc):=hq;replace hn:cn<=100000:=hn;clear hb HP;go_wp2_with (at_builtin;refine Ab _ Py 0 _ _ rfl rfl cA cn cc (El Lc) rfl (HB.o.oc.alloc _) (some ⟨wr.heap.size,0,none⟩) 1 1 [.slice A i ac] rfl (Sl.one wr #[.slice A i ac] 31 1 rfl) (Hw [⟨A,i,ac⟩]) (by omega) (by decide) (AG _) ?_;intro A3 c3 w3 o3 g3 x3;have HP:=j6 (HB.o.put_c (x:=⟨A,i,ac⟩) _ o3 g3 x3);have b3:Bk w3 gb 52 (Oy w_.v vr.v (.slice cA cn cc) u_.v):=(((Upd.refl (λk=>blk cA cc=some k) wr).alloc _).grown g3 (λk hk=>.inl hk)).block gb (BP.1 HB.o.bk).1 (λe=>(HB.o.rc gb e).2 rfl) |>.trans HB.o.bk;have q3:=b3.cell 9;have z3:=b3.free 9;clear b3 o3 g3 x3)
   go_returns;exact⟨rfl,_,_,HP.o.1.wide (λk _ hk=>RN.step HU.o.size HP.o.2.size k hk),Sx HU.o HP.o.2⟩
structure Cu (w:World) (B:Nat) (e:TypeId) (size:Nat) (P:List (En×List Value)):Prop where
 hold:mZ w B e size P
 far:Far P
section
variable{w w':World}{B:Nat}{e:TypeId}{size:Nat}{P Q:List (En×List Value)}
def Cu.nil(w:World)(B:Nat)(e:TypeId)(size:Nat):Cu w B e size []:=⟨λp hp=>(nomatch hp),List.Pairwise.nil⟩
def Cu.ext(h:Cu w B e size P)(x:Ext w w'):Cu w' B e size P:=⟨λp hp=>(h.hold p hp).ext x,h.far⟩
def Cu.foot(h:Cu w B e size P){k:Nat}(hk:Cf (P.map (·.1)) k):∃p∈P,p.1.b=some k/\B<=k/\k<w.heap.size:=by
 have⟨x,hx,hb⟩:=dP hk;obtain⟨p,hp,rfl⟩:=AP.1 hx;exact⟨p,hp,hb,(h.hold p hp).lt k hb⟩
def Cu.apart{size':Nat}(h:Cu w B e size P)(k:Cu w B' e' size' Q)(he:e≠e'):∀q,Cf (P.map (·.1)) q->¬Cf (Q.map (·.1)) q:=λq h1 h2=>by
 have⟨p,hp,b1,_⟩:=h.foot h1;have⟨r,hr,b2,_⟩:=k.foot h2;exact Ca (h.hold p hp) (k.hold r hr) he b1 b2
end
def lE{P:List (En×List Value)}(h1:P.length<=100000)(h2:∀p∈P,p.1.n<=1000000):Few (P.map (·.1)):=by
 refine⟨by rw[AN];exact h1,λi hi=>?_⟩;have hm:ena (P.map (·.1)) i∈P.map (·.1):=by
  unfold ena;rw[AB,AC hi];exact BR hi
 have⟨p,hp,e⟩:=AP.1 hm;rw[<-e];exact h2 p hp
structure Qv (w:World) (B:Nat) (Pw Pr Pc Pu:List (En×List Value)):Prop where
 pw:Cu w B 180 1 Pw
 pr:Cu w B 204 4 Pr
 pc:Cu w B 154 2 Pc
 pu:Cu w B 95 4 Pu
def eW(R:List Ud):List (En×List Value):=R.map λx=>(enW x,wds x.t.l)
def eR(R:List Ud):List (En×List Value):=R.map λx=>(enR x,Dd x.l)
def eC(R:List Ct):List (En×List Value):=R.map λx=>(enC x,Dd x.l)
def a2j(R:List Ud):(eW R).map (·.1)=R.map enW:=by unfold eW;rw[CO];rfl
def a2k(R:List Ud):(eR R).map (·.1)=R.map enR:=by unfold eR;rw[CO];rfl
def a2l(R:List Ct):(eC R).map (·.1)=R.map enC:=by unfold eC;rw[CO];rfl
section
variable{w w':World}{B c m:Nat}{A:Option Addr}{Pw Pr Pc Pu:List (En×List Value)}
def Qv.nil(w:World)(B:Nat):Qv w B [] [] [] []:=⟨Cu.nil _ _ _ _,Cu.nil _ _ _ _,Cu.nil _ _ _ _,Cu.nil _ _ _ _⟩
def Qv.ext(h:Qv w B Pw Pr Pc Pu)(x:Ext w w'):Qv w' B Pw Pr Pc Pu:=⟨h.pw.ext x,h.pr.ext x,h.pc.ext x,h.pu.ext x⟩
def Bu.kinds{L:List Ud}(h:Bu w B A c L)(hm:m=L.length):Cu w B 180 1 (eW L)/\Cu w B 204 4 (eR L)/\Cu w B 95 4 [(⟨A,m,c⟩,Ah L)]:=by
 subst hm;refine⟨⟨λp hp=>?_,DV.2 h.ta⟩,⟨λp hp=>?_,DV.2 h.ra⟩,⟨λp hp=>?_,BN _ _⟩⟩
 ·obtain⟨x,hx,rfl⟩:=AP.1 hp;exact h.ts x hx
 ·obtain⟨x,hx,rfl⟩:=AP.1 hp;exact h.rw x hx
 ·rw[AE.1 hp];exact h.own
end
def eZ(A1 A2:Option Addr)(c1 c2 n m:Nat)(l:List Dat)(w:World)(hn:n=l.length)(hm:m=n)(h1:Rw w A1 c1 l)(h2:Rw w A2 c2 l) :
  C3 117 #[.slice A1 n c1,.slice A2 m c2] w λe w'=>e=.returned (.bool true)/\Ext w w':=by
 subst hm;have c:=h1.le;rw[<-hn]at c;have HN:=j6 hn;have H1:=j6 h1;have H2:=j6 h2;clear hn h1 h2;go_enter func117,ntmps117;go_wp2
 go_loopw [5] (λv wr=>∃i:Nat,i<=m/\v=.int .i64 i/\Ext w wr) (λv _=>m-(intOf v).toNat)
 case atStart=>exact⟨0,AG _,rfl,Ext.refl _⟩
 case round =>
  obtain⟨i,hi,rfl,er⟩:=hrel;by_cases hlt:i<m
  ·have a:i<l.length:=by rw[<-HN.o];exact hlt
   obtain⟨ad,rfl,p0,p1,p2,p3⟩:=(H1.o.ext er).at a;obtain⟨bd,rfl,q0,q1,q2,q3⟩:=(H2.o.ext er).at a;have⟨d,hd⟩:=tz (l.getD i Dat.zero);rw[hd]at p0 p1 p2 p3 q0 q1 q2 q3;have XE:Ext wr wr.drew:=(Ext.refl wr).drew;have P0:∀z:Xt wr.drew,z.W.cell? (ad.add (i*4))=some (.int .u8 d.k):=λz=>(XE.trans z.x).cell p0;have P1:∀z:Xt wr.drew,z.W.cell? ⟨(ad.add (i*4)).block,(ad.add (i*4)).off+1,none⟩=some (.bool d.b):=λz=>(XE.trans z.x).cell p1;have P2:∀z:Xt wr.drew,z.W.cell? ⟨(ad.add (i*4)).block,(ad.add (i*4)).off+2,none⟩=some (.int .i64 d.n):=λz=>(XE.trans z.x).cell p2;have P3:∀z:Xt wr.drew,z.W.cell? ⟨(ad.add (i*4)).block,(ad.add (i*4)).off+3,none⟩=some (.string d.s):=λz=>(XE.trans z.x).cell p3;have Q0:∀z:Xt wr.drew,z.W.cell? (bd.add (i*4))=some (.int .u8 d.k):=λz=>(XE.trans z.x).cell q0;have Q1:∀z:Xt wr.drew,z.W.cell? ⟨(bd.add (i*4)).block,(bd.add (i*4)).off+1,none⟩=some (.bool d.b):=λz=>(XE.trans z.x).cell q1;have Q2:∀z:Xt wr.drew,z.W.cell? ⟨(bd.add (i*4)).block,(bd.add (i*4)).off+2,none⟩=some (.int .i64 d.n):=λz=>(XE.trans z.x).cell q2;have Q3:∀z:Xt wr.drew,z.W.cell? ⟨(bd.add (i*4)).block,(bd.add (i*4)).off+3,none⟩=some (.string d.s):=λz=>(XE.trans z.x).cell q3;clear a hd
   go_upto_region 6 with fail
   refine wro [0,0,3,7,0,0,48,112,255] (.flo [0,1,2,3,4,5,6,7,8] (.fin)) ?_
   (refine Aa (pks rfl) ?_;(repeat (go_big_quiet_step (fail)));refine oq ?_)
   refine Ad ?_;go_wp2
   go_roundw
   case rel=>exact⟨i+1,by omega,by go_num,er.trans XE⟩
   case measure=>simp[intOf];omega
  ·go_wp2;go_ret;exact⟨rfl,er⟩
def Mo(A1 A2:Option Addr)(c1 c2 n m:Nat)(l:List Dat)(w:World)(hn:H0 (n=l.length))(hm:H0 (m=n))(h1:H0 (Rw w A1 c1 l))(h2:H0 (Rw w A2 c2 l)) :
  C3 117 #[.slice A1 n c1,.slice A2 m c2] w λe w'=>e=.returned (.bool true)/\Ext w w':=eZ A1 A2 c1 c2 n m l w hn.o hm.o h1.o h2.o
def aN(e1 e2:Int)(A1 A2:Option Addr)(n1 n2 c1 c2:Nat)(l1 l2:List Int)(w:World)(h1:Sl w 1 A1 n1 c1 (wds l1))(h2:Sl w 1 A2 n2 c2 (wds l2)) :
  C3 54 #[.agg #[.int .u64 e1,.slice A1 n1 c1],.agg #[.int .u64 e2,.slice A2 n2 c2]] w λe w'=>e=.returned (.bool (decide (e1=e2/\l1=l2)))/\Ext w w':=by
 by_cases k1:e1=e2
 ·have q1:(e1==e2)=true:=by simpa using k1
  go_enter func54,ntmps54;go_wp2_with (go_at_call 166;refine(Nv A1 A2 n1 n2 c1 c2 l1 l2 _ (h1.ext (((Ext.refl w).alloc _).alloc _)) (h2.ext (((Ext.refl w).alloc _).alloc _))).mono ?_;rintro r w1 ⟨rfl,x1⟩)
  refine bodyPost_ret (v:=.bool (decide (l1=l2))) (by simp only[results,Tryz.results54];go_simp) rfl ?_;exact⟨by simp[k1],(((Ext.refl w).alloc _).alloc _).trans x1⟩
 ·have q1:(e1==e2)=false:=by simpa using k1
  go_enter func54,ntmps54;go_wp2;refine bodyPost_ret (v:=.bool false) (by simp only[results,Tryz.results54];go_simp) rfl ?_;exact⟨by simp[k1],(((Ext.refl w).alloc _).alloc _)⟩
def lI{L M:List Ud}(h:L.map Ud.uv=M.map Ud.uv){i:Nat}(hi:i<L.length):(M.getD i Ud.zero).l=(L.getD i Ud.zero).l/\(M.getD i Ud.zero).t.e=(L.getD i Ud.zero).t.e/\(M.getD i Ud.zero).t.l=(L.getD i Ud.zero).t.l/\(M.getD i Ud.zero).d=(L.getD i Ud.zero).d:=by
 have hl:=congrArg List.length h;rw[AN,AN]at hl;have e:=congrArg (λl:List UV=>l[i]?) h;simp only[CG]at e;rw[AC hi,AC (by omega)]at e;simp only[FI,EX]at e;rw[AB,AB,AC hi,AC (by omega)];exact⟨(congrArg (λq:UV=>q.1.1) e).symm,(congrArg (λq:UV=>q.1.2.1) e).symm,(congrArg (λq:UV=>q.1.2.2) e).symm,(congrArg Prod.snd e).symm⟩
def aJ{b:Bool}(e1 e2:Int)(A1 A2:Option Addr)(n1 n2 c1 c2:Nat)(l1 l2:List Int)(w:World)(hb:H0 (decide (e1=e2/\l1=l2)=b))(h1:H0 (Sl w 1 A1 n1 c1 (wds l1)))(h2:H0 (Sl w 1 A2 n2 c2 (wds l2))) :
  C3 54 #[.agg #[.int .u64 e1,.slice A1 n1 c1],.agg #[.int .u64 e2,.slice A2 n2 c2]] w λe w'=>e=.returned (.bool b)/\Ext w w':=hb.o▸aN e1 e2 A1 A2 n1 n2 c1 c2 l1 l2 w h1.o h2.o
def Mn(A1 A2:Option Addr)(c1 c2 n m:Nat)(L M:List Ud)(w:World)(hn:H0 (n=L.length))(hm:H0 (m=M.length))(h1:H0 (Uin w A1 c1 L))(h2:H0 (Uin w A2 c2 M))(he:H0 (L.map Ud.uv=M.map Ud.uv)) :
  C3 23 #[.slice A1 n c1,.slice A2 m c2] w λe w'=>e=.returned (.bool true)/\Ext w w':=by
 have hl:=congrArg List.length he.o;rw[AN,AN]at hl;obtain rfl:m=n:=by rw[hn.o,hm.o,hl]
 have K:m<=9223372036854775807:=by rw[hn.o];exact h1.o.sl.le
 clear hl;go_enter func23,ntmps23;go_wp2
 go_loopw [5] (λv wr=>∃i:Nat,i<=m/\v=.int .i64 i/\Ext w wr) (λv _=>m-(intOf v).toNat)
 case atStart=>exact⟨0,AG _,rfl,Ext.refl _⟩
 case round =>
  obtain⟨i,hi,rfl,er⟩:=hrel;by_cases hlt:i<m
  ·have f:i<L.length:=by rw[<-hn.o];exact hlt
   have B:i<M.length:=by rw[<-hm.o];exact hlt
   obtain⟨ad,rfl,p0,p1,p2,p3⟩:=(h1.o.ext er).at f;obtain⟨bd,rfl,q0,q1,q2,q3⟩:=(h2.o.ext er).at B;have a:=h1.o.ls _ (As f);have c:=h2.o.ls _ (As B);have⟨e1,e2,e3,e4⟩:=lI he.o f;have⟨x,hx⟩:=tz (L.getD i Ud.zero);have⟨y,hy⟩:=tz (M.getD i Ud.zero);rw[hx]at p0 p1 p2 p3 a e1 e2 e3 e4;rw[hy]at q0 q1 q2 q3 c e1 e2 e3 e4;obtain⟨xA,xc,xl,⟨xe,h,j,N⟩,xd⟩:=x;obtain⟨yA,yc,yl,⟨ye,l,A,d⟩,yd⟩:=y;dsimp only at p0 p1 p2 p3 q0 q1 q2 q3 a c e1 e2 e3 e4;subst e1 e2 e3 e4;have⟨nx,C⟩:=E9 yl.length;have⟨tx,g⟩:=E9 d.length;rw[<-C]at p0 q0;rw[<-g]at p2 q2;have E:=j6 C;have D:H0 (nx=nx):=j6 rfl;have F:H0 (∀W,Ext wr W->Rw W xA xc yl):=j6 (λW q=>(a.r.ext er).ext q);have G:H0 (∀W,Ext wr W->Rw W yA yc yl):=j6 (λW q=>(c.r.ext er).ext q);have H:H0 (∀W,Ext wr W->Sl W 1 h tx j (wds d)):=j6 (λW q=>by rw[g];exact(a.t.ext er).ext q);have I:H0 (∀W,Ext wr W->Sl W 1 l tx A (wds d)):=j6 (λW q=>by rw[g];exact(c.t.ext er).ext q);have X:Ext wr wr.drew:=(Ext.refl wr).drew;have P0:∀z:Xt wr.drew,z.W.cell? (ad.add (i*4))=some (.slice xA nx xc):=λz=>(X.trans z.x).cell p0;have P1:∀z:Xt wr.drew,z.W.cell? ⟨(ad.add (i*4)).block,(ad.add (i*4)).off+1,none⟩=some (.int .u64 ye):=λz=>(X.trans z.x).cell p1;have P2:∀z:Xt wr.drew,z.W.cell? ⟨(ad.add (i*4)).block,(ad.add (i*4)).off+2,none⟩=some (.slice h tx j):=λz=>(X.trans z.x).cell p2;have P3:∀z:Xt wr.drew,z.W.cell? ⟨(ad.add (i*4)).block,(ad.add (i*4)).off+3,none⟩=some (.int .i64 yd):=λz=>(X.trans z.x).cell p3;have Q0:∀z:Xt wr.drew,z.W.cell? (bd.add (i*4))=some (.slice yA nx yc):=λz=>(X.trans z.x).cell q0;have Q1:∀z:Xt wr.drew,z.W.cell? ⟨(bd.add (i*4)).block,(bd.add (i*4)).off+1,none⟩=some (.int .u64 ye):=λz=>(X.trans z.x).cell q1;have Q2:∀z:Xt wr.drew,z.W.cell? ⟨(bd.add (i*4)).block,(bd.add (i*4)).off+2,none⟩=some (.slice l tx A):=λz=>(X.trans z.x).cell q2;have Q3:∀z:Xt wr.drew,z.W.cell? ⟨(bd.add (i*4)).block,(bd.add (i*4)).off+3,none⟩=some (.int .i64 yd):=λz=>(X.trans z.x).cell q3;clear f B a c hx hy C g
   go_upto_region 6 with fail
   clear p0 p1 p2 p3 q0 q1 q2 q3;refine wro [0,0,3,7,15,0,0,96,224,480,1023,2047,4095,4095,16383,32767,65535,4095,4095,397311,921599,1970175,4194303,8388607,16777215,33554431,67108863,67108863,268435455,536870911,1073741823,67108863,67108863,6509559807,15099494399,32279363583,68719476735,137438953471,274877906943] (.flo [0,1,2,3,4,5,6,7,8,9,10,11,12,13,14,15,16,17,18,19,20,21] (.one 22 (.flo [23,24,25,26,27,28,29,30,31,32,33,34,35] (.one 36 (.flo [37,38] (.fin)))))) ?_
   (refine Aa (pks rfl) ?_;(repeat (go_big_quiet_step (fail)));refine oq ?_)
   refine Ac (pks rfl) ?_;intro K_ J;go_wp2_with (go_at_call 117;refine(Mo xA yA xc yc nx nx yl _ E D (j6 (F.o _ X)) (j6 (G.o _ X))).mono ?_;rintro e w1 ⟨rfl,x1⟩)
   have P1:∀z:Xt w1,z.W.cell? ⟨(ad.add (i*4)).block,(ad.add (i*4)).off+1,none⟩=some (.int .u64 ye):=λz=>P1 ⟨z.W,x1.trans z.x⟩;have P2:∀z:Xt w1,z.W.cell? ⟨(ad.add (i*4)).block,(ad.add (i*4)).off+2,none⟩=some (.slice h tx j):=λz=>P2 ⟨z.W,x1.trans z.x⟩;have Q1:∀z:Xt w1,z.W.cell? ⟨(bd.add (i*4)).block,(bd.add (i*4)).off+1,none⟩=some (.int .u64 ye):=λz=>Q1 ⟨z.W,x1.trans z.x⟩;have Q2:∀z:Xt w1,z.W.cell? ⟨(bd.add (i*4)).block,(bd.add (i*4)).off+2,none⟩=some (.slice l tx A):=λz=>Q2 ⟨z.W,x1.trans z.x⟩;clear P0 P3 Q0 Q3
   (refine Aa (pks rfl) ?_;(repeat (go_big_quiet_step (fail)));refine oq ?_)
   refine Ac (pks rfl) ?_;intro K_ J;go_wp2_with (go_at_call 54;refine(aJ (b:=true) ye ye h l tx tx j A d d _ (j6 (by simp)) (j6 (H.o _ (X.trans x1))) (j6 (I.o _ (X.trans x1)))).mono ?_;rintro e w2 ⟨rfl,x2⟩)
   (refine Aa (pks rfl) ?_;(repeat (go_big_quiet_step (fail)));refine oq ?_)
   refine Ad ?_;go_wp2
   go_roundw
   case rel=>exact⟨i+1,by omega,by go_num,er.trans ((X.trans x1).trans x2)⟩
   case measure=>simp[intOf];omega
  ·go_wp2;go_ret;exact⟨rfl,er⟩
def vT(l:List Dat){n:Nat}(hn:n=l.length):(l++Ie).getD n Dat.zero=bZ 91/\(l++Ie).getD (n+1) Dat.zero=bZ 92:=by
 subst hn;rw[AB,AB,BF (AD _),BF (by omega),DQ,show l.length+1-l.length=1 by omega];exact⟨rfl,rfl⟩
def lR{l m:List Dat}(h:Rw w A c (l++m)):Rw w A c l:=by
 have:=Sl.take (k:=l.length) (show Sl w 4 A (l++m).length c (Dd (l++m))from h) (by rw[AA];omega);rw[Xs,DY]at this;exact this
def aI(A1 A2:Option Addr)(c1 c2 n m:Nat)(l:List Dat)(w:World)(hn:n=l.length)(hm:m=n)(hs:n<=1000000000)(h1:Rw w A1 c1 (l++Ie))(h2:Rw w A2 c2 l) :
  C3 111 #[.slice A1 n c1,.slice A2 m c2] w λe w'=>e=.returned (.bool true)/\Ext w w':=by
 subst hm;have hc:m+2<=c1:=by have:=(Sl.cap (show Sl w 4 A1 (l++Ie).length c1 (Dd (l++Ie))from h1)).1;rw[AA,<-hn]at this;exact this
 have c:=(Sl.cap (show Sl w 4 A1 (l++Ie).length c1 (Dd (l++Ie))from h1)).2;have⟨e1,e2⟩:=vT l hn;obtain⟨ad,rfl,p0,p1,p2,p3⟩:=h1.at (i:=m) (by rw[AA,<-hn];show m<m+2;omega);obtain⟨a,e3,q0,q1,q2,q3⟩:=h1.at (i:=m+1) (by rw[AA,<-hn];show m+1<m+2;omega);obtain rfl:ad=a:=by injection e3
 rw[e1]at p0 p1 p2 p3;rw[e2]at q0 q1 q2 q3;simp only[bZ]at p0 p1 p2 p3 q0 q1 q2 q3;have HN:=j6 hn;have HM:H0 (m=m):=j6 rfl;have H1:=j6 (lR h1);have H2:=j6 h2;have d:¬c1<m+2:=by omega
 clear hn h1 h2 e1 e2 e3;go_enter func111,ntmps111;go_wp2_with (go_at_call 117;refine(Mo (some ad) A2 c1 c2 m m l _ HN HM H1 H2).mono ?_;rintro e w1 ⟨rfl,x1⟩)
 go_ret;exact⟨rfl,x1⟩
def aH(A1 A2:Option Addr)(c1 c2 n m:Nat)(l:List Dat)(w:World)(hn:H0 (n=l.length))(hm:H0 (m=n))(hs:n<=1000000000)(h1:H0 (Rw w A1 c1 (l++Ie)))(h2:H0 (Rw w A2 c2 l)) :
  C3 111 #[.slice A1 n c1,.slice A2 m c2] w λe w'=>e=.returned (.bool true)/\Ext w w':=aI A1 A2 c1 c2 n m l w hn.o hm.o hs h1.o h2.o
def Qk(n:Nat):Obj:=.cells (madeCells #[.int .u32 0] (n*1)) 180
def kB(n:Nat)(hn:n<=1000000000)(W:World):(Instr.makeSlice 24 (.int .i64 0) (.int .i64 (n:Int))).run prog W=.ok (.slice (some ⟨W.heap.size,0,none⟩) 0 n) (W.alloc (Qk n)):=by
 have⟨i,hi,hz,hs,hb⟩:=info_parts Fl.info;have:=run_make (P:=prog) (w:=W) 24 180 i _ Fl.under hi hz .i64 .i64 0 (n:Int) (DX _) (by omega) (by rw[hb];omega) (by omega);rw[hs]at this;exact this
def oY(W:World)(n:Nat)(hn:n<=1000000000):Own (W.alloc (Qk n)) W.heap.size 180 1 (some ⟨W.heap.size,0,none⟩) 0 n []:=
 ⟨rfl,.inr ⟨W.heap.size,_,rfl,AD _,heap_alloc_new W _,AG _,by unfold maxLen;omega,ET (size_madeCells _ _).symm,rfl⟩⟩
def Ex:List Int:=[771,772]
def a2v(w:World)(n:Nat)(l:List Int)(e:Ending)(w':World):Prop:=∃g,e=.returned (.slice (some ⟨g,0,none⟩) n (n+2))/\Own w' w.heap.size 180 1 (some ⟨g,0,none⟩) (n+2) (n+2) (wds (l++Ex))/\Ext w w'
def Wq(A:Option Addr)(c n:Nat)(l:List Int)(w:World)(hn:H0 (n=l.length))(h:H0 (Sl w 1 A n c (wds l)))(hs:n<=1000000) :
  C3 180 #[.slice A n c] w (a2v w n l):=by
 have a:∀W:World,(Instr.makeSlice 24 (.int .i64 0) (.int .i64 ((n:Int)+2))).run prog W=.ok (.slice (some ⟨W.heap.size,0,none⟩) 0 (n+2)) (W.alloc (Qk (n+2))):=kB (n+2) (by omega);have m1:=TI;go_enter func180,ntmps180;go_wp2_with (first
  | (at_builtin;have mk:=m1;clear m1;refine Bj _ Fl w.heap.size _ _ rfl rfl w.heap.size 0 (n+2) [] rfl (oY w (n+2) (by omega)) (by omega) A n c (wds l) rfl (h.o.ext ((Ext.refl w).alloc _)) (Se l) (by omega) ?_;intro w1 o1 g1;have O1:=j6 o1;have X1:Ext w w1:=((Ext.refl w).alloc _).grown g1 (λk e=>by cases e;exact AD _);have m2:=TI;clear o1 g1)
  | (at_builtin;have mk:=m2;refine Bj _ Fl w.heap.size _ _ rfl rfl w.heap.size n (n+2) (wds l) rfl (by have:=O1.o.alloc (.cells (#[.int .u32 771,.int .u32 772]:Array Value) 180);rwa [BD,BV]at this) (by omega) (some ⟨w1.heap.size,0,none⟩) 2 2 (wds Ex) rfl (Hq w1 _ _ _ 1 2 rfl rfl (by decide)) (Se Ex) (by omega) ?_;intro w2 o2 g2;have O2:=j6 o2;have X2:Ext w w2:=(X1.alloc _).grown g2 (λk e=>by cases e;exact AD _);clear o2 g2))
 go_ret;exact⟨w.heap.size,by simp,by have:=O2.o;rwa [Ku]at this,X2⟩
def Um{k:List Int}(h:Sl w 1 A m c (wds (l++k)))(hn:n=l.length)(hm:n<=m):Sl w 1 A n c (wds l):=by
 have:=Sl.take (k:=n) h hm;rw[FA,tP,hn,DY]at this;rw[hn];exact this
def Vp(A1 A2:Option Addr)(c1 c2 n m:Nat)(l:List Int)(w:World)(hn:H0 (n=l.length))(hm:H0 (m=n))(hs:n<=1000000000)(h1:H0 (Sl w 1 A1 (n+2) c1 (wds (l++Ex))))(h2:H0 (Sl w 1 A2 m c2 (wds l))) :
  C3 193 #[.slice A1 n c1,.slice A2 m c2] w λe w'=>e=.returned (.bool true)/\Ext w w':=by
 have d:=hm.o;subst d;have hc:=h1.o.cap;have a:∀q:Nat,(wds (l++Ex))[m+q]?=(wds Ex)[q]?:=λq=>by rw[<-Ku,BF (by rw[lH,<-hn.o];omega),lH,<-hn.o,DE]
 obtain⟨ad,e1,c⟩:=h1.o.2.2.2.2 (by omega);subst e1;have p0:w.cell? (ad.add m)=some (.int .u32 771):=c m _ (a 0);have q0:w.cell? (ad.add (m+1))=some (.int .u32 772):=c (m+1) _ (a 1);have g:w.cell? ⟨ad.block,ad.off+(m+1),none⟩=some (.int .u32 772):=by
  have:=q0;unfold Addr.add at this
  rwa [if_neg (by omega)]at this
 have H1:=j6 (Um h1.o hn.o (by omega));have f:¬c1<m+2:=by omega
 clear a c;go_enter func193,ntmps193;go_wp2_with (go_at_call 166;refine(Nv (some ad) A2 m m c1 c2 l l _ H1.o h2.o).mono ?_;rintro e w1 ⟨rfl,x1⟩)
 go_ret;exact⟨by simp,x1⟩
def Own.fullW{s:Nat}(h:Own w B e s A n c xs):∃ys,Own w B e s A c c ys:=by
 rcases h.2 with ⟨rfl,rfl⟩|⟨g,cur,rfl,hb,hg,hnc,hcm,hcs,_⟩
 ·exact⟨[],Own.empty _ _ _ _ _⟩
 ·refine⟨cur.toList.take (c*s),?_,.inr ⟨g,cur,rfl,hb,hg,AD _,hcm,hcs,rfl⟩⟩;rw[CE];have:c*s<=cur.toList.length:=by simpa using hcs
  omega
def Vq(A:Option Addr)(n nn c B:Nat)(xs:List Value)(w:World)(h:H0 (Own w B 180 1 A nn c xs))(hn:n<=c) :
  C3 114 #[.slice A n c] w λe w'=>e=.returned (.tuple #[])/\Upd (λk=>blk A c=some k) w w':=by
 have f:=h.o.le.2;have⟨ys,hy⟩:=h.o.fullW;replace hy:=j6 hy;go_enter func114,ntmps114;go_wp2
 go_loopg [3] c (λz v wr=>∃(i:Nat) (ys:List Value),z=c-i/\i<=c/\v=.int .i64 i/\H0 (Own wr B 180 1 A c c ys)/\H0 (Upd (λk=>blk A c=some k) w wr))
 case atStart=>exact⟨0,ys,rfl,AG _,rfl,hy,j6 (Upd.refl _ _)⟩
 case round =>
  clear hy;obtain⟨i,ys,rfl,hi,rfl,hy,HU⟩:=hrel;by_cases hlt:i<c
  ·obtain⟨g,eA,hb,_,_,a,d⟩:=hy.o.form (by omega);have hl:ys.length=c*1:=hy.o.1;subst eA;have q0:wr.cell? ⟨g,i,none⟩=some (ys[i]'(by omega)):=a _ _ (AC (by omega));have z0:=d i;have HB:=j6 hb;clear a d hb;go_wp2
   go_roundg (c-(i+1))
   case measure=>omega
   case rel=>exact⟨i+1,_,rfl,by omega,by go_num,j6 (hy.o.put i (.int .u32 77)),j6 (HU.o.setCell (p:=⟨g,i,none⟩) (.inl HB.o) _)⟩
  ·go_wp2;go_returns;exact⟨rfl,HU.o⟩
def a2w(w:World)(v:Int)(n:Nat)(l:List Int)(e:Ending)(w':World):Prop:=∃g,e=.returned (.agg #[.int .u64 v,.slice (some ⟨g,0,none⟩) n (n+2)])/\Own w' w.heap.size 180 1 (some ⟨g,0,none⟩) (n+2) (n+2) (wds (l++Ex))/\Ext w w'
def bE(v:Int)(A:Option Addr)(c n:Nat)(l:List Int)(w:World)(hn:H0 (n=l.length))(h:H0 (Sl w 1 A n c (wds l)))(hs:n<=1000000) :
  C3 100 #[.agg #[.int .u64 v,.slice A n c]] w (a2w w v n l):=by
 go_enter func100,ntmps100
 go_upto_region 1 with fail
 have⟨w0,a⟩:=E9 ((w.alloc (Obj.cells #[Value.int IntKind.u64 v,Value.slice A n c] 26)).alloc (Obj.cells #[Value.int IntKind.u64 0,Value.slice none 0 0] 26));have x0:Ext w w0:=a▸((Ext.refl w).alloc _).alloc _;have s0:w0.heap.size=w.heap.size+2:=by subst a;simp
 have a0:Bk w0 w.heap.size 26 #[Value.int IntKind.u64 v,Value.slice A n c]:=by subst a;exact(Bk.new _ _ _).alloc _
 have r0:Bk w0 (w.heap.size+1) 26 #[Value.int IntKind.u64 0,Value.slice none 0 0]:=by subst a;exact Bk.at (by simp)
 rw[<-a];clear a;have X:Ext w0 w0.drew:=(Ext.refl w0).drew;have q1:∀y:Xt w0.drew,y.W.cell? ⟨w.heap.size,0,none⟩=some (.int .u64 v):=λy=>(a0.ext (X.trans y.x)).cell 0;have q2:∀y:Xt w0.drew,y.W.cell? ⟨w.heap.size,1,none⟩=some (.slice A n c):=λy=>(a0.ext (X.trans y.x)).cell 1;refine wro [0,1,0,4,12,31,63] (.flo [0,1,2,3] (.ext 4 (.flo [5] (.one 6 (.fin))))) ?_
 (refine Aa (pks rfl) ?_;(repeat (go_big_quiet_step (fail)));refine oq ?_)
 refine Ar (pks rfl) ?_;intro K_ d;go_wp2_with (go_at_call 180;refine(Wq A c n l _ hn (j6 (h.o.ext (x0.trans X))) hs).mono ?_;rintro r w1 ⟨g,rfl,o1,x1⟩)
 refine An.mk x1 ?_;have R:=r0.ext (X.trans x1);have z0:=R.cell 0;have z1:=R.cell 1;have f0:=R.free 0;have f1:=R.free 1
 (refine Aa (pks rfl) ?_;(repeat (go_big_quiet_step (fail)));refine oq ?_)
 refine Ac (pks rfl) ?_;intro K_ d;go_wp2;refine Ad ?_;go_wp2;have q:=R.set2 (.int .u64 v) (.slice (some ⟨g,0,none⟩) n (n+2));refine bodyPost_ret (v:=.agg #[.int .u64 v,.slice (some ⟨g,0,none⟩) n (n+2)]) (by simp[results,Tryz.results100,go_sem,q.1,q.2]) rfl ?_;have e1:=(x0.trans X).trans x1;have e:=X.size;have O1:Own w1 w.heap.size 180 1 (some ⟨g,0,none⟩) (n+2) (n+2) (wds (l++Ex)):=o1.mono (by omega);have hg:∀k,k<w.heap.size+2->blk (some ⟨g,0,none⟩:Option Addr) (n+2)≠some k:=λk hk=>o1.ne (by omega);refine⟨g,rfl,?_,?_⟩
 ·exact((O1.far (hg _ (by simp)) _).far (hg _ (by simp)) _)
 ·(repeat' (first|with_reducible exact e1|with_reducible refine Ext.drew ?_|with_reducible refine Ext.drewN ?_ _|with_reducible refine Ext.alloc ?_ _|with_reducible refine Ext.set ?_ ?_ _|omega|(simp;done)|(simp;omega)))
def Wk(v:Int)(A1 A2:Option Addr)(c1 c2 n:Nat)(l:List Int)(w:World)(hn:H0 (n=l.length))(hs:n<=1000000000)(h1:H0 (Sl w 1 A1 (n+2) c1 (wds (l++Ex))))(h2:H0 (Sl w 1 A2 n c2 (wds l))) :
  C3 112 #[.agg #[.int .u64 v,.slice A1 n c1],.agg #[.int .u64 v,.slice A2 n c2]] w λe w'=>e=.returned (.bool true)/\Ext w w':=by
 go_enter func112,ntmps112;go_wp2_with (go_at_call 193;refine(Vp A1 A2 c1 c2 n n l _ hn (j6 rfl) hs (j6 (h1.o.ext (((Ext.refl w).alloc _).alloc _))) (j6 (h2.o.ext (((Ext.refl w).alloc _).alloc _)))).mono ?_;rintro r w1 ⟨rfl,x1⟩)
 go_ret;exact⟨rfl,(((Ext.refl w).alloc _).alloc _).trans x1⟩
def Lx(w:World)(B:Nat)(x:Tm):Prop:=Own w B 180 1 x.A (x.l.length+2) x.c (wds (x.l++Ex))
def Vf(x:Ext w w')(g:Nat):w.grownBy w' (some g):=⟨x.os,x.tape,x.output,x.size,λk hk _=>x.block k hk⟩
def Lx.full{x:Tm}(h:Lx w B x):Sl w 1 x.A (x.l.length+2) x.c (wds (x.l++Ex)):=Own.sl h
def Lx.sl{x:Tm}(h:Lx w B x):Sl w 1 x.A x.l.length x.c (wds x.l):=Um h.full rfl (by omega)
def Si(n:Nat):Obj:=.cells (madeCells #[.slice none 0 0,.int .u64 0,.slice none 0 0,.int .i64 0] (n*4)) 95
def vV(n:Nat)(hn:n<=1000000000)(W:World):(Instr.makeSlice 22 (.int .i64 0) (.int .i64 (n:Int))).run prog W=.ok (.slice (some ⟨W.heap.size,0,none⟩) 0 n) (W.alloc (Si n)):=by
 have⟨i,hi,hz,hs,hb⟩:=info_parts Ao.info;have:=run_make (P:=prog) (w:=W) 22 95 i _ Ao.under hi hz .i64 .i64 0 (n:Int) (DX _) (by omega) (by rw[hb];omega) (by omega);rw[hs]at this;exact this
def zA(W:World)(n:Nat)(hn:n<=1000000000):Own (W.alloc (Si n)) W.heap.size 95 4 (some ⟨W.heap.size,0,none⟩) 0 n []:=
 ⟨rfl,.inr ⟨W.heap.size,_,rfl,AD _,heap_alloc_new W _,AG _,by unfold maxLen;omega,ET (size_madeCells _ _).symm,rfl⟩⟩
def Km:Ud:=⟨none,0,[],Tm.zero,91⟩
def Qg(w:World)(B:Nat)(x:Ud):Prop:=Own w B 204 4 x.A (x.l.length+2) x.c (Dd (x.l++Ie))
def ApU(L:List Ud):Prop:=(L.Pairwise λx y=>∀k,blk x.A x.c=some k->blk y.A y.c≠some k)/\L.Pairwise λx y=>∀k,blk x.t.A x.t.c=some k->blk y.t.A y.t.c≠some k
structure Jt (w:World) (g n:Nat) (L:List Ud) (wr:World) (i:Nat) (O:List Ud):Prop where
 own:Own wr w.heap.size 95 4 (some ⟨g,0,none⟩) i (n+1) (Ah O)
 vals:O.map Ud.uv=(L.take i).map Ud.uv
 len:O.length=i
 rw:∀x∈O,Qg wr w.heap.size x
 ts:∀x∈O,Lx wr w.heap.size x.t
 ap:ApU O
 ext:Ext w wr
 gg:w.heap.size<=g/\g<wr.heap.size
def Jt.mono{L O:List Ud}(h:Jt w g n L wr i O)(x:Ext wr wz):Jt w g n L wz i O :=
 ⟨h.own.ext x,h.vals,h.len,λy hy=>Own.ext (h.rw y hy) x,λy hy=>Own.ext (h.ts y hy) x,h.ap,h.ext.trans x,by have:=h.gg;have:=x.size;omega⟩
def Jt.new{L O:List Ud}{x:Ud}(hL:Jt w g n L w1 i O)(hi:i<L.length)(hx:L.getD i Ud.zero=x)(hnx:nx=x.l.length)(htx:tx=x.t.l.length)(x3:Ext w1 w3)
  (o3:Own w3 w1.heap.size 204 4 (some ⟨hr,0,none⟩) (nx+2) (nx+2) (Dd (x.l++Ie)))
  (t3:Own w3 w1.heap.size 180 1 (some ⟨ht,0,none⟩) (tx+2) (tx+2) (wds (x.t.l++Ex)))
  (o4:Own w4 w.heap.size 95 4 (some ⟨g,0,none⟩) (i+1) (n+1) (Ah O++[.slice (some ⟨hr,0,none⟩) nx (nx+2),.int .u64 x.t.e,.slice (some ⟨ht,0,none⟩) tx (tx+2),.int .i64 x.d])) (g4:w3.grownBy w4 (some g)):Jt w g n L w4 (i+1) (O++[⟨some ⟨hr,0,none⟩,nx+2,x.l,⟨x.t.e,some ⟨ht,0,none⟩,tx+2,x.t.l⟩,x.d⟩]):=by
 subst hnx htx;have s3:=hL.mono x3;have hg:=hL.gg;have a:=g4.size;have hw:=hL.ext.size;have kept:∀{k0 s:Nat} {e:TypeId} {A':Option Addr} {n' c':Nat} {xs:List Value},e≠95->Own w3 k0 e s A' n' c' xs->Own w4 k0 e s A' n' c' xs:=λ{k0 s e A' n' c' xs} he o=>o.kept g4 (by
  cases hb:blk A' c' with
  | none=>exact .inl rfl
  | some k=>exact .inr (λq=>Ca o s3.own he hb (by rw[q];rfl)))
 refine⟨by rw[Au];exact o4,?_,by rw[AA,hL.len];rfl,λy hy=>?_,λy hy=>?_,⟨?_,?_⟩,s3.ext.grown g4 (λk e=>by cases e;exact hg.1),by have:=x3.size;omega⟩
 ·rw[Iy hi,hx,AI,AI,hL.vals];rfl
 ·rcases AQ.1 hy with hy|hy
  ·exact kept Ee (s3.rw y hy)
  ·rw[AE.1 hy];exact Own.mono (kept Ee o3) hw
 ·rcases AQ.1 hy with hy|hy
  ·exact kept Cz (s3.ts y hy)
  ·rw[AE.1 hy];exact Own.mono (kept Cz t3) hw
 ·refine BL.2 ⟨hL.ap.1,BN _ _,λy hy z hz k h1 h2=>?_⟩;rw[AE]at hz;subst hz;have:=(Own.lt (hL.rw y hy) k h1).2;have:=(o3.lt k h2).1;omega
 ·refine BL.2 ⟨hL.ap.2,BN _ _,λy hy z hz k h1 h2=>?_⟩;rw[AE]at hz;subst hz;have:=(Own.lt (hL.ts y hy) k h1).2;have:=(t3.lt k h2).1;omega
structure Gs (w:World) (B g n:Nat) (L:List Ud):Prop where
 own:Own w B 95 4 (some ⟨g,0,none⟩) (n+1) (n+1) (Ah (L++[Km]))
 rw:∀x∈L,Qg w B x
 ts:∀x∈L,Lx w B x.t
 ap:ApU L
 len:L.length=n
def Gs.ext{L:List Ud}(h:Gs w B g n L)(x:Ext w w'):Gs w' B g n L :=
 ⟨h.own.ext x,λy hy=>Own.ext (h.rw y hy) x,λy hy=>Own.ext (h.ts y hy) x,h.ap,h.len⟩
def Qg.full{x:Ud}(h:Qg w B x):Rw w x.A x.c (x.l++Ie):=by
 unfold Rw;rw[AA];exact Own.sl h
def Gs.uin{L:List Ud}(h:Gs w B g n L):Uin w (some ⟨g,0,none⟩) (n+1) L:=by
 refine⟨?_,λx hx=>⟨lR (h.rw x hx).full,(h.ts x hx).sl⟩⟩;have:=Sl.take (k:=n) h.own.sl (by omega);rw[Au,List.take_left' (by rw[Cx,h.len])]at this;rw[h.len];exact this
def a0y(w:World)(n:Nat)(L:List Ud)(e:Ending)(w':World):Prop:=∃g M,e=.returned (.slice (some ⟨g,0,none⟩) n (n+1))/\w.heap.size<=g/\Gs w' w.heap.size g n M/\M.map Ud.uv=L.map Ud.uv/\Ext w w'
def kE(A:Option Addr)(c n:Nat)(L:List Ud)(w:World)(hn:H0 (n=L.length))(h:H0 (Uin w A c L))(hs:n<=1000000)(hr:H0 (∀x∈L,x.l.length<=1000000/\x.t.l.length<=1000000)) :
  C3 15 #[.slice A n c] w (a0y w n L):=by
 have J:∀W:World,(Instr.makeSlice 22 (.int .i64 0) (.int .i64 ((n:Int)+1))).run prog W=.ok (.slice (some ⟨W.heap.size,0,none⟩) 0 (n+1)) (W.alloc (Si (n+1))):=vV (n+1) (by omega);have m:H0 (Jt w w.heap.size n L (w.alloc (Si (n+1))) 0 []):=j6 ⟨zA w (n+1) (by omega),rfl,rfl,λx hx=>(nomatch hx),λx hx=>(nomatch hx),⟨List.Pairwise.nil,List.Pairwise.nil⟩,(Ext.refl w).alloc _,by simp⟩;go_enter func15,ntmps15;go_wp2
 go_loopg [3,4] n (λz u v wr=>∃(i:Nat) (O:List Ud),z=n-i/\i<=n/\u=.slice (some ⟨w.heap.size,0,none⟩) i (n+1)/\v=.int .i64 i/\H0 (Jt w w.heap.size n L wr i O))
 case atStart=>exact⟨0,[],rfl,AG _,rfl,rfl,m⟩
 case round =>
  clear m J;obtain⟨i,O,rfl,hi,rfl,rfl,HP⟩:=hrel;have M:w.heap.size<wr.heap.size:=HP.o.gg.2;by_cases hlt:i<n
  ·have f:i<L.length:=by rw[<-hn.o];exact hlt
   obtain⟨ad,rfl,p0,p1,p2,p3⟩:=(h.o.ext HP.o.ext).at f;have hm:=As f;have⟨x,hx⟩:=tz (L.getD i Ud.zero);rw[hx]at p0 p1 p2 p3 hm;have⟨nx,g⟩:=E9 x.l.length;have⟨tx,a⟩:=E9 x.t.l.length;rw[<-g]at p0;rw[<-a]at p2;have D:nx<=1000000:=by rw[g];exact(hr.o x hm).1
   have E:tx<=1000000:=by rw[a];exact(hr.o x hm).2
   have B:=j6 g;have C:=j6 a;have HX:=j6 hx;have F:=j6 f;have G:H0 (∀W,Ext wr W->Rw W x.A x.c x.l):=j6 (λW q=>((h.o.ls x hm).r.ext HP.o.ext).ext q);have I:H0 (∀W,Ext wr W->Sl W 1 x.t.A tx x.t.c (wds x.t.l)):=j6 (λW q=>by rw[a];exact((h.o.ls x hm).t.ext HP.o.ext).ext q);have X:Ext wr wr.drew:=(Ext.refl wr).drew;have P0:∀z:Xt wr.drew,z.W.cell? (ad.add (i*4))=some (.slice x.A nx x.c):=λz=>(X.trans z.x).cell p0;have P1:∀z:Xt wr.drew,z.W.cell? ⟨(ad.add (i*4)).block,(ad.add (i*4)).off+1,none⟩=some (.int .u64 x.t.e):=λz=>(X.trans z.x).cell p1;have P2:∀z:Xt wr.drew,z.W.cell? ⟨(ad.add (i*4)).block,(ad.add (i*4)).off+2,none⟩=some (.slice x.t.A tx x.t.c):=λz=>(X.trans z.x).cell p2;have P3:∀z:Xt wr.drew,z.W.cell? ⟨(ad.add (i*4)).block,(ad.add (i*4)).off+3,none⟩=some (.int .i64 x.d):=λz=>(X.trans z.x).cell p3;clear f hm hx g a
   go_upto_region 5 with fail
   clear p0 p1 p2 p3;refine wro [0,0,0,6,14,30,62,0,0,384,896,1920,4094,0,0,24576,57344,122880,262142,524286,1048575,2097151] (.pur [0] (.flo [1,2,3,4,5,7,8,9,10,11,13,14,15,16,17] (.ext 6 (.ext 12 (.flo [18] (.one 19 (.one 20 (.flo [21] (.fin))))))))) ?_
   (refine Bi (pks rfl) ?_;(repeat (go_big_quiet_step (fail)));refine oq ?_)
   (refine Aa (pks rfl) ?_;(repeat (go_big_quiet_step (fail)));refine oq ?_)
   refine Ar (pks rfl) ?_;intro K_ j;go_wp2_with (go_at_call 99;refine(fZ x.A x.c nx x.l _ B (j6 (G.o _ X)) D).mono ?_;rintro e w2 ⟨h2,rfl,b2,o2,x2⟩)
   refine An.mk x2 ?_;have O2:=j6 o2;have K:wr.heap.size<=w2.heap.size:=(X.trans x2).size;clear o2 b2;refine Ar (pks rfl) ?_;intro K_ j;go_wp2_with (go_at_call 100;refine(bE x.t.e x.t.A x.t.c tx x.t.l _ C (j6 (I.o _ (X.trans x2))) E).mono ?_;rintro e w3 ⟨h3,rfl,o3,x3⟩)
   refine An.mk x3 ?_;have O3:H0 (Own w3 wr.heap.size 180 1 (some ⟨h3,0,none⟩) (tx+2) (tx+2) (wds (x.t.l++Ex))):=j6 (Own.mono o3 K);have O2:=j6 (O2.o.ext x3);have X3:=j6 ((X.trans x2).trans x3);clear o3
   (refine Aa (pks rfl) ?_;(repeat (go_big_quiet_step (fail)));refine oq ?_)
   refine Ac (pks rfl) ?_;intro K_ j;go_wp2;refine Ac (pks rfl) ?_;intro K_ j;have H:=j6 (HP.o.mono X3.o);go_wp2_with (at_builtin;refine Bj _ Ao w.heap.size _ _ rfl rfl w.heap.size i (n+1) (Ah O) rfl (H.o.own.alloc _) (by omega) (some ⟨w3.heap.size,0,none⟩) 1 1 [.slice (some ⟨h2,0,none⟩) nx (nx+2),.int .u64 x.t.e,.slice (some ⟨h3,0,none⟩) tx (tx+2),.int .i64 x.d] rfl (Sl.one w3 #[.slice (some ⟨h2,0,none⟩) nx (nx+2),.int .u64 x.t.e,.slice (some ⟨h3,0,none⟩) tx (tx+2),.int .i64 x.d] 95 4 rfl) (by intro u hu;simp at hu;rcases hu with rfl|rfl|rfl|rfl<;>rfl) (by omega) ?_;intro w4 o4 g4)
   have O4:=j6 o4;have G4:=j6 ((Vf ((Ext.refl w3).alloc (.cells #[.slice (some ⟨h2,0,none⟩) nx (nx+2),.int .u64 x.t.e,.slice (some ⟨h3,0,none⟩) tx (tx+2),.int .i64 x.d] 95)) w.heap.size).trans g4);clear o4 g4;go_simp
   (refine Aa (pks rfl) ?_;(repeat (go_big_quiet_step (fail)));refine oq ?_)
   refine Ad ?_;go_wp2
   go_roundg (n-(i+1))
   case measure=>omega
   case rel=>exact⟨i+1,_,rfl,by omega,rfl,by go_num,j6 (HP.o.new F.o HX.o B.o C.o X3.o O2.o O3.o O4.o G4.o)⟩
  ·obtain rfl:i=n:=by omega
   have HE:=j6 HP.o.own;go_wp2_with (at_builtin;refine Bj _ Ao w.heap.size _ _ rfl rfl w.heap.size i (i+1) (Ah O) rfl (HE.o.alloc _) (by omega) (some ⟨wr.heap.size,0,none⟩) 1 1 [.slice none 0 0,.int .u64 0,.slice none 0 0,.int .i64 91] rfl (Sl.one wr #[.slice none 0 0,.int .u64 0,.slice none 0 0,.int .i64 91] 95 4 rfl) (by intro u hu;simp at hu;rcases hu with rfl|rfl|rfl|rfl<;>rfl) (by omega) ?_;intro w4 o4 g4;have O4:=j6 o4;have G4:=j6 ((Vf ((Ext.refl wr).alloc (.cells #[.slice none 0 0,.int .u64 0,.slice none 0 0,.int .i64 91] 95)) w.heap.size).trans g4);clear o4 g4)
   go_ret;have kept:∀{k0 s:Nat} {e:TypeId} {A':Option Addr} {n' c':Nat} {xs:List Value},e≠95->Own wr k0 e s A' n' c' xs->Own w4 k0 e s A' n' c' xs:=λ{k0 s e A' n' c' xs} he o=>o.kept G4.o (by
    cases hb:blk A' c' with
    | none=>exact .inl rfl
    | some k=>exact .inr (λq=>Ca o HE.o he hb (by rw[q];rfl)))
   exact⟨w.heap.size,O,by simp,AD _,⟨by rw[Au];exact O4.o,λy hy=>kept Ee (HP.o.rw y hy),λy hy=>kept Cz (HP.o.ts y hy),HP.o.ap,HP.o.len⟩,by rw[HP.o.vals,AW (by rw[<-hn.o];exact AD _)],HP.o.ext.grown G4.o (λk e=>by cases e;exact AD _)⟩
def Gs.iv{L:List Ud}(h:Gs w B g n L){k:Nat}(hk:k=g\/∃x∈L,blk x.A x.c=some k\/blk x.t.A x.t.c=some k):B<=k/\k<w.heap.size:=by
 rcases hk with rfl|⟨x,hx,hb|hb⟩
 ·exact h.own.lt _ rfl
 ·exact Own.lt (h.rw x hx) k hb
 ·exact Own.lt (h.ts x hx) k hb
def eS(A2:Option Addr)(c2 n B g:Nat)(L M:List Ud)(w:World)(hm:H0 (n=L.length))(hs:n<=1000000)(h1:H0 (Gs w B g n M))(h2:H0 (Uin w A2 c2 L))(he:H0 (M.map Ud.uv=L.map Ud.uv))(hr:H0 (∀x∈L,x.l.length<=1000000/\x.t.l.length<=1000000)) :
  C3 19 #[.slice (some ⟨g,0,none⟩) n (n+1),.slice A2 n c2] w λe w'=>e=.returned (.bool true)/\Ext w w':=by
 obtain⟨g',eg,_,_,_,hc,_⟩:=h1.o.own.form (by omega);cases eg;have pm:w.cell? ⟨g,n*4+3,none⟩=some (.int .i64 91):=hc _ _ (by
  have:=Em (M++[Km]) n 3 (by rw[AA,h1.o.len];exact Nat.lt_succ_self n) (by decide);rw[show(M++[Km]).getD n Ud.zero=Km from by rw[AB,BF (by rw[h1.o.len];exact AD _),h1.o.len,DQ];rfl]at this;exact this)
 clear hc;go_enter func19,ntmps19;go_wp2
 go_loopw [5] (λv wr=>∃i:Nat,i<=n/\v=.int .i64 i/\Ext w wr) (λv _=>n-(intOf v).toNat)
 case atStart=>exact⟨0,AG _,rfl,Ext.refl _⟩
 case round =>
  obtain⟨i,hi,rfl,er⟩:=hrel;clear pm;by_cases hlt:i<n
  ·have a:i<M.length:=by rw[h1.o.len];exact hlt
   have h:i<L.length:=by rw[<-hm.o];exact hlt
   have⟨ad,eA,p0,p1,p2,p3⟩:=(h1.o.uin.ext er).at a;cases eA;obtain⟨bd,rfl,q0,q1,q2,q3⟩:=(h2.o.ext er).at h;have j:=(h1.o.rw _ (As a)).full;have f:=(h1.o.ts _ (As a)).full;have c:=h2.o.ls _ (As h);have d:=hr.o _ (As h);have⟨e1,e2,e3,e4⟩:=lI he.o a;have⟨x,hx⟩:=tz (M.getD i Ud.zero);have⟨y,hy⟩:=tz (L.getD i Ud.zero);rw[hx]at p0 p1 p2 p3 j f e1 e2 e3 e4;rw[hy]at q0 q1 q2 q3 c d e1 e2 e3 e4;obtain⟨xA,xc,xl,⟨xe,A,C,T⟩,xd⟩:=x;obtain⟨yA,yc,yl,⟨ye,D,E,F⟩,yd⟩:=y;dsimp only at p0 p1 p2 p3 q0 q1 q2 q3 j f c d e1 e2 e3 e4;subst e1 e2 e3 e4;have⟨nx,G⟩:=E9 yl.length;have⟨tx,m⟩:=E9 F.length;rw[<-G]at p0 q0 d;rw[<-m]at p2 q2 f d;have H:nx<=1000000000:=by omega
   have I:tx<=1000000000:=by omega
   have K:=j6 G;have R:=j6 m;have J:H0 (nx=nx):=j6 rfl;have N:H0 (∀W,Ext wr W->Rw W xA xc (yl++Ie)):=j6 (λW q=>(j.ext er).ext q);have O:H0 (∀W,Ext wr W->Rw W yA yc yl):=j6 (λW q=>(c.r.ext er).ext q);have P:H0 (∀W,Ext wr W->Sl W 1 A (tx+2) C (wds (F++Ex))):=j6 (λW q=>(f.ext er).ext q);have Q:H0 (∀W,Ext wr W->Sl W 1 D tx E (wds F)):=j6 (λW q=>by rw[m];exact(c.t.ext er).ext q);rw[show(⟨g,0,none⟩:Addr).add (i*4)=⟨g,i*4,none⟩from by unfold Addr.add;split<;>simp_all]at p0 p1 p2 p3;have X:Ext wr wr.drew:=(Ext.refl wr).drew;have P0:∀z:Xt wr.drew,z.W.cell? ⟨g,i*4,none⟩=some (.slice xA nx xc):=λz=>(X.trans z.x).cell p0;have P1:∀z:Xt wr.drew,z.W.cell? ⟨g,i*4+1,none⟩=some (.int .u64 ye):=λz=>(X.trans z.x).cell p1;have P2:∀z:Xt wr.drew,z.W.cell? ⟨g,i*4+2,none⟩=some (.slice A tx C):=λz=>(X.trans z.x).cell p2;have P3:∀z:Xt wr.drew,z.W.cell? ⟨g,i*4+3,none⟩=some (.int .i64 yd):=λz=>(X.trans z.x).cell p3;have Q0:∀z:Xt wr.drew,z.W.cell? (bd.add (i*4))=some (.slice yA nx yc):=λz=>(X.trans z.x).cell q0;have Q1:∀z:Xt wr.drew,z.W.cell? ⟨(bd.add (i*4)).block,(bd.add (i*4)).off+1,none⟩=some (.int .u64 ye):=λz=>(X.trans z.x).cell q1;have Q2:∀z:Xt wr.drew,z.W.cell? ⟨(bd.add (i*4)).block,(bd.add (i*4)).off+2,none⟩=some (.slice D tx E):=λz=>(X.trans z.x).cell q2;have Q3:∀z:Xt wr.drew,z.W.cell? ⟨(bd.add (i*4)).block,(bd.add (i*4)).off+3,none⟩=some (.int .i64 yd):=λz=>(X.trans z.x).cell q3;clear a h j f c hx hy G m d
   go_upto_region 6 with fail
   clear p0 p1 p2 p3 q0 q1 q2 q3;refine wro [0,0,3,7,15,0,0,96,224,480,1023,2047,4095,4095,16383,32767,65535,4095,4095,397311,921599,1970175,4194303,8388607,16777215,33554431,67108863,67108863,268435455,536870911,1073741823,67108863,67108863,6509559807,15099494399,32279363583,68719476735,137438953471,274877906943] (.flo [0,1,2,3,4,5,6,7,8,9,10,11,12,13,14,15,16,17,18,19,20,21] (.one 22 (.flo [23,24,25,26,27,28,29,30,31,32,33,34,35] (.one 36 (.flo [37,38] (.fin)))))) ?_
   (refine Aa (pks rfl) ?_;(repeat (go_big_quiet_step (fail)));refine oq ?_)
   refine Ac (pks rfl) ?_;intro K_ S;go_wp2_with (go_at_call 111;refine(aH xA yA xc yc nx nx yl _ K J H (j6 (N.o _ X)) (j6 (O.o _ X))).mono ?_;rintro e w1 ⟨rfl,x1⟩)
   have P1:∀z:Xt w1,z.W.cell? ⟨g,i*4+1,none⟩=some (.int .u64 ye):=λz=>P1 ⟨z.W,x1.trans z.x⟩;have P2:∀z:Xt w1,z.W.cell? ⟨g,i*4+2,none⟩=some (.slice A tx C):=λz=>P2 ⟨z.W,x1.trans z.x⟩;have Q1:∀z:Xt w1,z.W.cell? ⟨(bd.add (i*4)).block,(bd.add (i*4)).off+1,none⟩=some (.int .u64 ye):=λz=>Q1 ⟨z.W,x1.trans z.x⟩;have Q2:∀z:Xt w1,z.W.cell? ⟨(bd.add (i*4)).block,(bd.add (i*4)).off+2,none⟩=some (.slice D tx E):=λz=>Q2 ⟨z.W,x1.trans z.x⟩;clear P0 P3 Q0 Q3
   (refine Aa (pks rfl) ?_;(repeat (go_big_quiet_step (fail)));refine oq ?_)
   refine Ac (pks rfl) ?_;intro K_ S;go_wp2_with (go_at_call 112;refine(Wk ye A D C E tx F _ R I (j6 (P.o _ (X.trans x1))) (j6 (Q.o _ (X.trans x1)))).mono ?_;rintro e w2 ⟨rfl,x2⟩)
   (refine Aa (pks rfl) ?_;(repeat (go_big_quiet_step (fail)));refine oq ?_)
   refine Ad ?_;go_wp2
   go_roundw
   case rel=>exact⟨i+1,by omega,by go_num,er.trans ((X.trans x1).trans x2)⟩
   case measure=>simp[intOf];omega
  ·go_wp2;go_ret;exact⟨rfl,er⟩
def Own.full{s:Nat}(h:Own w B e s A n c xs):∃ys,Own w B e s A c c ys:=by
 rcases h.2 with ⟨rfl,rfl⟩|⟨g,cur,rfl,hb,hg,hnc,hcm,hcs,_⟩
 ·exact⟨[],Own.empty _ _ _ _ _⟩
 ·refine⟨cur.toList.take (c*s),?_,.inr ⟨g,cur,rfl,hb,hg,AD _,hcm,hcs,rfl⟩⟩;rw[CE];have:c*s<=cur.toList.length:=by simpa using hcs
  omega
def Own.len{s:Nat}(h:Own w B e s A n c xs):xs.length=n*s:=h.1
def aK(A:Option Addr)(n nn c B:Nat)(xs:List Value)(w:World)(h:H0 (Own w B 204 4 A nn c xs))(hn:n<=c) :
  C3 113 #[.slice A n c] w λe w'=>e=.returned (.tuple #[])/\Upd (λk=>blk A c=some k) w w':=by
 have f:=h.o.le.2;have⟨ys,hy⟩:=h.o.full;replace hy:=j6 hy;go_enter func113,ntmps113;go_wp2
 go_loopg [3] c (λz v wr=>∃(i:Nat) (ys:List Value),z=c-i/\i<=c/\v=.int .i64 i/\H0 (Own wr B 204 4 A c c ys)/\H0 (Upd (λk=>blk A c=some k) w wr))
 case atStart=>exact⟨0,ys,rfl,AG _,rfl,hy,j6 (Upd.refl _ _)⟩
 case round =>
  clear hy;obtain⟨i,ys,rfl,hi,rfl,hy,HU⟩:=hrel;by_cases hlt:i<c
  ·obtain⟨g,eA,hb,_,_,a,d⟩:=hy.o.form (by omega);have hl:=hy.o.len;subst eA;have q0:wr.cell? ⟨g,i*4,none⟩=some (ys[i*4]'(by omega)):=a _ _ (AC (by omega));have z0:=d (i*4);have q1:wr.cell? ⟨g,i*4+1,none⟩=some (ys[i*4+1]'(by omega)):=a _ _ (AC (by omega));have z1:=d (i*4+1);have q2:wr.cell? ⟨g,i*4+2,none⟩=some (ys[i*4+2]'(by omega)):=a _ _ (AC (by omega));have z2:=d (i*4+2);have q3:wr.cell? ⟨g,i*4+3,none⟩=some (ys[i*4+3]'(by omega)):=a _ _ (AC (by omega));have z3:=d (i*4+3);have HB:=j6 hb;clear a d hb;go_wp2
   go_roundg (c-(i+1))
   case measure=>omega
   case rel=>exact⟨i+1,_,rfl,by omega,by go_num,j6 ((((hy.o.put (i*4) (.int .u8 93)).put (i*4+1) (.bool false)).put (i*4+2) (.int .i64 0)).put (i*4+3) (.string ⟨#[]⟩)),j6 ((((HU.o.setCell (p:=⟨g,i*4,none⟩) (.inl HB.o) _).setCell (p:=⟨g,i*4+1,none⟩) (.inl HB.o) _).setCell (p:=⟨g,i*4+2,none⟩) (.inl HB.o) _).setCell (p:=⟨g,i*4+3,none⟩) (.inl HB.o) _)⟩
  ·go_wp2;go_returns;exact⟨rfl,HU.o⟩
def Zj(g:Nat)(L:List Ud)(k:Nat):Prop:=k=g\/∃x∈L,blk x.A x.c=some k\/blk x.t.A x.t.c=some k
def dK{L:List Ud}(hi:i<L.length):L.getD i Ud.zero=L[i]:=by
 rw[AB,AC hi];rfl
def eX(g n B:Nat)(L:List Ud)(w:World)(h:H0 (Gs w B g n L))(hn:n<=1000000) :
  C3 20 #[.slice (some ⟨g,0,none⟩) n (n+1)] w λe w'=>e=.returned (.tuple #[])/\Upd (Zj g L) w w':=by
 have HL:=j6 h.o.len;have O:H0 (∀j,0<=j->j<n->Qg w B (L.getD j Ud.zero)/\Lx w B (L.getD j Ud.zero).t):=j6 (λj _ hj=>⟨h.o.rw _ (As (by rw[HL.o];exact hj)),h.o.ts _ (As (by rw[HL.o];exact hj))⟩);have HA:=j6 h.o.ap;have N:=j6 h.o.own;go_enter func20,ntmps20;go_wp2
 go_loopg [2] n (λz v wr=>∃i:Nat,z=n-i/\i<=n/\v=.int .i64 i/\H0 (Own wr B 95 4 (some ⟨g,0,none⟩) (n+1) (n+1) (Ah (L++[Km])))/\H0 (∀j,i<=j->j<n->Qg wr B (L.getD j Ud.zero)/\Lx wr B (L.getD j Ud.zero).t)/\H0 (Upd (Zj g L) w wr))
 case atStart=>exact⟨0,rfl,AG _,rfl,N,O,j6 (Upd.refl _ _)⟩
 case round =>
  clear N O;obtain⟨i,rfl,hi,rfl,HO,HP,HU⟩:=hrel;by_cases hlt:i<n
  ·have f:i<L.length:=by rw[HL.o];exact hlt
   have⟨y,I⟩:=HP.o i (AD _) hlt;have J:∀q,q<4->(Ah (L++[Km]))[i*4+q]?=(udC (L.getD i Ud.zero))[q]?:=λq hq=>by
    have:=Em (L++[Km]) i q (by rw[AA];omega) hq
    rwa [AB,BS f,<-AB]at this
   have P:=J 0 (by omega);have Q:=J 2 (by omega);have a:∀W:World,Own W B 95 4 (some ⟨g,0,none⟩) (n+1) (n+1) (Ah (L++[Km]))->W.cell? ⟨g,i*4,none⟩=some (.slice (L.getD i Ud.zero).A (L.getD i Ud.zero).l.length (L.getD i Ud.zero).c)/\W.cell? ⟨g,i*4+2,none⟩=some (.slice (L.getD i Ud.zero).t.A (L.getD i Ud.zero).t.l.length (L.getD i Ud.zero).t.c):=λW o=>by
    obtain⟨_,eg,_,_,_,hc,_⟩:=o.form (by omega);cases eg;exact⟨hc _ _ (by rw[<-EH (i*4)];exact P),hc _ _ Q⟩
   have r:=As f;have C:∀j,i+1<=j->j<n->(∀q,blk (L.getD i Ud.zero).A (L.getD i Ud.zero).c=some q->blk (L.getD j Ud.zero).A (L.getD j Ud.zero).c≠some q)/\∀q,blk (L.getD i Ud.zero).t.A (L.getD i Ud.zero).t.c=some q->blk (L.getD j Ud.zero).t.A (L.getD j Ud.zero).t.c≠some q:=λj h1 h2=>by
    have F:j<L.length:=by rw[HL.o];exact h2
    rw[dK f,dK F];exact⟨DH.1 HA.o.1 i j f F (by omega),DH.1 HA.o.2 i j f F (by omega)⟩
   have⟨x,K⟩:=tz (L.getD i Ud.zero);rw[K]at y I r;simp only[K]at C a;obtain⟨A,c,l,⟨te,tA,tc,tl⟩,d⟩:=x;have⟨nl,G⟩:=tz l.length;have⟨nt,H⟩:=tz tl.length;dsimp only at a C;simp only[G,H]at a;have M:=j6 a;have HR:H0 (Own wr B 204 4 A (nl+2) c (Dd (l++Ie))):=j6 (by rw[<-G];exact y);have HT:H0 (Own wr B 180 1 tA (nt+2) tc (wds (tl++Ex))):=j6 (by rw[<-H];exact I);have T:nl<=c:=by have:=HR.o.le.1;omega
   have R:nt<=tc:=by have:=HT.o.le.1;omega
   have HM:H0 ((⟨A,c,l,⟨te,tA,tc,tl⟩,d⟩:Ud)∈L):=j6 r;have S:=j6 C;have⟨p0,p2⟩:=M.o wr HO.o;clear y I r C a P Q J K G H f;have m1:=TI;go_wp2_with (first
    | (go_at_call 113;clear m1;refine(aK A nl (nl+2) c B _ _ HR T).mono ?_;rintro e w1 ⟨rfl,x1⟩;have X1:=j6 x1;have D:H0 (Own w1 B 95 4 (some ⟨g,0,none⟩) (n+1) (n+1) (Ah (L++[Km]))):=j6 (HO.o.upd x1 (λq hq hq2=>Ca HR.o HO.o Ee hq2 hq));have E:H0 (Own w1 B 180 1 tA (nt+2) tc (wds (tl++Ex))):=j6 (HT.o.upd x1 (λq hq hq2=>Ca HR.o HT.o Qh hq2 hq));clear p0 p2 x1;have⟨p0,p2⟩:=M.o w1 D.o;have m2:=TI)
    | (go_at_call 114;clear m2;refine(Vq tA nt (nt+2) tc B _ _ E R).mono ?_;rintro e w2 ⟨rfl,x2⟩;replace x2:=j6 x2))
   go_roundg (n-(i+1))
   case measure=>omega
   case rel=>exact⟨i+1,rfl,by omega,by go_num,j6 (D.o.upd x2.o (λq hq hq2=>Ca E.o D.o Cz hq2 hq)),j6 (λj h1 h2=>by
     obtain⟨r1,r2⟩:=HP.o j (by omega) h2;have⟨a1,a2⟩:=S.o j h1 h2;have q1:=Own.upd r1 X1.o (λq hq hq2=>a1 q hq2 hq);have q2:=Own.upd r2 X1.o (λq hq hq2=>Ca HR.o r2 Qh hq2 hq);exact⟨Own.upd q1 x2.o (λq hq hq2=>Ca E.o q1 (Ne.symm Qh) hq2 hq),Own.upd q2 x2.o (λq hq hq2=>a2 q hq2 hq)⟩),j6 ((HU.o.trans (X1.o.mono (λq _ hq=>.inr ⟨_,HM.o,.inl hq⟩))).trans (x2.o.mono (λq _ hq=>.inr ⟨_,HM.o,.inr hq⟩)))⟩
  ·obtain rfl:i=n:=by omega
   have⟨ys,hy⟩:=HO.o.full;replace hy:=j6 hy;go_wp2
   go_loopg [4] (i+1) (λz v wr=>∃(j:Nat) (ys:List Value),z=i+1-j/\j<=i+1/\v=.int .i64 j/\H0 (Own wr B 95 4 (some ⟨g,0,none⟩) (i+1) (i+1) ys)/\H0 (Upd (Zj g L) w wr))
   case atStart=>exact⟨0,ys,rfl,AG _,rfl,hy,HU⟩
   case round =>
    clear hy HU;obtain⟨j,ys,rfl,hj,rfl,hy,HU⟩:=hrel;by_cases hlt2:j<i+1
    ·obtain⟨_,eg,_,_,_,a,m⟩:=hy.o.form (by omega);cases eg;have hl:ys.length=(i+1)*4:=hy.o.1;have q0:wr.cell? ⟨g,j*4,none⟩=some (ys[j*4]'(by omega)):=a _ _ (AC (by omega));have q1:wr.cell? ⟨g,j*4+1,none⟩=some (ys[j*4+1]'(by omega)):=a _ _ (AC (by omega));have q2:wr.cell? ⟨g,j*4+2,none⟩=some (ys[j*4+2]'(by omega)):=a _ _ (AC (by omega));have q3:wr.cell? ⟨g,j*4+3,none⟩=some (ys[j*4+3]'(by omega)):=a _ _ (AC (by omega));have z0:=m (j*4);have z1:=m (j*4+1);have z2:=m (j*4+2);have z3:=m (j*4+3);clear a m;go_wp2
     go_roundg (i+1-(j+1))
     case measure=>omega
     case rel=>exact⟨j+1,_,rfl,by omega,by go_num,j6 ((((hy.o.put (j*4) (.slice none 0 0)).put (j*4+1) (.int .u64 0)).put (j*4+2) (.slice none 0 0)).put (j*4+3) (.int .i64 93)),j6 ((((HU.o.setCell (p:=⟨g,j*4,none⟩) (.inl (.inl rfl)) _).setCell (p:=⟨g,j*4+1,none⟩) (.inl (.inl rfl)) _).setCell (p:=⟨g,j*4+2,none⟩) (.inl (.inl rfl)) _).setCell (p:=⟨g,j*4+3,none⟩) (.inl (.inl rfl)) _)⟩
    ·obtain rfl:j=i+1:=by omega
     go_wp2;go_returns;exact⟨rfl,HU.o⟩
structure TB where
 Pw:List (En×List Value)
 Pr:List (En×List Value)
 Pc:List (En×List Value)
 Pu:List (En×List Value)
 w_:En
 r_:En
 c_:En
 u_:En
def TB.nil:TB:=⟨[],[],[],[],En.zero,En.zero,En.zero,En.zero⟩
def TB.ft(b:TB)(k:Nat):Prop:=Cf (b.Pw.map (·.1)) k\/Cf (b.Pr.map (·.1)) k\/Cf (b.Pc.map (·.1)) k\/Cf (b.Pu.map (·.1)) k
abbrev TB.told(w:World)(B:Nat)(b:TB):Prop:=Qv w B b.Pw b.Pr b.Pc b.Pu
abbrev TB.book(w:World)(gb:Nat)(G:Nat->Prop)(b:TB):Prop:=Bc w gb G (b.Pw.map (·.1)) (b.Pr.map (·.1)) (b.Pc.map (·.1)) (b.Pu.map (·.1)) b.w_ b.r_ b.c_ b.u_
section
variable{w w':World}{B:Nat}{b:TB}
def TB.told_lt(h:b.told w B){k:Nat}(hk:b.ft k):B<=k/\k<w.heap.size:=by
 rcases hk with q|q|q|q
 ·have⟨_,_,_,q1⟩:=h.pw.foot q;exact q1
 ·have⟨_,_,_,q1⟩:=h.pr.foot q;exact q1
 ·have⟨_,_,_,q1⟩:=h.pc.foot q;exact q1
 ·have⟨_,_,_,q1⟩:=h.pu.foot q;exact q1
def Zx{P:List (En×List Value)}{p:En×List Value}(hp:p∈P){k:Nat}(hk:p.1.b=some k):Cf (P.map (·.1)) k:=by
 have⟨i,hi,e⟩:=DK hp;refine⟨i,by rw[AN];exact hi,?_⟩;unfold ena;rw[AB,CG,AC hi,e];exact hk
def Cu.updF{size:Nat}{P:List (En×List Value)}(h:Cu w B e size P)(x:Upd S w w')(hn:∀k,Cf (P.map (·.1)) k->¬S k):Cu w' B e size P :=
 ⟨λp hp=>(h.hold p hp).upd x λk hk=>hn k (Zx hp hk),h.far⟩
def TB.told_upd(h:b.told w B)(x:Upd S w w')(hn:∀k,b.ft k->¬S k):b.told w' B :=
 ⟨h.pw.updF x λk hk=>hn k (.inl hk),h.pr.updF x λk hk=>hn k (.inr (.inl hk)),h.pc.updF x λk hk=>hn k (.inr (.inr (.inl hk))),h.pu.updF x λk hk=>hn k (.inr (.inr (.inr hk)))⟩
end
def Mf{P Q:List (En×List Value)}{k:Nat}(h:Cf ((P++Q).map (·.1)) k):Cf (P.map (·.1)) k\/∃p∈Q,p.1.b=some k:=by
 have⟨x,hx,hb⟩:=dP h;obtain⟨p,hp,rfl⟩:=AP.1 hx;rcases AQ.1 hp with hp|hp
 ·exact .inl (Zx hp hb)
 ·exact .inr ⟨p,hp,hb⟩
def TB.tellC(b:TB)(A:Option Addr)(n c:Nat)(L:List Ct)(vr vc:En):TB:={ b with Pr:=b.Pr++eC L,Pc:=b.Pc++[(⟨A,n,c⟩,Az L)],r_:=vr,c_:=vc }
def TB.tellU(b:TB)(A:Option Addr)(n:Nat)(L:List Ud)(vw vr vu:En):TB:={ b with Pw:=b.Pw++eW L,Pr:=b.Pr++eR L,Pu:=b.Pu++[(⟨A,n,n⟩,Ah L)],w_:=vw,r_:=vr,u_:=vu }
namespace UdS
end UdS
def Xu:∀(U acc:List V),(U.foldl addV acc).length<=acc.length+U.length
 | [],acc=>AD _
 | a::U,acc=>by
  have h1:=Xu U (addV acc a);have h2:=addV_len acc a;show(U.foldl addV (addV acc a)).length<=acc.length+(U.length+1);omega
def oK(U:List V):(sumV U).length<=U.length:=by
 have h1:=DB (λx:V=>!(x.2==0)) (sumAll U);have h2:=Xu U [];unfold sumV;have h3:(sumAll U).length<=([]:List V).length+U.length:=h2;simp only[CB]at h3;omega
def a0l(U:List UV)(t:TV):(atV U t).length<=U.length:=by
 unfold atV;rw[AN];exact DB _ _
def InU.of_uv{x y:Ud}(h:InU y)(e:x.uv=y.uv):InU x:=by
 have e1:x.l=y.l:=congrArg (λq:UV=>q.1.1) e;have e2:x.t.e=y.t.e:=congrArg (λq:UV=>q.1.2.1) e;have e3:x.t.l=y.t.l:=congrArg (λq:UV=>q.1.2.2) e;have e4:x.d=y.d:=congrArg (λq:UV=>q.2) e;refine⟨⟨?_,?_,?_,?_⟩,by rw[e3];exact h.tu,by rw[e3];exact h.tn,by rw[e2];exact h.te⟩
 ·show Nr x.l;rw[e1];exact h.row.txt
 ·show Ns x.l;rw[e1];exact h.row.int
 ·show _<=x.d/\x.d<=_;rw[e4];exact h.row.num
 ·show x.l.length<=_;rw[e1];exact h.row.len
def zR{L M:List Ud}(h:∀x∈L,InU x)(e:M.map Ud.uv=L.map Ud.uv):∀x∈M,InU x:=λx hx=>by
 have:x.uv∈L.map Ud.uv:=by rw[<-e];exact AP.2 ⟨x,hx,rfl⟩
 have⟨y,hy,q⟩:=AP.1 this;exact(h y hy).of_uv q.symm
def Wc(P:List (En×List Value))(N:Nat):Prop:=P.length<=N/\∀p∈P,p.1.n<=1000000
def Wc.app{P Q:List (En×List Value)}{k:Nat}(h:Wc P N)(hq:Q.length<=k)(hn:∀p∈Q,p.1.n<=1000000):Wc (P++Q) (N+k):=
 ⟨by rw[AA];have:=h.1;omega,λp hp=>(AQ.1 hp).elim (h.2 p) (hn p)⟩
def Wc.up{P:List (En×List Value)}{k:Nat}(h:Wc P N)(hk:N<=k):Wc P k:=⟨AR h.1 hk,h.2⟩
structure TB.few (b:TB) (N:Nat):Prop where
 w:Wc b.Pw N
 r:Wc b.Pr N
 c:Wc b.Pc N
 u:Wc b.Pu N
def TB.few.up{b:TB}{k:Nat}(h:b.few N)(hk:N<=k):b.few k:=⟨h.w.up hk,h.r.up hk,h.c.up hk,h.u.up hk⟩
def zW:TB.nil.few 0:=⟨⟨AD _,λp hp=>(nomatch hp)⟩,⟨AD _,λp hp=>(nomatch hp)⟩,⟨AD _,λp hp=>(nomatch hp)⟩,⟨AD _,λp hp=>(nomatch hp)⟩⟩
section
variable{b:TB}{N n c:Nat}{A:Option Addr}
def TB.few.tellC{L:List Ct}{vr vc:En}(h:b.few N)(hn:n=L.length)(h9:n<=300)(hl:∀y∈L,y.l.length<=1000000):(b.tellC A n c L vr vc).few (N+300):=by
 refine⟨h.w.up (by omega),h.r.app (by unfold eC;rw[AN];omega) λp hp=>?_,h.c.app (by show 1<=300;omega) λp hp=>?_,h.u.up (by omega)⟩
 ·obtain⟨y,hy,rfl⟩:=AP.1 hp;exact hl y hy
 ·rw[AE.1 hp];show n<=_;omega
def TB.few.tellU{L:List Ud}{vw vr vu:En}(h:b.few N)(hn:n=L.length)(h9:n<=300)(hl:∀y∈L,y.l.length<=1000000/\y.t.l.length<=1000000):(b.tellU A n L vw vr vu).few (N+300):=by
 refine⟨h.w.app (by unfold eW;rw[AN];omega) λp hp=>?_,h.r.app (by unfold eR;rw[AN];omega) λp hp=>?_,h.c.up (by omega),h.u.app (by show 1<=300;omega) λp hp=>?_⟩
 ·obtain⟨y,hy,rfl⟩:=AP.1 hp;exact(hl y hy).2
 ·obtain⟨y,hy,rfl⟩:=AP.1 hp;exact(hl y hy).1
 ·rw[AE.1 hp];show n<=_;omega
end
def wL(s:SV)(l:List UV)(X:List TV):0<=(Cd s l X).1/\(Cd s l X).1<=200:=by
 unfold Cd;split
 ·simp
 ·split
  ·simp
  ·split
   ·simp
   ·split
    ·simp
    ·simp
def a0k(s:SV)(t:TV):0<=(atS s t).1/\(atS s t).1<=200:=by
 unfold atS;split
 ·simp
 ·split
  ·simp
  ·split
   ·simp
   ·simp
def eK{s:SV}(h:OkV s)(t:TV):(atS s t).2.length<=Id s/\∀v∈(atS s t).2,v.1.length<=1000000:=by
 unfold atS;split
 ·exact⟨AG _,λv hv=>(nomatch hv)⟩
 ·split
  ·exact⟨AG _,λv hv=>(nomatch hv)⟩
  ·split
   ·exact⟨AG _,λv hv=>(nomatch hv)⟩
   ·have hg:=aC (D:=s.bs.flatten) h.ins t;refine⟨?_,λv hv=>?_⟩
    ·have h1:=oK (atV s.bs.flatten t);have h2:=a0l s.bs.flatten t;unfold Id;show(sumV (atV s.bs.flatten t)).length<=_;omega
    ·obtain⟨_,_,y,hy,e⟩:=sumV_mem (λx hx=>by have⟨u,hu,e⟩:=hg x hx;rw[e];exact(h.ins u hu).1.num) hv;have⟨u,hu,e2⟩:=hg y hy;rw[<-e,e2];exact(h.ins u hu).1.len
section
variable{w w':World}{B g n:Nat}{S:Nat->Prop}
def Gs.updB{L:List Ud}(h:Gs w B g n L)(u:Upd S w w')(hS:∀k,B<=k->k<w.heap.size->¬S k):Gs w' B g n L :=
 ⟨h.own.upd u λk hk=>hS k (h.own.lt k hk).1 (h.own.lt k hk).2,λy hy=>Own.upd (h.rw y hy) u λk hk=>hS k (Own.lt (h.rw y hy) k hk).1 (Own.lt (h.rw y hy) k hk).2,λy hy=>Own.upd (h.ts y hy) u λk hk=>hS k (Own.lt (h.ts y hy) k hk).1 (Own.lt (h.ts y hy) k hk).2,h.ap,h.len⟩
end
def a0j{U:List V}(h:Ly w U (.returned (.slice A n c)) w'):∃R:List Ct,n=R.length/\Own w' w.heap.size 154 2 A n c (Az R)/\(∀x∈R,RwO w' x.A x.c x.l/\∀ad,x.A=some ad->w.heap.size<=ad.block/\blk A c≠some ad.block)/\Iz R/\R.map Al=U/\Ext w w':=by
 obtain⟨A',m,c',R,e,hm,o,r,a,v,x⟩:=h;injection e with e;injection e with e1 e2 e3;subst e1 e2 e3;exact⟨R,hm,o,r,a,v,x⟩
def a0e{L:List Ct}(hn:n=L.length)(o:Own w B 154 2 A n c (Az L))(r:∀x∈L,RwO w x.A x.c x.l/\∀ad,x.A=some ad->B<=ad.block/\blk A c≠some ad.block)(u:Upd S w w')(hS:∀k,B<=k->¬S k):Ev w' A c L:=by
 refine⟨by rw[<-hn];exact(o.upd u λk hk=>hS k (o.lt k hk).1).sl,λy hy=>?_⟩;exact Own.sl (Own.upd (r y hy).1 u λk hk=>by
  have⟨ad,e1,e2⟩:=Gd hk;have:=((r y hy).2 ad e1).1;exact hS k (by omega))
def a1w{b:TB}(h:b.book w gb G)(T:b.told w B)(hG:∀k,b.ft k->¬G k)(hB:B<=w.heap.size)(f:b.few 100000):C3 29 #[.pointer (some ⟨gb,0,none⟩)] w λe w'=>e=.returned (.bool true)/\Upd (λk=>B<=k/\k<w.heap.size) w w':=by
 have a:∀k,bY (b.Pw.map (·.1)) (b.Pr.map (·.1)) (b.Pc.map (·.1)) (b.Pu.map (·.1)) k->b.ft k:=λk hk=>hk;refine(gT gb B G _ _ _ _ b.w_ b.r_ b.c_ b.u_ _ _ _ _ w (j6 h) (j6 (Pk T.pw.hold T.pw.far)) (j6 (Pk T.pr.hold T.pr.far)) (j6 (Pk T.pc.hold T.pc.far)) (j6 (Pk T.pu.hold T.pu.far))
  (j6 (T.pw.apart T.pr (by decide))) (j6 (T.pw.apart T.pc (by decide))) (j6 (T.pw.apart T.pu (by decide))) (j6 (T.pr.apart T.pc (by decide))) (j6 (T.pr.apart T.pu (by decide))) (j6 (T.pc.apart T.pu (by decide)))
  (j6 (λk hk=>hG k (a k hk))) (j6 (lE f.w.1 f.w.2)) (j6 (lE f.r.1 f.r.2)) (j6 (lE f.c.1 f.c.2)) (j6 (lE f.u.1 f.u.2)) (j6 hB)).mono λe w' ⟨e1,u⟩=>⟨e1,u.mono λk _ hk=>TB.told_lt T (a k hk)⟩
end Go.Proofs.YtdgbkpoickbidaaGreatDoor
