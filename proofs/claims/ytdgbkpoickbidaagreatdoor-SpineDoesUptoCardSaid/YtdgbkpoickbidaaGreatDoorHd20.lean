/- Parts of the proof, put together. Conditions: each theorem states its own. -/
import Derived.Test.YtdgbkpoickbidaaGreatDoorHd19
set_option maxRecDepth 100000
set_option maxHeartbeats 16000000
open Go.RowKit
namespace Go.Proofs.YtdgbkpoickbidaaGreatDoor
structure TB where
 Pw:List (En×List Value)
 Pr:List (En×List Value)
 Pc:List (En×List Value)
 Pu:List (En×List Value)
 Pt:List (En×List Value)
 w_:En
 r_:En
 c_:En
 u_:En
 t_:En
def TB.nil:TB:=⟨[],[],[],[],[],En.zero,En.zero,En.zero,En.zero,En.zero⟩
def TB.ft(b:TB)(k:Nat):Prop:=Bm (b.Pw.map (·.1)) k\/Bm (b.Pr.map (·.1)) k\/Bm (b.Pc.map (·.1)) k\/Bm (b.Pu.map (·.1)) k\/Bm (b.Pt.map (·.1)) k
abbrev TB.told(w:World)(B:Nat)(b:TB):Prop:=Hi w B b.Pw b.Pr b.Pc b.Pu b.Pt
abbrev TB.book(w:World)(gb:Nat)(G:Nat->Prop)(b:TB):Prop:=An w gb G (b.Pw.map (·.1)) (b.Pr.map (·.1)) (b.Pc.map (·.1)) (b.Pu.map (·.1)) (b.Pt.map (·.1)) b.w_ b.r_ b.c_ b.u_ b.t_
section
variable{w w':World}{B:Nat}{b:TB}
theorem TB.told_lt(h:b.told w B){k:Nat}(hk:b.ft k):B<=k/\k<w.heap.size:=by
 rcases hk with q|q|q|q|q
 ·obtain⟨_,_,_,q1⟩:=h.pw.foot q;exact q1
 ·obtain⟨_,_,_,q1⟩:=h.pr.foot q;exact q1
 ·obtain⟨_,_,_,q1⟩:=h.pc.foot q;exact q1
 ·obtain⟨_,_,_,q1⟩:=h.pu.foot q;exact q1
 ·obtain⟨_,_,_,q1⟩:=h.pt.foot q;exact q1
theorem kA{P:List (En×List Value)}{p:En×List Value}(hp:p∈P){k:Nat}(hk:p.1.b=some k):Bm (P.map (·.1)) k:=by
 obtain⟨i,hi,e⟩:=DI hp;refine⟨i,by rw[AN];exact hi,?_⟩;unfold ena;rw[AB,CI,AC hi,e];exact hk
theorem Cr.updF{S:Nat->Prop}{e:TypeId}{size:Nat}{P:List (En×List Value)}(h:Cr w B e size P)(x:Upd S w w')(hn:∀k,Bm (P.map (·.1)) k->¬S k):Cr w' B e size P :=
 ⟨fun p hp=>(h.hold p hp).upd x fun k hk=>hn k (kA hp hk),h.far⟩
theorem TB.told_upd{S:Nat->Prop}(h:b.told w B)(x:Upd S w w')(hn:∀k,b.ft k->¬S k):b.told w' B :=
 ⟨h.pw.updF x fun k hk=>hn k (.inl hk),h.pr.updF x fun k hk=>hn k (.inr (.inl hk)),h.pc.updF x fun k hk=>hn k (.inr (.inr (.inl hk))),h.pu.updF x fun k hk=>hn k (.inr (.inr (.inr (.inl hk)))),h.pt.updF x fun k hk=>hn k (.inr (.inr (.inr (.inr hk))))⟩
end
structure DoM (w0 w:World) (gs gr gb:Nat) (R K G:Nat->Prop) (m:SpM) (q:RSM) (b:TB):Prop where
 ex:Ext w0 w
 sp:SpR w R gs m
 rs:RSR w0 w K gr q
 bk:b.book w gb G
 td:b.told w w0.heap.size
 lr:∀k,R k->w0.heap.size<=k/\k<w.heap.size
 lk:∀k,K k->w0.heap.size<=k/\k<w.heap.size
 lg:∀k,G k->w0.heap.size<=k/\k<w.heap.size
 rk:∀k,R k->¬K k
 rg:∀k,R k->¬G k
 kg:∀k,K k->¬G k
 tf:∀k,b.ft k->¬R k/\¬K k/\¬G k
def Gap(R K G:Nat->Prop)(b:TB)(lo hi:Nat):Prop:=∀k,lo<=k->k<hi->¬R k/\¬K k/\¬G k/\¬b.ft k
section
variable{w0 wa w w':World}{gs gr gb lo hi:Nat}{R K G:Nat->Prop}{m m':SpM}{q q':RSM}{b b':TB}
theorem DoM.grow(h:DoM w0 w gs gr gb R K G m q b)(x:Ext w w'):DoM w0 w' gs gr gb R K G m q b :=
 have z:=x.size
 ⟨h.ex.trans x,h.sp.ext x,h.rs.ext x,h.bk.ext x,h.td.ext x,fun k hk=>⟨(h.lr k hk).1,BF (h.lr k hk).2 z⟩,fun k hk=>⟨(h.lk k hk).1,BF (h.lk k hk).2 z⟩,fun k hk=>⟨(h.lg k hk).1,BF (h.lg k hk).2 z⟩,h.rk,h.rg,h.kg,h.tf⟩
theorem DoM.ft_lt(h:DoM w0 w gs gr gb R K G m q b){k:Nat}(hk:b.ft k):w0.heap.size<=k/\k<w.heap.size:=TB.told_lt h.td hk
theorem DoM.gap(h:DoM w0 w gs gr gb R K G m q b)(hi:Nat):Gap R K G b w.heap.size hi:=fun k h1 _ =>
 ⟨fun e=>by have:=(h.lr k e).2;omega,fun e=>by have:=(h.lk k e).2;omega,fun e=>by have:=(h.lg k e).2;omega,fun e=>by have:=(h.ft_lt e).2;omega⟩
theorem DoM.stepS(h:DoM w0 w gs gr gb R K G m q b)(u:Upd R w w')(s:SpR w' (Rg R w w') gs m'):DoM w0 w' gs gr gb (Rg R w w') K G m' q b:=by
 have z:=u.size;have z0:=h.ex.size;have ex:=Ix h.ex u fun k hk=>(h.lr k hk).1;refine⟨ex,s,h.rs.upd u (fun k hk e=>h.rk k e hk) ex,h.bk.upd u (fun k hk e=>h.rg k e hk),TB.told_upd h.td u (fun k hk=>(h.tf k hk).1),fun k hk=>?_,fun k hk=>⟨(h.lk k hk).1,BF (h.lk k hk).2 z⟩,fun k hk=>⟨(h.lg k hk).1,BF (h.lg k hk).2 z⟩,fun k hk e=>?_,fun k hk e=>?_,h.kg,fun k hk=>⟨fun e=>?_,(h.tf k hk).2⟩⟩
 ·rcases hk with hk|hk
  ·exact⟨(h.lr k hk).1,BF (h.lr k hk).2 z⟩
  ·exact⟨by omega,hk.2⟩
 ·rcases hk with hk|hk
  ·exact h.rk k hk e
  ·have:=(h.lk k e).2;omega
 ·rcases hk with hk|hk
  ·exact h.rg k hk e
  ·have:=(h.lg k e).2;omega
 ·rcases e with e|e
  ·exact(h.tf k hk).1 e
  ·have:=(h.ft_lt hk).2;omega
theorem DoM.stepR(h:DoM w0 w gs gr gb R K G m q b)(u:Upd K w w')(s:RSR w0 w' (Rg K w w') gr q'):DoM w0 w' gs gr gb R (Rg K w w') G m q' b:=by
 have z:=u.size;have z0:=h.ex.size;have ex:=Ix h.ex u fun k hk=>(h.lk k hk).1;refine⟨ex,h.sp.upd u (fun k hk e=>h.rk k hk e),s,h.bk.upd u (fun k hk e=>h.kg k e hk),TB.told_upd h.td u (fun k hk=>(h.tf k hk).2.1),fun k hk=>⟨(h.lr k hk).1,BF (h.lr k hk).2 z⟩,fun k hk=>?_,fun k hk=>⟨(h.lg k hk).1,BF (h.lg k hk).2 z⟩,fun k hk e=>?_,h.rg,fun k hk e=>?_,fun k hk=>⟨(h.tf k hk).1,fun e=>?_,(h.tf k hk).2.2⟩⟩
 ·rcases hk with hk|hk
  ·exact⟨(h.lk k hk).1,BF (h.lk k hk).2 z⟩
  ·exact⟨by omega,hk.2⟩
 ·rcases e with e|e
  ·exact h.rk k hk e
  ·have:=(h.lr k hk).2;omega
 ·rcases hk with hk|hk
  ·exact h.kg k hk e
  ·have:=(h.lg k e).2;omega
 ·rcases e with e|e
  ·exact(h.tf k hk).2.1 e
  ·have:=(h.ft_lt hk).2;omega
theorem DoM.tell(h:DoM w0 wa gs gr gb R K G m q b)(x:Ext wa w)(td:b'.told w w0.heap.size)(ft:∀k,b'.ft k->b.ft k\/wa.heap.size<=k)(u:Upd G w w')(bk:b'.book w' gb (RN G w w')):DoM w0 w' gs gr gb R K (RN G w w') m q b':=by
 have z:=u.size;have zx:=x.size;have z0:=h.ex.size;have g:=h.grow x;have ex:=Ix g.ex u fun k hk=>(g.lg k hk).1;have nf:∀k,b'.ft k->¬R k/\¬K k/\¬G k:=fun k hk=>by
  rcases ft k hk with e|e
  ·exact h.tf k e
  ·exact⟨fun a=>by have:=(h.lr k a).2;omega,fun a=>by have:=(h.lk k a).2;omega,fun a=>by have:=(h.lg k a).2;omega⟩
 refine⟨ex,g.sp.upd u (fun k hk e=>h.rg k hk e),g.rs.upd u (fun k hk e=>h.kg k hk e) ex,bk,TB.told_upd td u (fun k hk=>(nf k hk).2.2),fun k hk=>⟨(h.lr k hk).1,BF (g.lr k hk).2 z⟩,fun k hk=>⟨(h.lk k hk).1,BF (g.lk k hk).2 z⟩,fun k hk=>?_,h.rk,fun k hk e=>?_,fun k hk e=>?_,fun k hk=>⟨(nf k hk).1,(nf k hk).2.1,fun e=>?_⟩⟩
 ·rcases hk with hk|hk
  ·exact⟨(h.lg k hk).1,BF (g.lg k hk).2 z⟩
  ·exact⟨by omega,hk.2⟩
 ·rcases e with e|e
  ·exact h.rg k hk e
  ·have:=(g.lr k hk).2;omega
 ·rcases e with e|e
  ·exact h.kg k hk e
  ·have:=(g.lk k hk).2;omega
 ·rcases e with e|e
  ·exact(nf k hk).2.2 e
  ·have:=(TB.told_lt td hk).2;omega
theorem DoM.spoil{S:Nat->Prop}(h:DoM w0 w gs gr gb R K G m q b)(u:Upd S w w')(g:Gap R K G b lo hi)(hS:∀k,S k->lo<=k/\k<hi)(hlo:w0.heap.size<=lo):DoM w0 w' gs gr gb R K G m q b:=by
 have z:=u.size;have ex:=Ix h.ex u fun k hk=>AQ hlo (hS k hk).1;have n:∀k,S k->¬R k/\¬K k/\¬G k/\¬b.ft k:=fun k hk=>g k (hS k hk).1 (hS k hk).2;exact⟨ex,h.sp.upd u (fun k hk e=>(n k e).1 hk),h.rs.upd u (fun k hk e=>(n k e).2.1 hk) ex,h.bk.upd u (fun k hk e=>(n k e).2.2.1 hk),TB.told_upd h.td u (fun k hk e=>(n k e).2.2.2 hk),fun k hk=>⟨(h.lr k hk).1,BF (h.lr k hk).2 z⟩,fun k hk=>⟨(h.lk k hk).1,BF (h.lk k hk).2 z⟩,fun k hk=>⟨(h.lg k hk).1,BF (h.lg k hk).2 z⟩,h.rk,h.rg,h.kg,h.tf⟩
theorem Gap.stepS(g:Gap R K G b lo hi)(h:hi<=w.heap.size):Gap (Rg R w w') K G b lo hi:=fun k h1 h2=>⟨fun e=>e.elim (g k h1 h2).1 fun e=>by omega,(g k h1 h2).2⟩
theorem Gap.stepR(g:Gap R K G b lo hi)(h:hi<=w.heap.size):Gap R (Rg K w w') G b lo hi:=fun k h1 h2=>⟨(g k h1 h2).1,fun e=>e.elim (g k h1 h2).2.1 fun e=>by omega,(g k h1 h2).2.2⟩
theorem Ge{P Q:List (En×List Value)}{k:Nat}(h:Bm ((P++Q).map (·.1)) k):Bm (P.map (·.1)) k\/∃p∈Q,p.1.b=some k:=by
 obtain⟨x,hx,hb⟩:=cH h;obtain⟨p,hp,rfl⟩:=AW.1 hx;rcases AR.1 hp with hp|hp
 ·exact .inl (kA hp hb)
 ·exact .inr ⟨p,hp,hb⟩
def TB.tellC(b:TB)(A:Option Addr)(n c:Nat)(L:List Ct)(vr vc:En):TB:={ b with Pr:=b.Pr++eC L,Pc:=b.Pc++[(⟨A,n,c⟩,Bg L)],r_:=vr,c_:=vc }
def TB.tellU(b:TB)(A:Option Addr)(n:Nat)(L:List Ud)(vw vr vu:En):TB:={ b with Pw:=b.Pw++eW L,Pr:=b.Pr++eR L,Pu:=b.Pu++[(⟨A,n,n⟩,Ah L)],w_:=vw,r_:=vr,u_:=vu }
def TB.tellT(b:TB)(A:Option Addr)(n c:Nat)(L:List Tm)(vw vt:En):TB:={ b with Pw:=b.Pw++eT L,Pt:=b.Pt++[(⟨A,n,c⟩,Db L)],w_:=vw,t_:=vt }
theorem DoM.tellC{A:Option Addr}{n c:Nat}{L:List Ct}{vr vc:En}(h:DoM w0 wa gs gr gb R K G m q b)(x:Ext wa w)(o:Own w wa.heap.size 154 2 A n c (Bg L))(rw_:∀y∈L,RwO w y.A y.c y.l/\∀ad,y.A=some ad->wa.heap.size<=ad.block/\blk A c≠some ad.block)(ap:Iu L)(u:Upd G w w')
  (bk:An w' gb (RN G w w') (b.Pw.map (·.1)) (b.Pr.map (·.1)++L.map enC) (b.Pc.map (·.1)++[⟨A,n,c⟩]) (b.Pu.map (·.1)) (b.Pt.map (·.1)) b.w_ vr vc b.u_ b.t_):DoM w0 w' gs gr gb R K (RN G w w') m q (b.tellC A n c L vr vc):=by
 refine h.tell x (h.td.addC x h.ex.size o rw_ ap) (fun k hk=>?_) u ?_
 ·rcases hk with e|e|e|e|e
  ·exact .inl (.inl e)
  ·rcases Ge e with e|⟨p,hp,e⟩
   ·exact .inl (.inr (.inl e))
   ·obtain⟨y,hy,rfl⟩:=AW.1 hp;obtain⟨ad,e1,e2⟩:=Gg e;have:=((rw_ y hy).2 ad e1).1;exact .inr (by omega)
  ·rcases Ge e with e|⟨p,hp,e⟩
   ·exact .inl (.inr (.inr (.inl e)))
   ·rw[AH.1 hp]at e;exact .inr (o.lt k e).1
  ·exact .inl (.inr (.inr (.inr (.inl e))))
  ·exact .inl (.inr (.inr (.inr (.inr e))))
 ·show An w' gb (RN G w w') (b.Pw.map (·.1)) ((b.Pr++eC L).map (·.1)) ((b.Pc++[((⟨A,n,c⟩,Bg L):En×List Value)]).map (·.1)) (b.Pu.map (·.1)) (b.Pt.map (·.1)) b.w_ vr vc b.u_ b.t_;rw[AO,AO,yT];exact bk
theorem DoM.tellU{A:Option Addr}{n:Nat}{L:List Ud}{vw vr vu:En}(h:DoM w0 wa gs gr gb R K G m q b)(x:Ext wa w)(o:Cl w wa.heap.size A n L)(hn:n=L.length)(u:Upd G w w')
  (bk:An w' gb (RN G w w') (b.Pw.map (·.1)++L.map enW) (b.Pr.map (·.1)++L.map enR) (b.Pc.map (·.1)) (b.Pu.map (·.1)++[⟨A,n,n⟩]) (b.Pt.map (·.1)) vw vr b.c_ vu b.t_):DoM w0 w' gs gr gb R K (RN G w w') m q (b.tellU A n L vw vr vu):=by
 refine h.tell x (h.td.addU x h.ex.size o hn) (fun k hk=>?_) u ?_
 ·rcases hk with e|e|e|e|e
  ·rcases Ge e with e|⟨p,hp,e⟩
   ·exact .inl (.inl e)
   ·obtain⟨y,hy,rfl⟩:=AW.1 hp;exact .inr ((o.ts y hy).lt k e).1
  ·rcases Ge e with e|⟨p,hp,e⟩
   ·exact .inl (.inr (.inl e))
   ·obtain⟨y,hy,rfl⟩:=AW.1 hp;exact .inr ((o.rw y hy).lt k e).1
  ·exact .inl (.inr (.inr (.inl e)))
  ·rcases Ge e with e|⟨p,hp,e⟩
   ·exact .inl (.inr (.inr (.inr (.inl e))))
   ·rw[AH.1 hp]at e;exact .inr (o.own.lt k e).1
  ·exact .inl (.inr (.inr (.inr (.inr e))))
 ·show An w' gb (RN G w w') ((b.Pw++eW L).map (·.1)) ((b.Pr++eR L).map (·.1)) (b.Pc.map (·.1)) ((b.Pu++[((⟨A,n,n⟩,Ah L):En×List Value)]).map (·.1)) (b.Pt.map (·.1)) vw vr b.c_ vu b.t_;rw[AO,AO,AO,yR,yS];exact bk
end
def Yf(b:Bool)(x y:TV):Prop:=x=y↔b=true
theorem oZ{L M:List Tm}(hl:L.length=M.length):(∀k,k<L.length->(L.getD k Tm.zero).v=(M.getD k Tm.zero).v)↔L.map Tm.v=M.map Tm.v:=by
 constructor
 ·intro h;refine List.ext_getElem (by simpa using hl) fun k h1 h2=>?_;rw[AN]at h1 h2;have:=h k h1;rw[Nk h1,Nk h2,this]
 ·intro h k hk;rw[<-Nk hk,<-Nk (hl▸hk)];simp only[h]
theorem Qn{b:Bool}(e1 e2:Int)(A1 A2:Option Addr)(n1 n2 c1 c2:Nat)(l1 l2:List Int)(w:World)(hb:Hid (decide (e1=e2/\l1=l2)=b))(h1:Hid (Sl w 1 A1 n1 c1 (wds l1)))(h2:Hid (Sl w 1 A2 n2 c2 (wds l2))) :
  Calls Tryz.prog 54 #[.agg #[.int .u64 e1,.slice A1 n1 c1],.agg #[.int .u64 e2,.slice A2 n2 c2]] w fun e w'=>e=.returned (.bool b)/\Ext w w':=hb.out▸Ou e1 e2 A1 A2 n1 n2 c1 c2 l1 l2 w h1.out h2.out
theorem Uz(A1 A2:Option Addr)(n1 n2 c1 c2:Nat)(w:World)(hne:((n1:Int) != (n2:Int))=true) :
  Calls Tryz.prog 37 #[.slice A1 n1 c1,.slice A2 n2 c2] w fun e w'=>e=.returned (.bool false)/\Ext w w':=by
 go_enter Tryz.func37,Tryz.ntmps37;go_wp2;go_ret;exact⟨rfl,Ext.refl _⟩
theorem Uy(A1 A2:Option Addr)(n c1 c2:Nat)(L M:List Tm)(w:World)(hn:Hid (n=L.length))(hm:Hid (n=M.length))(h1:Hid (Tin w A1 c1 L))(h2:Hid (Tin w A2 c2 M)) :
  Calls Tryz.prog 37 #[.slice A1 n c1,.slice A2 n c2] w fun e w'=>e=.returned (.bool (decide (L.map Tm.v=M.map Tm.v)))/\Ext w w':=by
 have hbig:n<=9223372036854775807:=by rw[hn.out];exact h1.out.sl.le
 have he:((n:Int) != (n:Int))=false:=by simp
 go_enter Tryz.func37,Tryz.ntmps37;go_wp2
 go_loopg [5] n (fun z v wr=>∃k:Nat,z=n-k/\k<=n/\v=.int .i64 k/\Hid (∀j,j<k->(L.getD j Tm.zero).v=(M.getD j Tm.zero).v)/\Hid (Ext w wr))
 case atStart=>exact⟨0,rfl,AE _,rfl,hid (fun j hj=>absurd hj (by omega)),hid (Ext.refl _)⟩
 case round =>
  obtain⟨k,rfl,hk,rfl,HA,HE⟩:=hrel;by_cases hlt:k<n
  ·have hkL:k<L.length:=by rw[<-hn.out];exact hlt
   have hkM:k<M.length:=by rw[<-hm.out];exact hlt
   obtain⟨a1,rfl,p0,p1⟩:=(h1.out.ext HE.out).at (i:=k) hkL;obtain⟨a2,rfl,q0,q1⟩:=(h2.out.ext HE.out).at (i:=k) hkM;have HX:Hid (Sl wr 1 (L.getD k Tm.zero).A (L.getD k Tm.zero).l.length (L.getD k Tm.zero).c (wds (L.getD k Tm.zero).l)):=hid ((h1.out.ext HE.out).ls _ (Bj hkL));have HY:Hid (Sl wr 1 (M.getD k Tm.zero).A (M.getD k Tm.zero).l.length (M.getD k Tm.zero).c (wds (M.getD k Tm.zero).l)):=hid ((h2.out.ext HE.out).ls _ (Bj hkM));obtain⟨x,hx⟩:∃x,L.getD k Tm.zero=x:=⟨_,rfl⟩;obtain⟨y,hy⟩:∃y,M.getD k Tm.zero=y:=⟨_,rfl⟩;rw[hx]at p0 p1 HX;rw[hy]at q0 q1 HY;obtain⟨b,hb⟩:∃b,decide (x.e=y.e/\x.l=y.l)=b:=⟨_,rfl⟩;have HBb:=hid hb;have HXx:=hid hx;have HYy:=hid hy;have HV:Hid (Yf b x.v y.v):=hid (by unfold Yf;rw[<-hb,decide_eq_true_iff];exact⟨fun h=>⟨congrArg Prod.fst h,congrArg Prod.snd h⟩,fun h=>Prod.ext h.1 h.2⟩);clear hb hx hy hkL hkM;obtain⟨e,A,c,l⟩:=x;obtain⟨f,B,d,m⟩:=y;go_wp2;have X:Ext wr wr.drew:=(Ext.refl wr).drew;have y0:∀y:Xt wr.drew,y.W.cell? (a1.add (k*2))=some (.int .u64 e):=fun y=>y.x.cell (X.cell p0);have y1:∀y:Xt wr.drew,y.W.cell? ⟨(a1.add (k*2)).block,(a1.add (k*2)).off+1,none⟩=some (.slice A l.length c):=fun y=>y.x.cell (X.cell p1);have y2:∀y:Xt wr.drew,y.W.cell? (a2.add (k*2))=some (.int .u64 f):=fun y=>y.x.cell (X.cell q0);have y3:∀y:Xt wr.drew,y.W.cell? ⟨(a2.add (k*2)).block,(a2.add (k*2)).off+1,none⟩=some (.slice B m.length d):=fun y=>y.x.cell (X.cell q1);clear p0 p1 q0 q1;refine wro [0,0,3,7,0,0,48,112,255,511] (.flo [0,1,2,3,4,5,6,7] (.one 8 (.flo [9] (.fin)))) ?_
   (refine Aa (pks rfl) ?_;(repeat (go_big_quiet_step (fail)));refine oq ?_)
   refine Ac (pks rfl) ?_;intro K_ hK_;go_wp2_with (go_at_call 54;refine(Qn e f A B l.length m.length c d l m _ HBb (hid (HX.out.ext X)) (hid (HY.out.ext X))).mono ?_;rintro r w1 ⟨rfl,x1⟩)
   (refine Aa (pks rfl) ?_;(repeat (go_big_quiet_step (fail)));refine oq ?_)
   refine Ad ?_;cases b with
   | true =>
    go_wp2
    go_roundg (n-(k+1))
    case measure=>omega
    case rel =>
     refine⟨k+1,by omega,by omega,by go_num,hid (fun j hj=>?_),hid ((HE.out.trans X).trans x1)⟩;by_cases hjk:j<k
     ·exact HA.out j hjk
     ·obtain rfl:j=k:=by omega
      rw[HXx.out,HYy.out];exact(show Yf true _ _ from HV.out).2 rfl
   | false =>
    go_wp2;go_ret;refine⟨Cb (Eq.symm (decide_eq_false fun h=>?_)),(HE.out.trans X).trans x1⟩;have a:=(oZ (by rw[<-hn.out,<-hm.out])).2 h k (by rw[<-hn.out];exact hlt);rw[HXx.out,HYy.out]at a;exact absurd ((show Yf false _ _ from HV.out).1 a) (by decide)
  ·obtain rfl:k=n:=by omega
   go_wp2;go_ret;exact⟨Cb (Eq.symm (decide_eq_true ((oZ (by rw[<-hn.out,<-hm.out])).1 fun j hj=>HA.out j (by rw[hn.out];exact hj)))),HE.out⟩
theorem Vp(A1 A2:Option Addr)(n m c1 c2:Nat)(L M:List Tm)(w:World)(hn:Hid (n=L.length))(hm:Hid (m=M.length))(h1:Hid (Tin w A1 c1 L))(h2:Hid (Tin w A2 c2 M)) :
  Calls Tryz.prog 37 #[.slice A1 n c1,.slice A2 m c2] w fun e w'=>e=.returned (.bool (decide (L.map Tm.v=M.map Tm.v)))/\Ext w w':=by
 by_cases h:n=m
 ·subst h;exact Uy A1 A2 n c1 c2 L M w hn hm h1 h2
 ·have hf:decide (L.map Tm.v=M.map Tm.v)=false:=decide_eq_false fun e=>h (by
   have:=congrArg List.length e;rw[AN,AN]at this;rw[hn.out,hm.out,this])
  rw[hf];exact Uz A1 A2 n m c1 c2 w (by simp;omega)
theorem My(A1 A2:Option Addr)(n m c1 c2:Nat)(L M:List Tm)(w:World)(hn:Hid (n=L.length))(hm:Hid (m=M.length))(h1:Hid (Tin w A1 c1 L))(h2:Hid (Tin w A2 c2 M))(h:Hid (L.map Tm.v=M.map Tm.v)) :
  Calls Tryz.prog 37 #[.slice A1 n c1,.slice A2 m c2] w fun e w'=>e=.returned (.bool true)/\Ext w w':=by
 have:=Vp A1 A2 n m c1 c2 L M w hn hm h1 h2
 rwa [show decide (L.map Tm.v=M.map Tm.v)=true from decide_eq_true h.out]at this
theorem Zh(A1 A2:Option Addr)(c1 c2 n m:Nat)(l:List Int)(w:World)(hn:n=l.length)(hm:m=n)(h1:Is w A1 c1 l)(h2:Is w A2 c2 l) :
  Calls Tryz.prog 66 #[.slice A1 n c1,.slice A2 m c2] w fun e w'=>e=.returned (.bool true)/\Ext w w':=by
 subst hm;have hnm:l.length<=9223372036854775807:=Sl.le h1;rw[<-hn]at hnm;have HN:=hid hn;have H1:=hid h1;have H2:=hid h2;clear hn h1 h2;go_enter Tryz.func66,Tryz.ntmps66;go_wp2
 go_loopw [5] (fun v wr=>∃i:Nat,i<=m/\v=.int .i64 i/\Ext w wr) (fun v _=>m-(intOf v).toNat)
 case atStart=>exact⟨0,AE _,rfl,Ext.refl _⟩
 case round =>
  obtain⟨i,hi,rfl,er⟩:=hrel;by_cases hlt:i<m
  ·have hil:i<l.length:=by rw[<-HN.out];exact hlt
   obtain⟨ad,rfl,p0⟩:=(H1.out.ext er).at hil;obtain⟨bd,rfl,q0⟩:=(H2.out.ext er).at hil;obtain⟨d,hd⟩:∃d,l.getD i 0=d:=⟨_,rfl⟩;rw[hd]at p0 q0;have XE:Ext wr wr.drew:=(Ext.refl wr).drew;have P0:∀z:Xt wr.drew,z.W.cell? (ad.add i)=some (.int .i64 d):=fun z=>(XE.trans z.x).cell p0;have Q0:∀z:Xt wr.drew,z.W.cell? (bd.add i)=some (.int .i64 d):=fun z=>(XE.trans z.x).cell q0;clear hil hd
   go_upto_region 6 with fail
   refine wro [0,0,3,7,0,0,48,112,255] (.flo [0,1,2,3,4,5,6,7,8] (.fin)) ?_
   (refine Aa (pks rfl) ?_;(repeat (go_big_quiet_step (fail)));refine oq ?_)
   refine Ad ?_;go_wp2
   go_roundw
   case rel=>exact⟨i+1,by omega,by go_num,er.trans XE⟩
   case measure=>simp[intOf];omega
  ·go_wp2;go_ret;exact⟨rfl,er⟩
theorem Kl(A1 A2:Option Addr)(c1 c2 n m:Nat)(l:List Int)(w:World)(hn:Hid (n=l.length))(hm:Hid (m=n))(h1:Hid (Is w A1 c1 l))(h2:Hid (Is w A2 c2 l)) :
  Calls Tryz.prog 66 #[.slice A1 n c1,.slice A2 m c2] w fun e w'=>e=.returned (.bool true)/\Ext w w':=Zh A1 A2 c1 c2 n m l w hn.out hm.out h1.out h2.out
theorem Vz(AL AM:Option Addr)(cL cM n:Nat)(L M:List Cg)(w:World)(hn:Hid (n=L.length))(hL:Hid (Cin w AL cL L))(hM:Hid (Cin w AM cM M))(he:Hid (L.map Cg.cv=M.map Cg.cv)) :
  Calls Tryz.prog 52 #[.slice AL n cL,.slice AM n cM] w fun r w'=>r=.returned (.bool true)/\Ext w w':=by
 have hmax:n<=9223372036854775807:=by rw[hn.out];exact hL.out.sl.le
 have HLM:Hid (M.length=L.length):=hid (by have:=congrArg List.length he.out;simpa using this.symm);go_enter Tryz.func52,Tryz.ntmps52;go_wp2
 go_loopg [5] n (fun z v wr=>∃k:Nat,z=n-k/\k<=n/\v=.int .i64 k/\Hid (Ext w wr))
 case atStart=>exact⟨0,rfl,AE _,rfl,hid (Ext.refl _)⟩
 case round =>
  obtain⟨k,rfl,hk,rfl,HE⟩:=hrel;by_cases hlt:k<n
  ·have hkL:k<L.length:=by rw[<-hn.out];exact hlt
   have hkM:k<M.length:=by rw[HLM.out];exact hkL
   obtain⟨f,Ax,nx,cx,lx,d,ad,T,hx,hnx⟩:=(hL.out.ext HE.out).cgAt hkL;obtain⟨g,Ay,ny,cy,ly,d2,am,S,hy,hny⟩:=(hM.out.ext HE.out).cgAt hkM;obtain⟨a1,a2⟩:=jZ hkL;obtain⟨b1,b2⟩:=jZ hkM;have e9:(⟨⟨f,Ax,cx,lx⟩,d⟩:Cg).cv=(⟨⟨g,Ay,cy,ly⟩,d2⟩:Cg).cv:=by
    rw[<-hx,<-hy,<-a2,<-b2];simp only[he.out]
   have e10:f=g:=congrArg (fun p:CV=>p.1.1) e9;have e11:lx=ly:=congrArg (fun p:CV=>p.1.2) e9;have e12:d=d2:=congrArg (fun p:CV=>p.2) e9;subst e10;subst e11;subst e12;obtain⟨rfl,q0,q1,q2,HXS⟩:=T;obtain⟨rfl,p0,p1,p2,HYS⟩:=S;have hdd:(d != d)=false:=by simp
   clear hx hy hnx hny a1 a2 b1 b2 e9 hkL hkM;go_wp2
   (refine Ji (by kernel_rfl) (by kernel_rfl) ?_;(repeat (go_big_quiet_step ((go_at_call 54;with_reducible exact Tn (Qn (b:=true) f f Ax Ay nx ny cx cy lx lx _ (hid (by simp)) (HXS _) (HYS _))))));refine wpQuiet_nil ?_;rintro _ ⟨y,rfl⟩)
   go_wp2
   go_roundg (n-(k+1))
   case measure=>omega
   case rel=>exact⟨k+1,by omega,by omega,by go_num,hid (HE.out.trans y.x)⟩
  ·obtain rfl:n=k:=by omega
   go_wp2;go_ret;exact⟨rfl,HE.out⟩
def Sa(n:Int):Dat:=⟨3,false,n,⟨#[]⟩⟩
def a0i(n e d:Int)(w:World)(r:Ending)(w':World):Prop:=∃g,r=.returned (.agg #[.slice (some ⟨g,0,none⟩) 1 1,.int .u64 e,.slice none 0 0,.int .i64 d])/\w.heap.size<=g/\Own w' w.heap.size 204 4 (some ⟨g,0,none⟩) 1 1 (Dc [Sa n])/\Ext w w'
def kup(g:Nat)(n e d:Int):Ud:=⟨some ⟨g,0,none⟩,1,[Sa n],⟨e,none,0,[]⟩,d⟩
theorem aV{w w':World}{B g:Nat}{n:Int}(e d:Int)(o:Own w B 204 4 (some ⟨g,0,none⟩) 1 1 (Dc [Sa n]))(x:Ext w w'):UdR w' (kup g n e d):=⟨o.sl.ext x,Sl.nil _ _⟩
theorem Sh(g:Nat){n e d:Int}(hn:0<=n/\n<=100)(he:0<=e/\e<=100)(hd : -100<=d/\d<=100):InU (kup g n e d):=by
 refine⟨⟨fun x hx=>?_,fun x hx=>?_,⟨by show _<=d;omega,by show d<=_;omega⟩,by show 1<=_;omega⟩,fun x hx=>(nomatch hx),by show 0<=_;omega,⟨he.1,by show e<=_;omega⟩⟩
 ·rw[AH.1 (show x∈[Sa n]from hx)];show(0:Nat)<=_;omega
 ·rw[AH.1 (show x∈[Sa n]from hx)];show _<=n/\n<=_;omega
theorem Jp(n e d:Int)(w:World) :
  Calls Tryz.prog 152 #[.int .i64 n,.int .u64 e,.int .i64 d] w (a0i n e d w):=by
 go_enter Tryz.func152,Tryz.ntmps152;go_wp2;obtain⟨w1,hw1⟩:∃w1,w1=(w.alloc (.cells #[.slice (some ⟨w.heap.size+1,0,none⟩) 1 1,.int .u64 e,.slice none 0 0,.int .i64 d] 95)).alloc (.cells #[.int .u8 3,.bool false,.int .i64 n,.string ⟨#[]⟩] 204):=⟨_,rfl⟩;have b1:Bk w1 w.heap.size 95 #[.slice (some ⟨w.heap.size+1,0,none⟩) 1 1,.int .u64 e,.slice none 0 0,.int .i64 d]:=by rw[hw1];exact(Bk.new _ _ _).alloc _
 have c1:Bk w1 (w.heap.size+1) 204 #[.int .u8 3,.bool false,.int .i64 n,.string ⟨#[]⟩]:=by rw[hw1];exact Bk.at (by simp)
 have x1:Ext w w1:=by rw[hw1];exact((Ext.refl w).alloc _).alloc _
 have o1:Own w1 w.heap.size 204 4 (some ⟨w.heap.size+1,0,none⟩) 1 1 (Dc [Sa n]):=⟨rfl,.inr ⟨w.heap.size+1,#[.int .u8 3,.bool false,.int .i64 n,.string ⟨#[]⟩],rfl,by omega,c1,AD _,by unfold maxLen;omega,AD _,rfl⟩⟩;have q0:=b1.cell 0;have q1:=b1.cell 1;have q2:=b1.cell 2;have q3:=b1.cell 3;simp at q0 q1 q2 q3;rw[<-hw1];clear hw1;refine bodyPost_ret (v:=.agg #[.slice (some ⟨w.heap.size+1,0,none⟩) 1 1,.int .u64 e,.slice none 0 0,.int .i64 d]) (by simp[results,Tryz.results152,go_sem,q0,q1,q2,q3]) rfl ⟨w.heap.size+1,rfl,by omega,o1,x1⟩
structure Uno (w0 w:World) (g:Nat) (m:SpM) (R:Nat->Prop):Prop where
 ext:Ext w0 w
 sp:SpR w R g m
 lr:∀k,R k->w0.heap.size<=k/\k<w.heap.size
 ok:OkV m.v
section
variable{w0 w w':World}{g:Nat}{m m':SpM}{R:Nat->Prop}
theorem Uno.grow(h:Uno w0 w g m R)(x:Ext w w'):Uno w0 w' g m R:=⟨h.ext.trans x,h.sp.ext x,fun k hk=>⟨(h.lr k hk).1,BF (h.lr k hk).2 x.size⟩,h.ok⟩
theorem Uno.step(h:Uno w0 w g m R)(u:Upd R w w')(s:SpR w' (Rg R w w') g m')(ok:OkV m'.v):Uno w0 w' g m' (Rg R w w'):=by
 have z:=u.size;have z0:=h.ext.size;refine⟨sQ h.ext u fun k hk=>(h.lr k hk).1,s,fun k hk=>?_,ok⟩;rcases hk with hk|hk
 ·exact⟨(h.lr k hk).1,BF (h.lr k hk).2 z⟩
 ·exact⟨by omega,hk.2⟩
theorem jL(m:SpM):Es m.bs=m.v.bs.map fun b=>(b.length:Int):=by
 show m.bs.map _=(m.bs.map Bt.v).map _;rw[DD];exact EY fun b _=>by show(b.l.length:Int)=((b.l.map Ud.uv).length:Int);rw[AN]
theorem Yh{W:World}{g:Nat}{e:Int}(h:Sl W 2 (some ⟨g,0,none⟩) 1 1 [.int .u64 e,.slice none 0 0]):Tin W (some ⟨g,0,none⟩) 1 [⟨e,none,0,[]⟩]:=⟨h,fun x hx=>by rw[AH.1 hx];exact Sl.nil _ _⟩
theorem pS{w w':World}{U:List V}{e:Ending}(h:Lh w U e w'):Ext w w':=by
 obtain⟨A,m,c,R,_,_,_,_,_,_,x⟩:=h;exact x
theorem Te(e:Int):Jv [⟨e,none,0,[]⟩]:=⟨by show 1<=_;decide,fun x hx=>by rw[AH.1 hx];exact AE _⟩
end
def kuv(n e d:Int):UV:=(([Sa n],(e,[])),d)
def oL:SV:=⟨[[kuv 1 0 1]],none,[(0,[])],[(1,[])]⟩
def Xr:SV:=⟨[[kuv 1 0 1],[kuv 1 1 1,kuv 2 1 1]],none,[(0,[])],[(2,[])]⟩
def kM:SV:=⟨[[kuv 1 0 1,kuv 1 1 1,kuv 2 1 1]],none,[(0,[])],[(2,[])]⟩
def uD:SV:=⟨[[kuv 1 0 1,kuv 1 1 1,kuv 2 1 1]],none,[(1,[])],[(2,[])]⟩
def zO:List UV:=[kuv 1 1 2,kuv 2 1 1]
theorem bY(a:Nat):Cq aQ ([kup a 1 0 1].map Ud.uv) ([(⟨1,none,0,[]⟩:Tm)].map Tm.v)=(0,oL):=by kernel_rfl
theorem bX(a b:Nat):Cq oL ([kup a 1 1 1,kup b 2 1 1].map Ud.uv) ([(⟨2,none,0,[]⟩:Tm)].map Tm.v)=(0,Xr):=by kernel_rfl
theorem vU:atS Xr (1,[])=(0,[([Sa 1],2),([Sa 2],1)]):=by kernel_rfl
theorem vT:atS Xr (2,[])=(111,[]):=by kernel_rfl
theorem bZ:Bw kM ([(⟨1,none,0,[]⟩:Tm)].map Tm.v)=(0,uD):=by kernel_rfl
theorem vQ:(Bw kM ([(⟨1,none,0,[]⟩:Tm)].map Tm.v)).2=uD:=by rw[bZ]
theorem zW:∀t∈[(⟨1,none,0,[]⟩:Tm)].map Tm.v,0<=t.1/\t.1<=18446744073709551615:=fun t ht=>by rw[AH.1 (show t∈[((1:Int),([]:List Int))]from ht)];decide
theorem vV:Mr uD=zO:=by kernel_rfl
theorem sJ{t:SV}{r:Nat}(w:Cz Xr 100 t r):t=kM/\r=97:=by
 have b1:Bo Xr=({ Xr with un:=some (0,3) },true):=by kernel_rfl
 have b2:Gq { Xr with un:=some (0,3) } 100=(kM,97):=by kernel_rfl
 have b3:Bo kM=(kM,false):=by kernel_rfl
 cases w with
 | stop h hb=>rw[b1]at hb;injection hb with _ hb;cases hb
 | step h hb hp k =>
  rw[b1]at hb;injection hb with hb _;subst hb;rw[b2]at hp;injection hp with h1 h2;subst h1 h2;cases k with
  | stop h hb =>
   rw[b3]at hb;injection hb with hb _;exact⟨hb.symm,rfl⟩
  | step h hb hp k=>rw[b3]at hb;injection hb with _ hb;cases hb
theorem xM:OkV oL:=by
 have h:=Yk (s:=aQ) (l:=[kup 0 1 0 1].map Ud.uv) (X:=[(⟨1,none,0,[]⟩:Tm)].map Tm.v) Yj (fun u hu=>by rw[AH.1 (show u∈[(kup 0 1 0 1).uv]from hu)];exact(Sh 0 (by omega) (by omega) (by omega)).uv) (fun t ht=>by rw[AH.1 (show t∈[((1:Int),([]:List Int))]from ht)];decide) (by decide);rw[bY]at h;exact h
theorem zT:OkV Xr:=by
 have h:=Yk (s:=oL) (l:=[kup 0 1 1 1,kup 0 2 1 1].map Ud.uv) (X:=[(⟨2,none,0,[]⟩:Tm)].map Tm.v) xM (fun u hu=>by
  rcases AZ.1 (show u∈[(kup 0 1 1 1).uv,(kup 0 2 1 1).uv]from hu)with rfl|hu
  ·exact(Sh 0 (by omega) (by omega) (by omega)).uv
  ·rw[AH.1 hu];exact(Sh 0 (by omega) (by omega) (by omega)).uv) (fun t ht=>by rw[AH.1 (show t∈[((2:Int),([]:List Int))]from ht)];decide) (by decide)
 rw[bX]at h;exact h
theorem vS(a:Nat):∀x∈[kup a 1 0 1],InU x:=fun x hx=>by rw[AH.1 hx];exact Sh _ (by omega) (by omega) (by omega)
theorem vR(a b:Nat):∀x∈[kup a 1 1 1,kup b 2 1 1],InU x:=fun x hx=>by
 simp only[AZ,CU,or_false]at hx;rcases hx with rfl|rfl<;>exact Sh _ (by omega) (by omega) (by omega)
theorem eU(w:World)(G:Good w) :
  Calls Tryz.prog 42 #[] w fun e w'=>e=.returned (.bool true)/\Ext w w':=by
 have p1:True:=trivial;go_enter Tryz.func42,Tryz.ntmps42;go_wp2_with (first
  | (go_at_call 43;have mk:=p1;clear p1 mk;refine(Wm _).mono ?_;rintro r v1 ⟨gs,m1,rfl,s1,e1,x1⟩;have U1:Hid (Uno w v1 gs m1 (fun k=>w.heap.size<=k/\k<v1.heap.size)):=hid ⟨x1,s1,fun k hk=>hk,by rw[e1];exact Yj⟩;have E1:=hid e1;clear s1 e1 x1;have p2:True:=trivial)
  | (go_at_call 152;have mk:=p2;clear p2 mk;refine(Jp (1) (0) (1) _).mono ?_;rintro r v2 ⟨g2,rfl,b2,o2,x2⟩;have U2:=hid (U1.out.grow x2);have O2:=hid o2;have J2:=hid x2;clear o2 x2 b2;have p3:True:=trivial)
  | (go_at_call 44;have mk:=p3;clear p3 mk;have XA:Hid (Ext v2 (v2.alloc (.cells #[.slice (some ⟨g2,0,none⟩) 1 1,.int .u64 0,.slice none 0 0,.int .i64 1] 95))/\Ext (v2.alloc (.cells #[.slice (some ⟨g2,0,none⟩) 1 1,.int .u64 0,.slice none 0 0,.int .i64 1] 95)) ((v2.alloc (.cells #[.slice (some ⟨g2,0,none⟩) 1 1,.int .u64 0,.slice none 0 0,.int .i64 1] 95)).alloc (.cells #[.int .u64 1,.slice none 0 0] 26))):=hid ⟨(Ext.refl _).alloc _,(Ext.refl _).alloc _⟩;have UA:=hid (U2.out.grow (XA.out.1.trans XA.out.2));have HU:Hid (Uin ((v2.alloc (.cells #[.slice (some ⟨g2,0,none⟩) 1 1,.int .u64 0,.slice none 0 0,.int .i64 1] 95)).alloc (.cells #[.int .u64 1,.slice none 0 0] 26)) (some ⟨v2.heap.size,0,none⟩) 1 [kup g2 1 0 1]):=hid ⟨(Ea v2 95 #[.slice (some ⟨g2,0,none⟩) 1 1,.int .u64 0,.slice none 0 0,.int .i64 1] (Ah [kup g2 1 0 1]) 4 1 rfl rfl (by decide)).ext XA.out.2,fun x hx=>by simp only[AZ,CU,or_false]at hx;subst hx;exact aV _ _ O2.out (XA.out.1.trans XA.out.2)⟩;have HX:Hid (∀W,Upd (fun k=>w.heap.size<=k/\k<v1.heap.size) ((v2.alloc (.cells #[.slice (some ⟨g2,0,none⟩) 1 1,.int .u64 0,.slice none 0 0,.int .i64 1] 95)).alloc (.cells #[.int .u64 1,.slice none 0 0] 26)) W->Tin W (some ⟨v2.heap.size+1,0,none⟩) 1 [⟨1,none,0,[]⟩]):=hid (fun W q=>Yh (Sl.upd (by have:=Ea (v2.alloc (.cells #[.slice (some ⟨g2,0,none⟩) 1 1,.int .u64 0,.slice none 0 0,.int .i64 1] 95)) 26 #[.int .u64 1,.slice none 0 0] [.int .u64 1,.slice none 0 0] 2 1 rfl rfl (by decide);simpa using this) q (fun k hk hr=>by have h1:=(U2.out.lr k hr).2;injection hk with hk;simp only at hk;omega)));refine(Pn (q:=(0,oL)) gs m1 _ (some ⟨v2.heap.size,0,none⟩) 1 1 [kup g2 1 0 1] (some ⟨v2.heap.size+1,0,none⟩) 1 1 [⟨1,none,0,[]⟩] _ (hid (by rw[E1.out];exact bY g2)) (hid UA.out.sp) (hid rfl) HU (by decide) (hid (vS g2)) (hid rfl) HX (hid (Te _)) UA.out.ok.sp.nb (hid (G.ext UA.out.ext))).mono ?_;rintro r v3 ⟨m3,rfl,s3,e3,u3⟩;have U3:Hid (∃R,Uno w v3 gs m3 R):=hid ⟨_,UA.out.step u3 s3 (by rw[e3];exact xM)⟩;have E3:=hid e3;clear s3 e3 u3 UA HU HX XA;obtain⟨R3,h3⟩:=U3.out;have U3:=hid h3;clear h3;have p4:True:=trivial)
  | (go_at_call 152;have mk:=p4;clear p4 mk;refine(Jp (1) (1) (1) _).mono ?_;rintro r v4 ⟨g4,rfl,b4,o4,x4⟩;have U4:=hid (U3.out.grow x4);have O4:=hid o4;have J4:=hid x4;clear o4 x4 b4;have p5:True:=trivial)
  | (go_at_call 152;have mk:=p5;clear p5 mk;refine(Jp (2) (1) (1) _).mono ?_;rintro r v5 ⟨g5,rfl,b5,o5,x5⟩;have U5:=hid (U4.out.grow x5);have O5:=hid o5;have J5:=hid x5;clear o5 x5 b5;have p6:True:=trivial)
  | (go_at_call 44;have mk:=p6;clear p6 mk;have XA:Hid (Ext v5 (v5.alloc (.cells #[.slice (some ⟨g4,0,none⟩) 1 1,.int .u64 1,.slice none 0 0,.int .i64 1,.slice (some ⟨g5,0,none⟩) 1 1,.int .u64 1,.slice none 0 0,.int .i64 1] 95))/\Ext (v5.alloc (.cells #[.slice (some ⟨g4,0,none⟩) 1 1,.int .u64 1,.slice none 0 0,.int .i64 1,.slice (some ⟨g5,0,none⟩) 1 1,.int .u64 1,.slice none 0 0,.int .i64 1] 95)) ((v5.alloc (.cells #[.slice (some ⟨g4,0,none⟩) 1 1,.int .u64 1,.slice none 0 0,.int .i64 1,.slice (some ⟨g5,0,none⟩) 1 1,.int .u64 1,.slice none 0 0,.int .i64 1] 95)).alloc (.cells #[.int .u64 2,.slice none 0 0] 26))):=hid ⟨(Ext.refl _).alloc _,(Ext.refl _).alloc _⟩;have UA:=hid (U5.out.grow (XA.out.1.trans XA.out.2));have HU:Hid (Uin ((v5.alloc (.cells #[.slice (some ⟨g4,0,none⟩) 1 1,.int .u64 1,.slice none 0 0,.int .i64 1,.slice (some ⟨g5,0,none⟩) 1 1,.int .u64 1,.slice none 0 0,.int .i64 1] 95)).alloc (.cells #[.int .u64 2,.slice none 0 0] 26)) (some ⟨v5.heap.size,0,none⟩) 2 [kup g4 1 1 1,kup g5 2 1 1]):=hid ⟨(Ea v5 95 #[.slice (some ⟨g4,0,none⟩) 1 1,.int .u64 1,.slice none 0 0,.int .i64 1,.slice (some ⟨g5,0,none⟩) 1 1,.int .u64 1,.slice none 0 0,.int .i64 1] (Ah [kup g4 1 1 1,kup g5 2 1 1]) 4 2 rfl rfl (by decide)).ext XA.out.2,fun x hx=>by simp only[AZ,CU,or_false]at hx;rcases hx with rfl|rfl;(exact aV _ _ O4.out ((J5.out.trans XA.out.1).trans XA.out.2));(exact aV _ _ O5.out (XA.out.1.trans XA.out.2))⟩;have HX:Hid (∀W,Upd R3 ((v5.alloc (.cells #[.slice (some ⟨g4,0,none⟩) 1 1,.int .u64 1,.slice none 0 0,.int .i64 1,.slice (some ⟨g5,0,none⟩) 1 1,.int .u64 1,.slice none 0 0,.int .i64 1] 95)).alloc (.cells #[.int .u64 2,.slice none 0 0] 26)) W->Tin W (some ⟨v5.heap.size+1,0,none⟩) 1 [⟨2,none,0,[]⟩]):=hid (fun W q=>Yh (Sl.upd (by have:=Ea (v5.alloc (.cells #[.slice (some ⟨g4,0,none⟩) 1 1,.int .u64 1,.slice none 0 0,.int .i64 1,.slice (some ⟨g5,0,none⟩) 1 1,.int .u64 1,.slice none 0 0,.int .i64 1] 95)) 26 #[.int .u64 2,.slice none 0 0] [.int .u64 2,.slice none 0 0] 2 1 rfl rfl (by decide);simpa using this) q (fun k hk hr=>by have h1:=(U5.out.lr k hr).2;injection hk with hk;simp only at hk;omega)));refine(Pn (q:=(0,Xr)) gs m3 _ (some ⟨v5.heap.size,0,none⟩) 2 2 [kup g4 1 1 1,kup g5 2 1 1] (some ⟨v5.heap.size+1,0,none⟩) 1 1 [⟨2,none,0,[]⟩] _ (hid (by rw[E3.out];exact bX g4 g5)) (hid UA.out.sp) (hid rfl) HU (by decide) (hid (vR g4 g5)) (hid rfl) HX (hid (Te _)) UA.out.ok.sp.nb (hid (G.ext UA.out.ext))).mono ?_;rintro r v6 ⟨m6,rfl,s6,e6,u6⟩;have U6:Hid (∃R,Uno w v6 gs m6 R):=hid ⟨_,UA.out.step u6 s6 (by rw[e6];exact zT)⟩;have E6:=hid e6;clear s6 e6 u6 UA HU HX XA;obtain⟨R6,h6⟩:=U6.out;have U6:=hid h6;have LRA:=hid h6.lr;clear h6;have p7:True:=trivial)
  | (go_at_call 49;have mk:=p7;clear p7 mk;refine(Pp gs m6 _ _ (hid U6.out.sp) U6.out.ok.sp.nb).mono ?_;rintro r v7 ⟨A7,n7,c7,rfl,hn7,o7,x7⟩;have L7:Es m6.bs=[1,2]:=(by rw[jL,E6.out];rfl);have hm7:n7=2:=(by rw[hn7,L7];rfl);subst hm7;rw[L7]at o7;have O7:=hid o7;have J7:=hid x7;have U7:=hid (U6.out.grow x7);clear hn7 o7 x7 L7;have p8:True:=trivial)
  | (go_at_call 46;have mk:=p8;clear p8 mk;refine(Sn (q:=(0,[([Sa 1],2),([Sa 2],1)])) gs m6 _ 1 none 0 0 [] _ (hid (by rw[E6.out];exact vU)) (hid U7.out.sp) (hid U7.out.ok.sp) (hid rfl) (hid (Sl.nil _ _)) (G.ext U7.out.ext)).mono ?_;rintro r v8 ⟨A8,nb,c8,rfl,d8⟩;have hb8:nb=2:=(by obtain⟨A_,m_,c_,R_,q1,q2,_,_,_,q3,_⟩:=d8;injection q1 with q1;injection q1 with _ q1 _;rw[q1,q2];have:=congrArg List.length q3;simpa using this);subst hb8;have J8:=hid (pS d8);have U8:=hid (U7.out.grow J8.out);clear d8;have p9:True:=trivial)
  | (go_at_call 46;have mk:=p9;clear p9 mk;refine(Sn (q:=(111,[])) gs m6 _ 2 none 0 0 [] _ (hid (by rw[E6.out];exact vT)) (hid U8.out.sp) (hid U8.out.ok.sp) (hid rfl) (hid (Sl.nil _ _)) (G.ext U8.out.ext)).mono ?_;rintro r v9 ⟨A9,n9,c9,rfl,d9⟩;have J9:=hid (pS d9);have U9:=hid (U8.out.grow J9.out);clear d9;have p10:True:=trivial)
  | (go_at_call 47;have mk:=p10;clear p10 mk;refine(aZ gs 100 m6 _ _ (hid U9.out.sp) (hid U9.out.ok) (by decide) (by decide) (hid (fun k hk=>(U9.out.lr k hk).2))).mono ?_;rintro r v10 ⟨m10,q10,rfl,s10,k10,ok10,u10⟩;have kk:=sJ (by rw[<-E6.out];exact k10);obtain⟨e10,hq⟩:=kk;subst hq;have U10:=hid (U9.out.step u10 s10 ok10);have E10:=hid e10;have F10:=hid u10;have NR7:Hid (∀k,v6.heap.size<=k/\k<v7.heap.size->¬Rg R6 v9 v10 k):=hid (fun k hk hr=>by rcases hr with hr|hr;(have:=(LRA.out k hr).2;omega);(have:=(J8.out.trans J9.out).size;omega));clear s10 e10 u10 k10 ok10;have LRB:=hid U10.out.lr;have p11:True:=trivial)
  | (go_at_call 49;have mk:=p11;clear p11 mk;refine(Pp gs m10 _ _ (hid U10.out.sp) U10.out.ok.sp.nb).mono ?_;rintro r v11 ⟨A11,n11,c11,rfl,hn11,o11,x11⟩;have L11:Es m10.bs=[3]:=(by rw[jL,E10.out];rfl);have hm11:n11=1:=(by rw[hn11,L11];rfl);subst hm11;rw[L11]at o11;have O11:=hid o11;have J11:=hid x11;have U11:=hid (U10.out.grow x11);clear hn11 o11 x11 L11;have p12:True:=trivial)
  | (go_at_call 45;have mk:=p12;clear p12 mk;have XA:Hid (Ext v11 (v11.alloc (.cells #[.int .u64 1,.slice none 0 0] 26))):=hid ((Ext.refl _).alloc _);have UA:=hid (U11.out.grow XA.out);have HX:Hid (Tin (v11.alloc (.cells #[.int .u64 1,.slice none 0 0] 26)) (some ⟨v11.heap.size,0,none⟩) 1 [⟨1,none,0,[]⟩]):=hid (Yh (Ea v11 26 #[.int .u64 1,.slice none 0 0] [.int .u64 1,.slice none 0 0] 2 1 rfl rfl (by decide)));refine(Qy (q:=(0,uD)) gs m10 _ (some ⟨v11.heap.size,0,none⟩) 1 1 [⟨1,none,0,[]⟩] _ (hid (by rw[E10.out];exact bZ)) (hid UA.out.sp) (hid rfl) HX (hid (Te _))).mono ?_;rintro r v12 ⟨m12,rfl,s12,e12,u12⟩;have U12:Hid (∃R,Uno w v12 gs m12 R):=hid ⟨_,UA.out.step u12 s12 (by rw[e12,<-vQ];exact Qq (by rw[<-E10.out];exact UA.out.ok) zW)⟩;have E12:=hid e12;have F12:=hid u12;have XC:=XA;clear s12 e12 u12 UA HX XA;obtain⟨R12,h12⟩:=U12.out;have U12:=hid h12;clear h12;have p13:True:=trivial)
  | (go_at_call 48;have mk:=p13;clear p13 mk;refine(Po (V:=zO) gs m12 _ _ (hid (by rw[E12.out];exact vV)) (hid U12.out.sp) (hid U12.out.ok.sp)).mono ?_;rintro r v13 ⟨A13,n13,L13,rfl,hn13,t13,e13,x13⟩;have O13:=hid t13;have HN13:=hid hn13;have E13:=hid e13;have J13:=hid x13;have U13:=hid (U12.out.grow x13);clear hn13 t13 e13 x13;have p14:True:=trivial)
  | (go_at_call 66;have mk:=p14;clear p14 mk;have K7:=hid (O7.out);have K7:=hid (K7.out.ext J8.out);have K7:=hid (K7.out.ext J9.out);have K7:=hid (K7.out.upd F10.out (fun k hk hr=>by have h1:=(O7.out.lt k hk).1;have h2:=(LRA.out k hr).2;omega));have K7:=hid (K7.out.ext J11.out);have K7:=hid ((K7.out.ext XC.out).upd F12.out (fun k hk hr=>by have h1:=(K7.out.lt k hk).2;exact NR7.out k (O7.out.lt k hk) hr));have K7:=hid (K7.out.ext J13.out);have XA:Hid (Ext v13 (v13.alloc (.cells #[.int .i64 1,.int .i64 2] 3))):=hid ((Ext.refl _).alloc _);refine(Kl A7 (some ⟨v13.heap.size,0,none⟩) c7 2 2 2 [1,2] _ (hid rfl) (hid rfl) (hid (K7.out.sl.ext XA.out)) (hid (Ea v13 3 #[.int .i64 1,.int .i64 2] (Kq [1,2]) 1 2 rfl rfl (by decide)))).mono ?_;rintro r v14 ⟨rfl,x14⟩;have J14:=hid (XA.out.trans x14);have U14:=hid (U13.out.grow J14.out);clear x14 XA;have p15:True:=trivial)
  | (go_at_call 66;have mk:=p15;clear p15 mk;have K11:=hid (O11.out);have K11:=hid ((K11.out.ext XC.out).upd F12.out (fun k hk hr=>by have h1:=(O11.out.lt k hk).1;have h2:=(LRB.out k hr).2;omega));have K11:=hid (K11.out.ext J13.out);have K11:=hid (K11.out.ext J14.out);have XA:Hid (Ext v14 (v14.alloc (.cells #[.int .i64 3] 3))):=hid ((Ext.refl _).alloc _);refine(Kl A11 (some ⟨v14.heap.size,0,none⟩) c11 1 1 1 [3] _ (hid rfl) (hid rfl) (hid (K11.out.sl.ext XA.out)) (hid (Ea v14 3 #[.int .i64 3] (Kq [3]) 1 1 rfl rfl (by decide)))).mono ?_;rintro r v15 ⟨rfl,x15⟩;have J15:=hid (XA.out.trans x15);have U15:=hid (U14.out.grow J15.out);clear x15 XA;have p16:True:=trivial)
  | (go_at_call 152;have mk:=p16;clear p16 mk;refine(Jp (1) (1) (2) _).mono ?_;rintro r v16 ⟨g16,rfl,b16,o16,x16⟩;have U16:=hid (U15.out.grow x16);have O16:=hid o16;have J16:=hid x16;clear o16 x16 b16;have p17:True:=trivial)
  | (go_at_call 152;have mk:=p17;clear p17 mk;refine(Jp (2) (1) (1) _).mono ?_;rintro r v17 ⟨g17,rfl,b17,o17,x17⟩;have U17:=hid (U16.out.grow x17);have O17:=hid o17;have J17:=hid x17;clear o17 x17 b17;have p18:True:=trivial)
  | (go_at_call 23;have mk:=p18;clear p18 mk;have XA:Hid (Ext v17 (v17.alloc (.cells #[.slice (some ⟨g16,0,none⟩) 1 1,.int .u64 1,.slice none 0 0,.int .i64 2,.slice (some ⟨g17,0,none⟩) 1 1,.int .u64 1,.slice none 0 0,.int .i64 1] 95))):=hid ((Ext.refl _).alloc _);have HUB:Hid (Uin (v17.alloc (.cells #[.slice (some ⟨g16,0,none⟩) 1 1,.int .u64 1,.slice none 0 0,.int .i64 2,.slice (some ⟨g17,0,none⟩) 1 1,.int .u64 1,.slice none 0 0,.int .i64 1] 95)) (some ⟨v17.heap.size,0,none⟩) 2 [kup g16 1 1 2,kup g17 2 1 1]):=hid ⟨Ea v17 95 #[.slice (some ⟨g16,0,none⟩) 1 1,.int .u64 1,.slice none 0 0,.int .i64 2,.slice (some ⟨g17,0,none⟩) 1 1,.int .u64 1,.slice none 0 0,.int .i64 1] (Ah [kup g16 1 1 2,kup g17 2 1 1]) 4 2 rfl rfl (by decide),fun x hx=>by simp only[AZ,CU,or_false]at hx;rcases hx with rfl|rfl;(exact aV _ _ O16.out (J17.out.trans XA.out));(exact aV _ _ O17.out XA.out)⟩;refine(Qm A13 (some ⟨v17.heap.size,0,none⟩) n13 2 n13 2 L13 [kup g16 1 1 2,kup g17 2 1 1] _ HN13 (hid rfl) (hid (O13.out.uin.ext ((((J14.out.trans J15.out).trans J16.out).trans J17.out).trans XA.out))) HUB (hid (E13.out.trans rfl))).mono ?_;rintro r v18 ⟨rfl,x18⟩;have U18:=hid (U17.out.grow (XA.out.trans x18));clear x18 XA HUB;have p19:True:=trivial)
  | fail)
 go_ret;exact⟨rfl,U18.out.ext⟩
theorem iG(A:Option Addr)(c n:Nat)(M:List Sop)(w:World)(hn:Hid (n=M.length))(hM:Hid (Oin w A c M))(hb:Hid (∀x∈M,x.L.length<=1048576/\x.T.length<=1048576)) :
  Calls Tryz.prog 41 #[.slice A n c] w fun e w'=>e=.returned (.bool (Ny M))/\Ext w w':=by
 obtain⟨b,hb0⟩:∃b,Ny M=b:=⟨_,rfl⟩;rw[hb0];have HB:=hid hb0;clear hb0;have hmax:n<=9223372036854775807:=by rw[hn.out];exact hM.out.sl.le
 go_enter Tryz.func41,Tryz.ntmps41;go_wp2
 go_loopg [3,4] n (fun z v3 v4 wr=>∃(i N:Nat),z=n-i/\i<=n/\v4=.int .i64 i/\v3=.int .i64 N/\(N<=300\/N<=9223372036854775807)/\Hid (Kt (M.length+Ky M i) N)/\Hid (Ext w wr))
 case atStart=>exact⟨0,n,rfl,AE _,rfl,rfl,.inr hmax,hid (by rw[hn.out];exact Kt.rfl' _),hid (Ext.refl _)⟩
 case round =>
  obtain⟨i,N,rfl,hi,rfl,rfl,hN,HC,HE⟩:=hrel;by_cases hlt:i<n
  ·by_cases h300:N<=300
   ·have hiM:i<M.length:=by rw[<-hn.out];exact hlt
    have HIM:=hid hiM;obtain⟨x,hx⟩:∃x,M.getD i Sop.zero=x:=⟨_,rfl⟩;have hxm:x∈M:=hx▸cD hiM;obtain⟨ad,rfl,_,q1,q2,_,_,_,q6⟩:=(hM.out.ext HE.out).at hiM hx;have HXR:Hid (Vi wr x):=hid ((hM.out.ls x hxm).ext HE.out);obtain⟨hl1,hl2⟩:=hb.out x hxm;have hr1:=HXR.out.r.le;have HX:=hid hx;obtain⟨nL,hnL⟩:∃k,x.L.length=k:=⟨_,rfl⟩;obtain⟨nT,hnT⟩:∃k,x.T.length=k:=⟨_,rfl⟩;obtain⟨nR,hnR⟩:∃k,x.r.length=k:=⟨_,rfl⟩;rw[hnL]at q1 hl1;rw[hnT]at q2 hl2;rw[hnR]at q6 hr1;have HNL:=hid hnL;have HNT:=hid hnT;have HNR:=hid hnR;clear hnL hnT hnR hx hxm hiM;obtain⟨xA,hxA⟩:∃k,x.A=k:=⟨_,rfl⟩;obtain⟨xc,hxc⟩:∃k,x.c=k:=⟨_,rfl⟩;obtain⟨tA,htA⟩:∃k,x.tA=k:=⟨_,rfl⟩;obtain⟨tc,htc⟩:∃k,x.tc=k:=⟨_,rfl⟩;rw[hxA,hxc]at q1;rw[htA,htc]at q2;have HU:Hid (Uin wr xA xc x.L):=hid (by rw[<-hxA,<-hxc];exact HXR.out.u);have HT:Hid (Tin wr tA tc x.T):=hid (by rw[<-htA,<-htc];exact HXR.out.t);clear hxA hxc htA htc;have X:Ext wr wr.drew:=(Ext.refl wr).drew;have Q1:∀z:Xt wr.drew,z.W.cell? ⟨(ad.add (i*7)).block,(ad.add (i*7)).off+1,none⟩=some (.slice xA nL xc):=fun z=>(X.trans z.x).cell q1;have Q2:∀z:Xt wr.drew,z.W.cell? ⟨(ad.add (i*7)).block,(ad.add (i*7)).off+2,none⟩=some (.slice tA nT tc):=fun z=>(X.trans z.x).cell q2;have Q6:∀z:Xt wr.drew,z.W.cell? ⟨(ad.add (i*7)).block,(ad.add (i*7)).off+6,none⟩=some (.slice x.rA nR x.rc):=fun z=>(X.trans z.x).cell q6
    go_upto_region 5 with fail
    refine wro [0,0,0,6,14,30,62,0,0,384,896,1920,3968,8190,0,0,49152,114688,245760,507904,1032192,2097150,4194303,8388607] (.flo [0,1,2,3,4,5,6,7,8,9,10,11,12,13,14,15,16,17,18,19,20,21,22,23] (.fin)) ?_
    (refine Aa (pks rfl) ?_;(repeat (go_big_quiet_step (fail)));refine oq ?_)
    refine Ad ?_;clear Q1 Q2 Q6 q6;have E1:=hid (X.cell q1);have E2:=hid (X.cell q2);obtain⟨wo,hwo⟩:∃wo:World,wo=wr.drew:=⟨_,rfl⟩;have XO:Hid (Ext wr wo):=hid (hwo▸X);have D1:Hid (∀W,Ext wo W->W.cell? ⟨(ad.add (i*7)).block,(ad.add (i*7)).off+1,none⟩=some (.slice xA nL xc)):=hid (fun W y=>(XO.out.trans y).cell q1);have D2:Hid (∀W,Ext wo W->W.cell? ⟨(ad.add (i*7)).block,(ad.add (i*7)).off+2,none⟩=some (.slice tA nT tc)):=hid (fun W y=>(XO.out.trans y).cell q2);rw[<-hwo];clear E1 E2 hwo X q1 q2;obtain⟨N1,hN1⟩:∃k,k=N+(nL+nT+nR / 16):=⟨_,rfl⟩;have HJ0:Hid (Kt (Ob M x i+Jl x.L 0) N1):=hid (HC.out.add (d:=nL+nT+nR / 16) (by unfold Ob;rw[HNL.out,HNT.out,HNR.out];rfl) hN1);have hN1':N1<=1000000000000000000:=by omega
    have hN1z:((N1:Nat):Int)=(N:Int)+((nL:Int)+(nT:Int)+((nR / 16:Nat):Int)):=by omega
    have HN1:=hid hN1;clear hN1;go_wp2
    go_loopg [3,5] nL (fun z v3 v5 wq=>∃(k N2:Nat),z=nL-k/\k<=nL/\v5=.int .i64 k/\v3=.int .i64 N2/\N2<=4611686018427387904/\Hid (Kt (Ob M x i+Jl x.L k) N2)/\Hid (Ext wo wq))
    case atStart=>exact⟨0,N1,rfl,AE _,rfl,by have:=HN1.out;go_num,by omega,HJ0,hid (Ext.refl _)⟩
    case round =>
     clear HJ0;obtain⟨k,N2,rfl,hk,rfl,rfl,hN2,HJ,HQ⟩:=hrel;have q1:=D1.out _ HQ.out;have q2:=D2.out _ HQ.out;by_cases hlk:k<nL
     ·by_cases h302:N2<=300
      ·have hkL:k<x.L.length:=by rw[HNL.out];exact hlk
       have HKL:=hid hkL;obtain⟨ad2,e2,r0,_,r2,_⟩:=(HU.out.ext (XO.out.trans HQ.out)).at hkL;subst e2;have hc1:=(HU.out.ls _ (Ar hkL)).r.cap;have hc2:=(HU.out.ls _ (Ar hkL)).t.cap;obtain⟨y,hy⟩:∃y,x.L.getD k Ud.zero=y:=⟨_,rfl⟩;rw[hy]at r0 r2 hc1 hc2;have HY:=hid hy;obtain⟨yr,hyr⟩:∃k,y.l.length=k:=⟨_,rfl⟩;obtain⟨yt,hyt⟩:∃k,y.t.l.length=k:=⟨_,rfl⟩;rw[hyr]at r0 hc1;rw[hyt]at r2 hc2;have HYR:=hid hyr;have HYT:=hid hyt;clear hy hyr hyt hkL;have X:Ext wr wr.drew:=(Ext.refl wr).drew;have Q1:∀z:Xt wr.drew,z.W.cell? ⟨(ad.add (i*7)).block,(ad.add (i*7)).off+1,none⟩=some (.slice (some ad2) nL xc):=fun z=>(X.trans z.x).cell q1;have R0:∀z:Xt wr.drew,z.W.cell? (ad2.add (k*4))=some (.slice y.A yr y.c):=fun z=>(X.trans z.x).cell r0;have R2:∀z:Xt wr.drew,z.W.cell? ⟨(ad2.add (k*4)).block,(ad2.add (k*4)).off+2,none⟩=some (.slice y.t.A yt y.t.c):=fun z=>(X.trans z.x).cell r2
       go_upto_region 9 with fail
       refine wro [0,0,0,6,14,30,0,126,254,510,1022,2046,0,0,12288,28672,61440,0,258048,520192,1044480,2093056,4190208,8384512,16777214,33554431,67108863] (.flo [0,1,2,3,4,5,6,7,8,9,10,11,12,13,14,15,16,17,18,19,20,21,22,23,24,25,26] (.fin)) ?_
       (refine Aa (pks rfl) ?_;(repeat (go_big_quiet_step (fail)));refine oq ?_)
       refine Ad ?_;clear Q1 R0 R2 r0 r2 q1 q2;go_wp2
       go_roundg (nL-(k+1))
       case measure=>omega
       case rel=>exact⟨k+1,N2+(yr / 16+yt / 4),by omega,by omega,by go_num,by go_num,by omega,hid (HJ.out.add (d:=yr / 16+yt / 4) (by rw[iT HKL.out,HY.out];unfold Sc;rw[HYR.out,HYT.out];omega) rfl),hid (HQ.out.trans X)⟩
      ·have hgt:((N2:Int)<=300)=False:=by simp;omega
       have HK0:Hid (Kt (Ob M x i+Jl x.L x.L.length+Jk x.T 0) N2):=hid (HJ.out.up (by have:=Jc Sc x.L k;unfold Jl Jk;simp only[GN,EM,List.sum_nil];omega) (by omega));go_wp2
       go_loopg [3,6] nT (fun z v3 v6 wp=>∃(k N3:Nat),z=nT-k/\k<=nT/\v6=.int .i64 k/\v3=.int .i64 N3/\N3<=9223372036854775807/\Hid (Kt (Ob M x i+Jl x.L x.L.length+Jk x.T k) N3)/\Hid (Ext wo wp))
       case atStart=>exact⟨0,N2,rfl,AE _,rfl,rfl,by omega,HK0,HQ⟩
       case round =>
        clear HK0;obtain⟨k,N3,rfl,hk,rfl,rfl,hN3,HK,HP⟩:=hrel;have q2:=D2.out _ HP.out;by_cases hlk:k<nT
        ·by_cases h303:N3<=300
         ·have hkT:k<x.T.length:=by rw[HNT.out];exact hlk
          have HKT:=hid hkT;obtain⟨ad2,e2,_,r1⟩:=(HT.out.ext (XO.out.trans HP.out)).at hkT;subst e2;have hc1:=(HT.out.ls _ (Bj hkT)).cap;obtain⟨y,hy⟩:∃y,x.T.getD k Tm.zero=y:=⟨_,rfl⟩;rw[hy]at r1 hc1;have HY:=hid hy;obtain⟨yt,hyt⟩:∃k,y.l.length=k:=⟨_,rfl⟩;rw[hyt]at r1 hc1;have HYT:=hid hyt;clear hy hyt hkT;go_wp2
          go_roundg (nT-(k+1))
          case measure=>omega
          case rel=>exact⟨k+1,N3+yt / 4,by omega,by omega,by go_num,by go_num,by omega,hid (HK.out.add (d:=yt / 4) (by rw[Um HKT.out,HY.out,HYT.out];omega) rfl),HP⟩
         ·have hgt:((N3:Int)<=300)=False:=by simp;omega
          go_wp2
          go_roundg (n-(i+1))
          case measure=>omega
          case rel=>exact⟨i+1,N3,by omega,by omega,by go_num,rfl,.inr (by omega),hid (HK.out.up (by rw[Mm HIM.out HX.out];have:=Jc (fun y:Tm=>y.l.length / 4) x.T k;unfold Jk;omega) (by omega)),hid ((HE.out.trans XO.out).trans HP.out)⟩
        ·go_wp2
         go_roundg (n-(i+1))
         case measure=>omega
         case rel=>exact⟨i+1,N3,by omega,by omega,by go_num,rfl,.inr (by omega),hid (by have h1:=HK.out;rw[show k=x.T.length by rw[HNT.out];omega,<-Mm HIM.out HX.out]at h1;exact h1),hid ((HE.out.trans XO.out).trans HP.out)⟩
     ·have HK0:Hid (Kt (Ob M x i+Jl x.L x.L.length+Jk x.T 0) N2):=hid (by have h1:=HJ.out;rw[show k=x.L.length by rw[HNL.out];omega]at h1;exact h1);go_wp2
      go_loopg [3,6] nT (fun z v3 v6 wp=>∃(k N3:Nat),z=nT-k/\k<=nT/\v6=.int .i64 k/\v3=.int .i64 N3/\N3<=9223372036854775807/\Hid (Kt (Ob M x i+Jl x.L x.L.length+Jk x.T k) N3)/\Hid (Ext wo wp))
      case atStart=>exact⟨0,N2,rfl,AE _,rfl,rfl,by omega,HK0,HQ⟩
      case round =>
       clear HK0;obtain⟨k,N3,rfl,hk,rfl,rfl,hN3,HK,HP⟩:=hrel;have q2:=D2.out _ HP.out;by_cases hlk:k<nT
       ·by_cases h303:N3<=300
        ·have hkT:k<x.T.length:=by rw[HNT.out];exact hlk
         have HKT:=hid hkT;obtain⟨ad2,e2,_,r1⟩:=(HT.out.ext (XO.out.trans HP.out)).at hkT;subst e2;have hc1:=(HT.out.ls _ (Bj hkT)).cap;obtain⟨y,hy⟩:∃y,x.T.getD k Tm.zero=y:=⟨_,rfl⟩;rw[hy]at r1 hc1;have HY:=hid hy;obtain⟨yt,hyt⟩:∃k,y.l.length=k:=⟨_,rfl⟩;rw[hyt]at r1 hc1;have HYT:=hid hyt;clear hy hyt hkT;go_wp2
         go_roundg (nT-(k+1))
         case measure=>omega
         case rel=>exact⟨k+1,N3+yt / 4,by omega,by omega,by go_num,by go_num,by omega,hid (HK.out.add (d:=yt / 4) (by rw[Um HKT.out,HY.out,HYT.out];omega) rfl),HP⟩
        ·have hgt:((N3:Int)<=300)=False:=by simp;omega
         go_wp2
         go_roundg (n-(i+1))
         case measure=>omega
         case rel=>exact⟨i+1,N3,by omega,by omega,by go_num,rfl,.inr (by omega),hid (HK.out.up (by rw[Mm HIM.out HX.out];have:=Jc (fun y:Tm=>y.l.length / 4) x.T k;unfold Jk;omega) (by omega)),hid ((HE.out.trans XO.out).trans HP.out)⟩
       ·go_wp2
        go_roundg (n-(i+1))
        case measure=>omega
        case rel=>exact⟨i+1,N3,by omega,by omega,by go_num,rfl,.inr (by omega),hid (by have h1:=HK.out;rw[show k=x.T.length by rw[HNT.out];omega,<-Mm HIM.out HX.out]at h1;exact h1),hid ((HE.out.trans XO.out).trans HP.out)⟩
   ·have hgt:((N:Int)<=300)=False:=by simp;omega
    go_wp2;go_ret;refine⟨Cb ?_,HE.out⟩;rw[<-HB.out];unfold Ny;have h1:=HC.out.le;have h2:=Jc Mu M i;replace h2:Ky M i<=Ky M M.length:=h2;rw[eq_comm,decide_eq_decide];constructor<;>intro<;>omega
  ·obtain rfl:i=n:=by omega
   go_wp2;go_ret;refine⟨Cb ?_,HE.out⟩;rw[<-HB.out];have h1:=HC.out;rw[hn.out]at h1;have h2:=h1.much;unfold Ny;rw[<-h2,eq_comm,decide_eq_decide];constructor<;>intro<;>omega
theorem Wu{v:Bool}(A:Option Addr)(c n:Nat)(M:List Sop)(w:World)(hv:Hid (Ny M=v))(hn:Hid (n=M.length))(hM:Hid (Oin w A c M))(hb:Hid (∀x∈M,x.L.length<=1048576/\x.T.length<=1048576)) :
  Calls Tryz.prog 41 #[.slice A n c] w fun e w'=>e=.returned (.bool v)/\Ext w w':=hv.out▸iG A c n M w hn hM hb
namespace UdS
end UdS
theorem Wq:∀(U acc:List V),(U.foldl addV acc).length<=acc.length+U.length
 | [],acc=>AD _
 | a::U,acc=>by
  have h1:=Wq U (addV acc a);have h2:=addV_len acc a;show(U.foldl addV (addV acc a)).length<=acc.length+(U.length+1);omega
theorem lJ(U:List V):(sumV U).length<=U.length:=by
 have h1:=GH (fun x:V=>!(x.2==0)) (sumAll U);have h2:=Wq U [];unfold sumV;have h3:(sumAll U).length<=([]:List V).length+U.length:=h2;simp only[CB]at h3;omega
theorem wP(U:List UV)(t:TV):(atV U t).length<=U.length:=by
 unfold atV;rw[AN];exact GH _ _
theorem InU.of_uv{x y:Ud}(h:InU y)(e:x.uv=y.uv):InU x:=by
 have e1:x.l=y.l:=congrArg (fun q:UV=>q.1.1) e;have e2:x.t.e=y.t.e:=congrArg (fun q:UV=>q.1.2.1) e;have e3:x.t.l=y.t.l:=congrArg (fun q:UV=>q.1.2.2) e;have e4:x.d=y.d:=congrArg (fun q:UV=>q.2) e;refine⟨⟨?_,?_,?_,?_⟩,by rw[e3];exact h.tu,by rw[e3];exact h.tn,by rw[e2];exact h.te⟩
 ·show Od x.l;rw[e1];exact h.row.txt
 ·show Oe x.l;rw[e1];exact h.row.int
 ·show _<=x.d/\x.d<=_;rw[e4];exact h.row.num
 ·show x.l.length<=_;rw[e1];exact h.row.len
theorem vW{L M:List Ud}(h:∀x∈L,InU x)(e:M.map Ud.uv=L.map Ud.uv):∀x∈M,InU x:=fun x hx=>by
 have:x.uv∈L.map Ud.uv:=by rw[<-e];exact AW.2 ⟨x,hx,rfl⟩
 obtain⟨y,hy,q⟩:=AW.1 this;exact(h y hy).of_uv q.symm
def Sb(P:List (En×List Value))(N:Nat):Prop:=P.length<=N/\∀p∈P,p.1.n<=1000000
theorem Sb.app{P Q:List (En×List Value)}{N k:Nat}(h:Sb P N)(hq:Q.length<=k)(hn:∀p∈Q,p.1.n<=1000000):Sb (P++Q) (N+k):=
 ⟨by rw[AA];have:=h.1;omega,fun p hp=>(AR.1 hp).elim (h.2 p) (hn p)⟩
theorem Sb.up{P:List (En×List Value)}{N k:Nat}(h:Sb P N)(hk:N<=k):Sb P k:=⟨AQ h.1 hk,h.2⟩
structure TB.few (b:TB) (N:Nat):Prop where
 w:Sb b.Pw N
 r:Sb b.Pr N
 c:Sb b.Pc N
 u:Sb b.Pu N
 t:Sb b.Pt N
theorem TB.few.up{b:TB}{N k:Nat}(h:b.few N)(hk:N<=k):b.few k:=⟨h.w.up hk,h.r.up hk,h.c.up hk,h.u.up hk,h.t.up hk⟩
theorem vY:TB.nil.few 0:=⟨⟨AD _,fun p hp=>(nomatch hp)⟩,⟨AD _,fun p hp=>(nomatch hp)⟩,⟨AD _,fun p hp=>(nomatch hp)⟩,⟨AD _,fun p hp=>(nomatch hp)⟩,⟨AD _,fun p hp=>(nomatch hp)⟩⟩
section
variable{b:TB}{N n c:Nat}{A:Option Addr}
theorem TB.few.tellC{L:List Ct}{vr vc:En}(h:b.few N)(hn:n=L.length)(h9:n<=300)(hl:∀y∈L,y.l.length<=1000000):(b.tellC A n c L vr vc).few (N+300):=by
 refine⟨h.w.up (by omega),h.r.app (by unfold eC;rw[AN];omega) fun p hp=>?_,h.c.app (by show 1<=300;omega) fun p hp=>?_,h.u.up (by omega),h.t.up (by omega)⟩
 ·obtain⟨y,hy,rfl⟩:=AW.1 hp;exact hl y hy
 ·rw[AH.1 hp];show n<=_;omega
theorem TB.few.tellU{L:List Ud}{vw vr vu:En}(h:b.few N)(hn:n=L.length)(h9:n<=300)(hl:∀y∈L,y.l.length<=1000000/\y.t.l.length<=1000000):(b.tellU A n L vw vr vu).few (N+300):=by
 refine⟨h.w.app (by unfold eW;rw[AN];omega) fun p hp=>?_,h.r.app (by unfold eR;rw[AN];omega) fun p hp=>?_,h.c.up (by omega),h.u.app (by show 1<=300;omega) fun p hp=>?_,h.t.up (by omega)⟩
 ·obtain⟨y,hy,rfl⟩:=AW.1 hp;exact(hl y hy).2
 ·obtain⟨y,hy,rfl⟩:=AW.1 hp;exact(hl y hy).1
 ·rw[AH.1 hp];show n<=_;omega
theorem TB.few.tellT{L:List Tm}{vw vt:En}(h:b.few N)(hn:n=L.length)(h9:n<=1)(hl:∀y∈L,y.l.length<=1000000):(b.tellT A n c L vw vt).few (N+1):=by
 refine⟨h.w.app (by unfold eT;rw[AN];omega) fun p hp=>?_,h.r.up (by omega),h.c.up (by omega),h.u.up (by omega),h.t.app (by show 1<=1;omega) fun p hp=>?_⟩
 ·obtain⟨y,hy,rfl⟩:=AW.1 hp;exact hl y hy
 ·rw[AH.1 hp];show n<=_;omega
end
theorem sK(s:SV)(l:List UV)(X:List TV):0<=(Cq s l X).1/\(Cq s l X).1<=200:=by
 unfold Cq;split
 ·simp
 ·split
  ·simp
  ·split
   ·simp
   ·split
    ·simp
    ·simp
theorem aD(s:SV)(X:List TV):0<=(Bw s X).1/\(Bw s X).1<=200:=by
 unfold Bw;split
 ·simp
 ·split
  ·simp
  ·simp
theorem wO(s:SV)(t:TV):0<=(atS s t).1/\(atS s t).1<=200:=by
 unfold atS;split
 ·simp
 ·split
  ·simp
  ·split
   ·simp
   ·simp
theorem tS{s:SV}(h:OkV s)(t:TV):(atS s t).2.length<=Ft s/\∀v∈(atS s t).2,v.1.length<=1000000:=by
 unfold atS;split
 ·exact⟨AE _,fun v hv=>(nomatch hv)⟩
 ·split
  ·exact⟨AE _,fun v hv=>(nomatch hv)⟩
  ·split
   ·exact⟨AE _,fun v hv=>(nomatch hv)⟩
   ·have hg:=wN (D:=s.bs.flatten) h.ins t;refine⟨?_,fun v hv=>?_⟩
    ·have h1:=lJ (atV s.bs.flatten t);have h2:=wP s.bs.flatten t;unfold Ft;show(sumV (atV s.bs.flatten t)).length<=_;omega
    ·obtain⟨_,_,y,hy,e⟩:=sumV_mem (fun x hx=>by obtain⟨u,hu,e⟩:=hg x hx;rw[e];exact(h.ins u hu).1.num) hv;obtain⟨u,hu,e2⟩:=hg y hy;rw[<-e,e2];exact(h.ins u hu).1.len
theorem Xo{s:SV}(h:OkV s):∀u∈Mr s,Gn u:=by
 unfold Mr;split
 ·exact fun u hu=>(nomatch hu)
 ·exact Sm fun u hu=>by
   obtain⟨v,hv,rfl⟩:=AW.1 hu;exact Tp h.fs h.es (h.ins v hv)
theorem oD{s:SV}(h:OkV s):(Mr s).length<=Ft s/\∀u∈Mr s,u.1.1.length<=1000000/\u.1.2.2=[]:=by
 refine⟨?_,fun u hu=>⟨(Xo h u hu).1.len,(Xo h u hu).2.1⟩⟩;unfold Mr;split
 ·exact AE _
 ·have h1:=Hz (s.bs.flatten.map (Bp s.S));rw[AN]at h1;unfold Ft;omega
theorem qP{m:SpM}{q:RSM}(h:q.v=m.v):Hr q.bs=Es m.bs:=by
 have e:q.bs.map Rb.v=m.bs.map Bt.v:=congrArg SV.bs h;have e1:Hr q.bs=(q.bs.map Rb.v).map fun l=>(l.length:Int):=by
  unfold Hr Rb.v;rw[DD];exact EY fun b _=>by simp
 have e2:Es m.bs=(m.bs.map Bt.v).map fun l=>(l.length:Int):=by
  unfold Es Bt.v;rw[DD];exact EY fun b _=>by simp
 rw[e1,e2,e]
structure DoI (w0 w:World) (M:List Sop) (i gs gr gb N:Nat) (R K G:Nat->Prop) (m:SpM) (q:RSM) (b:TB):Prop where
 d:DoM w0 w gs gr gb R K G m q b
 v:q.v=m.v
 ts:∃all,Hj m.v all (Dk M i)
 fw:b.few N
section
variable{w0 w w':World}{M:List Sop}{i gs gr gb N:Nat}{R K G:Nat->Prop}{m m':SpM}{q q':RSM}{b:TB}
theorem DoI.ok(h:DoI w0 w M i gs gr gb N R K G m q b):OkV m.v:=by obtain⟨all,t⟩:=h.ts;exact t.ok
theorem DoI.okq(h:DoI w0 w M i gs gr gb N R K G m q b):OkV q.v:=h.v▸h.ok
theorem DoI.size(h:DoI w0 w M i gs gr gb N R K G m q b):Ft m.v<=Dk M i:=by obtain⟨all,t⟩:=h.ts;exact t.nb
theorem DoI.grow(h:DoI w0 w M i gs gr gb N R K G m q b)(x:Ext w w'):DoI w0 w' M i gs gr gb N R K G m q b:=⟨h.d.grow x,h.v,h.ts,h.fw⟩
theorem yV(h:DoM w0 w gs gr gb R K G m q b)(f:b.few 100000):Calls Tryz.prog 29 #[.pointer (some ⟨gb,0,none⟩)] w fun e w'=>e=.returned (.bool true)/\Upd (fun k=>w0.heap.size<=k/\k<w.heap.size) w w':=by
 have T:=h.td;have hft:∀k,Xu (b.Pw.map (·.1)) (b.Pr.map (·.1)) (b.Pc.map (·.1)) (b.Pu.map (·.1)) (b.Pt.map (·.1)) k->b.ft k:=fun k hk=>hk;refine(fH gb w0.heap.size G _ _ _ _ _ b.w_ b.r_ b.c_ b.u_ b.t_ _ _ _ _ _ w (hid h.bk) (hid (Lj T.pw.hold T.pw.far)) (hid (Lj T.pr.hold T.pr.far)) (hid (Lj T.pc.hold T.pc.far)) (hid (Lj T.pu.hold T.pu.far)) (hid (Lj T.pt.hold T.pt.far))
  (hid (T.pw.apart T.pr (by decide))) (hid (T.pw.apart T.pc (by decide))) (hid (T.pw.apart T.pu (by decide))) (hid (T.pw.apart T.pt (by decide))) (hid (T.pr.apart T.pc (by decide))) (hid (T.pr.apart T.pu (by decide))) (hid (T.pr.apart T.pt (by decide))) (hid (T.pc.apart T.pu (by decide))) (hid (T.pc.apart T.pt (by decide))) (hid (T.pu.apart T.pt (by decide)))
  (hid (fun k hk=>(h.tf k (hft k hk)).2.2)) (hid (aW f.w.1 f.w.2)) (hid (aW f.r.1 f.r.2)) (hid (aW f.c.1 f.c.2)) (hid (aW f.u.1 f.u.2)) (hid (aW f.t.1 f.t.2)) (hid h.ex.size)).mono fun e w' ⟨e1,u⟩=>⟨e1,u.mono fun k _ hk=>h.ft_lt (hft k hk)⟩
theorem DoM.tell2{v1 v2 v3 v4:World}{A1 A2:Option Addr}{n1 c1 n2 c2:Nat}{L1 L2:List Tm}{vw1 vt1 vw2 vt2:En}(h:DoM w0 w gs gr gb R K G m q b)(x1:Ext w v1)(o1:Ev v1 w.heap.size A1 c1 L1)(h1:n1=L1.length)(x2:Ext v1 v2)(o2:Ev v2 v1.heap.size A2 c2 L2)(h2:n2=L2.length)(u3:Upd G v2 v3)(u4:Upd (RN G v2 v3) v3 v4)
  (bk:An v4 gb (RN (RN G v2 v3) v3 v4) (b.Pw.map (·.1)++L1.map enT++L2.map enT) (b.Pr.map (·.1)) (b.Pc.map (·.1)) (b.Pu.map (·.1)) (b.Pt.map (·.1)++[⟨A1,n1,c1⟩]++[⟨A2,n2,c2⟩]) vw2 b.r_ b.c_ b.u_ vt2):DoM w0 v4 gs gr gb R K (RN G v2 v4) m q ((b.tellT A1 n1 c1 L1 vw1 vt1).tellT A2 n2 c2 L2 vw2 vt2):=by
 have z1:=x1.size;have z2:=x2.size;have z3:=u3.size;have z4:=u4.size;have z0:=h.ex.size;have td:=(h.td.addT x1 h.ex.size o1 h1).addT x2 (by omega) o2 h2;have u:Upd G v2 v4:=⟨u4.os.trans u3.os,u4.tape.trans u3.tape,u4.output.trans u3.output,by omega,fun k hk hn=>(u4.block k (by omega) (fun e=>e.elim hn fun e=>by omega)).trans (u3.block k hk hn)⟩;refine h.tell (x1.trans x2) td (fun k hk=>?_) u ?_
 ·rcases hk with e|e|e|e|e
  ·rcases Ge e with e|⟨p,hp,e⟩
   ·rcases Ge e with e|⟨p,hp,e⟩
    ·exact .inl (.inl e)
    ·obtain⟨y,hy,rfl⟩:=AW.1 hp;exact .inr ((o1.ls y hy).1.lt k e).1
   ·obtain⟨y,hy,rfl⟩:=AW.1 hp;exact .inr (AQ z1 ((o2.ls y hy).1.lt k e).1)
  ·exact .inl (.inr (.inl e))
  ·exact .inl (.inr (.inr (.inl e)))
  ·exact .inl (.inr (.inr (.inr (.inl e))))
  ·rcases Ge e with e|⟨p,hp,e⟩
   ·rcases Ge e with e|⟨p,hp,e⟩
    ·exact .inl (.inr (.inr (.inr (.inr e))))
    ·rw[AH.1 hp]at e;exact .inr (o1.own.lt k (by subst h1;exact e)).1
   ·rw[AH.1 hp]at e;exact .inr (AQ z1 (o2.own.lt k (by subst h2;exact e)).1)
 ·show An v4 gb (RN G v2 v4) ((b.Pw++eT L1++eT L2).map (·.1)) (b.Pr.map (·.1)) (b.Pc.map (·.1)) (b.Pu.map (·.1)) ((b.Pt++[((⟨A1,n1,c1⟩,Db L1):En×List Value)]++[((⟨A2,n2,c2⟩,Db L2):En×List Value)]).map (·.1)) vw2 b.r_ b.c_ b.u_ vt2;rw[AO,AO,AO,AO,pO,pO];exact bk.wide fun k _ hk=>RN.step z3 z4 k hk
end
end Go.Proofs.YtdgbkpoickbidaaGreatDoor
