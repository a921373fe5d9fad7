/- Parts of the proof. Conditions: as stated. -/
import Derived.Test.YtdgbkpoickbidaaGreatDoorHx19
import Derived.Test.YtdgbkpoickbidaaGreatDoorHx21
set_option maxRecDepth 100000
set_option maxHeartbeats 16000000
open Go.RowKit Go.Proofs.Tryz
set_option linter.defProp false
namespace Go.Proofs.YtdgbkpoickbidaaGreatDoor
variable{q0:Int}{B c5 c6 g hi i lo n n0 o2:Nat}{R:Nat->Prop}{A A5 A6:Option Addr}{e:TypeId}{v3 v5 w w' w6:World}
section
variable{w0 w w':World}{K K' S:Nat->Prop}{g:Nat}{v:TrV}{all:List UV}{B:Nat}
def Sho.wider(h:Sho w0 w K g v all B)(x:Ext w0 w')(u:Upd S w w')(hS:∀k,S k->K k)(hK:∀k,K' k->K k\/(w.heap.size<=k/\k<w'.heap.size)):Sho w0 w' K' g v all B:=by
 have z:=u.size;have⟨R,t,h1,h2,h3⟩:=h.r;refine⟨x,⟨R,t,h1.upd u λk hk q=>(h3 k hk).2 (hS k q),h2,λk hk=>⟨(h3 k hk).1,λq=>?_⟩⟩,λk hk=>?_,h.tt⟩
 ·rcases hK k q with r|r
  ·exact(h3 k hk).2 r
  ·have:=h1.low k hk;omega
 ·rcases hK k hk with r|r
  ·exact AZ (h.lo k r) z
  ·exact r.2
end
def Oth(KS KT G Q:Nat->Prop)(b:TB)(k:Nat):Prop:=(KS k\/KT k)\/G k\/Q k\/b.ft k
def Rng(Q:Nat->Prop)(lo hi k:Nat):Prop:=Q k\/(lo<=k/\k<hi)
structure SdM (w0 w:World) (gt gr gb:Nat) (KS KT G Q:Nat->Prop) (t:RTM) (v u:TrV) (b:TB) (all:List UV) (B:Nat):Prop where
 sh:Sho w0 w (Oth KS KT G Q b) gt v all B
 rt:RTr w0 w KS KT gr t u
 bk:b.book w gb G
 td:b.told w w0.heap.size
 lk:∀k,KS k\/KT k->w0.heap.size<=k
 lg:∀k,G k->w0.heap.size<=k/\k<w.heap.size
 lq:∀k,Q k->w0.heap.size<=k/\k<w.heap.size
 kg:∀k,KS k\/KT k->¬G k/\¬Q k
 gq:∀k,G k->¬Q k
 tf:∀k,b.ft k->¬(KS k\/KT k)/\¬G k/\¬Q k
section
variable{w0 w w':World}{gt gr gb B B':Nat}{KS KT G Q Q' S:Nat->Prop}{t:RTM}{v v' u u':TrV}{b b':TB}{all all':List UV}
def SdM.ft_lt(h:SdM w0 w gt gr gb KS KT G Q t v u b all B){k:Nat}(hk:b.ft k):w0.heap.size<=k/\k<w.heap.size:=TB.told_lt h.td hk
def SdM.grow(h:SdM w0 w gt gr gb KS KT G Q t v u b all B)(x:Ext w w'):SdM w0 w' gt gr gb KS KT G Q t v u b all B :=
 have z:=x.size
 ⟨h.sh.grow x,h.rt.ext x,h.bk.ext x,h.td.ext x,h.lk,λk hk=>⟨(h.lg k hk).1,AZ (h.lg k hk).2 z⟩,λk hk=>⟨(h.lq k hk).1,AZ (h.lq k hk).2 z⟩,h.kg,h.gq,h.tf⟩
def SdM.stepP(h:SdM w0 w gt gr gb KS KT G Q t v u b all B)(k:Kp w0 (Oth KS KT G Q b) w w')(s:Sho w0 w' (Oth KS KT G Q b) gt v' all' B'):SdM w0 w' gt gr gb KS KT G Q t v' u b all' B':=by
 have k:Upd (λq=>w0.heap.size<=q/\¬Oth KS KT G Q b q) w w':=k;have z:=k.size;exact⟨s,h.rt.upd k (λq hq e=>e.2 (.inl (.inl hq))) (λq hq e=>e.2 (.inl (.inr hq))) s.ext,h.bk.upd k (λq hq e=>e.2 (.inr (.inl hq))),TB.told_upd h.td k (λq hq e=>e.2 (.inr (.inr (.inr hq)))),h.lk,λk hk=>⟨(h.lg k hk).1,AZ (h.lg k hk).2 z⟩,λk hk=>⟨(h.lq k hk).1,AZ (h.lq k hk).2 z⟩,h.kg,h.gq,h.tf⟩
def SdM.stepD{ps:List (Nat×Hv)}(h:SdM w0 w gt gr gb KS KT G Q t v u b all B)(r:RTo w0 w KS KT gr ps u' w'):∃KS' KT' t',SdM w0 w' gt gr gb KS' KT' G Q t' v u' b all B/\t'.ps=ps/\Upd (λk=>KS k\/KT k) w w':=by
 obtain⟨t',KS',KT',r1,r2,r3,r4⟩:=r;have z:=r4.size;have x:Ext w0 w':=r1.rs.b.ex;have z0:=h.sh.ext.size;refine⟨KS',KT',t',⟨h.sh.wider x r4 (λk hk=>.inl hk) (λk hk=>?_),r1,h.bk.upd r4 (λk hk e=>(h.kg k e).1 hk),TB.told_upd h.td r4 (λk hk=>(h.tf k hk).1),λk hk=>?_,λk hk=>⟨(h.lg k hk).1,AZ (h.lg k hk).2 z⟩,λk hk=>⟨(h.lq k hk).1,AZ (h.lq k hk).2 z⟩,λk hk=>?_,h.gq,λk hk=>⟨λe=>?_,(h.tf k hk).2⟩⟩,r2,r4⟩
 ·rcases hk with e|e
  ·exact(r3 k e).imp .inl id
  ·exact .inl (.inr e)
 ·rcases r3 k hk with e|e
  ·exact h.lk k e
  ·omega
 ·rcases r3 k hk with e|e
  ·exact h.kg k e
  ·exact⟨λq=>by have:=(h.lg k q).2;omega,λq=>by have:=(h.lq k q).2;omega⟩
 ·rcases r3 k e with e|e
  ·exact(h.tf k hk).1 e
  ·have:=(h.ft_lt hk).2;omega
def SdM.requ(h:SdM w0 w gt gr gb KS KT G Q t v u b all B)(y:Upd S w w')(hS:∀k,S k->Q k)(hQ:∀k,Q' k->Q k\/(w.heap.size<=k/\k<w'.heap.size)):SdM w0 w' gt gr gb KS KT G Q' t v u b all B:=by
 have z:=y.size;have z0:=h.sh.ext.size;have x:Ext w0 w':=Hj h.sh.ext y λk hk=>(h.lq k (hS k hk)).1;refine⟨h.sh.wider x y (λk hk=>.inr (.inr (.inl (hS k hk)))) (λk hk=>?_),h.rt.upd y (λk hk e=>(h.kg k (.inl hk)).2 (hS k e)) (λk hk e=>(h.kg k (.inr hk)).2 (hS k e)) x,h.bk.upd y (λk hk e=>h.gq k hk (hS k e)),TB.told_upd h.td y (λk hk e=>(h.tf k hk).2.2 (hS k e)),h.lk,λk hk=>⟨(h.lg k hk).1,AZ (h.lg k hk).2 z⟩,λk hk=>?_,λk hk=>⟨(h.kg k hk).1,λq=>?_⟩,λk hk q=>?_,λk hk=>⟨(h.tf k hk).1,(h.tf k hk).2.1,λq=>?_⟩⟩
 ·rcases hk with e|e|e|e
  ·exact .inl (.inl e)
  ·exact .inl (.inr (.inl e))
  ·exact(hQ k e).imp (λe=>.inr (.inr (.inl e))) id
  ·exact .inl (.inr (.inr (.inr e)))
 ·rcases hQ k hk with e|e
  ·exact⟨(h.lq k e).1,AZ (h.lq k e).2 z⟩
  ·exact⟨by omega,e.2⟩
 ·rcases hQ k q with e|e
  ·exact(h.kg k hk).2 e
  ·have:=h.rt.low k hk;omega
 ·rcases hQ k q with e|e
  ·exact h.gq k hk e
  ·have:=(h.lg k hk).2;omega
 ·rcases hQ k q with e|e
  ·exact(h.tf k hk).2.2 e
  ·have:=(h.ft_lt hk).2;omega
def SdM.mark(h:SdM w0 w gt gr gb KS KT G Q t v u b all B)(x:Ext w w'):SdM w0 w' gt gr gb KS KT G (Rng Q w.heap.size w'.heap.size) t v u b all B :=
 h.requ (Upd.ext (S:=λ_=>False) x) (λ_ e=>e.elim) (λ_ hk=>hk)
def SdM.markN(h:SdM w0 w gt gr gb KS KT G Q t v u b all B)(k:Kp w0 (Oth KS KT G Q b) w w')(s:∀K':Nat->Prop,(∀k,K' k->Oth KS KT G Q b k\/(w.heap.size<=k/\k<w'.heap.size))->Sho w0 w' K' gt v' all' B'):SdM w0 w' gt gr gb KS KT G (Rng Q w.heap.size w'.heap.size) t v' u b all' B':=by
 have s0:=s (Oth KS KT G (Rng Q w.heap.size w'.heap.size) b) (λk hk=>by
  rcases hk with e|e|e|e
  ·exact .inl (.inl e)
  ·exact .inl (.inr (.inl e))
  ·exact e.imp (λe=>.inr (.inr (.inl e))) id
  ·exact .inl (.inr (.inr (.inr e))))
 have g:=h.stepP k (s _ λ_ hk=>.inl hk);have z0:=h.sh.ext.size;refine⟨s0,g.rt,g.bk,g.td,g.lk,g.lg,λk hk=>?_,λk hk=>⟨(g.kg k hk).1,λq=>?_⟩,λk hk q=>?_,λk hk=>⟨(g.tf k hk).1,(g.tf k hk).2.1,λq=>?_⟩⟩
 ·rcases hk with e|e
  ·exact g.lq k e
  ·exact⟨by omega,e.2⟩
 ·rcases q with e|e
  ·exact(g.kg k hk).2 e
  ·have:=h.rt.low k hk;omega
 ·rcases q with e|e
  ·exact g.gq k hk e
  ·have:=(h.lg k hk).2;omega
 ·rcases q with e|e
  ·exact(g.tf k hk).2.2 e
  ·have:=(h.ft_lt hk).2;omega
def SdM.tell(h:SdM w0 w gt gr gb KS KT G (Rng Q lo hi) t v u b all B)(td:b'.told w w0.heap.size)(ft:∀k,b'.ft k->b.ft k\/(lo<=k/\k<hi))(nq:∀k,Q k->k<lo)(y:Upd G w w')(bk:b'.book w' gb (RN G w w')):SdM w0 w' gt gr gb KS KT (RN G w w') Q t v u b' all B:=by
 have z:=y.size;have z0:=h.sh.ext.size;have x:Ext w0 w':=Hj h.sh.ext y λk hk=>(h.lg k hk).1;have nf:∀k,b'.ft k->¬(KS k\/KT k)/\¬G k/\¬Q k:=λk hk=>by
  rcases ft k hk with e|e
  ·exact⟨(h.tf k e).1,(h.tf k e).2.1,λq=>(h.tf k e).2.2 (.inl q)⟩
  ·exact⟨λq=>(h.kg k q).2 (.inr e),λq=>h.gq k q (.inr e),λq=>by have:=nq k q;omega⟩
 refine⟨h.sh.wider x y (λk hk=>.inr (.inl hk)) (λk hk=>?_),h.rt.upd y (λk hk e=>(h.kg k (.inl hk)).1 e) (λk hk e=>(h.kg k (.inr hk)).1 e) x,bk,TB.told_upd td y (λk hk=>(nf k hk).2.1),h.lk,λk hk=>?_,λk hk=>⟨(h.lq k (.inl hk)).1,AZ (h.lq k (.inl hk)).2 z⟩,λk hk=>⟨λq=>?_,λq=>(h.kg k hk).2 (.inl q)⟩,λk hk q=>?_,λk hk=>⟨(nf k hk).1,λq=>?_,(nf k hk).2.2⟩⟩
 ·rcases hk with e|e|e|e
  ·exact .inl (.inl e)
  ·exact e.imp (λe=>.inr (.inl e)) id
  ·exact .inl (.inr (.inr (.inl (.inl e))))
  ·rcases ft k e with e|e
   ·exact .inl (.inr (.inr (.inr e)))
   ·exact .inl (.inr (.inr (.inl (.inr e))))
 ·rcases hk with hk|hk
  ·exact⟨(h.lg k hk).1,AZ (h.lg k hk).2 z⟩
  ·exact⟨by omega,hk.2⟩
 ·rcases q with e|e
  ·exact(h.kg k hk).1 e
  ·have:=h.rt.low k hk;omega
 ·rcases hk with e|e
  ·exact h.gq k e (.inl q)
  ·have:=(h.lq k (.inl q)).2;omega
 ·rcases q with e|e
  ·exact(nf k hk).2.1 e
  ·have:=(TB.told_lt td hk).2;omega
end
def Cu.add2{size:Nat}{P Q:List (En×List Value)}(h:Cu w B e size P)(lt:∀k,Cf (P.map (·.1)) k->k<n0)(hB:B<=n0)(k:Cu w n0 e size Q):Cu w B e size (P++Q):=by
 refine⟨λp hp=>?_,BL.2 ⟨h.far,k.far,λp hp q hq z e1 e2=>?_⟩⟩
 ·rcases AQ.1 hp with hp|hp
  ·exact h.hold p hp
  ·exact(k.hold p hp).mono hB
 ·have:=lt z (Zx hp e1);have:=((k.hold q hq).lt z e2).1;omega
section
variable{w w1:World}{B n0 n c:Nat}{A:Option Addr}{b:TB}
def TB.addU2{L:List Ud}{vw vr vu:En}(h:b.told w B)(lt:∀k,b.ft k->k<n0)(hB:B<=n0)(o:Bu w n0 A n L)(o1:Bu w1 n0 A n L)(hn:n=L.length):(b.tellU A n L vw vr vu).told w B/\∀k,(b.tellU A n L vw vr vu).ft k->b.ft k\/(n0<=k/\k<w1.heap.size):=by
 have⟨k1,k2,k3⟩:=o.kinds hn;have⟨j1,j2,j3⟩:=o1.kinds hn;refine⟨⟨h.pw.add2 (λk hk=>lt k (.inl hk)) hB k1,h.pr.add2 (λk hk=>lt k (.inr (.inl hk))) hB k2,h.pc,h.pu.add2 (λk hk=>lt k (.inr (.inr (.inr hk)))) hB k3⟩,λk hk=>?_⟩;rcases hk with e|e|e|e
 ·rcases Mf e with e|⟨p,hp,e⟩
  ·exact .inl (.inl e)
  ·exact .inr ((j1.hold p hp).lt k e)
 ·rcases Mf e with e|⟨p,hp,e⟩
  ·exact .inl (.inr (.inl e))
  ·exact .inr ((j2.hold p hp).lt k e)
 ·exact .inl (.inr (.inr (.inl e)))
 ·rcases Mf e with e|⟨p,hp,e⟩
  ·exact .inl (.inr (.inr (.inr e)))
  ·exact .inr ((j3.hold p hp).lt k e)
def dY{L:List Ct}(o:Own w n0 154 2 A n c (Az L))(r:∀y∈L,RwO w y.A y.c y.l/\∀ad,y.A=some ad->n0<=ad.block/\blk A c≠some ad.block)(ap:Iz L):Cu w n0 204 4 (eC L)/\Cu w n0 154 2 [((⟨A,n,c⟩,Az L):En×List Value)]:=by
 refine⟨⟨λp hp=>?_,DV.2 ((DV.1 ap).imp λ{a b} q k e1 e2=>?_)⟩,⟨λp hp=>?_,BN _ _⟩⟩
 ·obtain⟨y,hy,rfl⟩:=AP.1 hp;exact Own.base (r y hy).1 (λk hk=>by
   have⟨ad,e1,e2⟩:=Gd hk;have:=((r y hy).2 ad e1).1;omega)
 ·have⟨a1,h1,h2⟩:=Gd e1;have⟨a2,h3,h4⟩:=Gd e2;exact q a1 a2 h1 h3 (by omega)
 ·rw[AE.1 hp];exact o
def TB.addC2{L:List Ct}{vr vc:En}(h:b.told w B)(lt:∀k,b.ft k->k<n0)(hB:B<=n0)(o:Own w n0 154 2 A n c (Az L))(r:∀y∈L,RwO w y.A y.c y.l/\∀ad,y.A=some ad->n0<=ad.block/\blk A c≠some ad.block)
  (o1:Own w1 n0 154 2 A n c (Az L)) (r1:∀y∈L,RwO w1 y.A y.c y.l/\∀ad,y.A=some ad->n0<=ad.block/\blk A c≠some ad.block) (ap:Iz L):(b.tellC A n c L vr vc).told w B/\∀k,(b.tellC A n c L vr vc).ft k->b.ft k\/(n0<=k/\k<w1.heap.size):=by
 have⟨k2,k3⟩:=dY o r ap;have⟨j2,j3⟩:=dY o1 r1 ap;refine⟨⟨h.pw,h.pr.add2 (λk hk=>lt k (.inr (.inl hk))) hB k2,h.pc.add2 (λk hk=>lt k (.inr (.inr (.inl hk)))) hB k3,h.pu⟩,λk hk=>?_⟩;rcases hk with e|e|e|e
 ·exact .inl (.inl e)
 ·rcases Mf e with e|⟨p,hp,e⟩
  ·exact .inl (.inr (.inl e))
  ·exact .inr ((j2.hold p hp).lt k e)
 ·rcases Mf e with e|⟨p,hp,e⟩
  ·exact .inl (.inr (.inr (.inl e)))
  ·exact .inr ((j3.hold p hp).lt k e)
 ·exact .inl (.inr (.inr (.inr e)))
end
section
variable{w0 w w' w1:World}{gt gr gb B lo n c:Nat}{KS KT G Q:Nat->Prop}{t:RTM}{v u:TrV}{b:TB}{all:List UV}{A:Option Addr}
def SdM.tellU{L:List Ud}{vw vr vu:En}(h:SdM w0 w gt gr gb KS KT G (Rng Q lo w1.heap.size) t v u b all B)(hf:∀k,b.ft k->k<lo)(hq:∀k,Q k->k<lo)(hB:w0.heap.size<=lo)(o1:Bu w1 lo A n L)(o:Bu w lo A n L)(hn:n=L.length)(y:Upd G w w')
  (bk:Bc w' gb (RN G w w') (b.Pw.map (·.1)++L.map enW) (b.Pr.map (·.1)++L.map enR) (b.Pc.map (·.1)) (b.Pu.map (·.1)++[⟨A,n,n⟩]) vw vr b.c_ vu):SdM w0 w' gt gr gb KS KT (RN G w w') Q t v u (b.tellU A n L vw vr vu) all B:=by
 have⟨k1,k2⟩:=TB.addU2 (vw:=vw) (vr:=vr) (vu:=vu) h.td hf hB o o1 hn;refine h.tell k1 k2 hq y ?_;show Bc w' gb (RN G w w') ((b.Pw++eW L).map (·.1)) ((b.Pr++eR L).map (·.1)) (b.Pc.map (·.1)) ((b.Pu++[((⟨A,n,n⟩,Ah L):En×List Value)]).map (·.1)) vw vr b.c_ vu;rw[AI,AI,AI,a2j,a2k];exact bk
def SdM.tellC{L:List Ct}{vr vc:En}(h:SdM w0 w gt gr gb KS KT G (Rng Q lo w1.heap.size) t v u b all B)(hf:∀k,b.ft k->k<lo)(hq:∀k,Q k->k<lo)(hB:w0.heap.size<=lo)(o1:Own w1 lo 154 2 A n c (Az L))(r1:∀y∈L,RwO w1 y.A y.c y.l/\∀ad,y.A=some ad->lo<=ad.block/\blk A c≠some ad.block)(x:Ext w1 w)(ap:Iz L)(y:Upd G w w')
  (bk:Bc w' gb (RN G w w') (b.Pw.map (·.1)) (b.Pr.map (·.1)++L.map enC) (b.Pc.map (·.1)++[⟨A,n,c⟩]) (b.Pu.map (·.1)) b.w_ vr vc b.u_):SdM w0 w' gt gr gb KS KT (RN G w w') Q t v u (b.tellC A n c L vr vc) all B:=by
 have⟨k1,k2⟩:=TB.addC2 (vr:=vr) (vc:=vc) h.td hf hB (o1.ext x) (λy hy=>⟨(r1 y hy).1.ext x,(r1 y hy).2⟩) o1 r1 ap;refine h.tell k1 k2 hq y ?_;show Bc w' gb (RN G w w') (b.Pw.map (·.1)) ((b.Pr++eC L).map (·.1)) ((b.Pc++[((⟨A,n,c⟩,Az L):En×List Value)]).map (·.1)) (b.Pu.map (·.1)) b.w_ vr vc b.u_;rw[AI,AI,a2l];exact bk
end
def zY:Gr prog 124 112 1 8 (.pointer none):=⟨by kernel_rfl,by kernel_rfl,rfl,by decide⟩
def QL(hA:Option Addr)(hc:Nat)(oA:Option Addr)(oc k:Nat):Prop:=blk hA hc=some k\/blk oA oc=some k
structure SdL (w0 w:World) (n:Nat) (hA:Option Addr) (hc:Nat) (oA:Option Addr) (oc:Nat) (v:TrV) (ps:List (Nat×Hv)):Prop where
 h:Own w w0.heap.size 112 1 hA n hc (v.hs.map λx=>Dw x.g)
 o:Own w w0.heap.size 132 1 oA n oc (ps.map λp=>Dw p.1)
 n:n=v.hs.length
section
variable{w0 w w':World}{n hc oc:Nat}{hA oA:Option Addr}{v v':TrV}{ps ps':List (Nat×Hv)}{S:Nat->Prop}
def SdL.upd(l:SdL w0 w n hA hc oA oc v ps)(u:Upd S w w')(hS:∀k,QL hA hc oA oc k->¬S k):SdL w0 w' n hA hc oA oc v ps :=
 ⟨l.h.upd u λk hk=>hS k (.inl hk),l.o.upd u λk hk=>hS k (.inr hk),l.n⟩
def SdL.ext(l:SdL w0 w n hA hc oA oc v ps)(x:Ext w w'):SdL w0 w' n hA hc oA oc v ps:=⟨l.h.ext x,l.o.ext x,l.n⟩
def a3m{H H':List Hv}(e:H'.map Hv.g=H.map Hv.g):(H'.map λx=>Dw x.g)=H.map λx=>Dw x.g:=by
 have:=congrArg (List.map Dw) e
 rwa [CO,CO]at this
def SdL.val(l:SdL w0 w n hA hc oA oc v ps)(e1:v'.hs.map Hv.g=v.hs.map Hv.g)(e2:ps'.map (·.1)=ps.map (·.1)):SdL w0 w n hA hc oA oc v' ps':=by
 have h2:(ps'.map λp=>Dw p.1)=ps.map λp=>Dw p.1:=by
  have:=congrArg (List.map Dw) e2
  rwa [CO,CO]at this
 have h3:=congrArg List.length e1;rw[AN,AN]at h3;exact⟨by rw[a3m e1];exact l.h,by rw[h2];exact l.o,by rw[h3];exact l.n⟩
def SdL.c1{a:Addr}{k:Nat}{x:Hv}(l:SdL w0 w n (some a) hc oA oc v ps)(hv:ps.map (·.2)=v.hs)(e:ps[k]?=some (g,x)):w.cell? (a.add k)=some (.pointer (some ⟨x.g,0,none⟩)):=by
 have hk:k<ps.length:=(List.getElem?_eq_some_iff.1 e).1;have hl:ps.length=n:=by rw[l.n,<-hv,AN]
 obtain⟨a1,e1,c1⟩:=l.h.sl.2.2.2.2 (by omega);cases e1;refine c1 k _ ?_;rw[<-hv,CO,CG,e];rfl
def SdL.c2{a:Addr}{k:Nat}{x:Hv}(l:SdL w0 w n hA hc (some a) oc v ps)(hv:ps.map (·.2)=v.hs)(e:ps[k]?=some (g,x)):w.cell? (a.add k)=some (.pointer (some ⟨g,0,none⟩)):=by
 have hk:k<ps.length:=(List.getElem?_eq_some_iff.1 e).1;have hl:ps.length=n:=by rw[l.n,<-hv,AN]
 obtain⟨a1,e1,c1⟩:=l.o.sl.2.2.2.2 (by omega);cases e1;refine c1 k _ ?_;rw[CG,e];rfl
def SdL.at(l:SdL w0 w n hA hc oA oc v ps)(hv:ps.map (·.2)=v.hs){k:Nat}(hk:k<n):∃a1 a2 g x,hA=some a1/\oA=some a2/\ps[k]?=some (g,x)/\(g,x)∈ps/\x∈v.hs:=by
 have hl:ps.length=n:=by rw[l.n,<-hv,AN]
 have a:k<ps.length:=by omega
 obtain⟨a1,e1,_⟩:=l.h.sl.2.2.2.2 (by omega);obtain⟨a2,e2,_⟩:=l.o.sl.2.2.2.2 (by omega);refine⟨a1,a2,(ps[k]'(by omega)).1,(ps[k]'(by omega)).2,e1,e2,AC a,BR a,?_⟩;rw[<-hv];exact AP.2 ⟨_,BR a,rfl⟩
end
structure SdS (w0 w:World) (gt gr gb N n B:Nat) (hA:Option Addr) (hc:Nat) (oA:Option Addr) (oc:Nat) (KS KT G Q:Nat->Prop) (t:RTM) (v:TrV) (b:TB) (all:List UV):Prop where
 d:SdM w0 w gt gr gb KS KT G Q t v v b all B
 l:SdL w0 w n hA hc oA oc v t.ps
 q:∀k,QL hA hc oA oc k->Q k
 f:b.few N
def SdK(w0 w:World)(gt gr gb N n B:Nat)(hA:Option Addr)(hc:Nat)(oA:Option Addr)(oc:Nat):Prop:=∃KS KT G Q t v b all,SdS w0 w gt gr gb N n B hA hc oA oc KS KT G Q t v b all
def Ce(M:List Hop)(i:Nat):Nat:=((M.take i).map λx=>x.L.length+1).sum
def bG(M:List Hop):Ce M 0=0:=by simp[Ce]
def Pv{M:List Hop}(h:i<M.length):Ce M (i+1)=Ce M i+((M.getD i Hop.zero).L.length+1):=by
 unfold Ce;rw[a1c h,AI,GA];simp
def kM(M:List Hop)(i:Nat):Ce M i<=Ce M M.length:=by
 have h:Ce M M.length=Ce M i+((M.drop i).map λx=>x.L.length+1).sum:=by
  unfold Ce;rw[<-GA,<-AI,CF,EP]
 omega
def a2g(M:List Hop):M.length<=Ce M M.length:=by
 unfold Ce;rw[EP];induction M with
 | nil=>exact AG _
 | cons a l ih=>rw[CJ,List.sum_cons,AJ];omega
def Nq(x:Hop):Nat:=x.L.length+Ox x.L x.L.length
def Jd(M:List Hop)(i:Nat):Nat:=((M.take i).map Nq).sum
def gK{M:List Hop}{k:Nat}(h:k<M.length):Jd M (k+1)=Jd M k+Nq (M.getD k Hop.zero):=by
 unfold Jd;rw[a1c h,AI,GA];simp
def Ou(M:List Hop):Bool:=decide (300<M.length+Jd M M.length)
def Tc(M:List Hop)(x:Hop)(i:Nat):Nat:=M.length+Jd M i+x.L.length
def Vg{M:List Hop}{x:Hop}(hi:i<M.length)(hx:M.getD i Hop.zero=x):M.length+Jd M (i+1)=Tc M x i+Ox x.L x.L.length:=by
 rw[gK hi,hx];unfold Tc Nq;omega
structure nB (M:List Hop):Prop where
 len:Ce M M.length<=300
 few:∀x∈M,∀y∈x.L,y.l.length<=5000/\y.t.l.length<=1300
def zS{M:List Hop}(h:Ou M=false):nB M:=by
 have h0:=of_decide_eq_false h;refine⟨?_,λx hx=>?_⟩
 ·have:∀l:List Hop,(l.map λx=>x.L.length+1).sum<=l.length+(l.map Nq).sum:=λl=>by
   induction l with
   | nil=>exact AD _
   | cons a l ih =>
    simp only[CJ,List.sum_cons,AJ];have:a.L.length<=Nq a:=by unfold Nq;omega
    omega
  have h1:=this M;unfold Ce;unfold Jd at h0;rw[EP]at h0 ⊢;omega
 ·have hc:Nq x<=Jd M M.length:=Up Nq hx;unfold Nq at hc;refine λy hy=>?_;have h2:Ss y<=Ox x.L x.L.length:=Up Ss hy;unfold Ss at h2;exact⟨by omega,by omega⟩
def nB.inU{M:List Hop}(h:nB M){x:Hop}(hx:x∈M)(hI:Oz x):∀y∈x.L,InU y:=λy hy =>
 (hI.u y hy).inU (AR (h.few x hx y hy).1 (by decide)) (AR (h.few x hx y hy).2 (by decide))
def nB.at{M:List Hop}(h:nB M){i:Nat}(hi:i<M.length):Ce M i+(M.getD i Hop.zero).L.length+1<=300:=by
 have h1:=Pv hi;have h2:=kM M (i+1);have:=h.len;omega
section
variable{w0 w w':World}{K:Nat->Prop}{g:Nat}{v:TrV}{all:List UV}{B:Nat}
def wK{q:Int×TrV}{L:List Ud}{u:Int}(h:Sho w0 w K g v all B)(hq:Hp v (L.map Ud.uv) u=q)(hn:n=L.length)(hin:∀x∈L,InU x)(hu:0<=u/\u<=18446744073709551615)(hB:B+n+1<=1000000)
  (r:(q.1≠0/\Sho w0 w' K g v all B)\/(q.1=0/\Sho w0 w' K g q.2 (all++L.map Ud.uv) (B+n+1)/\q.2.hs=v.hs/\v.up<=q.2.up/\∀x∈L.map Ud.uv,v.up<=x.1.2.1)):∃all',Sho w0 w' K g q.2 all' (B+n+1)/\q.2.hs=v.hs:=by
 rcases r with ⟨r1,r2⟩|⟨_,r2,r3,_⟩
 ·have k:=h.tt.ins (l:=L.map Ud.uv) (u:=u) (λx hx=>by obtain⟨y,hy,rfl⟩:=AP.1 hx;exact(hin y hy).uv) hu (by rw[AN,<-hn];exact hB);rw[hq]at k;rcases k with ⟨k1,_⟩|⟨k1,_⟩
  ·rw[k1];exact⟨all,r2.more (by omega),rfl⟩
  ·exact absurd k1 r1
 ·exact⟨_,r2,r3⟩
def ShR.live{t:ShM}(h:ShR w R g t):t.L.length=Np t.H:=by
 have p:(t.L.map Hd.g).Perm ((t.H.filter λx=>!x.ended).map Hv.g):=(List.perm_ext_iff_of_nodup h.pm.ng (h.nd.sublist (List.Sublist.map _ FW))).2 λa=>⟨λha=>by
  obtain⟨x,hx,rfl⟩:=AP.1 ha;have⟨y,hy,e1,e2⟩:=h.le x hx;rw[<-e1];exact AP.2 ⟨y,BI.2 ⟨hy,by rw[e2];rfl⟩,rfl⟩,λha=>by
  obtain⟨y,hy,rfl⟩:=AP.1 ha;have⟨h1,h2⟩:=BI.1 hy;obtain⟨x,hx,e⟩:=h.lh y h1 (by simpa using h2);rw[<-e];exact AP.2 ⟨x,hx,rfl⟩⟩
 have e:=p.length_eq;rw[AN,AN]at e;exact e
def cP(h:H0 (Sho w0 w K g v all B)):C3 91 #[.pointer (some ⟨g,0,none⟩)] w λe w'=>e=.returned (.int .i64 (Np v.hs))/\Ext w w':=by
 obtain⟨R,t,h1,rfl,_⟩:=h.o.r;have k:=iQ g t R w (j6 h1);rw[h1.live]at k;exact k
end
def dR{α:Type}{p q:α->Bool}(h:∀x,p x=true->q x=false):∀l:List α,(l.filter p).length+(l.filter q).length<=l.length
 | []=>AD _
 | a::l=>by
  have ih:=dR h l;cases hp:p a with
  | true =>
   rw[CR hp,CP (by rw[h a hp];decide)];simp only[AJ];omega
  | false =>
   rw[CP (by rw[hp];decide)];cases hq:q a with
   | true =>
    rw[CR hq];simp only[AJ];omega
   | false =>
    rw[CP (by rw[hq];decide)];simp only[AJ];omega
def vH(all:List UV)(b:Bool)(e:Int):(Kk all b e).length<=all.length:=by
 unfold Kk;rw[AA];cases b with
 | true =>
  rw[if_pos rfl,CB,BV];exact DB _ _
 | false =>
  rw[if_neg Bool.false_ne_true,if_neg Bool.false_ne_true];have h1:(bX (sumV (atV all (e,[]))) e).length<=(all.filter λv=>Fq v.1.2 (e,[])).length:=by
   unfold bX;rw[AN];refine AR (AR (DB _ _) (Ju _)) ?_;unfold atV;rw[AN];exact AD _
  have h2:=dR (p:=λv:UV=>Fq v.1.2 (e,[])) (q:=cB (e+1)) (λx hx=>by
   have:=((Hi _ _ _ _).1 hx).2.1;unfold cB;exact decide_eq_false (by omega)) all
  omega
def jY{t:TrV}{x:Hv}{all:List UV}(h:Bs t all B)(hx:x∈t.hs):(Cl t x).2.1.length<=B/\∀u∈(Cl t x).2.1,u.1.1.length<=1000000/\u.1.2.2.length<=1000000:=by
 have nil:([]:List UV).length<=B/\∀u∈([]:List UV),u.1.1.length<=1000000/\u.1.2.2.length<=1000000:=⟨AG _,λu hu=>(nomatch hu)⟩;unfold Cl;split
 ·exact nil
 ·split
  ·exact nil
  ·have a:=(h.ok.hs x hx).1;have g:=Pf (Mc h.ok.ok (b:=x.begun) (e:=x.seen) ⟨DJ a.1 a.2.1,a.2.2⟩);refine⟨AR (Gu _) (AR (vH _ _ _) h.all_len),λu hu=>⟨(g u hu).1.len,?_⟩⟩;rw[(g u hu).2.1];exact AG _
def pC(t:TrV)(x:Hv):(Cl t x).1=0\/(Cl t x).1=7:=by
 unfold Cl;split
 ·exact .inr rfl
 ·split
  ·exact .inl rfl
  ·exact .inl rfl
def lB(t:TrV)(n:Int):(Fw t n).1=0\/(Fw t n).1=120:=by
 unfold Fw;split
 ·exact .inr rfl
 ·exact .inl rfl
def gG(t:TrV)(x:Hv)(n:Int):((Bx t x n).1=0\/(Bx t x n).1=7\/(Bx t x n).1=120)/\(Bx t x n).2.hs.map Hv.g=t.hs.map Hv.g:=by
 unfold Bx;by_cases he:x.ended=true
 ·rw[if_pos he];exact⟨.inr (.inl rfl),rfl⟩
 ·rw[if_neg he];by_cases hr:n<x.hold\/(if x.begun=true then x.seen-1 else x.seen)<n
  ·rw[if_pos hr];exact⟨.inr (.inr rfl),rfl⟩
  ·rw[if_neg hr];exact⟨.inl rfl,Sz _ _⟩
def rG{t:TrV}{all:List UV}(h:Bs t all B)(n:Int):(0<=(atT t n).1/\(atT t n).1<=200)/\(atT t n).2.length<=B/\∀v∈(atT t n).2,v.1.length<=1000000:=by
 unfold atT;split
 ·exact⟨⟨(by decide),(by decide)⟩,AG _,λv hv=>(nomatch hv)⟩
 ·exact⟨a0k _ _,AR (eK h.ok.ok _).1 h.tl.nb,(eK h.ok.ok _).2⟩
def zI(t:TrV)(x:Hv):(Cl t x).2.2.2.g=x.g:=by
 unfold Cl;split
 ·rfl
 ·split
  ·rfl
  ·rfl
def a2n(t:TrV)(x:Hv):(Xf t x).hs.map Hv.g=t.hs.map Hv.g:=Sz _ _
section
variable{w0 w w':World}{KS KT:Nat->Prop}{gr hg:Nat}{t:RTM}{v:TrV}{n:Int}
def RTo.share{gh c:Nat}(h:RTr w0 w' KS (Rg KT w w') gr { t with A:=A,c:=c,ps:=t.ps++[(gh,Gi hg n)] } { v with hs:=v.hs++[Gi hg n] })(u:Upd KT w w'):RTo w0 w KS KT gr (t.ps++[(gh,Gi hg n)]) { v with hs:=v.hs++[Gi hg n] } w' :=
 ⟨_,KS,Rg KT w w',h,rfl,λk hk=>hk.elim (λa=>.inl (.inl a)) λa=>a.elim (λa=>.inl (.inr a)) .inr,u.mono λ_ _ hk=>.inr hk⟩
end
section
variable{w0 w w':World}{gt gr gb B B' N N' n hc oc:Nat}{KS KT G Q S:Nat->Prop}{t:RTM}{v u:TrV}{b:TB}{all:List UV}{hA oA:Option Addr}{ps:List (Nat×Hv)}
def a2a(h:SdM w0 w gt gr gb KS KT G Q t v u b all B)(f:b.few 100000):C3 29 #[.pointer (some ⟨gb,0,none⟩)] w λe w'=>e=.returned (.bool true)/\Upd (λk=>w0.heap.size<=k/\k<w.heap.size) w w':=a1w h.bk h.td (λk hk=>(h.tf k hk).2.1) h.sh.ext.size f
def SdM.more(h:SdM w0 w gt gr gb KS KT G Q t v u b all B)(hB:B<=B'):SdM w0 w gt gr gb KS KT G Q t v u b all B':=⟨h.sh.more hB,h.rt,h.bk,h.td,h.lk,h.lg,h.lq,h.kg,h.gq,h.tf⟩
def SdK.mk(d:SdM w0 w gt gr gb KS KT G Q t v v b all B)(l:SdL w0 w n hA hc oA oc v t.ps)(q:∀k,QL hA hc oA oc k->Q k)(f:b.few N)(hB:B<=B')(hN:N<=N'):SdK w0 w gt gr gb N' n B' hA hc oA oc:=⟨KS,KT,G,Q,t,v,b,all,d.more hB,l,q,f.up hN⟩
def SdL.stepP(l:SdL w0 w n hA hc oA oc v ps)(k:Kp w0 (Oth KS KT G Q b) w w')(hq:∀k,QL hA hc oA oc k->Q k):SdL w0 w' n hA hc oA oc v ps :=
 l.upd (show Upd (λq=>w0.heap.size<=q/\¬Oth KS KT G Q b q) w w' from k) λq hk e=>e.2 (.inr (.inr (.inl (hq q hk))))
def SdL.stepD(l:SdL w0 w n hA hc oA oc v ps)(y:Upd (λk=>KS k\/KT k) w w')(hn:∀k,KS k\/KT k->¬Q k)(hq:∀k,QL hA hc oA oc k->Q k):SdL w0 w' n hA hc oA oc v ps :=
 l.upd y λq hk e=>hn q e (hq q hk)
def SdL.push{x:Hv}(l:SdL w0 w n hA hc oA oc v ps)(o5:Own w6 w0.heap.size 112 1 A5 (n+1) c5 ((v.hs.map λx=>Dw x.g)++[Dw x.g]))(o6:Own w6 w0.heap.size 132 1 A6 (n+1) c6 ((ps.map λp=>Dw p.1)++[Dw o2])):SdL w0 w6 (n+1) A5 c5 A6 c6 { v with hs:=v.hs++[x] } (ps++[(o2,x)]):=by
 refine⟨?_,?_,?_⟩
 ·show Own _ _ _ _ _ _ _ ((v.hs++[x]).map λx=>Dw x.g);rw[AI];exact o5
 ·rw[AI];exact o6
 ·show n+1=(v.hs++[x]).length;rw[AA,<-l.n];rfl
def uG(s:Sho w0 v3 (λ_=>False) gt Wb [] 0)(x:Ext v3 v5)(r:RTr w0 v5 KS KT gr t Wb)(hp:t.ps=[])(sub:∀k,KS k\/KT k->v3.heap.size<=k/\k<v5.heap.size)(y:Ext v5 w)(hg:gb=v5.heap.size)
  (bk:Bk w gb 52 #[.slice none 0 0,.slice none 0 0,.slice none 0 0,.slice none 0 0,.slice none 0 0,.slice none 0 0,.slice none 0 0,.slice none 0 0,.slice none 0 0,.slice none 0 0,.slice none 0 0,.slice none 0 0,.slice none 0 0,.slice none 0 0]):SdK w0 w gt gr gb 0 0 0 none 0 none 0:=by
 have z0:=s.ext.size;have z1:=x.size;have z2:=y.size;have hl:=bk.lt;have nf:∀k,¬TB.nil.ft k:=λk hk=>by
  have:=TB.told_lt (b:=TB.nil) (Qv.nil w w.heap.size) hk;omega
 refine⟨KS,KT,λk=>k=gb,λ_=>False,t,Wb,TB.nil,[],⟨s.wider ((s.ext.trans x).trans y) (Upd.ext (S:=λ_=>False) (x.trans y)) (λ_ e=>e.elim) (λk hk=>.inr ?_),r.ext y,rF bk rfl,Qv.nil _ _,λk hk=>?_,λk hk=>?_,λk hk=>hk.elim,λk hk=>⟨λe=>?_,λe=>e⟩,λk _ e=>e,λk hk=>absurd hk (nf k)⟩,⟨Own.nil _ _ _ _,?_,rfl⟩,λk hk=>hk.elim (λe=>nomatch e) (λe=>nomatch e),zW⟩
 ·rcases hk with e|e|e|e
  ·have:=sub k e;omega
  ·exact⟨by rw[show k=gb from e];omega,by rw[show k=gb from e];exact hl⟩
  ·exact e.elim
  ·exact absurd e (nf k)
 ·have:=sub k hk;omega
 ·exact⟨by rw[show k=gb from hk];omega,by rw[show k=gb from hk];exact hl⟩
 ·have:=sub k hk;rw[show k=gb from e]at this;omega
 ·rw[hp];exact Own.nil _ _ _ _
end
def gY(n:Int):Dat:=⟨3,false,n,⟨#[]⟩⟩
def a4a(n e d:Int)(w:World)(r:Ending)(w':World):Prop:=∃g,r=.returned (.agg #[.slice (some ⟨g,0,none⟩) 1 1,.int .u64 e,.slice none 0 0,.int .i64 d])/\w.heap.size<=g/\Own w' w.heap.size 204 4 (some ⟨g,0,none⟩) 1 1 (Dd [gY n])/\Ext w w'
def kup(g:Nat)(n e d:Int):Ud:=⟨some ⟨g,0,none⟩,1,[gY n],⟨e,none,0,[]⟩,d⟩
def Wz{n:Int}(e d:Int)(o:Own w B 204 4 (some ⟨g,0,none⟩) 1 1 (Dd [gY n]))(x:Ext w w'):UdR w' (kup g n e d):=⟨o.sl.ext x,Sl.nil _ _⟩
def sQ(g:Nat){n e d:Int}(hn:0<=n/\n<=100)(he:0<=e/\e<=100)(hd : -100<=d/\d<=100):InU (kup g n e d):=by
 refine⟨⟨λx hx=>?_,λx hx=>?_,⟨by show _<=d;omega,by show d<=_;omega⟩,by show 1<=_;omega⟩,λx hx=>(nomatch hx),by show 0<=_;omega,⟨he.1,by show e<=_;omega⟩⟩
 ·rw[AE.1 (show x∈[gY n]from hx)];show(0:Nat)<=_;omega
 ·rw[AE.1 (show x∈[gY n]from hx)];show _<=n/\n<=_;omega
def Ip(n e d:Int)(w:World) :
  C3 171 #[.int .i64 n,.int .u64 e,.int .i64 d] w (a4a n e d w):=by
 go_enter func171,ntmps171;go_wp2;have⟨w1,a⟩:=E9 ((w.alloc (.cells #[.slice (some ⟨w.heap.size+1,0,none⟩) 1 1,.int .u64 e,.slice none 0 0,.int .i64 d] 95)).alloc (.cells #[.int .u8 3,.bool false,.int .i64 n,.string ⟨#[]⟩] 204));have b1:Bk w1 w.heap.size 95 #[.slice (some ⟨w.heap.size+1,0,none⟩) 1 1,.int .u64 e,.slice none 0 0,.int .i64 d]:=by rw[a];exact(Bk.new _ _ _).alloc _
 have c1:Bk w1 (w.heap.size+1) 204 #[.int .u8 3,.bool false,.int .i64 n,.string ⟨#[]⟩]:=by rw[a];exact Bk.at (by simp)
 have x1:Ext w w1:=by rw[a];exact((Ext.refl w).alloc _).alloc _
 have o1:Own w1 w.heap.size 204 4 (some ⟨w.heap.size+1,0,none⟩) 1 1 (Dd [gY n]):=⟨rfl,.inr ⟨w.heap.size+1,#[.int .u8 3,.bool false,.int .i64 n,.string ⟨#[]⟩],rfl,by omega,c1,AD _,by unfold maxLen;omega,AD _,rfl⟩⟩;have q0:=b1.cell 0;have q1:=b1.cell 1;have q2:=b1.cell 2;have q3:=b1.cell 3;simp at q0 q1 q2 q3;rw[<-a];clear a;refine bodyPost_ret (v:=.agg #[.slice (some ⟨w.heap.size+1,0,none⟩) 1 1,.int .u64 e,.slice none 0 0,.int .i64 d]) (by simp[results,Tryz.results171,go_sem,q0,q1,q2,q3]) rfl ⟨w.heap.size+1,rfl,by omega,o1,x1⟩
structure Ukp (w:World) (K:Nat->Prop) (A:Option Addr) (c:Nat) (L:List Ud):Prop where
 u:∃B,Bu w B A c L
 k:∀k,Zc A c L k->K k
section
variable{w0 w w':World}{K K':Nat->Prop}{A:Option Addr}{c:Nat}{L:List Ud}
def Ukp.ext(h:Ukp w K A c L)(x:Ext w w'):Ukp w' K A c L:=by
 have⟨B,u⟩:=h.u;exact⟨⟨B,u.ext x⟩,h.k⟩
def Ukp.kp(h:Ukp w K A c L)(x:Kp w0 K w w'):Ukp w' K A c L:=by
 have⟨B,u⟩:=h.u;exact⟨⟨B,u.updB x λk hk q=>q.2 (h.k k hk)⟩,h.k⟩
def Ukp.wide(h:Ukp w K A c L)(hK:∀k,K k->K' k):Ukp w K' A c L:=⟨h.u,λk hk=>hK k (h.k k hk)⟩
def Ukp.uin(h:Ukp w K A c L):Uin w A c L:=by
 have⟨B,u⟩:=h.u;exact u.uin
def Ukp.new(u:Bu w' w.heap.size A c L):Ukp w' (λk=>w.heap.size<=k/\k<w'.heap.size) A c L:=⟨⟨_,u⟩,λ_ hk=>u.lt hk⟩
def a0a{U:List V}{e:Ending}(h:Ly w U e w'):Ext w w':=by
 obtain⟨A,m,c,R,_,_,_,_,_,_,x⟩:=h;exact x
def lP{s:SV}{l:Int}{H H':List Hv}{all:List UV}(h:Sho w0 w K g ⟨s,l,H⟩ all B)(e:H=H'):Sho w0 w K g ⟨s,l,H'⟩ all B:=e▸h
def sL{X Y:Prop}(h:(q0≠0/\X)\/(q0=0/\Y))(e:q0=0):Y:=h.elim (λq=>absurd e q.1) λq=>q.2
end
def kuw(n e d:Int):UV:=(([gY n],(e,[])),d)
def xY:SV:=⟨[[kuw 1 0 1,kuw 2 1 1]],none,[(0,[])],[(2,[])]⟩
def rP:SV:=⟨[[kuw 1 0 1,kuw 2 1 1]],none,[(1,[])],[(2,[])]⟩
def Yy:SV:=⟨[[kuw 1 0 1,kuw 2 1 1],[kuw 1 3 (-1)]],none,[(1,[])],[(4,[])]⟩
def xX:SV:=⟨[[kuw 1 0 1,kuw 2 1 1],[kuw 1 3 (-1)]],none,[(2,[])],[(4,[])]⟩
def wJ(a b:Nat):Hp Wb ([kup a 1 0 1,kup b 2 1 1].map Ud.uv) 2=(0,⟨xY,0,[]⟩):=by kernel_rfl
def kH:¬(1:Int)<(⟨xY,0,[]⟩:TrV).least:=by
 have e:(⟨xY,0,[]⟩:TrV).least=0:=by kernel_rfl
 omega
def qE(g:Nat):Fw ⟨xY,0,[⟨g,1,1,false,false⟩]⟩ 2=(0,⟨rP,2,[⟨g,1,1,false,false⟩]⟩):=by kernel_rfl
def qB(g:Nat):(⟨rP,2,[⟨g,1,1,false,false⟩]⟩:TrV).least=1:=by kernel_rfl
def qD(g:Nat):Cl ⟨rP,2,[⟨g,1,1,false,false⟩]⟩ ⟨g,1,1,false,false⟩=(0,[kuw 1 1 1,kuw 2 1 1],2,⟨g,1,2,true,false⟩):=by kernel_rfl
def Zu(g:Nat)(a b c d:Int)(p q r s:Bool):Bl [⟨g,a,b,p,q⟩] ⟨g,c,d,r,s⟩=[⟨g,c,d,r,s⟩]:=by simp[Bl]
def wI(g a:Nat):Hp ⟨rP,2,[⟨g,1,2,true,false⟩]⟩ ([kup a 1 3 (-1)].map Ud.uv) 4=(0,⟨Yy,2,[⟨g,1,2,true,false⟩]⟩):=by kernel_rfl
def qC(g:Nat):Cl ⟨Yy,2,[⟨g,1,2,true,false⟩]⟩ ⟨g,1,2,true,false⟩=(0,[kuw 1 3 (-1)],4,⟨g,1,4,true,false⟩):=by kernel_rfl
def gC(g:Nat):Bx ⟨Yy,2,[⟨g,1,4,true,false⟩]⟩ ⟨g,1,4,true,false⟩ 4=(120,⟨Yy,2,[⟨g,1,4,true,false⟩]⟩):=by kernel_rfl
def gD(g:Nat):Bx ⟨Yy,2,[⟨g,1,4,true,false⟩]⟩ ⟨g,1,4,true,false⟩ 3=(0,⟨xX,2,[⟨g,3,4,true,false⟩]⟩):=by
 have e:Bx ⟨Yy,2,[⟨g,1,4,true,false⟩]⟩ ⟨g,1,4,true,false⟩ 3=(0,Aj ⟨Yy,2,Bl [⟨g,1,4,true,false⟩] ⟨g,3,4,true,false⟩⟩):=by kernel_rfl
 have e2:Aj ⟨Yy,2,[⟨g,3,4,true,false⟩]⟩=⟨xX,2,[⟨g,3,4,true,false⟩]⟩:=by kernel_rfl
 rw[e,Zu,e2]
def a2f(g:Nat):atT ⟨xX,2,[⟨g,3,4,true,false⟩]⟩ 1=(121,[]):=by kernel_rfl
def kG(g:Nat):(⟨xX,2,[⟨g,3,4,true,false⟩]⟩:TrV).least=2:=by kernel_rfl
def zP(a b:Nat):∀x∈[kup a 1 0 1,kup b 2 1 1],InU x:=λx hx=>by
 simp only[AY,DA,or_false]at hx;rcases hx with rfl|rfl<;>exact sQ _ (by omega) (by omega) (by omega)
def zO(a:Nat):∀x∈[kup a 1 3 (-1)],InU x:=λx hx=>by rw[AE.1 hx];exact sQ _ (by omega) (by omega) (by omega)
def gB(w:World)(G:Good w) :
  C3 69 #[] w λe w'=>e=.returned (.bool true)/\Ext w w':=by
 have p1:=TI;go_enter func69,ntmps69;go_wp2_with (first
  | (go_at_call 70;clear p1;refine(lQ w _ (λ_=>False) (j6 (Ext.refl _)) (j6 (λk hk=>hk.elim))).mono ?_;rintro r v1 ⟨gt,rfl,s1,x1⟩;have S1:=j6 s1;clear s1 x1;have p2:=TI)
  | (go_at_call 171;clear p2;refine(Ip (1) (0) (1) _).mono ?_;rintro r v2 ⟨g2,rfl,b2,o2,x2⟩;have S2:=j6 (S1.o.grow x2);have O2:=j6 o2;clear o2 x2 b2;have p3:=TI)
  | (go_at_call 171;clear p3;refine(Ip (2) (1) (1) _).mono ?_;rintro r v3 ⟨g3,rfl,b3,o3,x3⟩;have S3:=j6 (S2.o.grow x3);have O2:=j6 (O2.o.ext x3);have O3:=j6 o3;clear o3 x3 b3;have p4:=TI)
  | (go_at_call 71;clear p4;have XA:H0 (Ext v3 (v3.alloc (.cells #[.slice (some ⟨g2,0,none⟩) 1 1,.int .u64 0,.slice none 0 0,.int .i64 1,.slice (some ⟨g3,0,none⟩) 1 1,.int .u64 1,.slice none 0 0,.int .i64 1] 95))):=j6 ((Ext.refl _).alloc _);have SA:=j6 (S3.o.grow XA.o);have HU:H0 (Uin (v3.alloc (.cells #[.slice (some ⟨g2,0,none⟩) 1 1,.int .u64 0,.slice none 0 0,.int .i64 1,.slice (some ⟨g3,0,none⟩) 1 1,.int .u64 1,.slice none 0 0,.int .i64 1] 95)) (some ⟨v3.heap.size,0,none⟩) 2 [kup g2 1 0 1,kup g3 2 1 1]):=j6 ⟨Hq v3 95 #[.slice (some ⟨g2,0,none⟩) 1 1,.int .u64 0,.slice none 0 0,.int .i64 1,.slice (some ⟨g3,0,none⟩) 1 1,.int .u64 1,.slice none 0 0,.int .i64 1] (Ah [kup g2 1 0 1,kup g3 2 1 1]) 4 2 rfl rfl (by decide),λx hx=>by simp only[AY,DA,or_false]at hx;rcases hx with rfl|rfl;(exact Wz _ _ O2.o XA.o);(exact Wz _ _ O3.o XA.o)⟩;refine(Zl (some ⟨v3.heap.size,0,none⟩) 2 2 [kup g2 1 0 1,kup g3 2 1 1] 2 SA (j6 (wJ g2 g3)) (j6 rfl) HU (j6 (zP g2 g3)) (j6 (by decide)) (j6 (by decide)) (j6 (G.ext SA.o.ext))).mono ?_;rintro r v4 ⟨rfl,k4,h4⟩;have S4:=j6 (sL h4 rfl).1;clear k4 h4 SA HU XA;have p5:=TI)
  | (go_at_call 74;clear p5;refine(Qi 1 S4 (by decide)).mono ?_;rintro r v5 ⟨k5,l⟩;replace l:=l.resolve_left (λq=>kH q.1);obtain⟨_,gh,b5,rfl,s5⟩:=l;have S5:=j6 s5;clear s5 k5 b5;have p6:=TI)
  | (go_at_call 73;clear p6;refine(Xq 2 (j6 (qE gh)) S5 (by decide)).mono ?_;rintro r v6 ⟨rfl,k6,s6,e6,f6⟩;have S6:=j6 s6;clear s6 k6 e6 f6;have p7:=TI)
  | (go_at_call 87;clear p7;refine(Na 1 (j6 (qB gh)) S6).mono ?_;rintro r v7 ⟨rfl,x7⟩;have S7:=j6 (S6.o.grow x7);clear x7;have p8:=TI)
  | (go_at_call 75;clear p8;refine(Tg gh (j6 rfl) (j6 (qD gh)) S7 (j6 (by simp)) (j6 (by decide)) (j6 (G.ext S7.o.ext))).mono ?_;rintro r v8 ⟨A8,n8,Q8,rfl,E,u8,e8,k8,f8⟩;have S8:H0 (Sho w v8 (λk=>v7.heap.size<=k/\k<v8.heap.size) gt ⟨rP,2,[⟨gh,1,2,true,false⟩]⟩ _ _):=j6 (lP (f8 _ (λk hk=>.inr hk)) (Zu gh 1 1 1 2 false false true false));have L:=j6 E;rw[E]at u8;have Za:H0 (Ukp v8 (λk=>v7.heap.size<=k/\k<v8.heap.size) A8 Q8.length Q8):=j6 (Ukp.wide (Ukp.new u8) (λk hk=>hk));have Ea:=j6 e8;clear E u8 e8 k8 f8;have p9:=TI)
  | (go_at_call 171;clear p9;refine(Ip (1) (3) ((-1)) _).mono ?_;rintro r v9 ⟨g9,rfl,b9,o9,x9⟩;have S9:=j6 (S8.o.grow x9);have Za:=j6 (Za.o.ext x9);have O9:=j6 o9;clear o9 x9 b9;have a0:=TI)
  | (go_at_call 71;clear a0;have XA:H0 (Ext v9 (v9.alloc (.cells #[.slice (some ⟨g9,0,none⟩) 1 1,.int .u64 3,.slice none 0 0,.int .i64 (-1)] 95))):=j6 ((Ext.refl _).alloc _);have SA:=j6 (S9.o.grow XA.o);have HU:H0 (Uin (v9.alloc (.cells #[.slice (some ⟨g9,0,none⟩) 1 1,.int .u64 3,.slice none 0 0,.int .i64 (-1)] 95)) (some ⟨v9.heap.size,0,none⟩) 1 [kup g9 1 3 (-1)]):=j6 ⟨Hq v9 95 #[.slice (some ⟨g9,0,none⟩) 1 1,.int .u64 3,.slice none 0 0,.int .i64 (-1)] (Ah [kup g9 1 3 (-1)]) 4 1 rfl rfl (by decide),λx hx=>by simp only[AY,DA,or_false]at hx;subst hx;exact Wz _ _ O9.o XA.o⟩;have Za:=j6 (Za.o.ext XA.o);refine(Zl (some ⟨v9.heap.size,0,none⟩) 1 1 [kup g9 1 3 (-1)] 4 SA (j6 (wI gh g9)) (j6 rfl) HU (j6 (zO g9)) (j6 (by decide)) (j6 (by decide)) (j6 (G.ext SA.o.ext))).mono ?_;rintro r J ⟨rfl,T,S⟩;have N:=j6 (sL S rfl).1;have Za:=j6 (Za.o.kp T);clear T S SA HU XA;have a1:=TI)
  | (go_at_call 75;clear a1;refine(Tg gh (j6 rfl) (j6 (qC gh)) N (j6 (by simp)) (j6 (by decide)) (j6 (G.ext N.o.ext))).mono ?_;rintro r h ⟨K,W,C,rfl,j,I,Q,U,R⟩;have b8:H0 (Sho w h (λk=>(v7.heap.size<=k/\k<v8.heap.size)\/(J.heap.size<=k/\k<h.heap.size)) gt ⟨Yy,2,[⟨gh,1,4,true,false⟩]⟩ _ _):=j6 (lP (R _ (λk hk=>hk)) (Zu gh 1 2 1 4 true false true false));have Za:=j6 ((Za.o.kp U).wide (K':=(λk=>(v7.heap.size<=k/\k<v8.heap.size)\/(J.heap.size<=k/\k<h.heap.size))) (λk hk=>.inl hk));have M:=j6 j;rw[j]at I;have Zb:H0 (Ukp h (λk=>(v7.heap.size<=k/\k<v8.heap.size)\/(J.heap.size<=k/\k<h.heap.size)) K C.length C):=j6 (Ukp.wide (Ukp.new I) (λk hk=>.inr hk));have Eb:=j6 Q;clear j I Q U R;have a2:=TI)
  | (go_at_call 76;clear a2;refine(Og gh 4 (j6 rfl) (j6 (gC gh)) b8 (j6 (by simp)) (by decide)).mono ?_;rintro r d8 ⟨rfl,F,b1,d2⟩;have c0:=j6 b1;have Za:=j6 (Za.o.kp F);have Zb:=j6 (Zb.o.kp F);clear b1 F d2;have a3:=TI)
  | (go_at_call 76;clear a3;refine(Og gh 3 (j6 rfl) (j6 (gD gh)) c0 (j6 (by simp)) (by decide)).mono ?_;rintro r d9 ⟨rfl,H,b4,d3⟩;have D:=j6 b4;have Za:=j6 (Za.o.kp H);have Zb:=j6 (Zb.o.kp H);clear b4 H d3;have a4:=TI)
  | (go_at_call 80;clear a4;refine(sG 1 (j6 (a2f gh)) D (j6 (G.ext D.o.ext))).mono ?_;rintro r e0 ⟨d4,d6,d5,rfl,P⟩;have m:=a0a P;have O:=j6 (D.o.grow m);have Za:=j6 (Za.o.ext m);have Zb:=j6 (Zb.o.ext m);clear m P;have a5:=TI)
  | (go_at_call 87;clear a5;refine(Na 2 (j6 (kG gh)) O).mono ?_;rintro r e1 ⟨rfl,n⟩;have c3:=j6 (O.o.grow n);have Za:=j6 (Za.o.ext n);have Zb:=j6 (Zb.o.ext n);clear n;have a6:=TI)
  | (go_at_call 171;clear a6;refine(Ip (1) (1) (1) _).mono ?_;rintro r e2 ⟨a,rfl,c9,X,t⟩;have c4:=j6 (c3.o.grow t);have Za:=j6 (Za.o.ext t);have Zb:=j6 (Zb.o.ext t);have B:=j6 X;clear X t c9;have a7:=TI)
  | (go_at_call 171;clear a7;refine(Ip (2) (1) (1) _).mono ?_;rintro r f ⟨c,rfl,d0,Y,i⟩;have c5:=j6 (c4.o.grow i);have Za:=j6 (Za.o.ext i);have Zb:=j6 (Zb.o.ext i);have B:=j6 (B.o.ext i);have b6:=j6 Y;clear Y i d0;have a8:=TI)
  | (go_at_call 23;clear a8;have XA:H0 (Ext f (f.alloc (.cells #[.slice (some ⟨a,0,none⟩) 1 1,.int .u64 1,.slice none 0 0,.int .i64 1,.slice (some ⟨c,0,none⟩) 1 1,.int .u64 1,.slice none 0 0,.int .i64 1] 95))):=j6 ((Ext.refl _).alloc _);have SA:=j6 (c5.o.grow XA.o);have HU:H0 (Uin (f.alloc (.cells #[.slice (some ⟨a,0,none⟩) 1 1,.int .u64 1,.slice none 0 0,.int .i64 1,.slice (some ⟨c,0,none⟩) 1 1,.int .u64 1,.slice none 0 0,.int .i64 1] 95)) (some ⟨f.heap.size,0,none⟩) 2 [kup a 1 1 1,kup c 2 1 1]):=j6 ⟨Hq f 95 #[.slice (some ⟨a,0,none⟩) 1 1,.int .u64 1,.slice none 0 0,.int .i64 1,.slice (some ⟨c,0,none⟩) 1 1,.int .u64 1,.slice none 0 0,.int .i64 1] (Ah [kup a 1 1 1,kup c 2 1 1]) 4 2 rfl rfl (by decide),λx hx=>by simp only[AY,DA,or_false]at hx;rcases hx with rfl|rfl;(exact Wz _ _ B.o XA.o);(exact Wz _ _ b6.o XA.o)⟩;have Za:=j6 (Za.o.ext XA.o);have Zb:=j6 (Zb.o.ext XA.o);refine(Mn A8 (some ⟨f.heap.size,0,none⟩) n8 2 n8 2 Q8 [kup a 1 1 1,kup c 2 1 1] _ L (j6 rfl) (j6 (by rw[L.o];exact Za.o.uin)) HU (j6 (Ea.o.trans rfl))).mono ?_;rintro r e3 ⟨rfl,y⟩;have c6:=j6 (SA.o.grow y);have Za:=j6 (Za.o.ext y);have Zb:=j6 (Zb.o.ext y);clear y XA HU SA;have a9:=TI)
  | (go_at_call 171;clear a9;refine(Ip (1) (3) ((-1)) _).mono ?_;rintro r g ⟨d,rfl,d1,Z,z⟩;have c7:=j6 (c6.o.grow z);have Za:=j6 (Za.o.ext z);have Zb:=j6 (Zb.o.ext z);have b7:=j6 Z;clear Z z d1;have b0:=TI)
  | (go_at_call 23;clear b0;have XA:H0 (Ext g (g.alloc (.cells #[.slice (some ⟨d,0,none⟩) 1 1,.int .u64 3,.slice none 0 0,.int .i64 (-1)] 95))):=j6 ((Ext.refl _).alloc _);have SA:=j6 (c7.o.grow XA.o);have HU:H0 (Uin (g.alloc (.cells #[.slice (some ⟨d,0,none⟩) 1 1,.int .u64 3,.slice none 0 0,.int .i64 (-1)] 95)) (some ⟨g.heap.size,0,none⟩) 1 [kup d 1 3 (-1)]):=j6 ⟨Hq g 95 #[.slice (some ⟨d,0,none⟩) 1 1,.int .u64 3,.slice none 0 0,.int .i64 (-1)] (Ah [kup d 1 3 (-1)]) 4 1 rfl rfl (by decide),λx hx=>by simp only[AY,DA,or_false]at hx;subst hx;exact Wz _ _ b7.o XA.o⟩;have Za:=j6 (Za.o.ext XA.o);have Zb:=j6 (Zb.o.ext XA.o);refine(Mn K (some ⟨g.heap.size,0,none⟩) W 1 W 1 C [kup d 1 3 (-1)] _ M (j6 rfl) (j6 (by rw[M.o];exact Zb.o.uin)) HU (j6 (Eb.o.trans rfl))).mono ?_;rintro r e4 ⟨rfl,A⟩;have c8:=j6 (SA.o.grow A);have Za:=j6 (Za.o.ext A);have Zb:=j6 (Zb.o.ext A);clear A XA HU SA;have d7:=TI)
  | fail)
 go_ret;exact⟨rfl,c8.o.ext⟩
def jZ(A:Option Addr)(c n:Nat)(M:List Hop)(w:World)(hn:H0 (n=M.length))(hM:H0 (Hin w A c M))(hb:H0 (∀x∈M,x.L.length<=1048576)) :
  C3 68 #[.slice A n c] w λe w'=>e=.returned (.bool (Ou M))/\Ext w w':=by
 have⟨b,m⟩:=tz (Ou M);rw[m];replace m:=j6 m;have O:n<=9223372036854775807:=by rw[hn.o];exact hM.o.sl.le
 go_enter func68,ntmps68;go_wp2
 go_loopg [3,4] n (λz v3 v4 wr=>∃(i N:Nat),z=n-i/\i<=n/\v4=.int .i64 i/\v3=.int .i64 N/\(N<=300\/N<=9223372036854775807)/\H0 (Ot (M.length+Jd M i) N)/\H0 (Ext w wr))
 case atStart=>exact⟨0,n,rfl,AG _,rfl,rfl,.inr O,j6 (by rw[hn.o];exact Ot.rfl' _),j6 (Ext.refl _)⟩
 case round =>
  obtain⟨i,N,rfl,hi,rfl,rfl,hN,HC,HE⟩:=hrel;by_cases hlt:i<n
  ·by_cases h300:N<=300
   ·have g:i<M.length:=by rw[<-hn.o];exact hlt
    have H:=j6 g;have⟨x,hx⟩:=tz (M.getD i Hop.zero);have E:x∈M:=hx▸dL g;obtain⟨ad,rfl,_,q1,_⟩:=(hM.o.ext HE.o).at g hx;have R:H0 (Uin wr x.A x.c x.L):=j6 ((hM.o.ls x E).ext HE.o);have Y:=hb.o x E;have HX:=j6 hx;have⟨nL,q⟩:=tz x.L.length;rw[q]at q1 Y;have h:=j6 q;clear q hx E g;have⟨xA,C⟩:=tz x.A;have⟨xc,D⟩:=tz x.c;rw[C,D]at q1;have HU:H0 (Uin wr xA xc x.L):=j6 (by rw[<-C,<-D];exact R.o);clear C D;obtain⟨wo,B⟩:∃wo:World,wo=wr:=⟨_,rfl⟩;have XO:H0 (Ext wr wo):=j6 (B▸Ext.refl _);have D1:H0 (∀W,Ext wo W->W.cell? ⟨(ad.add (i*5)).block,(ad.add (i*5)).off+1,none⟩=some (.slice xA nL xc)):=j6 (λW y=>(XO.o.trans y).cell q1);have q1:=D1.o wo (Ext.refl _);rw[<-B];clear B;have⟨N1,j⟩:=E9 (N+nL);have I:H0 (Ot (Tc M x i+Ox x.L 0) N1):=j6 (HC.o.add (d:=nL) (by unfold Tc;rw[h.o];rfl) j);have Z:N1<=1000000000000000000:=by omega
    have a0:((N1:Nat):Int)=(N:Int)+(nL:Int):=by omega
    replace j:=j6 j;go_wp2
    go_loopg [3,5] nL (λz v3 v5 wq=>∃(k N2:Nat),z=nL-k/\k<=nL/\v5=.int .i64 k/\v3=.int .i64 N2/\N2<=4611686018427387904/\H0 (Ot (Tc M x i+Ox x.L k) N2)/\H0 (Ext wo wq))
    case atStart=>exact⟨0,N1,rfl,AG _,rfl,by have:=j.o;go_num,by omega,I,j6 (Ext.refl _)⟩
    case round =>
     clear I q1;obtain⟨k,N2,rfl,hk,rfl,rfl,a1,HJ,HQ⟩:=hrel;have q1:=D1.o _ HQ.o;by_cases hlk:k<nL
     ·by_cases h302:N2<=300
      ·have a:k<x.L.length:=by rw[h.o];exact hlk
       have P:=j6 a;have⟨f,e2,r0,_,r2,_⟩:=(HU.o.ext (XO.o.trans HQ.o)).at a;subst e2;have J:=(HU.o.ls _ (As a)).r.cap;have K:=(HU.o.ls _ (As a)).t.cap;have⟨y,hy⟩:=tz (x.L.getD k Ud.zero);rw[hy]at r0 r2 J K;have HY:=j6 hy;have⟨yr,F⟩:=tz y.l.length;have⟨yt,G⟩:=tz y.t.l.length;rw[F]at r0 J;rw[G]at r2 K;have S:=j6 F;have T:=j6 G;clear hy F G a;have X:Ext wr wr.drew:=(Ext.refl wr).drew;have Q1:∀z:Xt wr.drew,z.W.cell? ⟨(ad.add (i*5)).block,(ad.add (i*5)).off+1,none⟩=some (.slice (some f) nL xc):=λz=>(X.trans z.x).cell q1;have R0:∀z:Xt wr.drew,z.W.cell? (f.add (k*4))=some (.slice y.A yr y.c):=λz=>(X.trans z.x).cell r0;have R2:∀z:Xt wr.drew,z.W.cell? ⟨(f.add (k*4)).block,(f.add (k*4)).off+2,none⟩=some (.slice y.t.A yt y.t.c):=λz=>(X.trans z.x).cell r2
       go_upto_region 9 with fail
       refine wro [0,0,0,6,14,30,0,126,254,510,1022,2046,0,0,12288,28672,61440,0,258048,520192,1044480,2093056,4190208,8384512,16777214,33554431,67108863] (.flo [0,1,2,3,4,5,6,7,8,9,10,11,12,13,14,15,16,17,18,19,20,21,22,23,24,25,26] (.fin)) ?_
       (refine Aa (pks rfl) ?_;(repeat (go_big_quiet_step (fail)));refine oq ?_)
       refine Ad ?_;clear Q1 R0 R2 r0 r2 q1;go_wp2
       go_roundg (nL-(k+1))
       case measure=>omega
       case rel=>exact⟨k+1,N2+(yr / 16+yt / 4),by omega,by omega,by go_num,by go_num,by omega,j6 (HJ.o.add (d:=yr / 16+yt / 4) (by rw[kR P.o,HY.o];unfold Ss;rw[S.o,T.o];omega) rfl),j6 (HQ.o.trans X)⟩
      ·have U:((N2:Int)<=300)=False:=by simp;omega
       go_wp2
       go_roundg (n-(i+1))
       case measure=>omega
       case rel=>exact⟨i+1,N2,by omega,by omega,by go_num,rfl,.inr (by omega),j6 (HJ.o.up (by rw[Vg H.o HX.o];have:=Rd Ss x.L k;unfold Ox;omega) (by omega)),j6 ((HE.o.trans XO.o).trans HQ.o)⟩
     ·go_wp2
      go_roundg (n-(i+1))
      case measure=>omega
      case rel=>exact⟨i+1,N2,by omega,by omega,by go_num,rfl,.inr (by omega),j6 (by have h1:=HJ.o;rw[show k=x.L.length by rw[h.o];omega,<-Vg H.o HX.o]at h1;exact h1),j6 ((HE.o.trans XO.o).trans HQ.o)⟩
   ·have U:((N:Int)<=300)=False:=by simp;omega
    go_wp2;go_ret;refine⟨Cm ?_,HE.o⟩;rw[<-m.o];unfold Ou;have h1:=HC.o.le;have h2:=Rd Nq M i;replace h2:Jd M i<=Jd M M.length:=h2;rw[eq_comm,decide_eq_decide];constructor<;>intro<;>omega
  ·obtain rfl:i=n:=by omega
   go_wp2;go_ret;refine⟨Cm ?_,HE.o⟩;rw[<-m.o];have h1:=HC.o;rw[hn.o]at h1;have h2:=h1.much;unfold Ou;rw[<-h2,eq_comm,decide_eq_decide];constructor<;>intro<;>omega
def Xy{v:Bool}(A:Option Addr)(c n:Nat)(M:List Hop)(w:World)(hv:H0 (Ou M=v))(hn:H0 (n=M.length))(hM:H0 (Hin w A c M))(hb:H0 (∀x∈M,x.L.length<=1048576)) :
  C3 68 #[.slice A n c] w λe w'=>e=.returned (.bool v)/\Ext w w':=hv.o▸jZ A c n M w hn hM hb
def a1s{L M:List Ct}(h:L.map Al=M.map Al){i:Nat}(hi:i<L.length):(M.getD i Ct.zero).l=(L.getD i Ct.zero).l/\(M.getD i Ct.zero).k=(L.getD i Ct.zero).k:=by
 have hl:=congrArg List.length h;rw[AN,AN]at hl;have e:=congrArg (λl:List V=>l[i]?) h;simp only[CG]at e;rw[AC hi,AC (by omega)]at e;simp only[FI,EX]at e;rw[AB,AB,AC hi,AC (by omega)];exact⟨(congrArg Prod.fst e).symm,(congrArg Prod.snd e).symm⟩
def fA(A1 A2:Option Addr)(c1 c2 n m:Nat)(L M:List Ct)(w:World)(hn:n=L.length)(hm:m=M.length)(h1:Ev w A1 c1 L)(h2:Ev w A2 c2 M)(he:L.map Al=M.map Al) :
  C3 25 #[.slice A1 n c1,.slice A2 m c2] w λe w'=>e=.returned (.bool true)/\Ext w w':=by
 have hl:=congrArg List.length he;rw[AN,AN]at hl;obtain rfl:m=n:=by omega
 have B:=h1.sl.le;rw[<-hn]at B;have HN:=j6 hn;have H1:=j6 h1;have H2:=j6 h2;have HE:=j6 he;have HM:=j6 hm;clear hn h1 h2 he hm hl;go_enter func25,ntmps25;go_wp2
 go_loopw [5] (λv wr=>∃i:Nat,i<=m/\v=.int .i64 i/\Ext w wr) (λv _=>m-(intOf v).toNat)
 case atStart=>exact⟨0,AG _,rfl,Ext.refl _⟩
 case round =>
  obtain⟨i,hi,rfl,er⟩:=hrel;by_cases hlt:i<m
  ·have d:i<L.length:=by rw[<-HN.o];exact hlt
   have f:i<M.length:=by rw[<-HM.o];exact hlt
   obtain⟨ad,rfl,p0,p1⟩:=(H1.o.ext er).at d;obtain⟨bd,rfl,q0,q1⟩:=(H2.o.ext er).at f;have h:=H1.o.rows _ (Dp d);have a:=H2.o.rows _ (Dp f);have⟨e1,e2⟩:=a1s HE.o d;rw[e1]at q0 a;rw[e2]at q1;have⟨x,hx⟩:=tz (L.getD i Ct.zero);have⟨y,hy⟩:=tz (M.getD i Ct.zero);rw[hx]at p0 p1 h q0 q1 a;rw[hy]at q0 a;have⟨nx,g⟩:=E9 x.l.length;rw[<-g]at p0 q0;have q:=j6 g;have j:H0 (nx=nx):=j6 rfl;have XE:Ext wr wr.drew:=(Ext.refl wr).drew;have r:=j6 ((h.ext er).ext XE);have t:=j6 ((a.ext er).ext XE);have P0:∀z:Xt wr.drew,z.W.cell? (ad.add (i*2))=some (.slice x.A nx x.c):=λz=>(XE.trans z.x).cell p0;have P1:∀z:Xt wr.drew,z.W.cell? ⟨(ad.add (i*2)).block,(ad.add (i*2)).off+1,none⟩=some (.int .i64 x.k):=λz=>(XE.trans z.x).cell p1;have Q0:∀z:Xt wr.drew,z.W.cell? (bd.add (i*2))=some (.slice y.A nx y.c):=λz=>(XE.trans z.x).cell q0;have Q1:∀z:Xt wr.drew,z.W.cell? ⟨(bd.add (i*2)).block,(bd.add (i*2)).off+1,none⟩=some (.int .i64 x.k):=λz=>(XE.trans z.x).cell q1;clear d f h a e1 e2 hx hy g
   go_upto_region 6 with fail
   refine wro [0,0,3,7,15,0,0,96,224,480,1023,2047,4095,4095,16383,32767,65535,4095,4095,397311,921599,1970175,4194303,8388607,16777215] (.flo [0,1,2,3,4,5,6,7,8,9,10,11,12,13,14,15,16,17,18,19,20,21] (.one 22 (.flo [23,24] (.fin)))) ?_
   (refine Aa (pks rfl) ?_;(repeat (go_big_quiet_step (fail)));refine oq ?_)
   refine Ac (pks rfl) ?_;intro K_ C;go_wp2_with (go_at_call 117;refine(Mo x.A y.A x.c y.c nx nx x.l _ q j r t).mono ?_;rintro e w1 ⟨rfl,x1⟩)
   (refine Aa (pks rfl) ?_;(repeat (go_big_quiet_step (fail)));refine oq ?_)
   refine Ad ?_;go_wp2
   go_roundw
   case rel=>exact⟨i+1,by omega,by go_num,er.trans (XE.trans x1)⟩
   case measure=>simp[intOf];omega
  ·go_wp2;go_ret;exact⟨rfl,er⟩
end Go.Proofs.YtdgbkpoickbidaaGreatDoor
