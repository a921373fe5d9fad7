/- Parts of the proof, put together. Conditions: each theorem states its own. -/
import Derived.Test.YtdgbkpoickbidaaGreatDoorHd7
set_option maxRecDepth 100000
set_option maxHeartbeats 4000000
open Go.RowKit
namespace Go.Proofs.YtdgbkpoickbidaaGreatDoor
def Ty(w:World)(k:Nat)(e:TypeId):Prop:=∃cur z,w.heap[k]?=some (.cells cur e z)
theorem Ty.ne{w:World}{k:Nat}{e f:TypeId}(h:Ty w k e)(g:Ty w k f):e=f:=by
 obtain⟨a,b,h⟩:=h;obtain⟨c,d,g⟩:=g;rw[h]at g;injection g with g;injection g with _ g
theorem Bk.ty{w:World}{g:Nat}{t:TypeId}{cs:Array Value}(h:Bk w g t cs):Ty w g t:=⟨_,_,h⟩
theorem Own.ty{w:World}{B s n c:Nat}{e:TypeId}{A:Option Addr}{xs:List Value}(h:Own w B e s A n c xs){k:Nat}(hk:blk A c=some k):Ty w k e:=by
 rcases h.2 with ⟨rfl,_⟩|⟨g,cur,rfl,_,hg,_⟩
 ·rw[Oq]at hk;cases hk
 ·cases c with
  | zero=>cases hk
  | succ c =>
   injection hk with hk;simp only at hk;subst hk;exact⟨_,_,hg⟩
def aS(A:Option Addr)(c:Nat)(L:List Ud)(k:Nat):Prop:=blk A c=some k\/∃x∈L,blk x.A x.c=some k\/blk x.t.A x.t.c=some k
def fP(A:Option Addr)(c:Nat)(L:List Tm)(k:Nat):Prop:=blk A c=some k\/∃x∈L,blk x.A x.c=some k
section
variable{w w':World}{B c:Nat}{A:Option Addr}{k:Nat}
theorem Cl.lt{L:List Ud}(h:Cl w B A c L)(hk:aS A c L k):B<=k/\k<w.heap.size:=by
 rcases hk with hk|⟨x,hx,hk|hk⟩
 ·exact h.own.lt k hk
 ·exact(h.rw x hx).lt k hk
 ·exact(h.ts x hx).lt k hk
theorem Cl.ty{L:List Ud}(h:Cl w B A c L)(hk:aS A c L k):Ty w k 95\/Ty w k 204\/Ty w k 180:=by
 rcases hk with hk|⟨x,hx,hk|hk⟩
 ·exact .inl (h.own.ty hk)
 ·exact .inr (.inl ((h.rw x hx).ty hk))
 ·exact .inr (.inr ((h.ts x hx).ty hk))
theorem Cl.updB{S:Nat->Prop}{L:List Ud}(h:Cl w B A c L)(x:Upd S w w')(hn:∀k,aS A c L k->¬S k):Cl w' B A c L :=
 ⟨h.own.upd x (fun k hk=>hn k (.inl hk)),fun y hy=>(h.rw y hy).upd x (fun k hk=>hn k (.inr ⟨y,hy,.inl hk⟩)),fun y hy=>(h.ts y hy).upd x (fun k hk=>hn k (.inr ⟨y,hy,.inr hk⟩)),h.ra,h.ta⟩
theorem Ev.lt{L:List Tm}(h:Ev w B A c L)(hk:fP A c L k):B<=k/\k<w.heap.size:=by
 rcases hk with hk|⟨x,hx,hk⟩
 ·exact h.own.lt k hk
 ·exact(h.ls x hx).1.lt k hk
theorem Ev.ty{L:List Tm}(h:Ev w B A c L)(hk:fP A c L k):Ty w k 26\/Ty w k 180:=by
 rcases hk with hk|⟨x,hx,hk⟩
 ·exact .inl (h.own.ty hk)
 ·exact .inr ((h.ls x hx).1.ty hk)
theorem Ev.updB{S:Nat->Prop}{L:List Tm}(h:Ev w B A c L)(x:Upd S w w')(hn:∀k,fP A c L k->¬S k):Ev w' B A c L :=
 ⟨h.own.upd x (fun k hk=>hn k (.inl hk)),fun y hy=>⟨(h.ls y hy).1.upd x (fun k hk=>hn k (.inr ⟨y,hy,hk⟩)),(h.ls y hy).2⟩,h.apart⟩
end
def Rg(R:Nat->Prop)(w w':World)(k:Nat):Prop:=R k\/(w.heap.size<=k/\k<w'.heap.size)
theorem Rg.step{R:Nat->Prop}{a b c:World}(h:a.heap.size<=b.heap.size)(h2:b.heap.size<=c.heap.size):∀k,Rg (Rg R a b) b c k->Rg R a c k:=fun k hk=>by
 rcases hk with (hk|⟨h3,h4⟩)|⟨h3,h4⟩
 ·exact .inl hk
 ·exact .inr ⟨h3,by omega⟩
 ·exact .inr ⟨by omega,h4⟩
theorem oX{R:Nat->Prop}{a b c:World}(h:Upd R a b)(k:Upd (Rg R a b) b c):Upd R a c :=
 ⟨k.os.trans h.os,k.tape.trans h.tape,k.output.trans h.output,AQ h.size k.size,fun q hq hn=>(k.block q (BF hq h.size) (fun e=>by
  rcases e with e|⟨e,_⟩
  ·exact hn e
  ·omega)).trans (h.block q hq hn)⟩
structure Bt where
 g:Nat
 A:Option Addr
 c:Nat
 l:List Ud
def Bt.zero:Bt:=⟨0,none,0,[]⟩
abbrev Bt.p(b:Bt):Value:=.pointer (some ⟨b.g,0,none⟩)
def Bt.v(b:Bt):List UV:=b.l.map Ud.uv
structure BtR (w:World) (R:Nat->Prop) (b:Bt):Prop where
 bk:Bk w b.g 197 #[.slice b.A b.l.length b.c]
 rg:R b.g
 u:Cl w 0 b.A b.c b.l
 ru:∀k,aS b.A b.c b.l k->R k
structure TmR (w:World) (R:Nat->Prop) (A:Option Addr) (c:Nat) (L:List Tm):Prop where
 t:Ev w 0 A c L
 rt:∀k,fP A c L k->R k
def Ks(w:World)(k:Nat):Prop:=Ty w k 192\/Ty w k 195\/Ty w k 270
section
variable{w w':World}{R R' S:Nat->Prop}
theorem Ks.not{k:Nat}{e:TypeId}(h:Ty w k e)(h1:e≠192)(h2:e≠195)(h3:e≠270):¬Ks w k:=fun g=>by
 rcases g with g|g|g
 ·exact h1 (h.ne g)
 ·exact h2 (h.ne g)
 ·exact h3 (h.ne g)
theorem aS.not{B c:Nat}{A:Option Addr}{L:List Ud}{k:Nat}(h:Cl w B A c L)(hk:aS A c L k):¬Ks w k:=by
 rcases h.ty hk with q|q|q
 ·exact Ks.not q (by decide) (by decide) (by decide)
 ·exact Ks.not q (by decide) (by decide) (by decide)
 ·exact Ks.not q (by decide) (by decide) (by decide)
theorem fP.not{B c:Nat}{A:Option Addr}{L:List Tm}{k:Nat}(h:Ev w B A c L)(hk:fP A c L k):¬Ks w k:=by
 rcases h.ty hk with q|q
 ·exact Ks.not q (by decide) (by decide) (by decide)
 ·exact Ks.not q (by decide) (by decide) (by decide)
theorem Bk.upd{S:Nat->Prop}{g:Nat}{t:TypeId}{cs:Array Value}(h:Bk w g t cs)(x:Upd S w w')(hn:¬S g):Bk w' g t cs:=(x.block g h.lt hn).trans h
theorem BtR.ext{b:Bt}(h:BtR w R b)(x:Ext w w'):BtR w' R b:=⟨h.bk.ext x,h.rg,h.u.ext x,h.ru⟩
theorem BtR.upd{b:Bt}(h:BtR w R b)(x:Upd S w w')(hS:∀k,R k->¬S k):BtR w' R b:=⟨h.bk.upd x (hS _ h.rg),h.rg,h.u.updB x fun k hk=>hS k (h.ru k hk),h.ru⟩
theorem BtR.safe{b:Bt}(h:BtR w R b)(x:Upd S w w')(hS:∀k,k<w.heap.size->S k->Ks w k):BtR w' R b :=
 ⟨h.bk.upd x fun q=>Ks.not h.bk.ty (by decide) (by decide) (by decide) (hS _ h.bk.lt q),h.rg,h.u.updB x fun k hk q=>aS.not h.u hk (hS k (h.u.lt hk).2 q),h.ru⟩
theorem BtR.wide{b:Bt}(h:BtR w R b)(hR:∀k,k<w.heap.size->R k->R' k):BtR w R' b:=⟨h.bk,hR _ h.bk.lt h.rg,h.u,fun k hk=>hR k (h.u.lt hk).2 (h.ru k hk)⟩
variable{A:Option Addr}{c:Nat}{L:List Tm}
theorem TmR.ext(h:TmR w R A c L)(x:Ext w w'):TmR w' R A c L:=⟨h.t.ext x,h.rt⟩
theorem TmR.upd(h:TmR w R A c L)(x:Upd S w w')(hS:∀k,R k->¬S k):TmR w' R A c L:=⟨h.t.updB x fun k hk=>hS k (h.rt k hk),h.rt⟩
theorem TmR.safe(h:TmR w R A c L)(x:Upd S w w')(hS:∀k,k<w.heap.size->S k->Ks w k):TmR w' R A c L:=⟨h.t.updB x fun k hk q=>fP.not h.t hk (hS k (h.t.lt hk).2 q),h.rt⟩
theorem TmR.wide(h:TmR w R A c L)(hR:∀k,k<w.heap.size->R k->R' k):TmR w R' A c L:=⟨h.t,fun k hk=>hR k (h.t.lt hk).2 (h.rt k hk)⟩
end
structure Pr where
 g:Nat
 i:Nat
 left:Nat
structure SpM where
 A:Option Addr
 c:Nat
 bs:List Bt
 un:Option Pr
 sA:Option Addr
 sc:Nat
 S:List Tm
 uA:Option Addr
 uc:Nat
 U:List Tm
def unV:Option Pr->Value
 | none=>.pointer none
 | some p=>.pointer (some ⟨p.g,0,none⟩)
def Cc(l:List Bt)(i:Nat):Bt:=l.getD i Bt.zero
structure PrR (w:World) (R:Nat->Prop) (bs:List Bt) (p:Pr):Prop where
 bk:Bk w p.g 270 #[(Cc bs p.i).p,(Cc bs (p.i+1)).p,.int .i64 p.left]
 rg:R p.g
 lt:p.i+1<bs.length
structure SpB (w:World) (R:Nat->Prop) (m:SpM):Prop where
 ow:Own w 0 195 1 m.A m.bs.length m.c (m.bs.map Bt.p)
 ro:∀k,blk m.A m.c=some k->R k
 bt:∀b∈m.bs,BtR w R b
 nd:(m.bs.map Bt.g).Nodup
 un:∀p,m.un=some p->PrR w R m.bs p
 sn:TmR w R m.sA m.sc m.S
 up:TmR w R m.uA m.uc m.U
def Nz(m:SpM):Array Value:=#[.slice m.A m.bs.length m.c,unV m.un,.slice m.sA m.S.length m.sc,.slice m.uA m.U.length m.uc]
structure SpR (w:World) (R:Nat->Prop) (gs:Nat) (m:SpM):Prop where
 bk:Bk w gs 192 (Nz m)
 rg:R gs
 b:SpB w R m
section
variable{w w':World}{R R' S:Nat->Prop}{gs:Nat}{m:SpM}
theorem SpB.ext(h:SpB w R m)(x:Ext w w'):SpB w' R m :=
 ⟨h.ow.ext x,h.ro,fun b hb=>(h.bt b hb).ext x,h.nd,fun p hp=>⟨(h.un p hp).bk.ext x,(h.un p hp).rg,(h.un p hp).lt⟩,h.sn.ext x,h.up.ext x⟩
theorem SpB.upd(h:SpB w R m)(x:Upd S w w')(hS:∀k,R k->¬S k):SpB w' R m :=
 ⟨h.ow.upd x fun k hk=>hS k (h.ro k hk),h.ro,fun b hb=>(h.bt b hb).upd x hS,h.nd,fun p hp=>⟨(h.un p hp).bk.upd x (hS _ (h.un p hp).rg),(h.un p hp).rg,(h.un p hp).lt⟩,h.sn.upd x hS,h.up.upd x hS⟩
theorem SpB.wide(h:SpB w R m)(hR:∀k,k<w.heap.size->R k->R' k):SpB w R' m :=
 ⟨h.ow,fun k hk=>hR k (h.ow.lt k hk).2 (h.ro k hk),fun b hb=>(h.bt b hb).wide hR,h.nd,fun p hp=>⟨(h.un p hp).bk,hR _ (h.un p hp).bk.lt (h.un p hp).rg,(h.un p hp).lt⟩,h.sn.wide hR,h.up.wide hR⟩
theorem SpB.head{cs:Array Value}(h:SpB w R m)(hb:Bk w gs 192 cs)(i:Nat)(u:Value):SpB (w.setCell ⟨gs,i,none⟩ u) R m:=by
 have x:Upd (fun k=>k=gs) w (w.setCell ⟨gs,i,none⟩ u):=(Upd.refl (fun k=>k=gs) w).setCell (p:=⟨gs,i,none⟩) (.inl rfl) u;have hS:∀k,k<w.heap.size->k=gs->Ks w k:=fun k _ e=>by subst e;exact .inl hb.ty
 refine⟨h.ow.upd x fun k hk e=>?_,h.ro,fun b hb=>(h.bt b hb).safe x hS,h.nd,fun p hp=>⟨(h.un p hp).bk.upd x fun e=>?_,(h.un p hp).rg,(h.un p hp).lt⟩,h.sn.safe x hS,h.up.safe x hS⟩
 ·subst e;exact absurd ((h.ow.ty hk).ne hb.ty) (by decide)
 ·have:=(h.un p hp).bk.ty;rw[e]at this;exact absurd (this.ne hb.ty) (by decide)
theorem SpR.ext(h:SpR w R gs m)(x:Ext w w'):SpR w' R gs m:=⟨h.bk.ext x,h.rg,h.b.ext x⟩
theorem SpR.upd(h:SpR w R gs m)(x:Upd S w w')(hS:∀k,R k->¬S k):SpR w' R gs m:=⟨h.bk.upd x (hS _ h.rg),h.rg,h.b.upd x hS⟩
theorem SpR.wide(h:SpR w R gs m)(hR:∀k,k<w.heap.size->R k->R' k):SpR w R' gs m:=⟨h.bk,hR _ h.bk.lt h.rg,h.b.wide hR⟩
theorem SpR.put_s{w1:World}{A:Option Addr}{c:Nat}{M:List Tm}(h:SpR w R gs m)(x:Ext w w1)(t:Ev w1 w.heap.size A c M):SpR (w1.setCell ⟨gs,2,none⟩ (.slice A M.length c)) (Rg R w (w1.setCell ⟨gs,2,none⟩ (.slice A M.length c))) gs { m with sA:=A,sc:=c,S:=M }/\Upd R w (w1.setCell ⟨gs,2,none⟩ (.slice A M.length c)):=by
 have hz:(w1.setCell ⟨gs,2,none⟩ (.slice A M.length c)).heap.size=w1.heap.size:=by simp
 have hb1:=h.bk.ext x;have k:=(h.b.ext x).wide (R':=Rg R w (w1.setCell ⟨gs,2,none⟩ (.slice A M.length c))) fun k _ hk=>.inl hk;have b1:SpB w1 (Rg R w (w1.setCell ⟨gs,2,none⟩ (.slice A M.length c))) { m with sA:=A,sc:=c,S:=M }:=⟨k.ow,k.ro,k.bt,k.nd,k.un,⟨t.mono (AE _),fun q hq=>.inr (by rw[hz];exact t.lt hq)⟩,k.up⟩;exact⟨⟨hb1.set 2 _,.inl h.rg,b1.head hb1 2 _⟩,(Upd.ext x).setCell (.inl h.rg) _⟩
theorem SpR.put_u{w1:World}{A:Option Addr}{c:Nat}{M:List Tm}(h:SpR w R gs m)(x:Ext w w1)(t:Ev w1 w.heap.size A c M):SpR (w1.setCell ⟨gs,3,none⟩ (.slice A M.length c)) (Rg R w (w1.setCell ⟨gs,3,none⟩ (.slice A M.length c))) gs { m with uA:=A,uc:=c,U:=M }/\Upd R w (w1.setCell ⟨gs,3,none⟩ (.slice A M.length c)):=by
 have hz:(w1.setCell ⟨gs,3,none⟩ (.slice A M.length c)).heap.size=w1.heap.size:=by simp
 have hb1:=h.bk.ext x;have k:=(h.b.ext x).wide (R':=Rg R w (w1.setCell ⟨gs,3,none⟩ (.slice A M.length c))) fun k _ hk=>.inl hk;have b1:SpB w1 (Rg R w (w1.setCell ⟨gs,3,none⟩ (.slice A M.length c))) { m with uA:=A,uc:=c,U:=M }:=⟨k.ow,k.ro,k.bt,k.nd,k.un,k.sn,⟨t.mono (AE _),fun q hq=>.inr (by rw[hz];exact t.lt hq)⟩⟩;exact⟨⟨hb1.set 3 _,.inl h.rg,b1.head hb1 3 _⟩,(Upd.ext x).setCell (.inl h.rg) _⟩
theorem Hm{l:List Bt}{i:Nat}(h:i<l.length):Cc l i∈l:=by
 unfold Cc;rw[AB,AC h];exact BP h
theorem fX{l:List Bt}{i:Nat}(h:i<l.length):(l.map Bt.p)[i]?=some (Cc l i).p:=by
 unfold Cc;rw[CI,AB,AC h];rfl
theorem SpB.at(h:SpB w R m){i:Nat}(hi:i<m.bs.length):∃ad,m.A=some ad/\w.cell? (ad.add i)=some (Cc m.bs i).p/\w.cell? ⟨(Cc m.bs i).g,0,none⟩=some (.slice (Cc m.bs i).A (Cc m.bs i).l.length (Cc m.bs i).c):=by
 obtain⟨ad,h1,h2⟩:=h.ow.sl.2.2.2.2 (by omega);exact⟨ad,h1,h2 i _ (fX hi),(h.bt _ (Hm hi)).bk.cell 0⟩
end
structure SV where
 bs:List (List UV)
 un:Option (Nat×Nat)
 S:List TV
 U:List TV
def SpM.v(m:SpM):SV:=⟨m.bs.map Bt.v,m.un.map fun p=>(p.i,p.left),m.S.map Tm.v,m.U.map Tm.v⟩
def Bn(S:List TV):Bool:=decide (S.length<=1) && !(S.any fun t=>decide (0<t.2.length))
def Bw(s:SV)(X:List TV):Int×SV:=if Bn X=false then (110,s) else if Ho s.S X=false then (111,s) else (0,{ s with S:=ofV X })
def aQ:SV:=⟨[],none,[(0,[])],[(0,[])]⟩
def oU(g:Nat)(lb:Array Value)(p:Tm->Bool)(L:List Tm)(w:World):Prop:=∀(W:World) (x:Tm),x∈L->Ext w W->Calls Tryz.prog g #[tmV x] W fun e w'=>e=.returned (.bool (p x))/\Ext W w'
def xF(p:Tm->Bool)(L:List Tm)(w:World)(e:Ending)(w':World):Prop:=∃r:Int,e=.returned (.int .i64 r)/\decide (0<=r)=L.any p/\Ext w w'
theorem Zy(p:Tm->Bool)(g:Nat)(eg:∀args w,(callFunc g args).run Tryz.prog w=.ok (.enter g args) w)(AL:Option Addr)(cL m:Nat)(L:List Tm)(w:World)(hm:Hid (m=L.length))(hL:Hid (Tin w AL cL L))(hp:Hid (oU g #[] p L w)) :
  Calls Tryz.prog 204 #[.slice AL m cL,.func (.func g) #[] #[]] w (xF p L w):=by
 have hbig:m<=9223372036854775807:=by rw[hm.out];exact hL.out.sl.le
 go_enter Tryz.func204,Tryz.ntmps204;go_wp2
 go_loopg [5,8] m (fun gg _ s8 wr=>∃kk:Nat,kk<=m/\m-kk<=gg/\s8=.int .i64 kk/\Hid (Ext w wr)/\Hid (∀j,j<kk->p (L.getD j Tm.zero)=false))
 case atStart=>exact⟨0,AE _,by omega,rfl,hid (Ext.refl w),hid (fun j hj=>absurd hj (DQ _))⟩
 case round =>
  obtain⟨kk,hkk,hg,rfl,BW,AF⟩:=hrel;by_cases hlt:kk<m
  ·have hltz:(kk:Int)<(m:Int):=by omega
   obtain⟨ad,rfl,q0,q1⟩:=(hL.out.ext BW.out).at (i:=kk) (by rw[<-hm.out];exact hlt);have hcall:=hp.out wr (L.getD kk Tm.zero) (Bj (by rw[<-hm.out];exact hlt)) BW.out;obtain⟨x,hx⟩:∃x,L.getD kk Tm.zero=x:=⟨_,rfl⟩;rw[hx]at q0 q1 hcall;have HX:=hid hx;clear hx;unfold tmV at hcall;cases hq:p x with
   | true =>
    rw[hq]at hcall;have HQ:=hid hq;clear hq;go_wp2_with (go_at_fn g;refine hcall.mono ?_;rintro e w' ⟨rfl,hb'⟩)
    go_ret;exact⟨_,rfl,by rw[pT (by rw[<-hm.out];exact hlt) (by rw[HX.out];exact HQ.out)];simp,BW.out.trans hb'⟩
   | false =>
    rw[hq]at hcall;have HQ:=hid hq;clear hq;go_wp2_with (go_at_fn g;refine hcall.mono ?_;rintro e w' ⟨rfl,hb'⟩)
    go_roundg (m-(kk+1))
    case measure=>omega
    case rel =>
     refine⟨kk+1,by omega,by omega,by go_num,hid (BW.out.trans hb'),hid (fun j hj=>?_)⟩;by_cases hjk:j<kk
     ·exact AF.out j hjk
     ·obtain rfl:j=kk:=by omega
      rw[HX.out];exact HQ.out
  ·obtain rfl:kk=m:=by omega
   go_wp2;go_ret;exact⟨_,rfl,by rw[dD (fun j hj=>AF.out j (by rw[hm.out];exact hj))];rfl,BW.out⟩
theorem Rk(p:Tm->Bool)(g:Nat)(eg:∀args w,(callFunc g args).run Tryz.prog w=.ok (.enter g args) w)(AL:Option Addr)(cL m:Nat)(L:List Tm)(w:World)(hm:Hid (m=L.length))(hL:Hid (Tin w AL cL L))(hp:Hid (oU g #[] p L w)) :
  Calls Tryz.prog 144 #[.slice AL m cL,.func (.func g) #[] #[]] w fun e w'=>e=.returned (.bool (L.any p))/\Ext w w':=by
 go_enter Tryz.func144,Tryz.ntmps144;go_wp2_with (go_at_call 204;refine(Zy p g  eg AL cL m L _ hm hL hp).mono ?_;rintro e w1 ⟨r,rfl,hr,x1⟩;have HR:=hid hr;clear hr)
 go_ret;exact⟨by rw[<-HR.out];rfl,x1⟩
theorem nG(x:Tm)(w:World):Calls Tryz.prog 212 #[tmV x] w fun r w'=>r=.returned (.bool (decide (0<x.l.length)))/\Ext w w':=by
 unfold tmV;obtain⟨xe,xA,xc,xl⟩:=x;obtain⟨n,hn⟩:∃n,xl.length=n:=⟨_,rfl⟩;simp only[hn];have HN:=hid hn;clear hn;go_enter Tryz.func212,Tryz.ntmps212;rcases CL n with h0|h0
 ·subst h0;go_wp2;go_ret;exact⟨by simp,(Ext.refl w).alloc _⟩
 ·have h1:(0:Int)<(n:Int):=by omega
  have h2:decide (0<n)=true:=decide_eq_true h0;go_wp2;go_ret;exact⟨by simp[h2],(Ext.refl w).alloc _⟩
theorem Zz:∀args w,(callFunc 212 args).run Tryz.prog w=.ok (.enter 212 args) w:=enters_of Tryz.func212 (by kernel_rfl) rfl
theorem Gf{b:Bool}(AL:Option Addr)(cL m:Nat)(L:List Tm)(w:World)(hb:Hid (Bn (L.map Tm.v)=b))(hm:Hid (m=L.length))(hL:Hid (Tin w AL cL L)) :
  Calls Tryz.prog 156 #[.slice AL m cL] w fun r w'=>r=.returned (.bool b)/\Ext w w':=by
 have HP:Hid (oU 212 #[] (fun x=>decide (0<x.l.length)) L w):=hid (fun W x hx y=>nG x W);obtain⟨q,hq⟩:∃q,(L.any fun x=>decide (0<x.l.length))=q:=⟨_,rfl⟩;have HQ:=hid hq;have HB:Hid (b=(decide (m<=1) && !q)):=by
  refine hid ?_;rw[<-hb.out,<-hq,hm.out];unfold Bn;rw[AN,List.any_map];rfl
 clear hb hq;have hbig:m<=9223372036854775807:=by rw[hm.out];exact hL.out.sl.le
 go_enter Tryz.func156,Tryz.ntmps156;by_cases h1:m<=1
 ·have h1z:(m:Int)<=1:=by omega
  have h1d:decide (m<=1)=true:=decide_eq_true h1;go_wp2_with (go_at_call 144;refine(Rk _ 212 Zz AL cL m L _ hm hL HP).mono ?_;rintro r w1 ⟨rfl,x1⟩)
  go_ret;exact⟨by rw[HB.out,h1d,HQ.out];rfl,x1⟩
 ·have h1z:¬(m:Int)<=1:=by omega
  have h1d:decide (m<=1)=false:=decide_eq_false h1;go_wp2;go_ret;exact⟨by rw[HB.out,h1d];rfl,Ext.refl w⟩
theorem Sq{w:World}{g B:Nat}(h:Bk w g 26 #[.int .u64 0,.slice none 0 0])(hB:B<=g):Ev w B (some ⟨g,0,none⟩) 1 [Tm.zero]:=by
 refine⟨⟨rfl,.inr ⟨g,_,rfl,hB,h,AD _,by decide,by decide,by rfl⟩⟩,fun x hx=>?_,BL ..⟩;rw[AH.1 hx];exact⟨Own.nil _ _ _ _,fun k hk=>by cases hk⟩
theorem vK(w w1 w2 w3:World)(h1:w1=w.alloc (.cells #[.int .u64 0,.slice none 0 0] 26))(h2:w2=w1.alloc (.cells #[.int .u64 0,.slice none 0 0] 26))
  (h3:w3=w2.alloc (.cells #[.slice none 0 0,.pointer none,.slice (some ⟨w.heap.size,0,none⟩) 1 1,.slice (some ⟨w.heap.size+1,0,none⟩) 1 1] 192)) :
  SpR w3 (fun k=>w.heap.size<=k/\k<w3.heap.size) (w.heap.size+1+1) ⟨none,0,[],none,some ⟨w.heap.size,0,none⟩,1,[Tm.zero],some ⟨w.heap.size+1,0,none⟩,1,[Tm.zero]⟩/\Ext w w3:=by
 have z1:w1.heap.size=w.heap.size+1:=by rw[h1];simp
 have z2:w2.heap.size=w.heap.size+1+1:=by rw[h2];simp[z1]
 have z3:w3.heap.size=w.heap.size+1+1+1:=by rw[h3];simp[z2]
 have x1:Ext w w1:=h1▸(Ext.refl w).alloc _;have x2:Ext w1 w2:=h2▸(Ext.refl w1).alloc _;have x3:Ext w2 w3:=h3▸(Ext.refl w2).alloc _;have b1:Bk w3 w.heap.size 26 #[.int .u64 0,.slice none 0 0]:=Bk.ext (Bk.ext (h1▸Bk.new w _ _) x2) x3;have b2:Bk w3 (w.heap.size+1) 26 #[.int .u64 0,.slice none 0 0]:=Bk.ext (h2▸Bk.at z1.symm) x3;have b3:Bk w3 (w.heap.size+1+1) 192 #[.slice none 0 0,.pointer none,.slice (some ⟨w.heap.size,0,none⟩) 1 1,.slice (some ⟨w.heap.size+1,0,none⟩) 1 1]:=h3▸Bk.at z2.symm;have o1:=Sq b1 (AD w.heap.size);have o2:=Sq b2 (Nat.le_succ w.heap.size);exact⟨⟨b3,⟨by omega,by omega⟩,⟨Own.nil _ _ _ _,fun k hk=>(nomatch hk),fun b hb=>(nomatch hb),List.nodup_nil,fun p hp=>(nomatch hp),⟨o1.mono (AE _),fun k hk=>o1.lt hk⟩,⟨o2.mono (AE _),fun k hk=>o2.lt hk⟩⟩⟩,(x1.trans x2).trans x3⟩
def zY(w:World)(e:Ending)(w':World):Prop:=∃gs m,e=.returned (.pointer (some ⟨gs,0,none⟩))/\SpR w' (fun k=>w.heap.size<=k/\k<w'.heap.size) gs m/\m.v=aQ/\Ext w w'
theorem Wm(w:World):Calls Tryz.prog 43 #[] w (zY w):=by
 go_enter Tryz.func43,Tryz.ntmps43;go_wp2;go_ret;have h:=vK w _ _ _ rfl rfl rfl;exact⟨_,_,rfl,h.1,rfl,h.2⟩
def Jv(L:List Tm):Prop:=L.length<=1000000/\∀x∈L,x.l.length<=1000000
theorem lE{V:List TV}(gs:Nat)(m:SpM)(R:Nat->Prop)(w:World)(hV:Hid (ofV m.v.S=V))(HM:Hid (SpR w R gs m))(hf:Hid (Jv m.S)):Calls Tryz.prog 65 #[.pointer (some ⟨gs,0,none⟩)] w (oV V w):=by
 have c2:=HM.out.bk.cell 2;obtain⟨n,hn⟩:∃n,n=m.S.length:=⟨_,rfl⟩;replace c2:w.cell? ⟨gs,2,none⟩=some (.slice m.sA n m.sc):=hn▸c2;have h9:n<=1000000:=hn▸hf.out.1;have HN:=hid hn;have HT:Hid (Tin w m.sA m.sc m.S):=hid HM.out.b.sn.t.tin;have HL:Hid (∀x∈m.S,x.l.length<=1000000):=hid hf.out.2;have c0:0<w.heap.size:=Nat.lt_of_le_of_lt (AE _) HM.out.bk.lt;clear hn;go_enter Tryz.func65,Tryz.ntmps65;go_wp2_with (go_at_call 137;refine(Sg m.sA m.sc n m.S _ HN HT HL h9).mono ?_;rintro r w1 hres;have HR:=hid hres;obtain⟨A,c,k,M,rfl,h2⟩:=hres;clear h2)
 go_ret;have:=HR.out;rw[<-hV.out];exact this
theorem kT{V:List TV}(gs:Nat)(m:SpM)(R:Nat->Prop)(w:World)(hV:Hid (ofV m.v.U=V))(HM:Hid (SpR w R gs m))(hf:Hid (Jv m.U)):Calls Tryz.prog 50 #[.pointer (some ⟨gs,0,none⟩)] w (oV V w):=by
 have c2:=HM.out.bk.cell 3;obtain⟨n,hn⟩:∃n,n=m.U.length:=⟨_,rfl⟩;replace c2:w.cell? ⟨gs,3,none⟩=some (.slice m.uA n m.uc):=hn▸c2;have h9:n<=1000000:=hn▸hf.out.1;have HN:=hid hn;have HT:Hid (Tin w m.uA m.uc m.U):=hid HM.out.b.up.t.tin;have HL:Hid (∀x∈m.U,x.l.length<=1000000):=hid hf.out.2;clear hn;go_enter Tryz.func50,Tryz.ntmps50;go_wp2_with (go_at_call 137;refine(Sg m.uA m.uc n m.U _ HN HT HL h9).mono ?_;rintro r w1 hres;have HR:=hid hres;obtain⟨A,c,k,M,rfl,h2⟩:=hres;clear h2)
 go_ret;have:=HR.out;rw[<-hV.out];exact this
def Dd(w:World)(R:Nat->Prop)(gs:Nat)(q:Int×SV)(e:Ending)(w':World):Prop:=∃m',e=.returned (.int .u16 q.1)/\SpR w' (Rg R w w') gs m'/\m'.v=q.2/\Upd R w w'
theorem Dd.stay{w w':World}{R:Nat->Prop}{gs:Nat}{m:SpM}{n:Int}{e:Ending}(h:SpR w R gs m)(x:Ext w w')(he:e=.returned (.int .u16 n)):Dd w R gs (n,m.v) e w':=⟨m,he,(h.ext x).wide fun _ _ hk=>.inl hk,rfl,Upd.ext x⟩
theorem Qy{q:Int×SV}(gs:Nat)(m:SpM)(R:Nat->Prop)(AX:Option Addr)(cX nX:Nat)(X:List Tm)(w:World)(hq:Hid (Bw m.v (X.map Tm.v)=q))(HM:Hid (SpR w R gs m))(hnX:Hid (nX=X.length))(hX:Hid (Tin w AX cX X))(hf:Hid (Jv X)) :
  Calls Tryz.prog 45 #[.pointer (some ⟨gs,0,none⟩),.slice AX nX cX] w (Dd w R gs q):=by
 rw[<-hq.out];have h9:nX<=1000000:=hnX.out▸hf.out.1;have HL:Hid (∀x∈X,x.l.length<=1000000):=hid hf.out.2;have HT:Hid (Tin w m.sA m.sc m.S):=hid HM.out.b.sn.t.tin;obtain⟨n,hn⟩:∃n,n=m.S.length:=⟨_,rfl⟩;have HN:=hid hn;have HC:Hid (∀W,Ext w W->W.cell? ⟨gs,2,none⟩=some (.slice m.sA n m.sc)/\W.frozen? ⟨gs,2,none⟩=false):=hid (fun W x=>⟨by have:=(HM.out.bk.ext x).cell 2;rw[hn];exact this,(HM.out.bk.ext x).free 2⟩);clear hn;obtain⟨b1,hb1⟩:∃b,Bn (X.map Tm.v)=b:=⟨_,rfl⟩;obtain⟨b2,hb2⟩:∃b,Ho (m.S.map Tm.v) (X.map Tm.v)=b:=⟨_,rfl⟩;have HB1:=hid hb1;have HB2:=hid hb2;have hcv:Bw m.v (X.map Tm.v)=if b1=false then (110,m.v) else if b2=false then (111,m.v) else (0,{ m.v with S:=ofV (X.map Tm.v) }):=by
  rw[<-hb1,<-hb2];rfl
 rw[hcv];clear hb1 hb2 hcv hq;cases b1 with
 | false =>
  go_enter Tryz.func45,Tryz.ntmps45;go_wp2_with (go_at_call 156;refine(Gf AX cX nX X _ HB1 hnX hX).mono ?_;rintro r w1 ⟨rfl,x1⟩)
  go_ret;exact Dd.stay HM.out x1 rfl
 | true =>
  cases b2 with
  | false =>
   go_enter Tryz.func45,Tryz.ntmps45;go_wp2_with (first
    | (go_at_call 156;refine(Gf AX cX nX X _ HB1 hnX hX).mono ?_;rintro r w1 ⟨rfl,x1⟩;obtain⟨c2,f2⟩:=HC.out w1 x1;have X1:=hid x1;clear x1)
    | (go_at_call 158;refine(Js m.sA AX m.sc cX n nX m.S X _ HN hnX (hid (HT.out.ext X1.out)) (hid (hX.out.ext X1.out))).mono ?_;rw[HB2.out];rintro r w2 ⟨rfl,x2⟩;have X2:=hid (X1.out.trans x2);clear x2)
    | fail)
   go_ret;exact Dd.stay HM.out X2.out rfl
  | true =>
   go_enter Tryz.func45,Tryz.ntmps45;go_wp2_with (first
    | (go_at_call 156;refine(Gf AX cX nX X _ HB1 hnX hX).mono ?_;rintro r w1 ⟨rfl,x1⟩;obtain⟨c2,f2⟩:=HC.out w1 x1;have X1:=hid x1;clear x1)
    | (go_at_call 158;refine(Js m.sA AX m.sc cX n nX m.S X _ HN hnX (hid (HT.out.ext X1.out)) (hid (hX.out.ext X1.out))).mono ?_;rw[HB2.out];rintro r w2 ⟨rfl,x2⟩;have X2:=hid (X1.out.trans x2);clear x2)
    | (go_at_call 137;refine(Sg AX cX nX X _ hnX (hid (hX.out.ext X2.out)) HL h9).mono ?_;rintro r w3 hres;obtain⟨A,c,k,M,rfl,hk,hT,hV,x3⟩:=hres;have X3:=hid (X2.out.trans x3);obtain⟨c3,f3⟩:=HC.out w3 X3.out;have hlt3:=(HM.out.bk.ext X3.out).lt;have HP:=hid (HM.out.put_s X3.out (hT.mono (X2.out.size)));have HV:=hid hV;have HK:=hid hk;clear hT hV hk x3)
    | fail)
   go_ret;have:=HP.out;rw[<-HK.out]at this;exact⟨_,rfl,this.1,by show SpM.v _=_;rw[<-HV.out];rfl,this.2⟩
def Kq(l:List Int):List Value:=l.map (Value.int .i64)
def Is(w:World)(A:Option Addr)(c:Nat)(l:List Int):Prop:=Sl w 1 A l.length c (Kq l)
theorem Is.ext{w w':World}{A:Option Addr}{c:Nat}{l:List Int}(h:Is w A c l)(x:Ext w w'):Is w' A c l:=Sl.ext h x
theorem Is.at{w:World}{A:Option Addr}{c:Nat}{l:List Int}(h:Is w A c l){k:Nat}(hk:k<l.length):∃ad,A=some ad/\w.cell? (ad.add k)=some (.int .i64 (l.getD k 0)):=by
 obtain⟨ad,h1,h2⟩:=h.2.2.2.2 (by omega);refine⟨ad,h1,h2 k _ ?_⟩;unfold Kq;rw[CI,AC hk,AB,AC hk];rfl
theorem cN:Gj Tryz.prog 74 3 1 8 (.int .i64 0):=⟨by kernel_rfl,by kernel_rfl,rfl,by decide⟩
theorem Jt(b:Bt)(n:Nat)(w:World)(hn:Hid (n=b.l.length))(hc:w.cell? ⟨b.g,0,none⟩=some (.slice b.A n b.c)):Calls Tryz.prog 163 #[.pointer (some ⟨b.g,0,none⟩)] w fun e w'=>e=.returned (.int .i64 n)/\w=w':=by
 go_enter Tryz.func163,Tryz.ntmps163;go_wp2;go_ret;exact⟨rfl,rfl⟩
theorem fT{l:List Bt}{i:Nat}(h:i<l.length):l.take (i+1)=l.take i++[Cc l i]:=by
 unfold Cc;rw[GU,AC h,AB,AC h];rfl
def Es(l:List Bt):List Int:=l.map fun b=>(b.l.length:Int)
def Ep(l:List Bt):List Ud:=l.flatMap Bt.l
theorem Xq{l:List Bt}{i:Nat}(h:i<l.length):Ep (l.take (i+1))=Ep (l.take i)++(Cc l i).l:=by
 unfold Ep;rw[fT h,CS];simp
theorem wR(l:List Bt)(i:Nat):(Ep (l.take i)).length<=(Ep l).length:=by
 have:Ep l=Ep (l.take i)++Ep (l.drop i):=by
  unfold Ep;rw[<-CS,CE]
 rw[this,AA];omega
def dG(w:World)(l:List Int)(e:Ending)(w':World):Prop:=∃A n c,e=.returned (.slice A n c)/\n=l.length/\Own w' w.heap.size 3 1 A n c (Kq l)/\Ext w w'
structure kN (w wr:World) (l:List Bt) (i n c:Nat) (A:Option Addr):Prop where
 ln:n=i
 ow:Own wr w.heap.size 3 1 A n c (Kq (Es (l.take i)))
 ex:Ext w wr
theorem kN.step{w wr w2:World}{l:List Bt}{i n c c2:Nat}{A A2:Option Addr}(h:kN w wr l i n c A)(hi:i<l.length){k:Nat}(hk:k=(Cc l i).l.length)(ob:Obj)(o:Own w2 w.heap.size 3 1 A2 (n+1) c2 (Kq (Es (l.take i))++[.int .i64 k]))(g:(wr.alloc ob).grownBy w2 (blk A c)):kN w w2 l (i+1) (n+1) c2 A2:=by
 refine⟨by rw[h.ln],?_,((h.ex).alloc _).grown g fun k hk=>(h.ow.lt k hk).1⟩;have e:Kq (Es (l.take (i+1)))=Kq (Es (l.take i))++[.int .i64 k]:=by
  unfold Es Kq;rw[fT hi,hk];simp
 rw[e];exact o
theorem Pp(gs:Nat)(m:SpM)(R:Nat->Prop)(w:World)(HM:Hid (SpR w R gs m))(h9:m.bs.length<=1000000):Calls Tryz.prog 49 #[.pointer (some ⟨gs,0,none⟩)] w (dG w (Es m.bs)):=by
 obtain⟨n,hn⟩:∃n,n=m.bs.length:=⟨_,rfl⟩;obtain⟨mA,hmA⟩:∃a,m.A=a:=⟨_,rfl⟩;have c0:w.cell? ⟨gs,0,none⟩=some (.slice mA n m.c):=hmA▸hn▸HM.out.bk.cell 0;rw[<-hn]at h9;have HN:=hid hn;have HP0:Hid (kN w w m.bs 0 0 0 none):=hid ⟨rfl,Own.nil _ _ _ _,Ext.refl _⟩;have HB:=HM.out.b;have HBB:=hid HB;clear hn HB;go_enter Tryz.func49,Tryz.ntmps49;go_wp2
 go_loopg [3,11] n (fun z u v wr=>∃(i k c3:Nat) (A3:Option Addr),z=n-i/\i<=n/\k<=i/\u=.slice A3 k c3/\v=.int .i64 i/\Hid (kN w wr m.bs i k c3 A3))
 case atStart=>exact⟨0,0,0,none,rfl,AE _,AD _,rfl,rfl,HP0⟩
 case round =>
  clear HP0;obtain⟨i,k,c3,A3,rfl,hi,hki,rfl,rfl,HP⟩:=hrel;by_cases hlt:i<n
  ·have hil:i<m.bs.length:=by rw[<-HN.out];exact hlt
   obtain⟨ad,hA,p0,p1⟩:=(HBB.out.ext HP.out.ex).at hil;obtain rfl:mA=some ad:=hmA.symm.trans hA;clear hA;obtain⟨b,hb⟩:∃b,Cc m.bs i=b:=⟨_,rfl⟩;rw[hb]at p0 p1;obtain⟨nb,hnb⟩:∃q,q=b.l.length:=⟨_,rfl⟩;rw[<-hnb]at p1;have HNB:=hid hnb;have HK:Hid (nb=(Cc m.bs i).l.length):=hid (by rw[hb];exact hnb);have HI:=hid hil;clear hb hnb hil;go_wp2_with (first
    | (go_at_call 163;refine(Jt b nb _ HNB p1).mono ?_;rintro r w1 ⟨rfl,rfl⟩)
    | (at_builtin;refine Ab _ cN w.heap.size _ _ rfl rfl A3 k c3 (Kq (Es (m.bs.take i))) rfl (HP.out.ow.alloc _) (some ⟨wr.heap.size,0,none⟩) 1 1 [.int .i64 nb] rfl (Sl.one wr #[.int .i64 nb] 3 1 rfl) (by intro u hu;simp at hu;subst hu;rfl) (by omega) (by decide) (by have:=HP.out.ex.size;simp;omega) ?_;intro A6 c6 w6 o6 g6 h6;clear h6;have HQ6:Hid (kN w w6 m.bs (i+1) (k+1) c6 A6):=hid (HP.out.step HI.out HK.out _ o6 g6);clear o6 g6)
    | fail)
   go_roundg (n-(i+1))
   case measure=>omega
   case rel=>exact⟨i+1,k+1,c6,A6,rfl,by omega,by omega,rfl,by go_num,HQ6⟩
  ·obtain rfl:i=n:=by omega
   go_wp2;go_ret;have hq:=HP.out;have e:m.bs.take i=m.bs:=AT (by rw[<-HN.out];exact AD _);have o:=hq.ow;rw[e]at o;exact⟨_,_,_,rfl,by rw[hq.ln,HN.out];unfold Es;rw[AN],o,hq.ex⟩
def kL(w:World)(L:List Ud)(e:Ending)(w':World):Prop:=∃A n c,e=.returned (.slice A n c)/\n=L.length/\Own w' w.heap.size 95 4 A n c (Ah L)/\Ext w w'
structure Wh (w wr:World) (l:List Bt) (i n c:Nat) (A:Option Addr):Prop where
 ln:n=(Ep (l.take i)).length
 ow:Own wr w.heap.size 95 4 A n c (Ah (Ep (l.take i)))
 ex:Ext w wr
theorem Wh.step{w wr w2:World}{l:List Bt}{i n c c2:Nat}{A A2:Option Addr}(h:Wh w wr l i n c A)(hi:i<l.length){k g0 c0:Nat}{A0:Option Addr}{L:List Ud}(hk:k=L.length)(hL:Cc l i=⟨g0,A0,c0,L⟩)(o:Own w2 w.heap.size 95 4 A2 (n+k) c2 (Ah (Ep (l.take i))++Ah L))(g:wr.grownBy w2 (blk A c)):Wh w w2 l (i+1) (n+k) c2 A2:=by
 have e:Ep (l.take (i+1))=Ep (l.take i)++L:=by rw[Xq hi,hL]
 refine⟨by rw[e,AA,h.ln,hk],?_,h.ex.grown g fun k hk=>(h.ow.lt k hk).1⟩;rw[e,Bb];exact o
theorem Pb(gs:Nat)(m:SpM)(R:Nat->Prop)(w:World)(HM:Hid (SpR w R gs m))(h9:m.bs.length<=1000000)(hA:(Ep m.bs).length<=1000000):Calls Tryz.prog 159 #[.pointer (some ⟨gs,0,none⟩)] w (kL w (Ep m.bs)):=by
 obtain⟨n,hn⟩:∃n,n=m.bs.length:=⟨_,rfl⟩;obtain⟨mA,hmA⟩:∃a,m.A=a:=⟨_,rfl⟩;have c0:w.cell? ⟨gs,0,none⟩=some (.slice mA n m.c):=hmA▸hn▸HM.out.bk.cell 0;rw[<-hn]at h9;have HN:=hid hn;have HP0:Hid (Wh w w m.bs 0 0 0 none):=hid ⟨rfl,Own.nil _ _ _ _,Ext.refl _⟩;have HB:=HM.out.b;have HBB:=hid HB;have HA:=hid hA;clear hn HB hA;go_enter Tryz.func159,Tryz.ntmps159;go_wp2
 go_loopg [3,11] n (fun z u v wr=>∃(i k c3:Nat) (A3:Option Addr),z=n-i/\i<=n/\u=.slice A3 k c3/\v=.int .i64 i/\Hid (Wh w wr m.bs i k c3 A3))
 case atStart=>exact⟨0,0,0,none,rfl,AE _,rfl,rfl,HP0⟩
 case round =>
  clear HP0;obtain⟨i,k,c3,A3,rfl,hi,rfl,rfl,HP⟩:=hrel;by_cases hlt:i<n
  ·have hil:i<m.bs.length:=by rw[<-HN.out];exact hlt
   obtain⟨ad,hA,p0,p1⟩:=(HBB.out.ext HP.out.ex).at hil;obtain rfl:mA=some ad:=hmA.symm.trans hA;clear hA;have HS0:=((HBB.out.bt _ (Hm hil)).u.uin.sl).ext HP.out.ex;have hle:k+(Cc m.bs i).l.length<=1000000:=by
    have h1:=wR m.bs (i+1);rw[Xq hil,AA,<-HP.out.ln]at h1;exact AQ h1 HA.out
   obtain⟨b,hb⟩:∃b,Cc m.bs i=b:=⟨_,rfl⟩;rw[hb]at p0 p1 HS0 hle;obtain⟨bg,bA,bc,bl⟩:=b;obtain⟨nb,hnb⟩:∃q,q=bl.length:=⟨_,rfl⟩;simp only at p0 p1 HS0 hle;rw[<-hnb]at p1 HS0 hle;have HNB:=hid hnb;have HK:=hid hb;have HI:=hid hil;have HS:=hid HS0;clear hb hnb hil HS0;go_wp2_with (first
    | (at_builtin;refine Ab _ Aw w.heap.size _ _ rfl rfl A3 k c3 (Ah (Ep (m.bs.take i))) rfl HP.out.ow bA nb bc (Ah bl) rfl HS.out (Ca _) (by omega) (by decide) HP.out.ex.size ?_;intro A6 c6 w6 o6 g6 h6;clear h6;have HQ6:Hid (Wh w w6 m.bs (i+1) (k+nb) c6 A6):=hid (HP.out.step HI.out HNB.out HK.out o6 g6);clear o6 g6)
    | fail)
   go_roundg (n-(i+1))
   case measure=>omega
   case rel=>exact⟨i+1,k+nb,c6,A6,rfl,by omega,rfl,by go_num,HQ6⟩
  ·obtain rfl:i=n:=by omega
   go_wp2;go_ret;have hq:=HP.out;have e:m.bs.take i=m.bs:=AT (by rw[<-HN.out];exact AD _);have o:=hq.ow;have ln:=hq.ln;rw[e]at o ln;exact⟨_,_,_,rfl,ln,o,hq.ex⟩
end Go.Proofs.YtdgbkpoickbidaaGreatDoor
namespace Go.Proofs.YtdgbkpoickbidaaGreatDoor.UdS
theorem getD_mid(P:List Ud)(x:Ud)(Q:List Ud):(P++x::Q).getD P.length Ud.zero=x:=by
 rw[AB,BD (AD _),DG];rfl
theorem set_mid(P:List Ud)(x y:Ud)(Q:List Ud):(P++x::Q).set P.length y=P++y::Q:=by
 rw[CG _ _ (AD _),DG];rfl
theorem Arr.two{w:World}{B g c q:Nat}{P s2 Q:List Ud}{x y:Ud}(h:Arr w B g c (P++y::x::Q))(hq:q=P.length) :
  (w.cell? ⟨g,q*4,none⟩=some (.slice y.A y.l.length y.c)/\w.cell? ⟨g,q*4+1,none⟩=some (.int .u64 y.t.e)/\w.cell? ⟨g,q*4+2,none⟩=some (.slice y.t.A y.t.l.length y.t.c)/\w.cell? ⟨g,q*4+3,none⟩=some (.int .i64 y.d))/\w.cell? ⟨g,(q+1)*4,none⟩=some (.slice x.A x.l.length x.c)/\w.cell? ⟨g,(q+1)*4+1,none⟩=some (.int .u64 x.t.e)/\w.cell? ⟨g,(q+1)*4+2,none⟩=some (.slice x.t.A x.t.l.length x.t.c)/\w.cell? ⟨g,(q+1)*4+3,none⟩=some (.int .i64 x.d):=by
 subst hq;have h1:=h.at (i:=P.length) (by simp);have h2:=h.at (i:=P.length+1) (by simp);rw[getD_mid]at h1;have e:(P++y::x::Q).getD (P.length+1) Ud.zero=x:=by
  have:=getD_mid (P++[y]) x Q
  rwa [AJ,AA]at this
 rw[e]at h2;exact⟨h1,h2⟩
theorem Arr.swap{w:World}{B g c q:Nat}{P Q:List Ud}{x y:Ud}(h:Arr w B g c (P++y::x::Q))(hq:q=P.length) :
  Arr (put4 (put4 w g (q+1) y y.l.length y.t.l.length) g q x x.l.length x.t.l.length) B g c (P++x::y::Q):=by
 subst hq;have h1:=(h.set (P.length+1) y).set P.length x;have e:((P++y::x::Q).set (P.length+1) y).set P.length x=P++x::y::Q:=by
  have e1:(P++y::x::Q).set (P.length+1) y=P++y::y::Q:=by
   have:=set_mid (P++[y]) x y Q
   rwa [AJ,AA,AJ]at this
  rw[e1,set_mid]
 rwa [e]at h1
def InsIn(B g c a:Nat)(P S T Q D':List Ud)(x:Ud)(w wi:World)(j:Nat)(s1 s2:List Ud):Prop :=
 j=a+s1.length/\D'=s1++s2/\(∀y∈s2,cmpC x y<0)/\Arr wi B g c (P++(s1++x::(s2++(T++Q))))/\w.grownBy wi (some g)/\Rws wi g (x::S)
def InsOut(B g c a:Nat)(P S Q:List Ud)(w wo:World)(i:Nat)(D D' T:List Ud):Prop :=
 S=D++T/\i=a+D.length/\Ae cmpC D D'/\Arr wo B g c (P++(D'++(T++Q)))/\w.grownBy wo (some g)/\Rws wo g S
theorem stable_len{L M:List Ud}(h:Ae cmpC L M):M.length=L.length:=by
 have key:∀(n:Nat) (L M:List Ud),L.length<=n->Ae cmpC L M->M.length=L.length:=by
  intro n;induction n with
  | zero =>
   intro L M hn h;have:L=[]:=AG (by omega);subst this;cases M with
   | nil=>rfl
   | cons y M=>exact absurd ((h.mem cmpC_tot y).1 (BE ..)) CU
  | succ n ih =>
   intro L M hn h;cases M with
   | nil =>
    cases L with
    | nil=>rfl
    | cons y L=>exact absurd ((h.mem cmpC_tot y).2 (BE ..)) CU
   | cons y M =>
    have hy:=(h.mem cmpC_tot y).1 (BE ..);have p1:∀K:List Ud,(Af cmpC y K).length+(K.filter fun z=>!(cmpC y z==0)).length=K.length:=fun K=>by
     unfold Af;rw[<-AA];exact(FX (fun z=>cmpC y z==0) K).length_eq
    have h1:=p1 L;have h2:=p1 (y::M);have h3:(Af cmpC y L).length=(Af cmpC y (y::M)).length:=by rw[h.same y]
    have h4:0<(Af cmpC y L).length:=GD (BV.2 ⟨hy,by rw[beq_iff_eq];exact cmpC_tot.refl y⟩);have h5:=ih (L.filter fun z=>!(cmpC y z==0)) ((y::M).filter fun z=>!(cmpC y z==0)) (by omega) ⟨h.sorted.filter _,fun z=>by
     have q:=h.same z;unfold Af at q ⊢;rw[CW,CW];have e:∀K:List Ud,K.filter (fun a=>(cmpC z a==0) && !(cmpC y a==0))=(K.filter (fun a=>cmpC z a==0)).filter (fun a=>!(cmpC y a==0)):=fun K=>by
      rw[CW]
      congr 1
      funext a;rw[Bool.and_comm]
     rw[e,e,q]⟩
    omega
 exact key L.length L M (AD _) h
def nzC(x:Ud):Bool:=!(x.d==0)
theorem sum2_any(A B:Option Addr)(c n b m:Nat)(e k:Int)(v:Bool)(w:World)(hv:Hid ((k==0)=v)) :
  Calls Tryz.prog 107 #[.agg #[.slice A n c,.int .u64 e,.slice B m b,.int .i64 k]] w fun e w'=>e=.returned (.bool v)/\Ext w w':=by
 rw[<-hv.out];clear hv;go_enter Tryz.func107,Tryz.ntmps107;go_wp2;go_ret;exact⟨rfl,(Ext.refl w).alloc _⟩
theorem index_none(B g c n:Nat)(M:List Ud)(w:World)(hn:n=M.length)(h:Arr w B g c M)(hz:∀x∈M,(x.d==0)=false) :
  Calls Tryz.prog 185 #[.slice (some ⟨g,0,none⟩) n c,.func (.func 107) #[] #[]] w fun e w'=>e=.returned (.int .i64 (-1))/\Ext w w':=by
 have hnm:=h.le;rw[<-hn]at hnm;have H:=hid h;have HN:=hid hn;have HZ:=hid hz;clear h hn hz;go_enter Tryz.func185,Tryz.ntmps185;go_wp2
 go_loopw [8] (fun v wr=>∃i:Nat,i<=n/\v=.int .i64 i/\Ext w wr) (fun v _=>n-(intOf v).toNat)
 case atStart=>exact⟨0,AE _,rfl,Ext.refl _⟩
 case round =>
  obtain⟨i,hi,rfl,er⟩:=hrel;by_cases hlt:i<n
  ·have hil:i<M.length:=by rw[<-HN.out];exact hlt
   obtain⟨p0,p1,p2,p3⟩:=(H.out.ext er).at hil;have hk:((M.getD i Ud.zero).d==0)=false:=by
    rw[AB,AC hil];exact HZ.out _ (BP hil)
   obtain⟨x,hx⟩:∃x,M.getD i Ud.zero=x:=⟨_,rfl⟩;rw[hx]at p0 p1 p2 p3 hk;have HK:=hid hk;clear hil hx hk;go_wp2_with (go_at_call 107;refine(sum2_any _ _ _ _ _ _ _ _ _ _ HK).mono ?_;rintro e w1 ⟨rfl,x1⟩)
   go_roundw
   case rel=>exact⟨i+1,by omega,by go_num,er.trans x1⟩
   case measure=>simp[intOf];omega
  ·go_wp2;go_ret;exact⟨rfl,er⟩
theorem index_some(B g c n q:Nat)(P Q:List Ud)(x:Ud)(w:World)(hn:n=(P++x::Q).length)(hq:q=P.length)(h:Arr w B g c (P++x::Q))(hz:∀x∈P,(x.d==0)=false)(hx:(x.d==0)=true) :
  Calls Tryz.prog 185 #[.slice (some ⟨g,0,none⟩) n c,.func (.func 107) #[] #[]] w fun e w'=>e=.returned (.int .i64 q)/\Ext w w':=by
 have hnm:=h.le;rw[<-hn]at hnm;have hqn:q<n:=by rw[hn,AA,AI];omega
 have H:=hid h;have HQ:=hid hq;have HZ:=hid hz;have HX:=hid hx;clear h hn hz hq hx;go_enter Tryz.func185,Tryz.ntmps185;go_wp2
 go_loopw [8] (fun v wr=>∃i:Nat,i<=q/\v=.int .i64 i/\Ext w wr) (fun v _=>n-(intOf v).toNat)
 case atStart=>exact⟨0,AE _,rfl,Ext.refl _⟩
 case round =>
  obtain⟨i,hi,rfl,er⟩:=hrel;have hlt:i<n:=by omega
  have hil:i<(P++x::Q).length:=by rw[AA,AI,<-HQ.out];omega
  obtain⟨p0,p1,p2,p3⟩:=(H.out.ext er).at hil;by_cases hiq:i<q
  ·have hk:(((P++x::Q).getD i Ud.zero).d==0)=false:=by
    have hp:i<P.length:=by rw[<-HQ.out];exact hiq
    rw[AB,BI hp,AC hp];exact HZ.out _ (BP hp)
   obtain⟨y,hy⟩:∃y,(P++x::Q).getD i Ud.zero=y:=⟨_,rfl⟩;rw[hy]at p0 p1 p2 p3 hk;have HK:=hid hk;clear hil hy hk;go_wp2_with (go_at_call 107;refine(sum2_any _ _ _ _ _ _ _ _ _ _ HK).mono ?_;rintro e w1 ⟨rfl,x1⟩)
   go_roundw
   case rel=>exact⟨i+1,by omega,by go_num,er.trans x1⟩
   case measure=>simp[intOf];omega
  ·have hiq2:i=q:=by omega
   subst hiq2;have e:(P++x::Q).getD i Ud.zero=x:=by rw[HQ.out];exact getD_mid P x Q
   rw[e]at p0 p1 p2 p3;clear hil e;go_wp2_with (go_at_call 107;refine(sum2_any _ _ _ _ _ _ _ _ _ _ HX).mono ?_;rintro e w1 ⟨rfl,x1⟩)
   go_ret;exact⟨rfl,er.trans x1⟩
theorem own_set_past{w:World}{B g n c k:Nat}{xs:List Value}(h:Own w B 95 4 (some ⟨g,0,none⟩) n c xs)(hk:xs.length<=k)(u:Value):Own (w.setCell ⟨g,k,none⟩ u) B 95 4 (some ⟨g,0,none⟩) n c xs:=by
 have:=h.put k u
 rwa [FW hk]at this
theorem own_sets_past{B g n c:Nat}{xs:List Value}:∀(vs:List Value) (w:World) (k:Nat),Own w B 95 4 (some ⟨g,0,none⟩) n c xs->xs.length<=k->Own (w.setCells g k vs) B 95 4 (some ⟨g,0,none⟩) n c xs
 | [],_,_,h,_=>h
 | v::vs,w,k,h,hk=>own_sets_past vs _ (k+1) (own_set_past h hk v) (by omega)
theorem upd_sets(g:Nat):∀(vs:List Value) (w:World) (k:Nat),w.grownBy (w.setCells g k vs) (some g)
 | [],w,_=>CH w _
 | v::vs,w,k=>(Cn w g k v).trans (upd_sets g vs _ (k+1))
theorem Arr.prefix_{w:World}{B g c:Nat}{K X:List Ud}(h:Arr w B g c (K++X)):Arr w B g c K:=by
 refine⟨⟨Cw K,?_⟩,h.2⟩;rcases h.1.2 with ⟨h1,h2⟩|⟨g',cur,e,hb,hg,hnc,hcm,hcs,htake⟩
 ·exact .inl ⟨h1,by rw[AA]at h2;omega⟩
 ·refine .inr ⟨g',cur,e,hb,hg,by rw[AA]at hnc;omega,hcm,hcs,?_⟩;have:(cur.toList.take ((K++X).length*4)).take (K.length*4)=(Ah (K++X)).take (K.length*4):=by rw[htake]
  rw[List.take_take,Nat.min_eq_left (by rw[AA];omega),Bb]at this;rw[this,<-Cw K,DS]
theorem Arr.cells_past{w:World}{B g c:Nat}{K:List Ud}(h:Arr w B g c K){j:Nat}(hj:j<c*4):(w.cell? ⟨g,j,none⟩).isSome=true:=by
 rcases h.1.2 with ⟨h1,_⟩|⟨g',cur,e,hb,hg,hnc,hcm,hcs,htake⟩
 ·have:=h.2;omega
 ·cases e;rw[cell_of_row w g j cur _ (0,0) hg,ET (BF hj hcs)];rfl
theorem gM{P:Program}(w:World)(t e ty:TypeId)(z0 z1 z2 z3:Value)(ht:P.underlying t=some (.slice e))(hv:∀w,(zeroValue e).run P w=.ok (.agg #[z0,z1,z2,z3]) w)(hz:∀v∈[z0,z1,z2,z3],v.oneCell'=true)(hzc:(Value.agg #[z0,z1,z2,z3]).cells=#[z0,z1,z2,z3])(b o n c:Nat)(hn:0<n)
  (hc:∀j,j<n*4->(w.cell? ⟨b,o+j,none⟩).isSome=true) (hf:∀j,j<n*4->w.frozen? ⟨b,o+j,none⟩=false) :
  (Builtin.clear_ #[t] ty #[.slice (some ⟨b,o,none⟩) n c]).run P w=.ok (.tuple #[]) (w.setCells b o (Builtin.zeroCells #[z0,z1,z2,z3] n).toList):=by
 have hlen:(Builtin.zeroCells #[z0,z1,z2,z3] n).toList.length=n*4:=by
  have:=size_zeroCells #[z0,z1,z2,z3] n;rw[DZ,this];rfl
 have hall:∀v∈(Builtin.zeroCells #[z0,z1,z2,z3] n).toList,v.oneCell'=true:=by
  intro v hv';unfold Builtin.zeroCells at hv';rw[Array.toList_map]at hv';obtain⟨i,_,rfl⟩:=AW.1 hv';show(#[z0,z1,z2,z3][i % 4]!).oneCell'=true;rcases(by omega:i % 4=0\/i % 4=1\/i % 4=2\/i % 4=3)with h|h|h|h
  ·rw[h];exact hz z0 (by simp)
  ·rw[h];exact hz z1 (by simp)
  ·rw[h];exact hz z2 (by simp)
  ·rw[h];exact hz z3 (by simp)
 have hst:=run_storeCells_cells (P:=P) b o (Builtin.zeroCells #[z0,z1,z2,z3] n).toList 0 w (by simpa [hlen] using hc) (by simpa [hlen] using hf) hall;simp only[DV]at hst;obtain⟨m,rfl⟩:∃m,n=m+1:=⟨n-1,by omega⟩;simp[Builtin.clear_,run_underlying ht,hv,hzc,hst]
def Deleted(B g c:Nat)(M:List Ud)(w:World)(e:Ending)(w':World):Prop:=∃m,e=.returned (.slice (some ⟨g,0,none⟩) m c)/\m=(M.filter nzC).length/\Arr w' B g c (M.filter nzC)/\w.grownBy w' (some g)
theorem uG(w:World):(zeroValue 95).run Tryz.prog w=.ok (.agg #[.slice none 0 0,.int .u64 0,.slice none 0 0,.int .i64 0]) w:=by kernel_rfl
def DelIn(B g c:Nat)(M K X R:List Ud)(w wr:World)(j:Nat):Prop:=j=K.length+X.length/\M.filter nzC=K++R.filter nzC/\Arr wr B g c (K++(X++R))/\w.grownBy wr (some g)/\0<X.length
theorem DelIn.mk'{B g c:Nat}{M K X R:List Ud}{w wr wz:World}{j:Nat}(h:DelIn B g c M K X R w wr j)(hz:Ext wr wz):DelIn B g c M K X R w wz j:=⟨h.1,h.2.1,h.2.2.1.ext hz,h.2.2.2.1.trans (Av hz g),h.2.2.2.2⟩
theorem DelIn.skip{B g c:Nat}{M K X R:List Ud}{x:Ud}{w wr wz:World}{j:Nat}(h:DelIn B g c M K X (x::R) w wr j)(hx:nzC x=false)(hz:Ext wr wz):DelIn B g c M K (X++[x]) R w wz (j+1):=by
 obtain⟨h1,h2,h3,h4,h5⟩:=h;refine⟨by rw[AA,AK];omega,by rw[h2,DC (by simp[hx])],?_,h4.trans (Av hz g),by rw[AA];omega⟩;have e:K++(X++[x]++R)=K++(X++x::R):=by simp
 rw[e];exact h3.ext hz
theorem DelIn.keep{B g c i:Nat}{M K X R:List Ud}{x y:Ud}{w wr:World}{j:Nat}(h:DelIn B g c M K (y::X) (x::R) w wr j)(hx:nzC x=true)(hi:i=K.length){n m:Nat}(hn:n=x.l.length)(hm:m=x.t.l.length) :
  DelIn B g c M (K++[x]) (X++[x]) R w (put4 wr g i x n m) (j+1):=by
 subst hi hn hm;obtain⟨h1,h2,h3,h4,h5⟩:=h;refine⟨by simp only[AA,AI,CB]at h1 ⊢;omega,by rw[h2,CY hx];simp,?_,h4.trans (Si wr g _ _ _ _),by rw[AA,AK];omega⟩;have h6:=h3.set K.length x;have e:(K++(y::X++x::R)).set K.length x=K++[x]++(X++[x]++R):=by
  rw[CD,set_mid];simp
 rw[e]at h6;exact h6
theorem deleteFunc_any(B g c n:Nat)(M:List Ud)(w:World)(hn:n=M.length)(h:Arr w B g c M) :
  Calls Tryz.prog 106 #[.slice (some ⟨g,0,none⟩) n c,.func (.func 107) #[] #[]] w (Deleted B g c M w):=by
 by_cases hall:∀x∈M,(x.d==0)=false
 ·have hf:M.filter nzC=M:=FS.2 fun x hx=>by unfold nzC;rw[hall x hx];rfl
  have H:=hid h;have HN:=hid hn;have HF:=hid hf;clear h hn hf;go_enter Tryz.func106,Tryz.ntmps106;go_wp2_with (go_at_call 185;refine(index_none B g c n M _ HN.out H.out hall).mono ?_;rintro e w1 ⟨rfl,x1⟩)
  go_ret;exact⟨n,rfl,by rw[HF.out];exact HN.out,by rw[HF.out];exact H.out.ext x1,Av x1 g⟩
 ·obtain⟨P,x,Q,rfl,hP,hx⟩:∃P x Q,M=P++x::Q/\(∀y∈P,(y.d==0)=false)/\(x.d==0)=true:=by
   clear h hn;induction M with
   | nil=>exact absurd (fun x hx=>(nomatch hx)) hall
   | cons y M ih =>
    by_cases hy:(y.d==0)=true
    ·exact⟨[],y,M,rfl,fun z hz=>(nomatch hz),hy⟩
    ·have hy':(y.d==0)=false:=by simpa using hy
     obtain⟨P,x,Q,e,h1,h2⟩:=ih (fun q=>hall fun z hz=>(AZ.1 hz).elim (fun e=>e▸hy') (q z));exact⟨y::P,x,Q,by rw[e];rfl,fun z hz=>(AZ.1 hz).elim (fun e=>e▸hy') (h1 z),h2⟩
  clear hall;obtain⟨M,hM⟩:∃M,M=P++x::Q:=⟨_,rfl⟩;obtain⟨q,hq⟩:∃q,q=P.length:=⟨_,rfl⟩;have hnm:=h.le;rw[<-hn]at hnm;have hqn:q<n:=by rw[hn,hq,AA,AI];omega
  have hncap:n<=c:=by rw[hn];exact h.1.le.1
  have hc63:c<=9223372036854775807:=h.1.le.2;have hf1:P.filter nzC=P:=FS.2 fun y hy=>by unfold nzC;rw[hP y hy];rfl
  have H:=hid h;have HN:=hid hn;have HQ:=hid hq;have HP:=hid hP;have HX:=hid hx;have HLen:Hid (n=q+1+Q.length):=hid (by rw[hn,hq,AA,AI];omega);have HD:∀w1,Ext w w1->Hid (DelIn B g c M P [x] Q w w1 (q+1)):=fun w1 x1=>hid ⟨by rw[hq];rfl,by rw[hM,DR,hf1,DC (by unfold nzC;rw[hx];decide)],h.ext x1,Av x1 g,Nat.zero_lt_one⟩;have HDD:=hid HD;rw[<-hM];clear h hn hq hP hx hf1 hM HD;go_enter Tryz.func106,Tryz.ntmps106;go_wp2_with (go_at_call 185;refine(index_some B g c n q P Q x _ HN.out HQ.out H.out HP.out HX.out).mono ?_;rintro e w1 ⟨rfl,x1⟩)
  go_loopg [5,6] (n-(q+1)) (fun z u v wr=>∃(i j:Nat) (K X R:List Ud),z=n-j/\j<=n/\i<=j/\u=.int .i64 i/\v=.int .i64 j/\Hid (i=K.length/\n=j+R.length)/\Hid (DelIn B g c M K X R w wr j))
  case atStart=>exact⟨q,q+1,P,[x],Q,rfl,by omega,by omega,rfl,by simp,hid ⟨HQ.out,HLen.out⟩,HDD.out w1 x1⟩
  case round =>
   obtain⟨i,j,K,X,R,rfl,hj,hij,rfl,rfl,HI,HJ⟩:=hrel;obtain⟨wi,hwi⟩:∃wi:World,wi=wr:=⟨_,rfl⟩;rw[<-hwi]at HJ ⊢;clear hwi;by_cases hlt:j<n
   ·obtain⟨y,R,rfl⟩:∃y R',R=y::R':=by
     cases R with
     | nil=>have:=HI.out.2;rw[CB]at this;omega
     | cons y R=>exact⟨y,R,rfl⟩
    obtain⟨x0,X,rfl⟩:∃x0 X',X=x0::X':=by
     cases X with
     | nil=>have:=HJ.out.2.2.2.2;exact absurd this (by decide)
     | cons x0 X=>exact⟨x0,X,rfl⟩
    have hA:=HJ.out.2.2.1;have hjl:j<(K++(x0::X++y::R)).length:=by have:=HJ.out.1;simp only[AA,AI]at this ⊢;omega
    obtain⟨p0,p1,p2,p3⟩:=hA.at hjl;have e:(K++(x0::X++y::R)).getD j Ud.zero=y:=by
     rw[<-AJ,show j=(K++x0::X).length by rw[AA];exact HJ.out.1];exact getD_mid _ y R
    rw[e]at p0 p1 p2 p3;have f0:=hA.free (i*4);have f0b:=hA.free (i*4+1);have f1:=hA.free (i*4+2);have f1b:=hA.free (i*4+3);have c0:∃u,wi.cell? ⟨g,i*4,none⟩=some u:=CK.1 (hA.cells_past (by omega));obtain⟨u0,c0⟩:=c0;have c1:∃u,wi.cell? ⟨g,i*4+1,none⟩=some u:=CK.1 (hA.cells_past (by omega));obtain⟨u1,c1⟩:=c1;have c2:∃u,wi.cell? ⟨g,i*4+2,none⟩=some u:=CK.1 (hA.cells_past (by omega));obtain⟨u2,c2⟩:=c2;have c3:∃u,wi.cell? ⟨g,i*4+3,none⟩=some u:=CK.1 (hA.cells_past (by omega));obtain⟨u3,c3⟩:=c3;have HA:=hid hA;obtain⟨ny,hny⟩:∃ny,ny=y.l.length:=⟨_,rfl⟩;obtain⟨ty,hty⟩:∃ty,ty=y.t.l.length:=⟨_,rfl⟩;rw[<-hny]at p0;rw[<-hty]at p2;have HNY:=hid hny;have HTY:=hid hty;obtain⟨v,hv⟩:∃v,(y.d==0)=v:=⟨_,rfl⟩;have HV:=hid hv;clear hA hjl e hny hty hv;cases v
    ·have hx:Hid (nzC y=true):=hid (by unfold nzC;rw[HV.out];rfl);go_wp2_with (go_at_call 107;refine(sum2_any _ _ _ _ _ _ _ _ _ _ HV).mono ?_;rintro e w2 ⟨rfl,x2⟩;have X2:=((Ext.refl wi).alloc (.cells #[.slice y.A ny y.c,.int .u64 y.t.e,.slice y.t.A ty y.t.c,.int .i64 y.d] 95)).trans x2;have B2:=(Bk.new wi 95 #[.slice y.A ny y.c,.int .u64 y.t.e,.slice y.t.A ty y.t.c,.int .i64 y.d]).ext x2;have b0:=B2.cell 0;have b1:=B2.cell 1;have b2:=B2.cell 2;have b3:=B2.cell 3;have HA2:=hid (HA.out.ext X2);have g0:=HA2.out.free (i*4);have g1:=HA2.out.free (i*4+1);have g2:=HA2.out.free (i*4+2);have g3:=HA2.out.free (i*4+3);have d0:=X2.cell c0;have d1:=X2.cell c1;have d2:=X2.cell c2;have d3:=X2.cell c3)
     go_roundg (n-(j+1))
     case measure=>omega
     case rel=>exact⟨i+1,j+1,K++[y],X++[y],R,rfl,by omega,by omega,by go_num,by go_num,hid ⟨by rw[AA,AK,<-HI.out.1],by have:=HI.out.2;rw[AI]at this;omega⟩,hid ((DelIn.mk' HJ.out X2).keep hx.out HI.out.1 HNY.out HTY.out)⟩
    ·have hx:Hid (nzC y=false):=hid (by unfold nzC;rw[HV.out];rfl);go_wp2_with (go_at_call 107;refine(sum2_any _ _ _ _ _ _ _ _ _ _ HV).mono ?_;rintro e w2 ⟨rfl,x2⟩;have X2:=((Ext.refl wi).alloc (.cells #[.slice y.A ny y.c,.int .u64 y.t.e,.slice y.t.A ty y.t.c,.int .i64 y.d] 95)).trans x2)
     go_roundg (n-(j+1))
     case measure=>omega
     case rel=>exact⟨i,j+1,K,x0::X++[y],R,rfl,by omega,by omega,rfl,by go_num,hid ⟨HI.out.1,by have:=HI.out.2;rw[AI]at this;omega⟩,hid (HJ.out.skip hx.out X2)⟩
   ·obtain rfl:j=n:=by omega
    have hR:R=[]:=AG (by have:=HI.out.2;omega);subst hR;have hA:=HJ.out.2.2.1;have hin:i<j:=by have h1:=HJ.out.1;have h2:=HI.out.1;have h3:=HJ.out.2.2.2.2;omega
    have hcap:j-i<=c-i:=by omega
    have hci:¬(c=i):=by omega
    have hcl:∃vs,∀ty,(Builtin.clear_ #[22] ty #[.slice (some ⟨g,i*4,none⟩) (j-i) (c-i)]).run Tryz.prog wi=.ok (.tuple #[]) (wi.setCells g (i*4) vs):=
     ⟨_,fun ty=>(gM (P:=Tryz.prog) wi 22 95 ty (.slice none 0 0) (.int .u64 0) (.slice none 0 0) (.int .i64 0) Tryz.underlying22 uG (by intro v hv;simp at hv;rcases hv with rfl|rfl|rfl|rfl<;>rfl) rfl g (i*4) (j-i) (c-i) (by omega) (fun t ht=>hA.cells_past (by omega)) (fun t ht=>hA.free _))⟩
    obtain⟨vs,hcl⟩:=hcl;have HA:=hid hA;have HF:Hid (M.filter nzC=K):=hid (by have:=HJ.out.2.1;rwa [List.filter_nil,AP]at this);have HG:=hid HJ.out.2.2.2.1;have HK:=hid HI.out.1;clear hA HJ HI;go_wp2;go_ret;refine⟨i,rfl,by rw[HF.out];exact HK.out,?_,HG.out.trans (upd_sets g vs wi _)⟩;rw[HF.out];have hp:=HA.out.prefix_;exact⟨own_sets_past vs wi _ hp.1 (by rw[Cw,HK.out];exact AD _),hp.2⟩
end Go.Proofs.YtdgbkpoickbidaaGreatDoor.UdS
namespace Go.Proofs.YtdgbkpoickbidaaGreatDoor
namespace UdS
theorem rV{α β:Type}{f:α->β}{O:List α}{M:List β}{y:β}(h:O.map f=M++[y]):∃K z,O=K++[z]/\K.map f=M/\f z=y:=by
 obtain⟨K,R,e,e1,e2⟩:=List.map_eq_append_iff.1 h;cases R with
 | nil=>simp at e2
 | cons z R =>
  cases R with
  | cons z' R=>simp at e2
  | nil=>exact⟨K,z,e,e1,by simpa using e2⟩
theorem dK{O S:List Ud}(h:Ae cmpC O S):Ae cmpV (O.map Ud.uv) (S.map Ud.uv):=by
 refine⟨DL.2 (h.sorted.imp fun q=>q),fun c=>?_⟩;have e:∀K:List Ud,Af cmpV c (K.map Ud.uv)=(Af cmpC ⟨none,0,c.1.1,⟨c.1.2.1,none,0,c.1.2.2⟩,c.2⟩ K).map Ud.uv:=fun K=>by
  unfold Af;rw[EH];rfl
 rw[e,e,h.same]
theorem xS{S O:List Ud}{j:Nat}(hs:S.Pairwise fun x y=>cmpC x y<=0)(hin:∀x∈S,InN x.uv)(h:O.map Ud.uv=mergeV ((S.take (j+1)).map Ud.uv))(hj:j<S.length) :
  ∃M y,O=M++[y]/\∀x:Ud,Hp y.k x.k=0↔Hp (S.getD j Ud.zero).k x.k=0:=by
 have hsub:(S.take (j+1)).Sublist S:=List.take_sublist _ _;have k:=(merge_sum ((S.take (j+1)).map Ud.uv) (DL.2 ((hs.sublist hsub).imp fun q=>q)) (fun x hx=>by obtain⟨y,hy,rfl⟩:=AW.1 hx;exact hin y (hsub.subset hy))).2;rw[Ig hj]at k h;rcases k with ⟨k,_⟩|⟨S0,s,M0,y,k1,k2,k3⟩
 ·simp at k
 ·rw[k2]at h;obtain⟨K,z,e,e1,e2⟩:=rV h;refine⟨K,z,e,fun x=>?_⟩;rw[AO,BZ]at k1;have hsz:=(List.append_inj' k1 rfl).2;have hs2:(S.getD j Ud.zero).uv=s:=by simpa using hsz
  have k4:Hp z.k (S.getD j Ud.zero).k=0:=by
   have:cmpV z.uv (S.getD j Ud.zero).uv=0:=by rw[e2,hs2];exact k3
   exact this
  exact Jo.eq_left k4
structure Gt (w w1:World) (S:List Ud) (wr:World) (i:Nat) (A:Option Addr) (c:Nat) (O:List Ud):Prop where
 out:Cl wr w.heap.size A c O
 is:O.map Ud.uv=mergeV ((S.take i).map Ud.uv)
 len:O.length<=i
 ext:Ext w1 wr
 lo:Ext w w1
variable{w w1 wr wz:World}{S O M:List Ud}{i:Nat}{A:Option Addr}{c:Nat}{x y:Ud}
theorem Gt.mono(h:Gt w w1 S wr i A c O)(q:Ext wr wz):Gt w w1 S wz i A c O:=⟨h.out.ext q,h.is,h.len,h.ext.trans q,h.lo⟩
theorem Gt.join{g m:Nat}{s:Int}(h:Gt w w1 S wr i (some ⟨g,0,none⟩) c (M++[y]))(hi:i<S.length)(hx:S.getD i Ud.zero=x)(hc:Hp y.k x.k=0)(hm:m=M.length)(hs:w64 (y.d+x.d)=s)(hg:w1.heap.size<=g) :
  Gt w w1 S (wr.setCell ⟨g,m*4+3,none⟩ (.int .i64 s)) (i+1) (some ⟨g,0,none⟩) c (M++[⟨y.A,y.c,y.l,y.t,s⟩]):=by
 subst hm hs;refine⟨h.out.bump _,?_,by have:=h.len;simp only[AA,AK]at this ⊢;omega,h.ext.set (p:=⟨g,_,none⟩) hg _,h.lo⟩;rw[Ig hi,hx,AO,AO,BZ,BZ,mergeV_snoc,<-h.is,AO,BZ,mergeStep_snoc,if_pos (show cmpV y.uv x.uv=0 from hc)];rfl
theorem cP(h:O.map Ud.uv=mergeV ((S.take i).map Ud.uv))(hi:i<S.length)(hx:S.getD i Ud.zero=x)(hc:O=[]\/∃M y,O=M++[y]/\¬Hp y.k x.k=0){z:Ud}(hz:z.uv=x.uv):(O++[z]).map Ud.uv=mergeV ((S.take (i+1)).map Ud.uv):=by
 rw[Ig hi,hx,AO,AO,BZ,BZ,mergeV_snoc,<-h,hz];rcases hc with rfl|⟨M,y,rfl,hc⟩
 ·rfl
 ·rw[AO,BZ,mergeStep_snoc,if_neg (show ¬cmpV y.uv x.uv=0 from hc)]
def Yz(w:World)(L:List Ud)(e:Ending)(w':World):Prop:=∃A m R,e=.returned (.slice A m m)/\m=R.length/\Cl w' w.heap.size A m R/\R.map Ud.uv=sumV (L.map Ud.uv)/\Ext w w'
theorem sZ{L S O:List Ud}(hin:∀x∈L,InN x.uv)(st:Ae cmpC L S)(h:O.map Ud.uv=mergeV (S.map Ud.uv)):(O.filter nzC).map Ud.uv=sumV (L.map Ud.uv):=by
 have h1:Summed (L.map Ud.uv) (O.map Ud.uv):=by
  rw[h];exact Summed.of_stable (dK st) (fun y hy=>by obtain⟨x,hx,rfl⟩:=AW.1 hy;exact hin x hx)
 have h2:=Summed.all (L.map Ud.uv) (fun y hy=>by obtain⟨x,hx,rfl⟩:=AW.1 hy;exact hin x hx);unfold sumV;rw[<-h1.unique h2,EH];rfl
end UdS
theorem Mn(A:Option Addr)(n c:Nat)(L:List Ud)(w:World)(hm:Hid (n=L.length))(h:Hid (Uin w A c L))(hn:n<=1000000) :
  Calls Tryz.prog 101 #[.slice A n c] w fun e w'=>∃A' c',e=.returned (.slice A' n c')/\Own w' w.heap.size 95 4 A' n c' (Ah L)/\Ext w w':=by
 have hs:Hid (Sl w 4 A n c (Ah L)):=hid (by rw[hm.out];exact h.out.sl);have hnil:=fun (W:World)=>FI (P:=Tryz.prog) W 22 95 A n c 0 0 Tryz.underlying22;rcases A with _|a
 ·obtain rfl:c=0:=hs.out.2.2.2.1 rfl;have hn0:n=0:=by have:=hs.out.2.1;omega
  subst hn0;have hx:Ah L=[]:=AG (by simpa using hs.out.1);rw[hx];go_enter Tryz.func101,Tryz.ntmps101;go_wp2;go_ret;exact⟨none,0,rfl,Own.nil _ _ _ _,Ext.refl _⟩
 ·go_enter Tryz.func101,Tryz.ntmps101;go_wp2_with (at_builtin;refine Ck _ Aw w.heap.size _ _ (by rfl) (by rfl) _ 0 0 [] (by rfl) (Own.empty _ _ _ _ _) (some a) n c (Ah L) (by rfl) (hs.out.ext ((Ext.refl w).alloc _)) (Ca L) (by omega) (by omega) (by simp) ?_;intro A' c' w1 ho1 hg1 hk1)
  go_ret;refine⟨A',c',by simp,by simpa using ho1,?_⟩;exact((Ext.refl w).alloc _).grown hg1 (by simp[blk])
theorem Bk.set4{w:World}{g:Nat}{t:TypeId}{a b c d:Value}(h:Bk w g t #[a,b,c,d])(u v x y:Value) :
  ((((w.setCell ⟨g,0,none⟩ u).setCell ⟨g,1,none⟩ v).setCell ⟨g,2,none⟩ x).setCell ⟨g,3,none⟩ y).cell? ⟨g,0,none⟩=some u/\((((w.setCell ⟨g,0,none⟩ u).setCell ⟨g,1,none⟩ v).setCell ⟨g,2,none⟩ x).setCell ⟨g,3,none⟩ y).cell? ⟨g,1,none⟩=some v /\
   ((((w.setCell ⟨g,0,none⟩ u).setCell ⟨g,1,none⟩ v).setCell ⟨g,2,none⟩ x).setCell ⟨g,3,none⟩ y).cell? ⟨g,2,none⟩=some x/\((((w.setCell ⟨g,0,none⟩ u).setCell ⟨g,1,none⟩ v).setCell ⟨g,2,none⟩ x).setCell ⟨g,3,none⟩ y).cell? ⟨g,3,none⟩=some y:=by
 have bb:=(((h.set 0 u).set 1 v).set 2 x).set 3 y;exact⟨bb.cell 0,bb.cell 1,bb.cell 2,bb.cell 3⟩
def uB(x:Ud)(nx tx:Nat)(w:World)(r:Ending)(w':World):Prop:=∃(A:Option Addr) (c:Nat) (B:Option Addr) (b:Nat),r=.returned (.agg #[.slice A nx c,.int .u64 x.t.e,.slice B tx b,.int .i64 x.d]) /\
 Own w' w.heap.size 204 4 A nx c (Dc x.l)/\Own w' w.heap.size 180 1 B tx b (wds x.t.l)/\Ext w w'
theorem Qj(x:Ud)(nx tx:Nat)(w:World)(hnx:Hid (nx=x.l.length))(htx:Hid (tx=x.t.l.length))(hx:Hid (UdR w x))(h9:nx<=1000000000)(h8:tx<=1000000000) :
  Calls Tryz.prog 104 #[.agg #[.slice x.A nx x.c,.int .u64 x.t.e,.slice x.t.A tx x.t.c,.int .i64 x.d]] w (uB x nx tx w):=by
 have HT:Hid (Sl w 1 x.t.A tx x.t.c (wds x.t.l)):=hid (by rw[htx.out];exact hx.out.t);go_enter Tryz.func104,Tryz.ntmps104
 go_upto_region 1 with fail
 obtain⟨w0,hw0⟩:∃w0,w0=(w.alloc (Obj.cells #[.slice x.A nx x.c,.int .u64 x.t.e,.slice x.t.A tx x.t.c,.int .i64 x.d] 95)).alloc (Obj.cells #[.slice none 0 0,.int .u64 0,.slice none 0 0,.int .i64 0] 95):=⟨_,rfl⟩;have x0:Ext w w0:=hw0▸((Ext.refl w).alloc _).alloc _;have a0:Bk w0 w.heap.size 95 #[.slice x.A nx x.c,.int .u64 x.t.e,.slice x.t.A tx x.t.c,.int .i64 x.d]:=by subst hw0;exact(Bk.new _ _ _).alloc _
 have b0:Bk w0 (w.heap.size+1) 95 #[.slice none 0 0,.int .u64 0,.slice none 0 0,.int .i64 0]:=by subst hw0;exact Bk.at (by simp)
 have hs0:w0.heap.size=w.heap.size+2:=by rw[hw0];simp
 rw[<-hw0];clear hw0;have X:Ext w0 w0.drew:=(Ext.refl w0).drew;have q0:∀y:Xt w0.drew,y.W.cell? ⟨w.heap.size,0,none⟩=some (.slice x.A nx x.c):=fun y=>(a0.ext (X.trans y.x)).cell 0;have q2:∀y:Xt w0.drew,y.W.cell? ⟨w.heap.size,2,none⟩=some (.slice x.t.A tx x.t.c):=fun y=>(a0.ext (X.trans y.x)).cell 2;have HR:=hid (hx.out.r.ext (x0.trans X));refine wro [0,1,3,0,8,24,63,63,255,511,1023,2047] (.flo [0,1,3,4,5] (.ext 2 (.pur [7] (.one 6 (.one 8 (.flo [9,10] (.one 11 (.fin)))))))) ?_
 (refine Aa (pks rfl) ?_;(repeat (go_big_quiet_step (fail)));refine oq ?_)
 refine Bi (pks rfl) ?_;intro K_ hK_;go_wp2_with (go_at_call 183;refine(Qa x.A x.c nx x.l _ hnx HR h9).mono ?_;rintro e w1 ⟨⟨A1,c1,rfl,o1,b1⟩,x1⟩)
 refine Aq.mk x1 ?_
 (refine Bv (pks rfl) ?_;(repeat (go_big_quiet_step (fail)));refine oq ?_)
 refine Ac (pks rfl) ?_;intro K_ hK_;have hs1:=(X.trans x1).size;go_wp2_with (go_at_call 184;refine(Qz x.t.A tx x.t.c _ _ (HT.out.ext ((x0.trans X).trans x1)) (Rn _) (by omega)).mono ?_;rintro e w2 ⟨A2,c2,rfl,o2,x2⟩)
 have XE:Ext w0 w2:=(X.trans x1).trans x2;have O1:Hid (Own w2 w0.heap.size 204 4 A1 nx c1 (Dc x.l)):=hid ((Own.ext o1 x2).mono X.size);have O2:Hid (Own w2 w0.heap.size 180 1 A2 tx c2 (wds x.t.l)):=hid (Own.mono o2 hs1);have a2:=a0.ext XE;have b2:=b0.ext XE;have p0:=a2.cell 0;have f0:=a2.free 0;have hs2:=XE.size;clear o1 o2 b1 q0 q2;refine Ac (pks rfl) ?_;intro K_ hK_;go_wp2;obtain⟨w3,hw3⟩:∃w3,w3=w2.setCell ⟨w.heap.size,0,none⟩ (.slice A1 nx c1):=⟨_,rfl⟩;have a3:Bk w3 w.heap.size 95 #[.slice A1 nx c1,.int .u64 x.t.e,.slice x.t.A tx x.t.c,.int .i64 x.d]:=by rw[hw3];exact a2.set 0 _
 have b3:Bk w3 (w.heap.size+1) 95 #[.slice none 0 0,.int .u64 0,.slice none 0 0,.int .i64 0]:=by rw[hw3];exact b2.far (by simp) _
 have O1:Hid (Own w3 w0.heap.size 204 4 A1 nx c1 (Dc x.l)):=hid (by rw[hw3];exact O1.out.far (O1.out.ne (by show w.heap.size<_;omega)) _);have O2:Hid (Own w3 w0.heap.size 180 1 A2 tx c2 (wds x.t.l)):=hid (by rw[hw3];exact O2.out.far (O2.out.ne (by show w.heap.size<_;omega)) _);have X3:Hid (Ext w w3):=hid (by rw[hw3];exact(x0.trans XE).set (p:=⟨w.heap.size,0,none⟩) (AD _) _);rw[<-hw3];clear hw3 p0 f0;have p2:=a3.cell 2;have f2:=a3.free 2
 (refine Aa (pks rfl) ?_;(repeat (go_big_quiet_step (fail)));refine oq ?_)
 refine Ac (pks rfl) ?_;intro K_ hK_;go_wp2;obtain⟨w4,hw4⟩:∃w4,w4=w3.setCell ⟨w.heap.size,2,none⟩ (.slice A2 tx c2):=⟨_,rfl⟩;have a4:Bk w4 w.heap.size 95 #[.slice A1 nx c1,.int .u64 x.t.e,.slice A2 tx c2,.int .i64 x.d]:=by rw[hw4];exact a3.set 2 _
 have b4:Bk w4 (w.heap.size+1) 95 #[.slice none 0 0,.int .u64 0,.slice none 0 0,.int .i64 0]:=by rw[hw4];exact b3.far (by simp) _
 have O1:Hid (Own w4 w0.heap.size 204 4 A1 nx c1 (Dc x.l)):=hid (by rw[hw4];exact O1.out.far (O1.out.ne (by show w.heap.size<_;omega)) _);have O2:Hid (Own w4 w0.heap.size 180 1 A2 tx c2 (wds x.t.l)):=hid (by rw[hw4];exact O2.out.far (O2.out.ne (by show w.heap.size<_;omega)) _);have X4:Hid (Ext w w4):=hid (by rw[hw4];exact X3.out.set (p:=⟨w.heap.size,2,none⟩) (AD _) _);rw[<-hw4];clear hw4 p2 f2;refine Ad ?_;have r0:=a4.cell 0;have r1:=a4.cell 1;have r2:=a4.cell 2;have r3:=a4.cell 3;have s0:=b4.cell 0;have s1:=b4.cell 1;have s2:=b4.cell 2;have s3:=b4.cell 3;have g0:=b4.free 0;have g1:=b4.free 1;have g2:=b4.free 2;have g3:=b4.free 3;have BB:=hid b4;clear a0 b0 a2 b2 a3 b3 a4 b4;go_wp2;have bb:=BB.out.set4 (.slice A1 nx c1) (.int .u64 x.t.e) (.slice A2 tx c2) (.int .i64 x.d);refine bodyPost_ret (v:=.agg #[.slice A1 nx c1,.int .u64 x.t.e,.slice A2 tx c2,.int .i64 x.d]) (by simp[results,Tryz.results104,go_sem,bb.1,bb.2.1,bb.2.2.1,bb.2.2.2]) rfl ⟨A1,c1,A2,c2,rfl,?_,?_,?_⟩
 ·exact((((O1.out.far (O1.out.ne (by show w.heap.size+1<_;omega)) _).far (O1.out.ne (by show w.heap.size+1<_;omega)) _).far (O1.out.ne (by show w.heap.size+1<_;omega)) _).far (O1.out.ne (by show w.heap.size+1<_;omega)) _).mono (by omega)
 ·exact((((O2.out.far (O2.out.ne (by show w.heap.size+1<_;omega)) _).far (O2.out.ne (by show w.heap.size+1<_;omega)) _).far (O2.out.ne (by show w.heap.size+1<_;omega)) _).far (O2.out.ne (by show w.heap.size+1<_;omega)) _).mono (by omega)
 ·exact(((X4.out.set (p:=⟨w.heap.size+1,0,none⟩) (by simp) _).set (p:=⟨w.heap.size+1,1,none⟩) (by simp) _).set (p:=⟨w.heap.size+1,2,none⟩) (by simp) _).set (p:=⟨w.heap.size+1,3,none⟩) (by simp) _
end Go.Proofs.YtdgbkpoickbidaaGreatDoor
namespace Go.Proofs.YtdgbkpoickbidaaGreatDoor.UdS
theorem getD_here{P Q:List Ud}{x:Ud}{p:Nat}(hp:p=P.length):(P++x::Q).getD p Ud.zero=x:=by subst hp;exact getD_mid P x Q
theorem Arr.here{w:World}{B g c p:Nat}{P Q:List Ud}{x:Ud}(h:Arr w B g c (P++x::Q))(hp:p=P.length) :
  w.cell? ⟨g,p*4,none⟩=some (.slice x.A x.l.length x.c)/\w.cell? ⟨g,p*4+1,none⟩=some (.int .u64 x.t.e)/\w.cell? ⟨g,p*4+2,none⟩=some (.slice x.t.A x.t.l.length x.t.c)/\w.cell? ⟨g,p*4+3,none⟩=some (.int .i64 x.d):=by
 have:=h.at (i:=p) (by subst hp;simp)
 rwa [getD_here hp]at this
theorem set_two(P M Q:List Ud)(x y:Ud):((P++x::(M++y::Q)).set P.length y).set (P.length+1+M.length) x=P++y::(M++x::Q):=by
 rw[set_mid];have:=set_mid (P++y::M) y x Q;simp only[AJ,CD,AA,AI]at this
 rwa [show P.length+1+M.length=P.length+(M.length+1)by omega]
theorem set_two'(P M Q:List Ud)(x y:Ud):((P++x::(M++y::Q)).set (P.length+1+M.length) x).set P.length y=P++y::(M++x::Q):=by
 have:=set_mid (P++x::M) y x Q;simp only[AJ,CD,AA,AI]at this;rw[show P.length+1+M.length=P.length+(M.length+1)by omega,this,set_mid]
section
variable{w:World}{B g c p q:Nat}{P M Q:List Ud}{x y:Ud}
theorem Arr.swapA(h:Arr w B g c (P++x::(M++y::Q)))(hp:p=P.length)(hq:q=P.length+1+M.length){nx ny tx ty:Nat}(hx:nx=x.l.length)(hy:ny=y.l.length)(hx2:tx=x.t.l.length)(hy2:ty=y.t.l.length) :
  Arr (put4 (put4 w g p y ny ty) g q x nx tx) B g c (P++y::(M++x::Q)):=by
 subst hp hq hx hy hx2 hy2;have h1:=(h.set P.length y).set (P.length+1+M.length) x
 rwa [set_two]at h1
theorem Arr.swapB(h:Arr w B g c (P++x::(M++y::Q)))(hp:p=P.length)(hq:q=P.length+1+M.length){nx ny tx ty:Nat}(hx:nx=x.l.length)(hy:ny=y.l.length)(hx2:tx=x.t.l.length)(hy2:ty=y.t.l.length) :
  Arr (put4 (put4 w g q x nx tx) g p y ny ty) B g c (P++y::(M++x::Q)):=by
 subst hp hq hx hy hx2 hy2;have h1:=(h.set (P.length+1+M.length) x).set P.length y
 rwa [set_two']at h1
end
theorem cons_of{α:Type}{l:List α}(h:0<l.length):∃x t,l=x::t:=by
 cases l with
 | nil=>exact absurd h (CO 0)
 | cons x t=>exact⟨x,t,rfl⟩
def SwIn(B g c:Nat)(P X M Y Q:List Ud)(w wi:World)(i:Nat)(X1 X2 Y1 Y2:List Ud):Prop :=
 X=X1++X2/\Y=Y1++Y2/\X1.length=i/\Y1.length=i/\Arr wi B g c (P++(Y1++(X2++(M++(X1++(Y2++Q))))))/\w.grownBy wi (some g)
theorem SwIn.form{B g c:Nat}{P X M Y Q:List Ud}{w wi:World}{i:Nat}{X1 X2 Y1 Y2:List Ud}{x y:Ud}(h:SwIn B g c P X M Y Q w wi i X1 (x::X2) Y1 (y::Y2)) :
  Arr wi B g c ((P++Y1)++x::((X2++(M++X1))++y::(Y2++Q))):=by
 have:=h.2.2.2.2.1;have e:P++(Y1++(x::X2++(M++(X1++(y::Y2++Q)))))=(P++Y1)++x::((X2++(M++X1))++y::(Y2++Q)):=by simp
 rwa [e]at this
theorem SwIn.ext{B g c:Nat}{P X M Y Q:List Ud}{w wi wz:World}{i:Nat}{X1 X2 Y1 Y2:List Ud}(h:SwIn B g c P X M Y Q w wi i X1 X2 Y1 Y2)(z:Ext wi wz):SwIn B g c P X M Y Q w wz i X1 X2 Y1 Y2 :=
 ⟨h.1,h.2.1,h.2.2.1,h.2.2.2.1,h.2.2.2.2.1.ext z,h.2.2.2.2.2.trans (Av z g)⟩
theorem SwIn.step{B g c a b p q:Nat}{P X M Y Q:List Ud}{w wi:World}{i:Nat}{X1 X2 Y1 Y2:List Ud}{x y:Ud}(h:SwIn B g c P X M Y Q w wi i X1 (x::X2) Y1 (y::Y2))(ha:a=P.length)(hb:b=P.length+X.length+M.length)(hp:p=a+i)(hq:q=b+i){nx ny tx ty:Nat}(hx:nx=x.l.length)(hy:ny=y.l.length)(hx2:tx=x.t.l.length)(hy2:ty=y.t.l.length){wj:World}(hz:Ext wi wj) :
  SwIn B g c P X M Y Q w (put4 (put4 wj g p y ny ty) g q x nx tx) (i+1) (X1++[x]) X2 (Y1++[y]) Y2:=by
 have hf:=h.form.ext hz;obtain⟨h1,h2,h3,h4,h5,h6⟩:=h;have h7:=hf.swapA (p:=p) (q:=q) (by rw[AA];omega) (by
  have:=congrArg List.length h1;simp only[AA,AI]at this ⊢;omega) hx hy hx2 hy2
 refine⟨by rw[h1];simp,by rw[h2];simp,by rw[AA,AK];omega,by rw[AA,AK];omega,?_,(h6.trans (Av hz g)).trans upd_swap⟩;have e:P++(Y1++[y]++(X2++(M++(X1++[x]++(Y2++Q)))))=(P++Y1)++y::((X2++(M++X1))++x::(Y2++Q)):=by simp
 rw[e];exact h7
theorem swapR_any(B g c n a b k:Nat)(P X M Y Q:List Ud)(w:World)(ha:a=P.length)(hb:b=P.length+X.length+M.length)(hx:k=X.length)(hy:k=Y.length)(hn:n=(P++(X++(M++(Y++Q)))).length)(h:Arr w B g c (P++(X++(M++(Y++Q))))) :
  Calls Tryz.prog 283 #[.slice (some ⟨g,0,none⟩) n c,.int .i64 a,.int .i64 b,.int .i64 k,.func (.func 103) #[] #[]] w fun e w'=>e=.returned (.tuple #[])/\Arr w' B g c (P++(Y++(M++(X++Q))))/\w.grownBy w' (some g):=by
 have hnm:=h.le;rw[<-hn]at hnm;have hbk:b+k<=n:=by rw[hb,hn];simp only[AA];omega
 have hak:a+k<=b:=by omega
 have HA:=hid ha;have HB:=hid hb;have HX:=hid hx;have HY:=hid hy;have HI:Hid (SwIn B g c P X M Y Q w w 0 [] X [] Y):=hid ⟨rfl,rfl,rfl,rfl,h,CH w _⟩;clear ha hb hx hy hn h;go_enter Tryz.func283,Tryz.ntmps283;go_wp2
 go_loopg [10] k (fun z v wr=>∃(i:Nat) (X1 X2 Y1 Y2:List Ud),z=k-i/\i<=k/\v=.int .i64 i/\Hid (SwIn B g c P X M Y Q w wr i X1 X2 Y1 Y2))
 case atStart=>exact⟨0,[],X,[],Y,rfl,AE _,rfl,HI⟩
 case round =>
  obtain⟨i,X1,X2,Y1,Y2,rfl,hi,rfl,HJ⟩:=hrel;clear HI;by_cases hlt:i<k
  ·obtain⟨x,X2,rfl⟩:=cons_of (l:=X2) (by
    obtain⟨q1,q2,q3,q4,_⟩:=HJ.out;have:=HX.out;rw[q1,AA]at this;omega)
   obtain⟨y,Y2,rfl⟩:=cons_of (l:=Y2) (by
    obtain⟨q1,q2,q3,q4,_⟩:=HJ.out;have:=HY.out;rw[q2,AA]at this;omega)
   have hf:=HJ.out.form;obtain⟨px0,px1,px2,px3⟩:=hf.here (p:=a+i) (by rw[AA];have:=HA.out;have:=HJ.out.2.2.2.1;omega);have hf2:Arr wr B g c ((P++(Y1++(x::X2++(M++X1))))++y::(Y2++Q)):=by
    have e:(P++Y1)++x::((X2++(M++X1))++y::(Y2++Q))=(P++(Y1++(x::X2++(M++X1))))++y::(Y2++Q):=by simp
    rwa [e]at hf
   obtain⟨py0,py1,py2,py3⟩:=hf2.here (p:=b+i) (by
    obtain⟨q1,q2,q3,q4,_⟩:=HJ.out;have e1:=congrArg List.length q1;have e2:=HB.out;simp only[AA,AI]at e1 ⊢;omega)
   have f0:=hf.free ((a+i)*4);have f0b:=hf.free ((a+i)*4+1);have f1:=hf.free ((a+i)*4+2);have f1b:=hf.free ((a+i)*4+3);have f2:=hf.free ((b+i)*4);have f2b:=hf.free ((b+i)*4+1);have f3:=hf.free ((b+i)*4+2);have f3b:=hf.free ((b+i)*4+3);obtain⟨nx,hnx⟩:∃nx,nx=x.l.length:=⟨_,rfl⟩;obtain⟨tx,htx⟩:∃tx,tx=x.t.l.length:=⟨_,rfl⟩;obtain⟨ny,hny⟩:∃ny,ny=y.l.length:=⟨_,rfl⟩;obtain⟨ty,hty⟩:∃ty,ty=y.t.l.length:=⟨_,rfl⟩;rw[<-hnx]at px0;rw[<-htx]at px2;rw[<-hny]at py0;rw[<-hty]at py2;have HNX:=hid hnx;have HTX:=hid htx;have HNY:=hid hny;have HTY:=hid hty;have XE:Ext wr wr.drew:=(Ext.refl wr).drew;have PY0:∀z:Xt wr.drew,z.W.cell? ⟨g,(b+i)*4,none⟩=some (.slice y.A ny y.c):=fun z=>(XE.trans z.x).cell py0;have PY1:∀z:Xt wr.drew,z.W.cell? ⟨g,(b+i)*4+1,none⟩=some (.int .u64 y.t.e):=fun z=>(XE.trans z.x).cell py1;have PY2:∀z:Xt wr.drew,z.W.cell? ⟨g,(b+i)*4+2,none⟩=some (.slice y.t.A ty y.t.c):=fun z=>(XE.trans z.x).cell py2;have PY3:∀z:Xt wr.drew,z.W.cell? ⟨g,(b+i)*4+3,none⟩=some (.int .i64 y.d):=fun z=>(XE.trans z.x).cell py3;have PX0:∀z:Xt wr.drew,z.W.cell? ⟨g,(a+i)*4,none⟩=some (.slice x.A nx x.c):=fun z=>(XE.trans z.x).cell px0;have PX1:∀z:Xt wr.drew,z.W.cell? ⟨g,(a+i)*4+1,none⟩=some (.int .u64 x.t.e):=fun z=>(XE.trans z.x).cell px1;have PX2:∀z:Xt wr.drew,z.W.cell? ⟨g,(a+i)*4+2,none⟩=some (.slice x.t.A tx x.t.c):=fun z=>(XE.trans z.x).cell px2;have PX3:∀z:Xt wr.drew,z.W.cell? ⟨g,(a+i)*4+3,none⟩=some (.int .i64 x.d):=fun z=>(XE.trans z.x).cell px3;clear hf hf2 hnx hny htx hty
   go_upto_region 3 with fail
   refine wro [0,0,0,6,0,0,0,96,0,0,0,1536,3840,7936,0,0,0,98304,245760,507904,1048335,2096911,4194303,8388607] (.flo [0,1,2,3,8,9,10,11,12,13,14,15,16,17,18,19,20] (.pur [4,5,6,7] (.one 21 (.flo [22] (.one 23 (.fin)))))) ?_
   (refine Aa (pks rfl) ?_;(repeat (go_big_quiet_step (fail)));refine oq ?_)
   (refine Bv (pks rfl) ?_;(repeat (go_big_quiet_step (fail)));refine oq ?_)
   refine Ac (pks rfl) ?_;intro K_ hK_;go_wp2
   (refine Aa (pks rfl) ?_;(repeat (go_big_quiet_step (fail)));refine oq ?_)
   refine Ac (pks rfl) ?_;intro K_ hK_;go_wp2;refine Ad ?_;go_wp2
   go_roundg (k-(i+1))
   case measure=>omega
   case rel=>exact⟨i+1,X1++[x],X2,Y1++[y],Y2,rfl,by omega,by go_num,hid ((HJ.out.step HA.out HB.out rfl rfl HNX.out HNY.out HTX.out HTY.out (Ext.refl _)).ext (Ext.refl _).drew)⟩
  ·have hik:i=k:=by omega
   obtain⟨q1,q2,q3,q4,q5,q6⟩:=HJ.out;have e1:X2=[]:=AG (by have:=HX.out;rw[q1,AA]at this;omega);have e2:Y2=[]:=AG (by have:=HY.out;rw[q2,AA]at this;omega);subst e1 e2;have HQ5:Hid (Arr wr B g c (P++(Y++(M++(X++Q))))):=hid (by
    rw[AP]at q1 q2;rw[q1,q2];simpa using q5)
   have HQ6:=hid q6;clear q1 q2 q3 q4 q5 q6;go_wp2
   go_end0
   exact⟨rfl,HQ5.out,HQ6.out⟩
def RotIn(B g c m:Nat)(D:List Ud)(w wi:World)(i j p:Nat)(P U V Q:List Ud):Prop :=
 D=P++(V++(U++Q))/\U.length=i/\V.length=j/\P.length=p/\m=p+i/\0<i/\0<j/\Arr wi B g c (P++(U++(V++Q)))/\w.grownBy wi (some g)
theorem RotIn.left{B g c m:Nat}{D:List Ud}{w wi wj:World}{i j p:Nat}{P U1 U2 V Q:List Ud}(h:RotIn B g c m D w wi i j p P (U1++U2) V Q)(h1:U1.length=j)(h2:0<i-j)
  (ha:Arr wj B g c (P++(V++(U2++(U1++Q))))) (hg:wi.grownBy wj (some g)):RotIn B g c m D w wj (i-j) j (p+j) (P++V) U2 U1 Q:=by
 obtain⟨q1,q2,q3,q4,q5,q6,q7,q8,q9⟩:=h;rw[AA]at q2;refine⟨by rw[q1];simp,by omega,h1,by rw[AA];omega,by omega,h2,q7,?_,q9.trans hg⟩;rw[AJ];exact ha
theorem RotIn.right{B g c m:Nat}{D:List Ud}{w wi wj:World}{i j p:Nat}{P U V1 V2 Q:List Ud}(h:RotIn B g c m D w wi i j p P U (V1++V2) Q)(h1:V2.length=i)(h2:0<j-i)
  (ha:Arr wj B g c (P++(V2++(V1++(U++Q))))) (hg:wi.grownBy wj (some g)):RotIn B g c m D w wj i (j-i) p P V2 V1 (U++Q):=by
 obtain⟨q1,q2,q3,q4,q5,q6,q7,q8,q9⟩:=h;rw[AA]at q3;exact⟨by rw[q1];simp,h1,by omega,q4,q5,q6,h2,ha,q9.trans hg⟩
theorem cut_at{α:Type}(l:List α)(k:Nat)(h:k<=l.length):∃l1 l2,l=l1++l2/\l1.length=k:=⟨l.take k,l.drop k,(CE k l).symm,by rw[CA];omega⟩
theorem rot_any(B g c n a m b:Nat)(P U V Q:List Ud)(w:World)(ha:a=P.length)(hm:m=a+U.length)(hb:b=m+V.length)(hu:0<U.length)(hv:0<V.length)(hn:n=(P++(U++(V++Q))).length)(h:Arr w B g c (P++(U++(V++Q)))) :
  Calls Tryz.prog 255 #[.slice (some ⟨g,0,none⟩) n c,.int .i64 a,.int .i64 m,.int .i64 b,.func (.func 103) #[] #[]] w fun e w'=>e=.returned (.tuple #[])/\Arr w' B g c (P++(V++(U++Q)))/\w.grownBy w' (some g):=by
 have hnm:=h.le;rw[<-hn]at hnm;have hbn:b<=n:=by rw[hb,hm,ha,hn];simp only[AA];omega
 obtain⟨i0,hi0⟩:∃i,i=U.length:=⟨_,rfl⟩;obtain⟨j0,hj0⟩:∃j,j=V.length:=⟨_,rfl⟩;obtain⟨D,hD⟩:∃D,D=P++(V++(U++Q)):=⟨_,rfl⟩;have HN:Hid (n=D.length):=hid (by rw[hn,hD];simp only[AA];omega);have HI:Hid (RotIn B g c m D w w i0 j0 a P U V Q):=hid ⟨hD,hi0.symm,hj0.symm,ha.symm,by omega,by omega,by omega,h,CH w _⟩;have e1:(m:Int)-(a:Int)=(i0:Int):=by omega
 have e2:(b:Int)-(m:Int)=(j0:Int):=by omega
 have hij:i0+j0<=n:=by omega
 rw[<-hD];clear ha hm hb hu hv hn h hi0 hj0 hD;go_enter Tryz.func255,Tryz.ntmps255;go_wp2
 go_loopg [10,11] (i0+j0) (fun z u v wr=>∃(i j p:Nat) (P U V Q:List Ud),z=i+j/\i+j<=n/\u=.int .i64 i/\v=.int .i64 j/\Hid (RotIn B g c m D w wr i j p P U V Q))
 case atStart=>exact⟨i0,j0,a,P,U,V,Q,rfl,hij,rfl,rfl,HI⟩
 case round =>
  obtain⟨i,j,p,P,U,V,Q,rfl,hs,rfl,rfl,HJ⟩:=hrel;clear HI e1 e2;have hmi:(m:Int)-(i:Int)=(p:Int):=by have:=HJ.out.2.2.2.2.1;omega
  have hmn:m+j<=n:=by
   obtain⟨q1,q2,q3,q4,q5,_⟩:=HJ.out;have:=HN.out;rw[q1]at this;simp only[AA]at this;omega
  have him:i<=m:=by have:=HJ.out.2.2.2.2.1;omega
  rcases FZ i j with hlt|heq|hgt
  ·obtain⟨V1,V2,rfl,hv1⟩:=cut_at V (j-i) (by have:=HJ.out.2.2.1;omega);have z1:((i:Int)==(j:Int))=false:=by rw[beq_eq_false_iff_ne];omega
   have z2:¬(j:Int)<i:=by omega
   have hmj:(m:Int)+(j:Int)-(i:Int)=((p+j:Nat):Int):=by omega
   have hji:(j:Int)-(i:Int)=((j-i:Nat):Int):=by omega
   have HV1:=hid hv1;clear hv1;go_wp2_with (go_at_call 283;refine(swapR_any B g c n p (p+j) i P U V1 V2 Q _ HJ.out.2.2.2.1.symm (by have:=HV1.out;have:=HJ.out;have:=this.2.1;have:=HJ.out.2.2.2.1;omega) HJ.out.2.1.symm (by have:=HJ.out.2.2.1;rw[AA]at this;have:=HV1.out;omega) (by rw[HN.out,HJ.out.1];simp only[AA];omega) (by have:=HJ.out.2.2.2.2.2.2.2.1;rwa [AJ]at this)).mono ?_;rintro e w1 ⟨rfl,a1,g1⟩;have HJ1:=hid (HJ.out.right (by have:=HJ.out.2.2.1;rw[AA]at this;have:=HV1.out;omega) (by omega) a1 g1);clear a1 g1)
   go_roundg (i+(j-i))
   case measure=>have:=HJ.out.2.2.2.2.2.1;omega
   case rel=>exact⟨i,j-i,p,P,V2,V1,U++Q,rfl,by omega,rfl,by go_num,HJ1⟩
  ·subst heq;have z1:((i:Int)==(i:Int))=true:=by simp
   go_wp2_with (go_at_call 283;refine(swapR_any B g c n p m i P U [] V Q _ HJ.out.2.2.2.1.symm (by have:=HJ.out.2.1;have:=HJ.out.2.2.2.1;have:=HJ.out.2.2.2.2.1;simp only[CB];omega) HJ.out.2.1.symm HJ.out.2.2.1.symm (by rw[HN.out,HJ.out.1];simp only[AA,CB];omega) HJ.out.2.2.2.2.2.2.2.1).mono ?_;rintro e w1 ⟨rfl,a1,g1⟩;have HA1:Hid (Arr w1 B g c D):=hid (by rw[HJ.out.1];exact a1);have HG1:=hid (HJ.out.2.2.2.2.2.2.2.2.trans g1);clear a1 g1)
   go_end0
   exact⟨rfl,HA1.out,HG1.out⟩
  ·obtain⟨U1,U2,rfl,hu1⟩:=cut_at U j (by have:=HJ.out.2.1;omega);have z1:((i:Int)==(j:Int))=false:=by rw[beq_eq_false_iff_ne];omega
   have z2:(j:Int)<i:=by omega
   have hji:(i:Int)-(j:Int)=((i-j:Nat):Int):=by omega
   have HU1:=hid hu1;clear hu1;go_wp2_with (go_at_call 283;refine(swapR_any B g c n p m j P U1 U2 V Q _ HJ.out.2.2.2.1.symm (by have:=HJ.out.2.1;rw[AA]at this;have:=HJ.out.2.2.2.1;have:=HJ.out.2.2.2.2.1;omega) HU1.out.symm HJ.out.2.2.1.symm (by rw[HN.out,HJ.out.1];simp only[AA];omega) (by have:=HJ.out.2.2.2.2.2.2.2.1;rwa [AJ]at this)).mono ?_;rintro e w1 ⟨rfl,a1,g1⟩;have HJ1:=hid (HJ.out.left HU1.out (by omega) a1 g1);clear a1 g1)
   go_roundg (i-j+j)
   case measure=>have:=HJ.out.2.2.2.2.2.2.1;omega
   case rel=>exact⟨i-j,j,p+j,P++V,U2,U1,Q,rfl,by omega,by go_num,rfl,HJ1⟩
def SortedC(l:List Ud):Prop:=l.Pairwise fun x y=>cmpC x y<=0
theorem SortedC.left{l m:List Ud}(h:SortedC (l++m)):SortedC l:=(BG.1 h).1
theorem SortedC.right{l m:List Ud}(h:SortedC (l++m)):SortedC m:=(BG.1 h).2.1
theorem getD_left{l m:List Ud}{i:Nat}(h:i<l.length):(l++m).getD i Ud.zero=l.getD i Ud.zero:=by
 rw[AB,BI h,AB]
theorem getD_right{l m:List Ud}{i:Nat}(h:l.length<=i):(l++m).getD i Ud.zero=m.getD (i-l.length) Ud.zero:=by
 rw[AB,BD h,AB]
theorem mem_getD{l:List Ud}{i:Nat}(h:i<l.length):l.getD i Ud.zero∈l:=by
 rw[AB,AC h];exact BP h
theorem mem_mid{P X R:List Ud}{i:Nat}(h1:P.length<=i)(h2:i<P.length+X.length):(P++(X++R)).getD i Ud.zero∈X:=by
 rw[getD_right h1,getD_left (by omega)];exact mem_getD (by omega)
theorem getD_of{L P Q:List Ud}{x:Ud}{i:Nat}(h:L=P++x::Q)(hi:i=P.length):L.getD i Ud.zero=x:=by
 rw[h];exact getD_here hi
theorem sym_split{P X Y Q L:List Ud}{a m b mid n p s lo hi:Nat}(hL:L=P++(X++(Y++Q)))(ha:a=P.length)(hm:m=a+X.length)(hb:b=m+Y.length)(hmid:mid=(a+b) / 2)(hn:n=mid+m)(hp:n=p+1)
  (hc:(mid<m/\lo=n-b/\hi=mid)\/(m<=mid/\lo=a/\hi=m)) (h1:lo<=s) (h2:s<=hi) (hA:lo<s->¬cmpC (L.getD (n-s) Ud.zero) (L.getD (s-1) Ud.zero)<0) (hB:s<hi->cmpC (L.getD (p-s) Ud.zero) (L.getD s Ud.zero)<0) :
  ∃X1 X2 Y1 Y2,X=X1++X2/\Y=Y1++Y2/\s=a+X1.length/\n-s=m+Y1.length/\mid=a+(X1.length+Y1.length) /\
   (∀t x y u,X1=t++[x]->Y2=y::u->cmpC x y<=0)/\(∀t y x u,Y1=t++[y]->X2=x::u->cmpC y x<0):=by
 have hs1:a<=s/\s<=m:=by omega
 have hs2:m<=n-s/\n-s<=b:=by omega
 obtain⟨X1,X2,hX,hX1⟩:=cut_at X (s-a) (by omega);obtain⟨Y1,Y2,hY,hY1⟩:=cut_at Y (n-s-m) (by omega);have lX:X.length=X1.length+X2.length:=by rw[hX,AA]
 have lY:Y.length=Y1.length+Y2.length:=by rw[hY,AA]
 refine⟨X1,X2,Y1,Y2,hX,hY,by omega,by omega,by omega,fun t x y u e1 e2=>?_,fun t y x u e1 e2=>?_⟩
 ·have l1:X1.length=t.length+1:=by rw[e1,AA,AK]
  have l2:Y2.length=u.length+1:=by rw[e2,AI]
  have:=hA (by omega);rw[getD_of (L:=L) (P:=P++X++Y1) (Q:=u++Q) (x:=y) (by rw[hL,hY,e2];simp) (by simp only[AA];omega),getD_of (L:=L) (P:=P++t) (Q:=X2++(Y++Q)) (x:=x) (by rw[hL,hX,e1];simp) (by simp only[AA];omega)]at this;rw[cmpC_tot.neg];omega
 ·have l1:Y1.length=t.length+1:=by rw[e1,AA,AK]
  have l2:X2.length=u.length+1:=by rw[e2,AI]
  have:=hB (by omega);rw[getD_of (L:=L) (P:=P++X++t) (Q:=Y2++Q) (x:=y) (by rw[hL,hY,e1];simp) (by simp only[AA];omega),getD_of (L:=L) (P:=P++X1) (Q:=u++(Y++Q)) (x:=x) (by rw[hL,hX,e2];simp) (by simp only[AA];omega)]at this;exact this
theorem one_split{P Y Q L:List Ud}{x:Ud}{a m b i:Nat}(hL:L=P++([x]++(Y++Q)))(ha:a=P.length)(hm:m=a+1)(hb:b=m+Y.length)(h1:m<=i)(h2:i<=b)(hY:SortedC Y)
  (hA:m<i->cmpC (L.getD (i-1) Ud.zero) x<0) (hB:i<b->¬cmpC (L.getD i Ud.zero) x<0) :
  ∃Y1 Y2,Y=Y1++Y2/\i=m+Y1.length/\Ae cmpC ([x]++Y) (Y1++x::Y2):=by
 obtain⟨Y1,Y2,hS,hY1⟩:=cut_at Y (i-m) (by omega);have lY:Y.length=Y1.length+Y2.length:=by rw[hS,AA]
 have hf:∀y u,Y2=y::u->cmpC x y<=0:=fun y u e=>by
  have l2:Y2.length=u.length+1:=by rw[e,AI]
  have:=hB (by omega);rw[getD_of (L:=L) (P:=P++([x]++Y1)) (Q:=u++Q) (x:=y) (by rw[hL,hS,e];simp) (by simp only[AA,AK];omega)]at this;rw[cmpC_tot.neg];omega
 refine⟨Y1,Y2,hS,by omega,?_⟩;rw[hS]at hY;have hx2:SortedC (x::Y2):=BS.2 ⟨fun z hz=>by
  cases h:Y2 with
  | nil=>rw[h]at hz;cases hz
  | cons y u=>exact cmpC_tot.trans _ _ _ (hf y u h) (Mg cmpC_tot (h▸hY.right) z (h▸hz)),hY.right⟩
 have:=Ae.merge cmpC_tot (X1:=[]) (X2:=[x]) (Y1:=Y1) (Y2:=Y2) (Z1:=Y1) (Z2:=x::Y2) (by rw[BC];exact BL _ _) hY (fun t z y s e=>by cases t<;>cases e) (fun t y z s e1 e2=>by
  injection e2 with e2 _;subst e2;have l1:Y1.length=t.length+1:=by rw[e1,AA,AK]
  have:=hA (by omega)
  rwa [getD_of (L:=L) (P:=P++([x]++t)) (Q:=Y2++Q) (x:=y) (by rw[hL,hS,e1];simp) (by simp only[AA,AK];omega)]at this) (by rw[BC];exact Ae.self hY.left) (Ae.self hx2)
 rw[hS];exact this
theorem last_split{P X Q L:List Ud}{y:Ud}{a m i:Nat}(hL:L=P++(X++([y]++Q)))(ha:a=P.length)(hm:m=a+X.length)(h1:a<=i)(h2:i<=m)(hX:SortedC X)
  (hA:a<i->¬cmpC y (L.getD (i-1) Ud.zero)<0) (hB:i<m->cmpC y (L.getD i Ud.zero)<0) :
  ∃X1 X2,X=X1++X2/\i=a+X1.length/\Ae cmpC (X++[y]) (X1++y::X2):=by
 obtain⟨X1,X2,hS,hX1⟩:=cut_at X (i-a) (by omega);have lX:X.length=X1.length+X2.length:=by rw[hS,AA]
 refine⟨X1,X2,hS,by omega,?_⟩;refine Ae.insert cmpC_tot (Ae.self (hS▸hX) |> fun h=>(hS▸h:Ae cmpC X (X1++X2))) (fun z hz=>?_) (fun z hz=>?_)
 ·cases h:X2 with
  | nil=>rw[h]at hz;cases hz
  | cons x u =>
   have l2:X2.length=u.length+1:=by rw[h,AI]
   have:=hB (by omega);rw[getD_of (L:=L) (P:=P++X1) (Q:=u++([y]++Q)) (x:=x) (by rw[hL,hS,h];simp) (by simp only[AA];omega)]at this;rw[hS]at hX;exact cmpC_tot.lt_of_lt_le this (Mg cmpC_tot (h▸hX.right) z (h▸hz))
 ·rcases Gz X1 with e|⟨t,x,e⟩
  ·rw[e]at hz;cases hz
  ·rw[e,EG,DX]at hz;have hz:x=z:=by simpa using hz
   subst hz;have l1:X1.length=t.length+1:=by rw[e,AA,AK]
   have:=hA (by omega)
   rwa [getD_of (L:=L) (P:=P++t) (Q:=X2++([y]++Q)) (x:=x) (by rw[hL,hS,e];simp) (by simp only[AA];omega)]at this
end Go.Proofs.YtdgbkpoickbidaaGreatDoor.UdS
