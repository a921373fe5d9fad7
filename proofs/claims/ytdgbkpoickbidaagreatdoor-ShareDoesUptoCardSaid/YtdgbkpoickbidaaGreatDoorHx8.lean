/- Parts of the proof. Conditions: as stated. -/
import Derived.Test.YtdgbkpoickbidaaGreatDoorHx7
set_option maxRecDepth 100000
set_option maxHeartbeats 4000000
open Go.RowKit Go.Proofs.Tryz
set_option linter.defProp false
namespace Go.Proofs.YtdgbkpoickbidaaGreatDoor
variable{xs:List Value}{B c g gs i j m n q:Nat}{R S:Nat->Prop}{A:Option Addr}{e t:TypeId}{w w' w1 wi wj wr wz:World}
def a0v(L:List Tm)(B:Nat)(A:Option Addr)(c m:Nat)(w:World)(e:Ending)(w':World):Prop :=
 e=.returned (.tuple #[])/\∃L':List Tm,L'.Perm L/\(L'.Pairwise λx y=>Cr x.v y.v<=0)/\Own w' B 26 2 A m c (Gp L')/\Upd (λk=>B<=k) w w'
def tZ(L:List Tm)(B:Nat)(A:Option Addr)(c m:Nat)(w0 w:World)(hm:H0 (m=L.length))(o:H0 (Own w B 26 2 A m c (Gp L)))(ls:H0 (∀x∈L,Sl w0 1 x.A x.l.length x.c (wds x.l)))(x0:H0 (Ext w0 w))(hb:H0 (w0.heap.size<=B))(h9:m<=1000000) :
  C3 200 #[.slice A m c,.func (.func 146) #[] #[]] w (a0v L B A c m w):=by
 rcases CS m with h|h
 ·subst h;have hl:L=[]:=AH hm.o.symm;subst hl;refine(nW A c _ w).mono ?_;rintro e w' ⟨rfl,rfl⟩;exact⟨rfl,[],List.Perm.nil,List.Pairwise.nil,o.o,Upd.refl _ _⟩
 ·obtain⟨g,rfl,hg,hB,_⟩:=o.o.form h;refine(iX L B g c m w0 w hm.o h o.o ls.o x0.o (AR hb.o hB) h9).mono ?_;rintro e w' ⟨rfl,L',h1,h2,h3,h4⟩;exact⟨rfl,L',h1,h2,h3,h4.mono (λk _ hk=>by omega)⟩
def lG(V:List TV)(w:World)(e:Ending)(w':World):Prop:=∃A c n M,e=.returned (.slice A n c)/\n=List.length M/\Fs w' w.heap.size A c M/\M.map Tm.v=V/\Ext w w'
def Tb(AL:Option Addr)(cL m:Nat)(L:List Tm)(w:World)(hm:H0 (m=L.length))(hL:H0 (Tin w AL cL L))(hi:H0 (∀x∈L,x.l.length<=1000000))(h9:m<=1000000) :
  C3 137 #[.slice AL m cL] w (lG (ofV (L.map Tm.v)) w):=by
 go_enter func137,ntmps137;go_wp2_with (first
  | (go_at_call 199;refine(gP AL m cL L _ hm hL h9).mono ?_;rintro r w1 ⟨A',c',rfl,o1,x1⟩;have HO:=j6 o1;have G:=j6 x1;clear o1 x1)
  | (go_at_call 200;refine(tZ L w.heap.size A' c' m w _ hm HO (j6 hL.o.ls) G (j6 (AD _)) h9).mono ?_;rintro r w2 ⟨rfl,S,hp,hs,o2,u2⟩;have HP:=j6 hp;have HS:=j6 hs;have I:=j6 o2;have X2:H0 (Ext w w2):=j6 (Hj G.o u2 (λk hk=>hk));clear hp hs o2 u2))
 have HM:H0 (m=S.length):=j6 (by rw[HP.o.length_eq];exact hm.o);have F:H0 (Tin w2 A' c' S):=j6 ⟨by rw[<-HM.o];exact I.o.sl,λx hx=>(hL.o.ls x (HP.o.mem_iff.1 hx)).ext X2.o⟩;have q:H0 (∀v,v∈S.map Tm.v↔v∈L.map Tm.v):=j6 (λv=>(HP.o.map Tm.v).mem_iff);have N:H0 ((S.map Tm.v).Pairwise λx y=>Cr x y<=0):=j6 (by rw[DV];exact HS.o)
 go_loopg [4,13] m (λz v4 v13 wr=>∃(k:Nat) (A:Option Addr) (c n:Nat) (M:List Tm),z=m-k/\k<=m/\v13=.int .i64 k/\v4=.slice A n c/\H0 (n=M.length)/\H0 (Fs wr w2.heap.size A c M)/\H0 (Ic (L.map Tm.v) (S.map Tm.v) k (M.map Tm.v))/\H0 (Ext w2 wr)/\n<=k)
 case atStart=>exact⟨0,none,0,0,[],rfl,AG _,rfl,rfl,j6 rfl,j6 (Fs.nil _ _),j6 (Ic.zero _ _),j6 (Ext.refl _),AD _⟩
 case round =>
  obtain⟨k,A,c,n,M,rfl,hk,rfl,rfl,HN,HT,HU,HE,Q⟩:=hrel;by_cases hlt:k<m
  ·have g:k<S.length:=by rw[<-HM.o];exact hlt
   obtain⟨ad,rfl,q0,q1⟩:=(F.o.ext HE.o).at (i:=k) g;have d:H0 (Sl wr 1 (S.getD k Tm.zero).A (S.getD k Tm.zero).l.length (S.getD k Tm.zero).c (wds (S.getD k Tm.zero).l)):=j6 ((F.o.ext HE.o).ls _ (Hs g));have f:(S.getD k Tm.zero).l.length<=1000000:=hi.o _ (HP.o.mem_iff.1 (Hs g));have a:=sO g;have⟨x,hx⟩:=tz (S.getD k Tm.zero);rw[hx]at q0 q1 d f a;have D:=j6 a;clear hx a g;obtain⟨e,Ax,cx,l⟩:=x;have⟨nx,j⟩:=tz l.length;have E:=j6 j;replace q0:wr.cell? (ad.add (k*2))=some (.int .u64 e):=q0;replace q1:wr.cell? ⟨(ad.add (k*2)).block,(ad.add (k*2)).off+1,none⟩=some (.slice Ax l.length cx):=q1;replace d:H0 (Sl wr 1 Ax l.length cx (wds l)):=d;replace f:l.length<=1000000:=f;rw[j]at q1 d f;clear j;have X0:H0 (Ext wr (wr.alloc (.cells #[.int .u64 e,.slice Ax nx cx] 26))):=j6 ((Ext.refl _).alloc _);cases hq:Ak (M.map Tm.v) (e,l)with
   | true =>
    have HQ:=j6 hq;clear hq;go_wp2_with (first
     | (go_at_call 140;refine(Er A c n M e Ax nx cx l _ HQ HN (j6 (HT.o.ext X0.o).tin) (j6 (d.o.ext X0.o))).mono ?_;rintro r w3 ⟨rfl,x3⟩))
    go_roundg (m-(k+1))
    case measure=>omega
    case rel =>
     have⟨t,a⟩:=D.o;exact⟨k+1,A,c,n,M,by omega,by omega,by go_num,rfl,HN,j6 ((HT.o.ext X0.o).ext x3),j6 (HU.o.skip t (by rw[a];exact HQ.o)),j6 ((HE.o.trans X0.o).trans x3),by omega⟩
   | false =>
    have HQ:=j6 hq;clear hq;have P:=HE.o.size;go_wp2_with (first
     | (go_at_call 140;refine(Er A c n M e Ax nx cx l _ HQ HN (j6 (HT.o.ext X0.o).tin) (j6 (d.o.ext X0.o))).mono ?_;rintro r w3 ⟨rfl,x3⟩;have X3:H0 (Ext wr w3):=j6 (X0.o.trans x3);have B3:Bk w3 wr.heap.size 26 #[.int .u64 e,.slice Ax nx cx]:=(Bk.new wr _ _).ext x3;have R:w3.cell? ⟨wr.heap.size,0,none⟩=some (.int .u64 e):=B3.cell 0;have T:w3.cell? ⟨wr.heap.size,1,none⟩=some (.slice Ax nx cx):=B3.cell 1;clear x3 B3)
     | (go_at_call 142;refine(Vh e Ax nx cx l _ (j6 (d.o.ext X3.o)) f).mono ?_;rintro r w4 ⟨A4,c4,rfl,o4,x4⟩;have J:=j6 o4;have X4:=j6 x4;clear o4 x4)
     | (at_builtin;refine Ab _ Yi w2.heap.size _ _ rfl rfl A n c (Gp M) rfl (by rw[HN.o];exact((HT.o.ext X3.o).ext X4.o).own.alloc _) (some ⟨w4.heap.size,0,none⟩) 1 1 (tmC ⟨e,A4,c4,l⟩) rfl (by rw[show tmC ⟨e,A4,c4,l⟩=[.int .u64 e,.slice A4 nx c4]by rw[<-E.o];rfl];exact Sl.one w4 #[.int .u64 e,.slice A4 nx c4] 26 2 rfl) (cH [⟨e,A4,c4,l⟩] |> λh=>by simpa [Gp] using h) (by omega) (by decide) (by have:=X3.o.size;have:=X4.o.size;simp;omega) ?_;intro A5 c5 w5 o5 g5 x5;have K:=j6 o5;have C:=j6 g5;have O:=j6 x5;clear o5 g5 x5))
    go_roundg (m-(k+1))
    case measure=>omega
    case rel =>
     have⟨t,a⟩:=D.o;have H:=HT.o.ext X3.o;have j:=E.o;have B:=Fs.push H X4.o (x:=⟨e,A4,c4,l⟩) (by show Own w4 w3.heap.size _ 1 A4 l.length c4 (wds l);rw[j];exact J.o) (by have:=X3.o.size;omega) _ (by rw[<-HN.o];exact K.o) C.o O.o;have e5:Ext w2 w5:=by
      have e4:=(((HE.o.trans X3.o).trans X4.o).alloc (.cells #[.int .u64 e,.slice A4 nx c4] 26));exact e4.grown C.o (λk hk=>(H.own.lt k hk).1)
     refine⟨k+1,A5,c5,n+1,M++[⟨e,A4,c4,l⟩],by omega,by omega,by go_num,rfl,j6 (by rw[AA,HN.o];rfl),j6 B,j6 ?_,j6 e5,by omega⟩;rw[AI];have:=HU.o.put t N.o q.o (by rw[a];exact HQ.o);rw[a]at this;exact this
  ·obtain rfl:k=m:=by omega
   go_wp2;go_ret;refine⟨A,c,n,M,rfl,HN.o,(HT.o.mono X2.o.size),?_,X2.o.trans HE.o⟩;have hU:=HU.o;rw[show k=(S.map Tm.v).length by rw[AN];exact HM.o]at hU;exact(hU.done q.o).eq
def hJ(A:Option Addr)(c:Nat)(L:List Tm)(k:Nat):Prop:=blk A c=some k\/∃x∈L,blk x.A x.c=some k
section
variable{w w':World}{B c:Nat}{A:Option Addr}{k:Nat}
def Fs.lt{L:List Tm}(h:Fs w B A c L)(hk:hJ A c L k):B<=k/\k<w.heap.size:=by
 rcases hk with hk|⟨x,hx,hk⟩
 ·exact h.own.lt k hk
 ·exact(h.ls x hx).1.lt k hk
def Fs.ty{L:List Tm}(h:Fs w B A c L)(hk:hJ A c L k):Ty w k 26\/Ty w k 180:=by
 rcases hk with hk|⟨x,hx,hk⟩
 ·exact .inl (h.own.ty hk)
 ·exact .inr ((h.ls x hx).1.ty hk)
def Fs.updB{L:List Tm}(h:Fs w B A c L)(x:Upd S w w')(hn:∀k,hJ A c L k->¬S k):Fs w' B A c L :=
 ⟨h.own.upd x (λk hk=>hn k (.inl hk)),λy hy=>⟨(h.ls y hy).1.upd x (λk hk=>hn k (.inr ⟨y,hy,hk⟩)),(h.ls y hy).2⟩,h.apart⟩
end
structure Bt where
 g:Nat
 A:Option Addr
 c:Nat
 l:List Ud
def Bt.zero:Bt:=⟨0,none,0,[]⟩
abbrev Bt.p(b:Bt):Value:=.pointer (some ⟨b.g,0,none⟩)
def Bt.v(b:Bt):List UV:=b.l.map Ud.uv
structure BtR (w:World) (R:Nat->Prop) (b:Bt):Prop where
 bk:Bk w b.g 197 #[.slice b.A b.l.length b.c]
 rg:R b.g
 u:Bu w 0 b.A b.c b.l
 ru:∀k,Zc b.A b.c b.l k->R k
structure TmR (w:World) (R:Nat->Prop) (A:Option Addr) (c:Nat) (L:List Tm):Prop where
 t:Fs w 0 A c L
 rt:∀k,hJ A c L k->R k
def Lh(w:World)(k:Nat):Prop:=Ty w k 192\/Ty w k 195\/Ty w k 270
section
variable{w w':World}{R R' S:Nat->Prop}
def Lh.not{k:Nat}(h:Ty w k e)(h1:e≠192)(h2:e≠195)(h3:e≠270):¬Lh w k:=λg=>by
 rcases g with g|g|g
 ·exact h1 (h.ne g)
 ·exact h2 (h.ne g)
 ·exact h3 (h.ne g)
def Zc.not{L:List Ud}{k:Nat}(h:Bu w B A c L)(hk:Zc A c L k):¬Lh w k:=by
 rcases h.ty hk with q|q|q
 ·exact Lh.not q (by decide) (by decide) (by decide)
 ·exact Lh.not q (by decide) (by decide) (by decide)
 ·exact Lh.not q (by decide) (by decide) (by decide)
def hJ.not{L:List Tm}{k:Nat}(h:Fs w B A c L)(hk:hJ A c L k):¬Lh w k:=by
 rcases h.ty hk with q|q
 ·exact Lh.not q (by decide) (by decide) (by decide)
 ·exact Lh.not q (by decide) (by decide) (by decide)
def BtR.ext{b:Bt}(h:BtR w R b)(x:Ext w w'):BtR w' R b:=⟨h.bk.ext x,h.rg,h.u.ext x,h.ru⟩
def BtR.upd{b:Bt}(h:BtR w R b)(x:Upd S w w')(hS:∀k,R k->¬S k):BtR w' R b:=⟨h.bk.upd x (hS _ h.rg),h.rg,h.u.updB x λk hk=>hS k (h.ru k hk),h.ru⟩
def BtR.safe{b:Bt}(h:BtR w R b)(x:Upd S w w')(hS:∀k,k<w.heap.size->S k->Lh w k):BtR w' R b :=
 ⟨h.bk.upd x λq=>Lh.not h.bk.ty (by decide) (by decide) (by decide) (hS _ h.bk.lt q),h.rg,h.u.updB x λk hk q=>Zc.not h.u hk (hS k (h.u.lt hk).2 q),h.ru⟩
def BtR.wide{b:Bt}(h:BtR w R b)(hR:∀k,k<w.heap.size->R k->R' k):BtR w R' b:=⟨h.bk,hR _ h.bk.lt h.rg,h.u,λk hk=>hR k (h.u.lt hk).2 (h.ru k hk)⟩
variable{A:Option Addr}{c:Nat}{L:List Tm}
def TmR.ext(h:TmR w R A c L)(x:Ext w w'):TmR w' R A c L:=⟨h.t.ext x,h.rt⟩
def TmR.upd(h:TmR w R A c L)(x:Upd S w w')(hS:∀k,R k->¬S k):TmR w' R A c L:=⟨h.t.updB x λk hk=>hS k (h.rt k hk),h.rt⟩
def TmR.safe(h:TmR w R A c L)(x:Upd S w w')(hS:∀k,k<w.heap.size->S k->Lh w k):TmR w' R A c L:=⟨h.t.updB x λk hk q=>hJ.not h.t hk (hS k (h.t.lt hk).2 q),h.rt⟩
def TmR.wide(h:TmR w R A c L)(hR:∀k,k<w.heap.size->R k->R' k):TmR w R' A c L:=⟨h.t,λk hk=>hR k (h.t.lt hk).2 (h.rt k hk)⟩
end
structure Pr where
 g:Nat
 i:Nat
 left:Nat
structure SpM where
 A:Option Addr
 c:Nat
 bs:List Bt
 un:Option Pr
 sA:Option Addr
 sc:Nat
 S:List Tm
 uA:Option Addr
 uc:Nat
 U:List Tm
def unV:Option Pr->Value
 | none=>.pointer none
 | some p=>.pointer (some ⟨p.g,0,none⟩)
def Ci(l:List Bt)(i:Nat):Bt:=l.getD i Bt.zero
structure PrR (w:World) (R:Nat->Prop) (bs:List Bt) (p:Pr):Prop where
 bk:Bk w p.g 270 #[(Ci bs p.i).p,(Ci bs (p.i+1)).p,.int .i64 p.left]
 rg:R p.g
 lt:p.i+1<bs.length
structure SpB (w:World) (R:Nat->Prop) (m:SpM):Prop where
 ow:Own w 0 195 1 m.A m.bs.length m.c (m.bs.map Bt.p)
 ro:∀k,blk m.A m.c=some k->R k
 bt:∀b∈m.bs,BtR w R b
 nd:(m.bs.map Bt.g).Nodup
 un:∀p,m.un=some p->PrR w R m.bs p
 sn:TmR w R m.sA m.sc m.S
 up:TmR w R m.uA m.uc m.U
def Ov(m:SpM):Array Value:=#[.slice m.A m.bs.length m.c,unV m.un,.slice m.sA m.S.length m.sc,.slice m.uA m.U.length m.uc]
structure SpR (w:World) (R:Nat->Prop) (gs:Nat) (m:SpM):Prop where
 bk:Bk w gs 192 (Ov m)
 rg:R gs
 b:SpB w R m
section
variable{w w':World}{R R' S:Nat->Prop}{gs:Nat}{m:SpM}
def SpB.ext(h:SpB w R m)(x:Ext w w'):SpB w' R m :=
 ⟨h.ow.ext x,h.ro,λb hb=>(h.bt b hb).ext x,h.nd,λp hp=>⟨(h.un p hp).bk.ext x,(h.un p hp).rg,(h.un p hp).lt⟩,h.sn.ext x,h.up.ext x⟩
def SpB.upd(h:SpB w R m)(x:Upd S w w')(hS:∀k,R k->¬S k):SpB w' R m :=
 ⟨h.ow.upd x λk hk=>hS k (h.ro k hk),h.ro,λb hb=>(h.bt b hb).upd x hS,h.nd,λp hp=>⟨(h.un p hp).bk.upd x (hS _ (h.un p hp).rg),(h.un p hp).rg,(h.un p hp).lt⟩,h.sn.upd x hS,h.up.upd x hS⟩
def SpB.wide(h:SpB w R m)(hR:∀k,k<w.heap.size->R k->R' k):SpB w R' m :=
 ⟨h.ow,λk hk=>hR k (h.ow.lt k hk).2 (h.ro k hk),λb hb=>(h.bt b hb).wide hR,h.nd,λp hp=>⟨(h.un p hp).bk,hR _ (h.un p hp).bk.lt (h.un p hp).rg,(h.un p hp).lt⟩,h.sn.wide hR,h.up.wide hR⟩
def SpB.head{cs:Array Value}(h:SpB w R m)(hb:Bk w gs 192 cs)(i:Nat)(u:Value):SpB (w.setCell ⟨gs,i,none⟩ u) R m:=by
 have x:Upd (λk=>k=gs) w (w.setCell ⟨gs,i,none⟩ u):=(Upd.refl (λk=>k=gs) w).setCell (p:=⟨gs,i,none⟩) (.inl rfl) u;have hS:∀k,k<w.heap.size->k=gs->Lh w k:=λk _ e=>by subst e;exact .inl hb.ty
 refine⟨h.ow.upd x λk hk e=>?_,h.ro,λb hb=>(h.bt b hb).safe x hS,h.nd,λp hp=>⟨(h.un p hp).bk.upd x λe=>?_,(h.un p hp).rg,(h.un p hp).lt⟩,h.sn.safe x hS,h.up.safe x hS⟩
 ·subst e;exact absurd ((h.ow.ty hk).ne hb.ty) (by decide)
 ·have:=(h.un p hp).bk.ty;rw[e]at this;exact absurd (this.ne hb.ty) (by decide)
def SpR.ext(h:SpR w R gs m)(x:Ext w w'):SpR w' R gs m:=⟨h.bk.ext x,h.rg,h.b.ext x⟩
def SpR.upd(h:SpR w R gs m)(x:Upd S w w')(hS:∀k,R k->¬S k):SpR w' R gs m:=⟨h.bk.upd x (hS _ h.rg),h.rg,h.b.upd x hS⟩
def SpR.wide(h:SpR w R gs m)(hR:∀k,k<w.heap.size->R k->R' k):SpR w R' gs m:=⟨h.bk,hR _ h.bk.lt h.rg,h.b.wide hR⟩
def SpR.put_s{M:List Tm}(h:SpR w R gs m)(x:Ext w w1)(t:Fs w1 w.heap.size A c M):SpR (w1.setCell ⟨gs,2,none⟩ (.slice A M.length c)) (Rg R w (w1.setCell ⟨gs,2,none⟩ (.slice A M.length c))) gs { m with sA:=A,sc:=c,S:=M }/\Upd R w (w1.setCell ⟨gs,2,none⟩ (.slice A M.length c)):=by
 have hz:(w1.setCell ⟨gs,2,none⟩ (.slice A M.length c)).heap.size=w1.heap.size:=by simp
 have a:=h.bk.ext x;have k:=(h.b.ext x).wide (R':=Rg R w (w1.setCell ⟨gs,2,none⟩ (.slice A M.length c))) λk _ hk=>.inl hk;have b1:SpB w1 (Rg R w (w1.setCell ⟨gs,2,none⟩ (.slice A M.length c))) { m with sA:=A,sc:=c,S:=M }:=⟨k.ow,k.ro,k.bt,k.nd,k.un,⟨t.mono (AG _),λq hq=>.inr (by rw[hz];exact t.lt hq)⟩,k.up⟩;exact⟨⟨a.set 2 _,.inl h.rg,b1.head a 2 _⟩,(Upd.ext x).setCell (.inl h.rg) _⟩
def SpR.put_u{M:List Tm}(h:SpR w R gs m)(x:Ext w w1)(t:Fs w1 w.heap.size A c M):SpR (w1.setCell ⟨gs,3,none⟩ (.slice A M.length c)) (Rg R w (w1.setCell ⟨gs,3,none⟩ (.slice A M.length c))) gs { m with uA:=A,uc:=c,U:=M }/\Upd R w (w1.setCell ⟨gs,3,none⟩ (.slice A M.length c)):=by
 have hz:(w1.setCell ⟨gs,3,none⟩ (.slice A M.length c)).heap.size=w1.heap.size:=by simp
 have a:=h.bk.ext x;have k:=(h.b.ext x).wide (R':=Rg R w (w1.setCell ⟨gs,3,none⟩ (.slice A M.length c))) λk _ hk=>.inl hk;have b1:SpB w1 (Rg R w (w1.setCell ⟨gs,3,none⟩ (.slice A M.length c))) { m with uA:=A,uc:=c,U:=M }:=⟨k.ow,k.ro,k.bt,k.nd,k.un,k.sn,⟨t.mono (AG _),λq hq=>.inr (by rw[hz];exact t.lt hq)⟩⟩;exact⟨⟨a.set 3 _,.inl h.rg,b1.head a 3 _⟩,(Upd.ext x).setCell (.inl h.rg) _⟩
def Ht{l:List Bt}(h:i<l.length):Ci l i∈l:=by
 unfold Ci;rw[AB,AC h];exact BR h
def iE{l:List Bt}(h:i<l.length):(l.map Bt.p)[i]?=some (Ci l i).p:=by
 unfold Ci;rw[CG,AB,AC h];rfl
def SpB.at(h:SpB w R m){i:Nat}(hi:i<m.bs.length):∃ad,m.A=some ad/\w.cell? (ad.add i)=some (Ci m.bs i).p/\w.cell? ⟨(Ci m.bs i).g,0,none⟩=some (.slice (Ci m.bs i).A (Ci m.bs i).l.length (Ci m.bs i).c):=by
 have⟨ad,h1,h2⟩:=h.ow.sl.2.2.2.2 (by omega);exact⟨ad,h1,h2 i _ (iE hi),(h.bt _ (Ht hi)).bk.cell 0⟩
end
structure SV where
 bs:List (List UV)
 un:Option (Nat×Nat)
 S:List TV
 U:List TV
def SpM.v(m:SpM):SV:=⟨m.bs.map Bt.v,m.un.map λp=>(p.i,p.left),m.S.map Tm.v,m.U.map Tm.v⟩
def Bg(S:List TV):Bool:=decide (S.length<=1) && !(S.any λt=>decide (0<t.2.length))
def Cy(s:SV)(X:List TV):Int×SV:=if Bg X=false then (110,s) else if Gq s.S X=false then (111,s) else (0,{ s with S:=ofV X })
def gX:SV:=⟨[],none,[(0,[])],[(0,[])]⟩
def rX(g:Nat)(lb:Array Value)(p:Tm->Bool)(L:List Tm)(w:World):Prop:=∀(W:World) (x:Tm),x∈L->Ext w W->C3 g #[tmV x] W λe w'=>e=.returned (.bool (p x))/\Ext W w'
def a0z(p:Tm->Bool)(L:List Tm)(w:World)(e:Ending)(w':World):Prop:=∃r:Int,e=.returned (.int .i64 r)/\decide (0<=r)=L.any p/\Ext w w'
def bF(p:Tm->Bool)(g:Nat)(eg:∀args w,(callFunc g args).run prog w=.ok (.enter g args) w)(AL:Option Addr)(cL m:Nat)(L:List Tm)(w:World)(hm:H0 (m=L.length))(hL:H0 (Tin w AL cL L))(hp:H0 (rX g #[] p L w)) :
  C3 204 #[.slice AL m cL,.func (.func g) #[] #[]] w (a0z p L w):=by
 have d:m<=9223372036854775807:=by rw[hm.o];exact hL.o.sl.le
 go_enter func204,ntmps204;go_wp2
 go_loopg [5,8] m (λgg _ s8 wr=>∃kk:Nat,kk<=m/\m-kk<=gg/\s8=.int .i64 kk/\H0 (Ext w wr)/\H0 (∀j,j<kk->p (L.getD j Tm.zero)=false))
 case atStart=>exact⟨0,AG _,by omega,rfl,j6 (Ext.refl w),j6 (λj hj=>absurd hj (DR _))⟩
 case round =>
  obtain⟨kk,h,hg,rfl,BW,AF⟩:=hrel;by_cases hlt:kk<m
  ·have f:(kk:Int)<(m:Int):=by omega
   obtain⟨ad,rfl,q0,q1⟩:=(hL.o.ext BW.o).at (i:=kk) (by rw[<-hm.o];exact hlt);have a:=hp.o wr (L.getD kk Tm.zero) (Hs (by rw[<-hm.o];exact hlt)) BW.o;have⟨x,hx⟩:=tz (L.getD kk Tm.zero);rw[hx]at q0 q1 a;replace hx:=j6 hx;unfold tmV at a;cases hq:p x with
   | true =>
    rw[hq]at a;have HQ:=j6 hq;clear hq;go_wp2_with (go_at_fn g;refine a.mono ?_;rintro e w' ⟨rfl,c⟩)
    go_ret;exact⟨_,rfl,by rw[tD (by rw[<-hm.o];exact hlt) (by rw[hx.o];exact HQ.o)];simp,BW.o.trans c⟩
   | false =>
    rw[hq]at a;have HQ:=j6 hq;clear hq;go_wp2_with (go_at_fn g;refine a.mono ?_;rintro e w' ⟨rfl,c⟩)
    go_roundg (m-(kk+1))
    case measure=>omega
    case rel =>
     refine⟨kk+1,by omega,by omega,by go_num,j6 (BW.o.trans c),j6 (λj hj=>?_)⟩;by_cases hjk:j<kk
     ·exact AF.o j hjk
     ·obtain rfl:j=kk:=by omega
      rw[hx.o];exact HQ.o
  ·obtain rfl:kk=m:=by omega
   go_wp2;go_ret;exact⟨_,rfl,by rw[eN (λj hj=>AF.o j (by rw[hm.o];exact hj))];rfl,BW.o⟩
def Sb(p:Tm->Bool)(g:Nat)(eg:∀args w,(callFunc g args).run prog w=.ok (.enter g args) w)(AL:Option Addr)(cL m:Nat)(L:List Tm)(w:World)(hm:H0 (m=L.length))(hL:H0 (Tin w AL cL L))(hp:H0 (rX g #[] p L w)) :
  C3 144 #[.slice AL m cL,.func (.func g) #[] #[]] w λe w'=>e=.returned (.bool (L.any p))/\Ext w w':=by
 go_enter func144,ntmps144;go_wp2_with (go_at_call 204;refine(bF p g  eg AL cL m L _ hm hL hp).mono ?_;rintro e w1 ⟨r,rfl,hr,x1⟩;replace hr:=j6 hr)
 go_ret;exact⟨by rw[<-hr.o];rfl,x1⟩
def qM(x:Tm)(w:World):C3 212 #[tmV x] w λr w'=>r=.returned (.bool (decide (0<x.l.length)))/\Ext w w':=by
 unfold tmV;obtain⟨xe,xA,xc,xl⟩:=x;have⟨n,hn⟩:=tz xl.length;simp only[hn];replace hn:=j6 hn;go_enter func212,ntmps212;rcases CS n with h0|h0
 ·subst h0;go_wp2;go_ret;exact⟨by simp,(Ext.refl w).alloc _⟩
 ·have h1:(0:Int)<(n:Int):=by omega
  have h2:decide (0<n)=true:=decide_eq_true h0;go_wp2;go_ret;exact⟨by simp[h2],(Ext.refl w).alloc _⟩
def bH:∀args w,(callFunc 212 args).run prog w=.ok (.enter 212 args) w:=enters_of func212 (by kernel_rfl) rfl
def Gc{b:Bool}(AL:Option Addr)(cL m:Nat)(L:List Tm)(w:World)(hb:H0 (Bg (L.map Tm.v)=b))(hm:H0 (m=L.length))(hL:H0 (Tin w AL cL L)) :
  C3 156 #[.slice AL m cL] w λr w'=>r=.returned (.bool b)/\Ext w w':=by
 have HP:H0 (rX 212 #[] (λx=>decide (0<x.l.length)) L w):=j6 (λW x hx y=>qM x W);obtain⟨q,hq⟩:∃q,(L.any λx=>decide (0<x.l.length))=q:=⟨_,rfl⟩;have HQ:=j6 hq;have HB:H0 (b=(decide (m<=1) && !q)):=by
  refine j6 ?_;rw[<-hb.o,<-hq,hm.o];unfold Bg;rw[AN,List.any_map];rfl
 clear hb hq;have d:m<=9223372036854775807:=by rw[hm.o];exact hL.o.sl.le
 go_enter func156,ntmps156;by_cases h1:m<=1
 ·have c:(m:Int)<=1:=by omega
  have a:decide (m<=1)=true:=decide_eq_true h1;go_wp2_with (go_at_call 144;refine(Sb _ 212 bH AL cL m L _ hm hL HP).mono ?_;rintro r w1 ⟨rfl,x1⟩)
  go_ret;exact⟨by rw[HB.o,a,HQ.o];rfl,x1⟩
 ·have c:¬(m:Int)<=1:=by omega
  have a:decide (m<=1)=false:=decide_eq_false h1;go_wp2;go_ret;exact⟨by rw[HB.o,a];rfl,Ext.refl w⟩
def Tj(h:Bk w g 26 #[.int .u64 0,.slice none 0 0])(hB:B<=g):Fs w B (some ⟨g,0,none⟩) 1 [Tm.zero]:=by
 refine⟨⟨rfl,.inr ⟨g,_,rfl,hB,h,AD _,by decide,by decide,by rfl⟩⟩,λx hx=>?_,BN ..⟩;rw[AE.1 hx];exact⟨Own.nil _ _ _ _,λk hk=>by cases hk⟩
def zJ(w w1 w2 w3:World)(h1:w1=w.alloc (.cells #[.int .u64 0,.slice none 0 0] 26))(h2:w2=w1.alloc (.cells #[.int .u64 0,.slice none 0 0] 26))
  (h3:w3=w2.alloc (.cells #[.slice none 0 0,.pointer none,.slice (some ⟨w.heap.size,0,none⟩) 1 1,.slice (some ⟨w.heap.size+1,0,none⟩) 1 1] 192)) :
  SpR w3 (λk=>w.heap.size<=k/\k<w3.heap.size) (w.heap.size+1+1) ⟨none,0,[],none,some ⟨w.heap.size,0,none⟩,1,[Tm.zero],some ⟨w.heap.size+1,0,none⟩,1,[Tm.zero]⟩/\Ext w w3:=by
 have z1:w1.heap.size=w.heap.size+1:=by rw[h1];simp
 have z2:w2.heap.size=w.heap.size+1+1:=by rw[h2];simp[z1]
 have z3:w3.heap.size=w.heap.size+1+1+1:=by rw[h3];simp[z2]
 have x1:Ext w w1:=h1▸(Ext.refl w).alloc _;have x2:Ext w1 w2:=h2▸(Ext.refl w1).alloc _;have x3:Ext w2 w3:=h3▸(Ext.refl w2).alloc _;have b1:Bk w3 w.heap.size 26 #[.int .u64 0,.slice none 0 0]:=Bk.ext (Bk.ext (h1▸Bk.new w _ _) x2) x3;have b2:Bk w3 (w.heap.size+1) 26 #[.int .u64 0,.slice none 0 0]:=Bk.ext (h2▸Bk.at z1.symm) x3;have b3:Bk w3 (w.heap.size+1+1) 192 #[.slice none 0 0,.pointer none,.slice (some ⟨w.heap.size,0,none⟩) 1 1,.slice (some ⟨w.heap.size+1,0,none⟩) 1 1]:=h3▸Bk.at z2.symm;have o1:=Tj b1 (AD w.heap.size);have o2:=Tj b2 (Nat.le_succ w.heap.size);exact⟨⟨b3,⟨by omega,by omega⟩,⟨Own.nil _ _ _ _,λk hk=>(nomatch hk),λb hb=>(nomatch hb),GE,λp hp=>(nomatch hp),⟨o1.mono (AG _),λk hk=>o1.lt hk⟩,⟨o2.mono (AG _),λk hk=>o2.lt hk⟩⟩⟩,(x1.trans x2).trans x3⟩
def a3r(w:World)(e:Ending)(w':World):Prop:=∃gs m,e=.returned (.pointer (some ⟨gs,0,none⟩))/\SpR w' (λk=>w.heap.size<=k/\k<w'.heap.size) gs m/\m.v=gX/\Ext w w'
def nT(w:World):C3 43 #[] w (a3r w):=by
 go_enter func43,ntmps43;go_wp2;go_ret;have h:=zJ w _ _ _ rfl rfl rfl;exact⟨_,_,rfl,h.1,rfl,h.2⟩
def Oq(L:List Tm):Prop:=L.length<=1000000/\∀x∈L,x.l.length<=1000000
def Xo{V:List TV}(gs:Nat)(m:SpM)(R:Nat->Prop)(w:World)(hV:H0 (ofV m.v.S=V))(HM:H0 (SpR w R gs m))(hf:H0 (Oq m.S)):C3 65 #[.pointer (some ⟨gs,0,none⟩)] w (lG V w):=by
 have c2:=HM.o.bk.cell 2;have⟨n,hn⟩:=E9 m.S.length;replace c2:w.cell? ⟨gs,2,none⟩=some (.slice m.sA n m.sc):=hn▸c2;have h9:n<=1000000:=hn▸hf.o.1;have HN:=j6 hn;have HT:H0 (Tin w m.sA m.sc m.S):=j6 HM.o.b.sn.t.tin;have HL:H0 (∀x∈m.S,x.l.length<=1000000):=j6 hf.o.2;have c0:0<w.heap.size:=Nat.lt_of_le_of_lt (AG _) HM.o.bk.lt;clear hn;go_enter func65,ntmps65;go_wp2_with (go_at_call 137;refine(Tb m.sA m.sc n m.S _ HN HT HL h9).mono ?_;rintro r w1 a;have HR:=j6 a;obtain⟨A,c,k,M,rfl,h2⟩:=a;clear h2)
 go_ret;have:=HR.o;rw[<-hV.o];exact this
def nG{V:List TV}(gs:Nat)(m:SpM)(R:Nat->Prop)(w:World)(hV:H0 (ofV m.v.U=V))(HM:H0 (SpR w R gs m))(hf:H0 (Oq m.U)):C3 50 #[.pointer (some ⟨gs,0,none⟩)] w (lG V w):=by
 have c2:=HM.o.bk.cell 3;have⟨n,hn⟩:=E9 m.U.length;replace c2:w.cell? ⟨gs,3,none⟩=some (.slice m.uA n m.uc):=hn▸c2;have h9:n<=1000000:=hn▸hf.o.1;have HN:=j6 hn;have HT:H0 (Tin w m.uA m.uc m.U):=j6 HM.o.b.up.t.tin;have HL:H0 (∀x∈m.U,x.l.length<=1000000):=j6 hf.o.2;clear hn;go_enter func50,ntmps50;go_wp2_with (go_at_call 137;refine(Tb m.uA m.uc n m.U _ HN HT HL h9).mono ?_;rintro r w1 a;have HR:=j6 a;obtain⟨A,c,k,M,rfl,h2⟩:=a;clear h2)
 go_ret;have:=HR.o;rw[<-hV.o];exact this
def Df(w:World)(R:Nat->Prop)(gs:Nat)(q:Int×SV)(e:Ending)(w':World):Prop:=∃m',e=.returned (.int .u16 q.1)/\SpR w' (Rg R w w') gs m'/\m'.v=q.2/\Upd R w w'
def Df.stay{m:SpM}{n:Int}{e:Ending}(h:SpR w R gs m)(x:Ext w w')(he:e=.returned (.int .u16 n)):Df w R gs (n,m.v) e w':=⟨m,he,(h.ext x).wide λ_ _ hk=>.inl hk,rfl,Upd.ext x⟩
def gN{q:Int×SV}(gs:Nat)(m:SpM)(R:Nat->Prop)(AX:Option Addr)(cX nX:Nat)(X:List Tm)(w:World)(hq:H0 (Cy m.v (X.map Tm.v)=q))(HM:H0 (SpR w R gs m))(hnX:H0 (nX=X.length))(hX:H0 (Tin w AX cX X))(hf:H0 (Oq X)) :
  C3 45 #[.pointer (some ⟨gs,0,none⟩),.slice AX nX cX] w (Df w R gs q):=by
 rw[<-hq.o];have h9:nX<=1000000:=hnX.o▸hf.o.1;have HL:H0 (∀x∈X,x.l.length<=1000000):=j6 hf.o.2;have HT:H0 (Tin w m.sA m.sc m.S):=j6 HM.o.b.sn.t.tin;have⟨n,hn⟩:=E9 m.S.length;have HN:=j6 hn;have HC:H0 (∀W,Ext w W->W.cell? ⟨gs,2,none⟩=some (.slice m.sA n m.sc)/\W.frozen? ⟨gs,2,none⟩=false):=j6 (λW x=>⟨by have:=(HM.o.bk.ext x).cell 2;rw[hn];exact this,(HM.o.bk.ext x).free 2⟩);clear hn;have⟨b1,d⟩:=tz (Bg (X.map Tm.v));have⟨b2,e⟩:=tz (Gq (m.S.map Tm.v) (X.map Tm.v));have a:=j6 d;have f:=j6 e;have g:Cy m.v (X.map Tm.v)=if b1=false then (110,m.v) else if b2=false then (111,m.v) else (0,{ m.v with S:=ofV (X.map Tm.v) }):=by
  rw[<-d,<-e];rfl
 rw[g];clear d e g hq;cases b1 with
 | false =>
  go_enter func45,ntmps45;go_wp2_with (go_at_call 156;refine(Gc AX cX nX X _ a hnX hX).mono ?_;rintro r w1 ⟨rfl,x1⟩)
  go_ret;exact Df.stay HM.o x1 rfl
 | true =>
  cases b2 with
  | false =>
   go_enter func45,ntmps45;go_wp2_with (first
    | (go_at_call 156;refine(Gc AX cX nX X _ a hnX hX).mono ?_;rintro r w1 ⟨rfl,x1⟩;have⟨c2,f2⟩:=HC.o w1 x1;have X1:=j6 x1;clear x1)
    | (go_at_call 158;refine(Kj m.sA AX m.sc cX n nX m.S X _ HN hnX (j6 (HT.o.ext X1.o)) (j6 (hX.o.ext X1.o))).mono ?_;rw[f.o];rintro r w2 ⟨rfl,x2⟩;have X2:=j6 (X1.o.trans x2);clear x2)
    | fail)
   go_ret;exact Df.stay HM.o X2.o rfl
  | true =>
   go_enter func45,ntmps45;go_wp2_with (first
    | (go_at_call 156;refine(Gc AX cX nX X _ a hnX hX).mono ?_;rintro r w1 ⟨rfl,x1⟩;have⟨c2,f2⟩:=HC.o w1 x1;have X1:=j6 x1;clear x1)
    | (go_at_call 158;refine(Kj m.sA AX m.sc cX n nX m.S X _ HN hnX (j6 (HT.o.ext X1.o)) (j6 (hX.o.ext X1.o))).mono ?_;rw[f.o];rintro r w2 ⟨rfl,x2⟩;have X2:=j6 (X1.o.trans x2);clear x2)
    | (go_at_call 137;refine(Tb AX cX nX X _ hnX (j6 (hX.o.ext X2.o)) HL h9).mono ?_;rintro r w3 h;obtain⟨A,c,k,M,rfl,hk,hT,hV,x3⟩:=h;have X3:=j6 (X2.o.trans x3);have⟨c3,f3⟩:=HC.o w3 X3.o;have i:=(HM.o.bk.ext X3.o).lt;have HP:=j6 (HM.o.put_s X3.o (hT.mono (X2.o.size)));have HV:=j6 hV;have HK:=j6 hk;clear hT hV hk x3)
    | fail)
   go_ret;have:=HP.o;rw[<-HK.o]at this;exact⟨_,rfl,this.1,by show SpM.v _=_;rw[<-HV.o];rfl,this.2⟩
def a4d(l:List Int):List Value:=l.map (Value.int .i64)
def Nk(b:Bt)(n:Nat)(w:World)(hn:H0 (n=b.l.length))(hc:w.cell? ⟨b.g,0,none⟩=some (.slice b.A n b.c)):C3 163 #[.pointer (some ⟨b.g,0,none⟩)] w λe w'=>e=.returned (.int .i64 n)/\w=w':=by
 go_enter func163,ntmps163;go_wp2;go_ret;exact⟨rfl,rfl⟩
def sE{l:List Bt}(h:i<l.length):l.take (i+1)=l.take i++[Ci l i]:=by
 unfold Ci;rw[FM,AC h,AB,AC h];rfl
def Dz(l:List Bt):List Ud:=l.flatMap Bt.l
def Yx{l:List Bt}(h:i<l.length):Dz (l.take (i+1))=Dz (l.take i)++(Ci l i).l:=by
 unfold Dz;rw[sE h,DF];simp
def a0n(l:List Bt)(i:Nat):(Dz (l.take i)).length<=(Dz l).length:=by
 have:Dz l=Dz (l.take i)++Dz (l.drop i):=by
  unfold Dz;rw[<-DF,CF]
 rw[this,AA];omega
def nA(w:World)(L:List Ud)(e:Ending)(w':World):Prop:=∃A n c,e=.returned (.slice A n c)/\n=L.length/\Own w' w.heap.size 95 4 A n c (Ah L)/\Ext w w'
structure Xh (w wr:World) (l:List Bt) (i n c:Nat) (A:Option Addr):Prop where
 ln:n=(Dz (l.take i)).length
 ow:Own wr w.heap.size 95 4 A n c (Ah (Dz (l.take i)))
 ex:Ext w wr
def Xh.step{w wr w2:World}{l:List Bt}{i n c c2:Nat}{A A2:Option Addr}(h:Xh w wr l i n c A)(hi:i<l.length){k g0 c0:Nat}{A0:Option Addr}{L:List Ud}(hk:k=L.length)(hL:Ci l i=⟨g0,A0,c0,L⟩)(o:Own w2 w.heap.size 95 4 A2 (n+k) c2 (Ah (Dz (l.take i))++Ah L))(g:wr.grownBy w2 (blk A c)):Xh w w2 l (i+1) (n+k) c2 A2:=by
 have e:Dz (l.take (i+1))=Dz (l.take i)++L:=by rw[Yx hi,hL]
 refine⟨by rw[e,AA,h.ln,hk],?_,h.ex.grown g λk hk=>(h.ow.lt k hk).1⟩;rw[e,Au];exact o
def Pz(gs:Nat)(m:SpM)(R:Nat->Prop)(w:World)(HM:H0 (SpR w R gs m))(h9:m.bs.length<=1000000)(hA:(Dz m.bs).length<=1000000):C3 159 #[.pointer (some ⟨gs,0,none⟩)] w (nA w (Dz m.bs)):=by
 have⟨n,hn⟩:=E9 m.bs.length;have⟨mA,t⟩:=tz m.A;have c0:w.cell? ⟨gs,0,none⟩=some (.slice mA n m.c):=t▸hn▸HM.o.bk.cell 0;rw[<-hn]at h9;have HN:=j6 hn;have r:H0 (Xh w w m.bs 0 0 0 none):=j6 ⟨rfl,Own.nil _ _ _ _,Ext.refl _⟩;have HB:=HM.o.b;have j:=j6 HB;have HA:=j6 hA;clear hn HB hA;go_enter func159,ntmps159;go_wp2
 go_loopg [3,11] n (λz u v wr=>∃(i k c3:Nat) (A3:Option Addr),z=n-i/\i<=n/\u=.slice A3 k c3/\v=.int .i64 i/\H0 (Xh w wr m.bs i k c3 A3))
 case atStart=>exact⟨0,0,0,none,rfl,AG _,rfl,rfl,r⟩
 case round =>
  clear r;obtain⟨i,k,c3,A3,rfl,hi,rfl,rfl,HP⟩:=hrel;by_cases hlt:i<n
  ·have f:i<m.bs.length:=by rw[<-HN.o];exact hlt
   have⟨ad,hA,p0,p1⟩:=(j.o.ext HP.o.ex).at f;obtain rfl:mA=some ad:=t.symm.trans hA;clear hA;have d:=((j.o.bt _ (Ht f)).u.uin.sl).ext HP.o.ex;have g:k+(Ci m.bs i).l.length<=1000000:=by
    have h1:=a0n m.bs (i+1);rw[Yx f,AA,<-HP.o.ln]at h1;exact AR h1 HA.o
   have⟨b,hb⟩:=tz (Ci m.bs i);rw[hb]at p0 p1 d g;obtain⟨bg,bA,bc,bl⟩:=b;have⟨nb,h⟩:=E9 bl.length;simp only at p0 p1 d g;rw[<-h]at p1 d g;have x:=j6 h;have HK:=j6 hb;have HI:=j6 f;have HS:=j6 d;clear hb h f d;go_wp2_with (first
    | (at_builtin;refine Ab _ Ao w.heap.size _ _ rfl rfl A3 k c3 (Ah (Dz (m.bs.take i))) rfl HP.o.ow bA nb bc (Ah bl) rfl HS.o (Bz _) (by omega) (by decide) HP.o.ex.size ?_;intro A6 c6 w6 o6 g6 h6;clear h6;have y:H0 (Xh w w6 m.bs (i+1) (k+nb) c6 A6):=j6 (HP.o.step HI.o x.o HK.o o6 g6);clear o6 g6)
    | fail)
   go_roundg (n-(i+1))
   case measure=>omega
   case rel=>exact⟨i+1,k+nb,c6,A6,rfl,by omega,rfl,by go_num,y⟩
  ·obtain rfl:i=n:=by omega
   go_wp2;go_ret;have hq:=HP.o;have e:m.bs.take i=m.bs:=AW (by rw[<-HN.o];exact AD _);have o:=hq.ow;have ln:=hq.ln;rw[e]at o ln;exact⟨_,_,_,rfl,ln,o,hq.ex⟩
end Go.Proofs.YtdgbkpoickbidaaGreatDoor
namespace Go.Proofs.YtdgbkpoickbidaaGreatDoor.UdS
variable{xs:List Value}{B c g gs i j m n q:Nat}{R S:Nat->Prop}{A:Option Addr}{e t:TypeId}{w w' w1 wi wj wr wz:World}
def getD_mid(P:List Ud)(x:Ud)(Q:List Ud):(P++x::Q).getD P.length Ud.zero=x:=by
 rw[AB,BF (AD _),DQ];rfl
def set_mid(P:List Ud)(x y:Ud)(Q:List Ud):(P++x::Q).set P.length y=P++y::Q:=by
 rw[CL _ _ (AD _),DQ];rfl
def Arr.two{P s2 Q:List Ud}{x y:Ud}(h:Arr w B g c (P++y::x::Q))(hq:q=P.length) :
  (w.cell? ⟨g,q*4,none⟩=some (.slice y.A y.l.length y.c)/\w.cell? ⟨g,q*4+1,none⟩=some (.int .u64 y.t.e)/\w.cell? ⟨g,q*4+2,none⟩=some (.slice y.t.A y.t.l.length y.t.c)/\w.cell? ⟨g,q*4+3,none⟩=some (.int .i64 y.d))/\w.cell? ⟨g,(q+1)*4,none⟩=some (.slice x.A x.l.length x.c)/\w.cell? ⟨g,(q+1)*4+1,none⟩=some (.int .u64 x.t.e)/\w.cell? ⟨g,(q+1)*4+2,none⟩=some (.slice x.t.A x.t.l.length x.t.c)/\w.cell? ⟨g,(q+1)*4+3,none⟩=some (.int .i64 x.d):=by
 subst hq;have h1:=h.at (i:=P.length) (by simp);have h2:=h.at (i:=P.length+1) (by simp);rw[getD_mid]at h1;have e:(P++y::x::Q).getD (P.length+1) Ud.zero=x:=by
  have:=getD_mid (P++[y]) x Q
  rwa [AK,AA]at this
 rw[e]at h2;exact⟨h1,h2⟩
def Arr.swap{P Q:List Ud}{x y:Ud}(h:Arr w B g c (P++y::x::Q))(hq:q=P.length) :
  Arr (put4 (put4 w g (q+1) y y.l.length y.t.l.length) g q x x.l.length x.t.l.length) B g c (P++x::y::Q):=by
 subst hq;have h1:=(h.set (P.length+1) y).set P.length x;have e:((P++y::x::Q).set (P.length+1) y).set P.length x=P++x::y::Q:=by
  have e1:(P++y::x::Q).set (P.length+1) y=P++y::y::Q:=by
   have:=set_mid (P++[y]) x y Q
   rwa [AK,AA,AK]at this
  rw[e1,set_mid]
 rwa [e]at h1
def InsIn(B g c a:Nat)(P S T Q D':List Ud)(x:Ud)(w wi:World)(j:Nat)(s1 s2:List Ud):Prop :=
 j=a+s1.length/\D'=s1++s2/\(∀y∈s2,cmpC x y<0)/\Arr wi B g c (P++(s1++x::(s2++(T++Q))))/\w.grownBy wi (some g)/\Rws wi g (x::S)
def InsOut(B g c a:Nat)(P S Q:List Ud)(w wo:World)(i:Nat)(D D' T:List Ud):Prop :=
 S=D++T/\i=a+D.length/\Af cmpC D D'/\Arr wo B g c (P++(D'++(T++Q)))/\w.grownBy wo (some g)/\Rws wo g S
def stable_len{L M:List Ud}(h:Af cmpC L M):M.length=L.length:=by
 have key:∀(n:Nat) (L M:List Ud),L.length<=n->Af cmpC L M->M.length=L.length:=by
  intro n;induction n with
  | zero =>
   intro L M hn h;have:L=[]:=AH (by omega);subst this;cases M with
   | nil=>rfl
   | cons y M=>exact absurd ((h.mem cmpC_tot y).1 (BC ..)) DA
  | succ n ih =>
   intro L M hn h;cases M with
   | nil =>
    cases L with
    | nil=>rfl
    | cons y L=>exact absurd ((h.mem cmpC_tot y).2 (BC ..)) DA
   | cons y M =>
    have hy:=(h.mem cmpC_tot y).1 (BC ..);have p1:∀K:List Ud,(Ae cmpC y K).length+(K.filter λz=>!(cmpC y z==0)).length=K.length:=λK=>by
     unfold Ae;rw[<-AA];exact(GF (λz=>cmpC y z==0) K).length_eq
    have h1:=p1 L;have h2:=p1 (y::M);have h3:(Ae cmpC y L).length=(Ae cmpC y (y::M)).length:=by rw[h.same y]
    have h4:0<(Ae cmpC y L).length:=GL (BI.2 ⟨hy,by rw[beq_iff_eq];exact cmpC_tot.refl y⟩);have h5:=ih (L.filter λz=>!(cmpC y z==0)) ((y::M).filter λz=>!(cmpC y z==0)) (by omega) ⟨h.sorted.filter _,λz=>by
     have q:=h.same z;unfold Ae at q ⊢;rw[DD,DD];have e:∀K:List Ud,K.filter (λa=>(cmpC z a==0) && !(cmpC y a==0))=(K.filter (λa=>cmpC z a==0)).filter (λa=>!(cmpC y a==0)):=λK=>by
      rw[DD]
      congr 1
      funext a;rw[Bool.and_comm]
     rw[e,e,q]⟩
    omega
 exact key L.length L M (AD _) h
def nzC(x:Ud):Bool:=!(x.d==0)
def sum2_any(A B:Option Addr)(c n b m:Nat)(e k:Int)(v:Bool)(w:World)(hv:H0 ((k==0)=v)) :
  C3 107 #[.agg #[.slice A n c,.int .u64 e,.slice B m b,.int .i64 k]] w λe w'=>e=.returned (.bool v)/\Ext w w':=by
 rw[<-hv.o];clear hv;go_enter func107,ntmps107;go_wp2;go_ret;exact⟨rfl,(Ext.refl w).alloc _⟩
def index_none(B g c n:Nat)(M:List Ud)(w:World)(hn:n=M.length)(h:Arr w B g c M)(hz:∀x∈M,(x.d==0)=false) :
  C3 185 #[.slice (some ⟨g,0,none⟩) n c,.func (.func 107) #[] #[]] w λe w'=>e=.returned (.int .i64 (-1))/\Ext w w':=by
 have f:=h.le;rw[<-hn]at f;have H:=j6 h;have HN:=j6 hn;have HZ:=j6 hz;clear h hn hz;go_enter func185,ntmps185;go_wp2
 go_loopw [8] (λv wr=>∃i:Nat,i<=n/\v=.int .i64 i/\Ext w wr) (λv _=>n-(intOf v).toNat)
 case atStart=>exact⟨0,AG _,rfl,Ext.refl _⟩
 case round =>
  obtain⟨i,hi,rfl,er⟩:=hrel;by_cases hlt:i<n
  ·have a:i<M.length:=by rw[<-HN.o];exact hlt
   have⟨p0,p1,p2,p3⟩:=(H.o.ext er).at a;have hk:((M.getD i Ud.zero).d==0)=false:=by
    rw[AB,AC a];exact HZ.o _ (BR a)
   have⟨x,hx⟩:=tz (M.getD i Ud.zero);rw[hx]at p0 p1 p2 p3 hk;have HK:=j6 hk;clear a hx hk;go_wp2_with (go_at_call 107;refine(sum2_any _ _ _ _ _ _ _ _ _ _ HK).mono ?_;rintro e w1 ⟨rfl,x1⟩)
   go_roundw
   case rel=>exact⟨i+1,by omega,by go_num,er.trans x1⟩
   case measure=>simp[intOf];omega
  ·go_wp2;go_ret;exact⟨rfl,er⟩
def index_some(B g c n q:Nat)(P Q:List Ud)(x:Ud)(w:World)(hn:n=(P++x::Q).length)(hq:q=P.length)(h:Arr w B g c (P++x::Q))(hz:∀x∈P,(x.d==0)=false)(hx:(x.d==0)=true) :
  C3 185 #[.slice (some ⟨g,0,none⟩) n c,.func (.func 107) #[] #[]] w λe w'=>e=.returned (.int .i64 q)/\Ext w w':=by
 have j:=h.le;rw[<-hn]at j;have m:q<n:=by rw[hn,AA,AJ];omega
 have H:=j6 h;have HQ:=j6 hq;have HZ:=j6 hz;have HX:=j6 hx;clear h hn hz hq hx;go_enter func185,ntmps185;go_wp2
 go_loopw [8] (λv wr=>∃i:Nat,i<=q/\v=.int .i64 i/\Ext w wr) (λv _=>n-(intOf v).toNat)
 case atStart=>exact⟨0,AG _,rfl,Ext.refl _⟩
 case round =>
  obtain⟨i,hi,rfl,er⟩:=hrel;have l:i<n:=by omega
  have a:i<(P++x::Q).length:=by rw[AA,AJ,<-HQ.o];omega
  have⟨p0,p1,p2,p3⟩:=(H.o.ext er).at a;by_cases hiq:i<q
  ·have hk:(((P++x::Q).getD i Ud.zero).d==0)=false:=by
    have hp:i<P.length:=by rw[<-HQ.o];exact hiq
    rw[AB,BS hp,AC hp];exact HZ.o _ (BR hp)
   have⟨y,hy⟩:=tz ((P++x::Q).getD i Ud.zero);rw[hy]at p0 p1 p2 p3 hk;have HK:=j6 hk;clear a hy hk;go_wp2_with (go_at_call 107;refine(sum2_any _ _ _ _ _ _ _ _ _ _ HK).mono ?_;rintro e w1 ⟨rfl,x1⟩)
   go_roundw
   case rel=>exact⟨i+1,by omega,by go_num,er.trans x1⟩
   case measure=>simp[intOf];omega
  ·have f:i=q:=by omega
   subst f;have e:(P++x::Q).getD i Ud.zero=x:=by rw[HQ.o];exact getD_mid P x Q
   rw[e]at p0 p1 p2 p3;clear a e;go_wp2_with (go_at_call 107;refine(sum2_any _ _ _ _ _ _ _ _ _ _ HX).mono ?_;rintro e w1 ⟨rfl,x1⟩)
   go_ret;exact⟨rfl,er.trans x1⟩
def own_set_past{k:Nat}(h:Own w B 95 4 (some ⟨g,0,none⟩) n c xs)(hk:xs.length<=k)(u:Value):Own (w.setCell ⟨g,k,none⟩ u) B 95 4 (some ⟨g,0,none⟩) n c xs:=by
 have:=h.put k u
 rwa [GD hk]at this
def own_sets_past:∀(vs:List Value) (w:World) (k:Nat),Own w B 95 4 (some ⟨g,0,none⟩) n c xs->xs.length<=k->Own (w.setCells g k vs) B 95 4 (some ⟨g,0,none⟩) n c xs
 | [],_,_,h,_=>h
 | v::vs,w,k,h,hk=>own_sets_past vs _ (k+1) (own_set_past h hk v) (by omega)
def upd_sets(g:Nat):∀(vs:List Value) (w:World) (k:Nat),w.grownBy (w.setCells g k vs) (some g)
 | [],w,_=>CM w _
 | v::vs,w,k=>(Cn w g k v).trans (upd_sets g vs _ (k+1))
def Arr.prefix_{K X:List Ud}(h:Arr w B g c (K++X)):Arr w B g c K:=by
 refine⟨⟨Cx K,?_⟩,h.2⟩;rcases h.1.2 with ⟨h1,h2⟩|⟨g',cur,e,hb,hg,hnc,hcm,hcs,htake⟩
 ·exact .inl ⟨h1,by rw[AA]at h2;omega⟩
 ·refine .inr ⟨g',cur,e,hb,hg,by rw[AA]at hnc;omega,hcm,hcs,?_⟩;have:(cur.toList.take ((K++X).length*4)).take (K.length*4)=(Ah (K++X)).take (K.length*4):=by rw[htake]
  rw[List.take_take,Nat.min_eq_left (by rw[AA];omega),Au]at this;rw[this,<-Cx K,DY]
def Arr.cells_past{K:List Ud}(h:Arr w B g c K){j:Nat}(hj:j<c*4):(w.cell? ⟨g,j,none⟩).isSome=true:=by
 rcases h.1.2 with ⟨h1,_⟩|⟨g',cur,e,hb,hg,hnc,hcm,hcs,htake⟩
 ·have:=h.2;omega
 ·cases e;rw[cell_of_row w g j cur _ (0,0) hg,EZ (AZ hj hcs)];rfl
def jB{P:Program}(w:World)(t e ty:TypeId)(z0 z1 z2 z3:Value)(ht:P.underlying t=some (.slice e))(hv:∀w,(zeroValue e).run P w=.ok (.agg #[z0,z1,z2,z3]) w)(hz:∀v∈[z0,z1,z2,z3],v.oneCell'=true)(hzc:(Value.agg #[z0,z1,z2,z3]).cells=#[z0,z1,z2,z3])(b o n c:Nat)(hn:0<n)
  (hc:∀j,j<n*4->(w.cell? ⟨b,o+j,none⟩).isSome=true) (hf:∀j,j<n*4->w.frozen? ⟨b,o+j,none⟩=false) :
  (Builtin.clear_ #[t] ty #[.slice (some ⟨b,o,none⟩) n c]).run P w=.ok (.tuple #[]) (w.setCells b o (Builtin.zeroCells #[z0,z1,z2,z3] n).toList):=by
 have a:(Builtin.zeroCells #[z0,z1,z2,z3] n).toList.length=n*4:=by
  have:=size_zeroCells #[z0,z1,z2,z3] n;rw[EF,this];rfl
 have g:∀v∈(Builtin.zeroCells #[z0,z1,z2,z3] n).toList,v.oneCell'=true:=by
  intro v d;unfold Builtin.zeroCells at d;rw[Array.toList_map]at d;obtain⟨i,_,rfl⟩:=AP.1 d;show(#[z0,z1,z2,z3][i % 4]!).oneCell'=true;rcases(by omega:i % 4=0\/i % 4=1\/i % 4=2\/i % 4=3)with h|h|h|h
  ·rw[h];exact hz z0 (by simp)
  ·rw[h];exact hz z1 (by simp)
  ·rw[h];exact hz z2 (by simp)
  ·rw[h];exact hz z3 (by simp)
 have f:=run_storeCells_cells (P:=P) b o (Builtin.zeroCells #[z0,z1,z2,z3] n).toList 0 w (by simpa [a] using hc) (by simpa [a] using hf) g;simp only[EH]at f;obtain⟨m,rfl⟩:∃m,n=m+1:=⟨n-1,by omega⟩;simp[Builtin.clear_,run_underlying ht,hv,hzc,f]
def Deleted(B g c:Nat)(M:List Ud)(w:World)(e:Ending)(w':World):Prop:=∃m,e=.returned (.slice (some ⟨g,0,none⟩) m c)/\m=(M.filter nzC).length/\Arr w' B g c (M.filter nzC)/\w.grownBy w' (some g)
def yD(w:World):(zeroValue 95).run prog w=.ok (.agg #[.slice none 0 0,.int .u64 0,.slice none 0 0,.int .i64 0]) w:=by kernel_rfl
def DelIn(B g c:Nat)(M K X R:List Ud)(w wr:World)(j:Nat):Prop:=j=K.length+X.length/\M.filter nzC=K++R.filter nzC/\Arr wr B g c (K++(X++R))/\w.grownBy wr (some g)/\0<X.length
def DelIn.mk'{M K X R:List Ud}(h:DelIn B g c M K X R w wr j)(hz:Ext wr wz):DelIn B g c M K X R w wz j:=⟨h.1,h.2.1,h.2.2.1.ext hz,h.2.2.2.1.trans (Aq hz g),h.2.2.2.2⟩
def DelIn.skip{M K X R:List Ud}{x:Ud}(h:DelIn B g c M K X (x::R) w wr j)(hx:nzC x=false)(hz:Ext wr wz):DelIn B g c M K (X++[x]) R w wz (j+1):=by
 obtain⟨h1,h2,h3,h4,h5⟩:=h;refine⟨by rw[AA,AO];omega,by rw[h2,CP (by simp[hx])],?_,h4.trans (Aq hz g),by rw[AA];omega⟩;have e:K++(X++[x]++R)=K++(X++x::R):=by simp
 rw[e];exact h3.ext hz
def DelIn.keep{M K X R:List Ud}{x y:Ud}(h:DelIn B g c M K (y::X) (x::R) w wr j)(hx:nzC x=true)(hi:i=K.length){n m:Nat}(hn:n=x.l.length)(hm:m=x.t.l.length) :
  DelIn B g c M (K++[x]) (X++[x]) R w (put4 wr g i x n m) (j+1):=by
 subst hi hn hm;obtain⟨h1,h2,h3,h4,h5⟩:=h;refine⟨by simp only[AA,AJ,CB]at h1 ⊢;omega,by rw[h2,CR hx];simp,?_,h4.trans (Te wr g _ _ _ _),by rw[AA,AO];omega⟩;have h6:=h3.set K.length x;have e:(K++(y::X++x::R)).set K.length x=K++[x]++(X++[x]++R):=by
  rw[CI,set_mid];simp
 rw[e]at h6;exact h6
def deleteFunc_any(B g c n:Nat)(M:List Ud)(w:World)(hn:n=M.length)(h:Arr w B g c M) :
  C3 106 #[.slice (some ⟨g,0,none⟩) n c,.func (.func 107) #[] #[]] w (Deleted B g c M w):=by
 by_cases hall:∀x∈M,(x.d==0)=false
 ·have hf:M.filter nzC=M:=EM.2 λx hx=>by unfold nzC;rw[hall x hx];rfl
  have H:=j6 h;have HN:=j6 hn;have HF:=j6 hf;clear h hn hf;go_enter func106,ntmps106;go_wp2_with (go_at_call 185;refine(index_none B g c n M _ HN.o H.o hall).mono ?_;rintro e w1 ⟨rfl,x1⟩)
  go_ret;exact⟨n,rfl,by rw[HF.o];exact HN.o,by rw[HF.o];exact H.o.ext x1,Aq x1 g⟩
 ·obtain⟨P,x,Q,rfl,hP,hx⟩:∃P x Q,M=P++x::Q/\(∀y∈P,(y.d==0)=false)/\(x.d==0)=true:=by
   clear h hn;induction M with
   | nil=>exact absurd (λx hx=>(nomatch hx)) hall
   | cons y M ih =>
    by_cases hy:(y.d==0)=true
    ·exact⟨[],y,M,rfl,λz hz=>(nomatch hz),hy⟩
    ·have F:(y.d==0)=false:=by simpa using hy
     have⟨P,x,Q,e,h1,h2⟩:=ih (λq=>hall λz hz=>(AY.1 hz).elim (λe=>e▸F) (q z));exact⟨y::P,x,Q,by rw[e];rfl,λz hz=>(AY.1 hz).elim (λe=>e▸F) (h1 z),h2⟩
  clear hall;have⟨M,hM⟩:=E9 (P++x::Q);have⟨q,hq⟩:=E9 P.length;have N:=h.le;rw[<-hn]at N;have a1:q<n:=by rw[hn,hq,AA,AJ];omega
  have O:n<=c:=by rw[hn];exact h.1.le.1
  have S:c<=9223372036854775807:=h.1.le.2;have C:P.filter nzC=P:=EM.2 λy hy=>by unfold nzC;rw[hP y hy];rfl
  have H:=j6 h;have HN:=j6 hn;have HQ:=j6 hq;have HP:=j6 hP;have HX:=j6 hx;have G:H0 (n=q+1+Q.length):=j6 (by rw[hn,hq,AA,AJ];omega);have HD:∀w1,Ext w w1->H0 (DelIn B g c M P [x] Q w w1 (q+1)):=λw1 x1=>j6 ⟨by rw[hq];rfl,by rw[hM,CT,C,CP (by unfold nzC;rw[hx];decide)],h.ext x1,Aq x1 g,Nat.zero_lt_one⟩;have I:=j6 HD;rw[<-hM];clear h hn hq hP hx C hM HD;go_enter func106,ntmps106;go_wp2_with (go_at_call 185;refine(index_some B g c n q P Q x _ HN.o HQ.o H.o HP.o HX.o).mono ?_;rintro e w1 ⟨rfl,x1⟩)
  go_loopg [5,6] (n-(q+1)) (λz u v wr=>∃(i j:Nat) (K X R:List Ud),z=n-j/\j<=n/\i<=j/\u=.int .i64 i/\v=.int .i64 j/\H0 (i=K.length/\n=j+R.length)/\H0 (DelIn B g c M K X R w wr j))
  case atStart=>exact⟨q,q+1,P,[x],Q,rfl,by omega,by omega,rfl,by simp,j6 ⟨HQ.o,G.o⟩,I.o w1 x1⟩
  case round =>
   obtain⟨i,j,K,X,R,rfl,hj,Z,rfl,rfl,HI,HJ⟩:=hrel;obtain⟨wi,E⟩:∃wi:World,wi=wr:=⟨_,rfl⟩;rw[<-E]at HJ ⊢;clear E;by_cases hlt:j<n
   ·obtain⟨y,R,rfl⟩:∃y R',R=y::R':=by
     cases R with
     | nil=>have:=HI.o.2;rw[CB]at this;omega
     | cons y R=>exact⟨y,R,rfl⟩
    obtain⟨x0,X,rfl⟩:∃x0 X',X=x0::X':=by
     cases X with
     | nil=>have:=HJ.o.2.2.2.2;exact absurd this (by decide)
     | cons x0 X=>exact⟨x0,X,rfl⟩
    have hA:=HJ.o.2.2.1;have D:j<(K++(x0::X++y::R)).length:=by have:=HJ.o.1;simp only[AA,AJ]at this ⊢;omega
    have⟨p0,p1,p2,p3⟩:=hA.at D;have e:(K++(x0::X++y::R)).getD j Ud.zero=y:=by
     rw[<-AK,show j=(K++x0::X).length by rw[AA];exact HJ.o.1];exact getD_mid _ y R
    rw[e]at p0 p1 p2 p3;have f0:=hA.free (i*4);have U:=hA.free (i*4+1);have f1:=hA.free (i*4+2);have W:=hA.free (i*4+3);have c0:∃u,wi.cell? ⟨g,i*4,none⟩=some u:=CQ.1 (hA.cells_past (by omega));obtain⟨u0,c0⟩:=c0;have c1:∃u,wi.cell? ⟨g,i*4+1,none⟩=some u:=CQ.1 (hA.cells_past (by omega));obtain⟨u1,c1⟩:=c1;have c2:∃u,wi.cell? ⟨g,i*4+2,none⟩=some u:=CQ.1 (hA.cells_past (by omega));obtain⟨u2,c2⟩:=c2;have c3:∃u,wi.cell? ⟨g,i*4+3,none⟩=some u:=CQ.1 (hA.cells_past (by omega));obtain⟨u3,c3⟩:=c3;have HA:=j6 hA;have⟨ny,f⟩:=E9 y.l.length;have⟨ty,m⟩:=E9 y.t.l.length;rw[<-f]at p0;rw[<-m]at p2;have J:=j6 f;have L:=j6 m;have⟨v,hv⟩:=tz ((y.d==0));have HV:=j6 hv;clear hA D e f m hv;cases v
    ·have hx:H0 (nzC y=true):=j6 (by unfold nzC;rw[HV.o];rfl);go_wp2_with (go_at_call 107;refine(sum2_any _ _ _ _ _ _ _ _ _ _ HV).mono ?_;rintro e w2 ⟨rfl,x2⟩;have X2:=((Ext.refl wi).alloc (.cells #[.slice y.A ny y.c,.int .u64 y.t.e,.slice y.t.A ty y.t.c,.int .i64 y.d] 95)).trans x2;have B2:=(Bk.new wi 95 #[.slice y.A ny y.c,.int .u64 y.t.e,.slice y.t.A ty y.t.c,.int .i64 y.d]).ext x2;have b0:=B2.cell 0;have b1:=B2.cell 1;have b2:=B2.cell 2;have b3:=B2.cell 3;have a:=j6 (HA.o.ext X2);have g0:=a.o.free (i*4);have g1:=a.o.free (i*4+1);have g2:=a.o.free (i*4+2);have g3:=a.o.free (i*4+3);have d0:=X2.cell c0;have d1:=X2.cell c1;have d2:=X2.cell c2;have d3:=X2.cell c3)
     go_roundg (n-(j+1))
     case measure=>omega
     case rel=>exact⟨i+1,j+1,K++[y],X++[y],R,rfl,by omega,by omega,by go_num,by go_num,j6 ⟨by rw[AA,AO,<-HI.o.1],by have:=HI.o.2;rw[AJ]at this;omega⟩,j6 ((DelIn.mk' HJ.o X2).keep hx.o HI.o.1 J.o L.o)⟩
    ·have hx:H0 (nzC y=false):=j6 (by unfold nzC;rw[HV.o];rfl);go_wp2_with (go_at_call 107;refine(sum2_any _ _ _ _ _ _ _ _ _ _ HV).mono ?_;rintro e w2 ⟨rfl,x2⟩;have X2:=((Ext.refl wi).alloc (.cells #[.slice y.A ny y.c,.int .u64 y.t.e,.slice y.t.A ty y.t.c,.int .i64 y.d] 95)).trans x2)
     go_roundg (n-(j+1))
     case measure=>omega
     case rel=>exact⟨i,j+1,K,x0::X++[y],R,rfl,by omega,by omega,rfl,by go_num,j6 ⟨HI.o.1,by have:=HI.o.2;rw[AJ]at this;omega⟩,j6 (HJ.o.skip hx.o X2)⟩
   ·obtain rfl:j=n:=by omega
    have hR:R=[]:=AH (by have:=HI.o.2;omega);subst hR;have hA:=HJ.o.2.2.1;have a0:i<j:=by have h1:=HJ.o.1;have h2:=HI.o.1;have h3:=HJ.o.2.2.2.2;omega
    have T:j-i<=c-i:=by omega
    have Y:¬(c=i):=by omega
    have r:∃vs,∀ty,(Builtin.clear_ #[22] ty #[.slice (some ⟨g,i*4,none⟩) (j-i) (c-i)]).run prog wi=.ok (.tuple #[]) (wi.setCells g (i*4) vs):=
     ⟨_,λty=>(jB (P:=prog) wi 22 95 ty (.slice none 0 0) (.int .u64 0) (.slice none 0 0) (.int .i64 0) Tryz.underlying22 yD (by intro v hv;simp at hv;rcases hv with rfl|rfl|rfl|rfl<;>rfl) rfl g (i*4) (j-i) (c-i) (by omega) (λt ht=>hA.cells_past (by omega)) (λt ht=>hA.free _))⟩
    obtain⟨vs,r⟩:=r;have HA:=j6 hA;have HF:H0 (M.filter nzC=K):=j6 (by have:=HJ.o.2.1;rwa [List.filter_nil,AV]at this);have HG:=j6 HJ.o.2.2.2.1;have HK:=j6 HI.o.1;clear hA HJ HI;go_wp2;go_ret;refine⟨i,rfl,by rw[HF.o];exact HK.o,?_,HG.o.trans (upd_sets g vs wi _)⟩;rw[HF.o];have hp:=HA.o.prefix_;exact⟨own_sets_past vs wi _ hp.1 (by rw[Cx,HK.o];exact AD _),hp.2⟩
end Go.Proofs.YtdgbkpoickbidaaGreatDoor.UdS
namespace Go.Proofs.YtdgbkpoickbidaaGreatDoor
variable{xs:List Value}{B c g gs i j m n q:Nat}{R S:Nat->Prop}{A:Option Addr}{e t:TypeId}{w w' w1 wi wj wr wz:World}
namespace UdS
def vU{α β:Type}{f:α->β}{O:List α}{M:List β}{y:β}(h:O.map f=M++[y]):∃K z,O=K++[z]/\K.map f=M/\f z=y:=by
 have⟨K,R,e,e1,e2⟩:=List.map_eq_append_iff.1 h;cases R with
 | nil=>simp at e2
 | cons z R =>
  cases R with
  | cons z' R=>simp at e2
  | nil=>exact⟨K,z,e,e1,by simpa using e2⟩
def eT{O S:List Ud}(h:Af cmpC O S):Af cmpV (O.map Ud.uv) (S.map Ud.uv):=by
 refine⟨DV.2 (h.sorted.imp λq=>q),λc=>?_⟩;have e:∀K:List Ud,Ae cmpV c (K.map Ud.uv)=(Ae cmpC ⟨none,0,c.1.1,⟨c.1.2.1,none,0,c.1.2.2⟩,c.2⟩ K).map Ud.uv:=λK=>by
  unfold Ae;rw[EE];rfl
 rw[e,e,h.same]
def a1j{S O:List Ud}(hs:S.Pairwise λx y=>cmpC x y<=0)(hin:∀x∈S,InN x.uv)(h:O.map Ud.uv=mergeV ((S.take (j+1)).map Ud.uv))(hj:j<S.length) :
  ∃M y,O=M++[y]/\∀x:Ud,Hy y.k x.k=0↔Hy (S.getD j Ud.zero).k x.k=0:=by
 have a:(S.take (j+1)).Sublist S:=List.take_sublist _ _;have k:=(merge_sum ((S.take (j+1)).map Ud.uv) (DV.2 ((hs.sublist a).imp λq=>q)) (λx hx=>by obtain⟨y,hy,rfl⟩:=AP.1 hx;exact hin y (a.subset hy))).2;rw[Iy hj]at k h;rcases k with ⟨k,_⟩|⟨S0,s,M0,y,k1,k2,k3⟩
 ·simp at k
 ·rw[k2]at h;have⟨K,z,e,e1,e2⟩:=vU h;refine⟨K,z,e,λx=>?_⟩;rw[AI,CA]at k1;have d:=(List.append_inj' k1 rfl).2;have c:(S.getD j Ud.zero).uv=s:=by simpa using d
  have k4:Hy z.k (S.getD j Ud.zero).k=0:=by
   have:cmpV z.uv (S.getD j Ud.zero).uv=0:=by rw[e2,c];exact k3
   exact this
  exact Kg.eq_left k4
structure Gt (w w1:World) (S:List Ud) (wr:World) (i:Nat) (A:Option Addr) (c:Nat) (O:List Ud):Prop where
 o:Bu wr w.heap.size A c O
 is:O.map Ud.uv=mergeV ((S.take i).map Ud.uv)
 len:O.length<=i
 ext:Ext w1 wr
 lo:Ext w w1
variable{w w1 wr wz:World}{S O M:List Ud}{i:Nat}{A:Option Addr}{c:Nat}{x y:Ud}
def Gt.mono(h:Gt w w1 S wr i A c O)(q:Ext wr wz):Gt w w1 S wz i A c O:=⟨h.o.ext q,h.is,h.len,h.ext.trans q,h.lo⟩
def Gt.join{s:Int}(h:Gt w w1 S wr i (some ⟨g,0,none⟩) c (M++[y]))(hi:i<S.length)(hx:S.getD i Ud.zero=x)(hc:Hy y.k x.k=0)(hm:m=M.length)(hs:w64 (y.d+x.d)=s)(hg:w1.heap.size<=g) :
  Gt w w1 S (wr.setCell ⟨g,m*4+3,none⟩ (.int .i64 s)) (i+1) (some ⟨g,0,none⟩) c (M++[⟨y.A,y.c,y.l,y.t,s⟩]):=by
 subst hm hs;refine⟨h.o.bump _,?_,by have:=h.len;simp only[AA,AO]at this ⊢;omega,h.ext.set (p:=⟨g,_,none⟩) hg _,h.lo⟩;rw[Iy hi,hx,AI,AI,CA,CA,mergeV_snoc,<-h.is,AI,CA,mergeStep_snoc,if_pos (show cmpV y.uv x.uv=0 from hc)];rfl
def dW(h:O.map Ud.uv=mergeV ((S.take i).map Ud.uv))(hi:i<S.length)(hx:S.getD i Ud.zero=x)(hc:O=[]\/∃M y,O=M++[y]/\¬Hy y.k x.k=0){z:Ud}(hz:z.uv=x.uv):(O++[z]).map Ud.uv=mergeV ((S.take (i+1)).map Ud.uv):=by
 rw[Iy hi,hx,AI,AI,CA,CA,mergeV_snoc,<-h,hz];rcases hc with rfl|⟨M,y,rfl,hc⟩
 ·rfl
 ·rw[AI,CA,mergeStep_snoc,if_neg (show ¬cmpV y.uv x.uv=0 from hc)]
def aF(w:World)(L:List Ud)(e:Ending)(w':World):Prop:=∃A m R,e=.returned (.slice A m m)/\m=R.length/\Bu w' w.heap.size A m R/\R.map Ud.uv=sumV (L.map Ud.uv)/\Ext w w'
def xB{L S O:List Ud}(hin:∀x∈L,InN x.uv)(st:Af cmpC L S)(h:O.map Ud.uv=mergeV (S.map Ud.uv)):(O.filter nzC).map Ud.uv=sumV (L.map Ud.uv):=by
 have h1:Summed (L.map Ud.uv) (O.map Ud.uv):=by
  rw[h];exact Summed.of_stable (eT st) (λy hy=>by obtain⟨x,hx,rfl⟩:=AP.1 hy;exact hin x hx)
 have h2:=Summed.all (L.map Ud.uv) (λy hy=>by obtain⟨x,hx,rfl⟩:=AP.1 hy;exact hin x hx);unfold sumV;rw[<-h1.unique h2,EE];rfl
end UdS
def Ni(A:Option Addr)(n c:Nat)(L:List Ud)(w:World)(hm:H0 (n=L.length))(h:H0 (Uin w A c L))(hn:n<=1000000) :
  C3 101 #[.slice A n c] w λe w'=>∃A' c',e=.returned (.slice A' n c')/\Own w' w.heap.size 95 4 A' n c' (Ah L)/\Ext w w':=by
 have hs:H0 (Sl w 4 A n c (Ah L)):=j6 (by rw[hm.o];exact h.o.sl);have i:=λ(W:World)=>FP (P:=prog) W 22 95 A n c 0 0 Tryz.underlying22;rcases A with _|a
 ·obtain rfl:c=0:=hs.o.2.2.2.1 rfl;have f:n=0:=by have:=hs.o.2.1;omega
  subst f;have hx:Ah L=[]:=AH (by simpa using hs.o.1);rw[hx];go_enter func101,ntmps101;go_wp2;go_ret;exact⟨none,0,rfl,Own.nil _ _ _ _,Ext.refl _⟩
 ·go_enter func101,ntmps101;go_wp2_with (at_builtin;refine Da _ Ao w.heap.size _ _ (by rfl) (by rfl) _ 0 0 [] (by rfl) (Own.empty _ _ _ _ _) (some a) n c (Ah L) (by rfl) (hs.o.ext ((Ext.refl w).alloc _)) (Bz L) (by omega) (by omega) (by simp) ?_;intro A' c' w1 g d j)
  go_ret;refine⟨A',c',by simp,by simpa using g,?_⟩;exact((Ext.refl w).alloc _).grown d (by simp[blk])
def Bk.set4{a b c d:Value}(h:Bk w g t #[a,b,c,d])(u v x y:Value) :
  ((((w.setCell ⟨g,0,none⟩ u).setCell ⟨g,1,none⟩ v).setCell ⟨g,2,none⟩ x).setCell ⟨g,3,none⟩ y).cell? ⟨g,0,none⟩=some u/\((((w.setCell ⟨g,0,none⟩ u).setCell ⟨g,1,none⟩ v).setCell ⟨g,2,none⟩ x).setCell ⟨g,3,none⟩ y).cell? ⟨g,1,none⟩=some v /\
   ((((w.setCell ⟨g,0,none⟩ u).setCell ⟨g,1,none⟩ v).setCell ⟨g,2,none⟩ x).setCell ⟨g,3,none⟩ y).cell? ⟨g,2,none⟩=some x/\((((w.setCell ⟨g,0,none⟩ u).setCell ⟨g,1,none⟩ v).setCell ⟨g,2,none⟩ x).setCell ⟨g,3,none⟩ y).cell? ⟨g,3,none⟩=some y:=by
 have bb:=(((h.set 0 u).set 1 v).set 2 x).set 3 y;exact⟨bb.cell 0,bb.cell 1,bb.cell 2,bb.cell 3⟩
def xW(x:Ud)(nx tx:Nat)(w:World)(r:Ending)(w':World):Prop:=∃(A:Option Addr) (c:Nat) (B:Option Addr) (b:Nat),r=.returned (.agg #[.slice A nx c,.int .u64 x.t.e,.slice B tx b,.int .i64 x.d]) /\
 Own w' w.heap.size 204 4 A nx c (Dd x.l)/\Own w' w.heap.size 180 1 B tx b (wds x.t.l)/\Ext w w'
def Rc(x:Ud)(nx tx:Nat)(w:World)(hnx:H0 (nx=x.l.length))(htx:H0 (tx=x.t.l.length))(hx:H0 (UdR w x))(h9:nx<=1000000000)(h8:tx<=1000000000) :
  C3 104 #[.agg #[.slice x.A nx x.c,.int .u64 x.t.e,.slice x.t.A tx x.t.c,.int .i64 x.d]] w (xW x nx tx w):=by
 have HT:H0 (Sl w 1 x.t.A tx x.t.c (wds x.t.l)):=j6 (by rw[htx.o];exact hx.o.t);go_enter func104,ntmps104
 go_upto_region 1 with fail
 have⟨w0,g⟩:=E9 ((w.alloc (Obj.cells #[.slice x.A nx x.c,.int .u64 x.t.e,.slice x.t.A tx x.t.c,.int .i64 x.d] 95)).alloc (Obj.cells #[.slice none 0 0,.int .u64 0,.slice none 0 0,.int .i64 0] 95));have x0:Ext w w0:=g▸((Ext.refl w).alloc _).alloc _;have a0:Bk w0 w.heap.size 95 #[.slice x.A nx x.c,.int .u64 x.t.e,.slice x.t.A tx x.t.c,.int .i64 x.d]:=by subst g;exact(Bk.new _ _ _).alloc _
 have b0:Bk w0 (w.heap.size+1) 95 #[.slice none 0 0,.int .u64 0,.slice none 0 0,.int .i64 0]:=by subst g;exact Bk.at (by simp)
 have j:w0.heap.size=w.heap.size+2:=by rw[g];simp
 rw[<-g];clear g;have X:Ext w0 w0.drew:=(Ext.refl w0).drew;have q0:∀y:Xt w0.drew,y.W.cell? ⟨w.heap.size,0,none⟩=some (.slice x.A nx x.c):=λy=>(a0.ext (X.trans y.x)).cell 0;have q2:∀y:Xt w0.drew,y.W.cell? ⟨w.heap.size,2,none⟩=some (.slice x.t.A tx x.t.c):=λy=>(a0.ext (X.trans y.x)).cell 2;have HR:=j6 (hx.o.r.ext (x0.trans X));refine wro [0,1,3,0,8,24,63,63,255,511,1023,2047] (.flo [0,1,3,4,5] (.ext 2 (.pur [7] (.one 6 (.one 8 (.flo [9,10] (.one 11 (.fin)))))))) ?_
 (refine Aa (pks rfl) ?_;(repeat (go_big_quiet_step (fail)));refine oq ?_)
 refine Ar (pks rfl) ?_;intro K_ h;go_wp2_with (go_at_call 183;refine(Qq x.A x.c nx x.l _ hnx HR h9).mono ?_;rintro e w1 ⟨⟨A1,c1,rfl,o1,b1⟩,x1⟩)
 refine An.mk x1 ?_
 (refine Bi (pks rfl) ?_;(repeat (go_big_quiet_step (fail)));refine oq ?_)
 refine Ac (pks rfl) ?_;intro K_ h;have i:=(X.trans x1).size;go_wp2_with (go_at_call 184;refine(Rr x.t.A tx x.t.c _ _ (HT.o.ext ((x0.trans X).trans x1)) (Se _) (by omega)).mono ?_;rintro e w2 ⟨A2,c2,rfl,o2,x2⟩)
 have XE:Ext w0 w2:=(X.trans x1).trans x2;have O1:H0 (Own w2 w0.heap.size 204 4 A1 nx c1 (Dd x.l)):=j6 ((Own.ext o1 x2).mono X.size);have O2:H0 (Own w2 w0.heap.size 180 1 A2 tx c2 (wds x.t.l)):=j6 (Own.mono o2 i);have a2:=a0.ext XE;have b2:=b0.ext XE;have p0:=a2.cell 0;have f0:=a2.free 0;have m:=XE.size;clear o1 o2 b1 q0 q2;refine Ac (pks rfl) ?_;intro K_ h;go_wp2;have⟨w3,a⟩:=E9 (w2.setCell ⟨w.heap.size,0,none⟩ (.slice A1 nx c1));have a3:Bk w3 w.heap.size 95 #[.slice A1 nx c1,.int .u64 x.t.e,.slice x.t.A tx x.t.c,.int .i64 x.d]:=by rw[a];exact a2.set 0 _
 have b3:Bk w3 (w.heap.size+1) 95 #[.slice none 0 0,.int .u64 0,.slice none 0 0,.int .i64 0]:=by rw[a];exact b2.far (by simp) _
 have O1:H0 (Own w3 w0.heap.size 204 4 A1 nx c1 (Dd x.l)):=j6 (by rw[a];exact O1.o.far (O1.o.ne (by show w.heap.size<_;omega)) _);have O2:H0 (Own w3 w0.heap.size 180 1 A2 tx c2 (wds x.t.l)):=j6 (by rw[a];exact O2.o.far (O2.o.ne (by show w.heap.size<_;omega)) _);have X3:H0 (Ext w w3):=j6 (by rw[a];exact(x0.trans XE).set (p:=⟨w.heap.size,0,none⟩) (AD _) _);rw[<-a];clear a p0 f0;have p2:=a3.cell 2;have f2:=a3.free 2
 (refine Aa (pks rfl) ?_;(repeat (go_big_quiet_step (fail)));refine oq ?_)
 refine Ac (pks rfl) ?_;intro K_ h;go_wp2;have⟨w4,f⟩:=E9 (w3.setCell ⟨w.heap.size,2,none⟩ (.slice A2 tx c2));have a4:Bk w4 w.heap.size 95 #[.slice A1 nx c1,.int .u64 x.t.e,.slice A2 tx c2,.int .i64 x.d]:=by rw[f];exact a3.set 2 _
 have b4:Bk w4 (w.heap.size+1) 95 #[.slice none 0 0,.int .u64 0,.slice none 0 0,.int .i64 0]:=by rw[f];exact b3.far (by simp) _
 have O1:H0 (Own w4 w0.heap.size 204 4 A1 nx c1 (Dd x.l)):=j6 (by rw[f];exact O1.o.far (O1.o.ne (by show w.heap.size<_;omega)) _);have O2:H0 (Own w4 w0.heap.size 180 1 A2 tx c2 (wds x.t.l)):=j6 (by rw[f];exact O2.o.far (O2.o.ne (by show w.heap.size<_;omega)) _);have X4:H0 (Ext w w4):=j6 (by rw[f];exact X3.o.set (p:=⟨w.heap.size,2,none⟩) (AD _) _);rw[<-f];clear f p2 f2;refine Ad ?_;have r0:=a4.cell 0;have r1:=a4.cell 1;have r2:=a4.cell 2;have r3:=a4.cell 3;have s0:=b4.cell 0;have s1:=b4.cell 1;have s2:=b4.cell 2;have s3:=b4.cell 3;have g0:=b4.free 0;have g1:=b4.free 1;have g2:=b4.free 2;have g3:=b4.free 3;have BB:=j6 b4;clear a0 b0 a2 b2 a3 b3 a4 b4;go_wp2;have bb:=BB.o.set4 (.slice A1 nx c1) (.int .u64 x.t.e) (.slice A2 tx c2) (.int .i64 x.d);refine bodyPost_ret (v:=.agg #[.slice A1 nx c1,.int .u64 x.t.e,.slice A2 tx c2,.int .i64 x.d]) (by simp[results,Tryz.results104,go_sem,bb.1,bb.2.1,bb.2.2.1,bb.2.2.2]) rfl ⟨A1,c1,A2,c2,rfl,?_,?_,?_⟩
 ·exact((((O1.o.far (O1.o.ne (by show w.heap.size+1<_;omega)) _).far (O1.o.ne (by show w.heap.size+1<_;omega)) _).far (O1.o.ne (by show w.heap.size+1<_;omega)) _).far (O1.o.ne (by show w.heap.size+1<_;omega)) _).mono (by omega)
 ·exact((((O2.o.far (O2.o.ne (by show w.heap.size+1<_;omega)) _).far (O2.o.ne (by show w.heap.size+1<_;omega)) _).far (O2.o.ne (by show w.heap.size+1<_;omega)) _).far (O2.o.ne (by show w.heap.size+1<_;omega)) _).mono (by omega)
 ·exact(((X4.o.set (p:=⟨w.heap.size+1,0,none⟩) (by simp) _).set (p:=⟨w.heap.size+1,1,none⟩) (by simp) _).set (p:=⟨w.heap.size+1,2,none⟩) (by simp) _).set (p:=⟨w.heap.size+1,3,none⟩) (by simp) _
end Go.Proofs.YtdgbkpoickbidaaGreatDoor
namespace Go.Proofs.YtdgbkpoickbidaaGreatDoor.UdS
variable{xs:List Value}{B c g gs i j m n q:Nat}{R S:Nat->Prop}{A:Option Addr}{e t:TypeId}{w w' w1 wi wj wr wz:World}
def getD_here{P Q:List Ud}{x:Ud}{p:Nat}(hp:p=P.length):(P++x::Q).getD p Ud.zero=x:=by subst hp;exact getD_mid P x Q
def Arr.here{p:Nat}{P Q:List Ud}{x:Ud}(h:Arr w B g c (P++x::Q))(hp:p=P.length) :
  w.cell? ⟨g,p*4,none⟩=some (.slice x.A x.l.length x.c)/\w.cell? ⟨g,p*4+1,none⟩=some (.int .u64 x.t.e)/\w.cell? ⟨g,p*4+2,none⟩=some (.slice x.t.A x.t.l.length x.t.c)/\w.cell? ⟨g,p*4+3,none⟩=some (.int .i64 x.d):=by
 have:=h.at (i:=p) (by subst hp;simp)
 rwa [getD_here hp]at this
def set_two(P M Q:List Ud)(x y:Ud):((P++x::(M++y::Q)).set P.length y).set (P.length+1+M.length) x=P++y::(M++x::Q):=by
 rw[set_mid];have:=set_mid (P++y::M) y x Q;simp only[AK,CI,AA,AJ]at this
 rwa [show P.length+1+M.length=P.length+(M.length+1)by omega]
def set_two'(P M Q:List Ud)(x y:Ud):((P++x::(M++y::Q)).set (P.length+1+M.length) x).set P.length y=P++y::(M++x::Q):=by
 have:=set_mid (P++x::M) y x Q;simp only[AK,CI,AA,AJ]at this;rw[show P.length+1+M.length=P.length+(M.length+1)by omega,this,set_mid]
section
variable{w:World}{B g c p q:Nat}{P M Q:List Ud}{x y:Ud}
def Arr.swapA(h:Arr w B g c (P++x::(M++y::Q)))(hp:p=P.length)(hq:q=P.length+1+M.length){nx ny tx ty:Nat}(hx:nx=x.l.length)(hy:ny=y.l.length)(hx2:tx=x.t.l.length)(hy2:ty=y.t.l.length) :
  Arr (put4 (put4 w g p y ny ty) g q x nx tx) B g c (P++y::(M++x::Q)):=by
 subst hp hq hx hy hx2 hy2;have h1:=(h.set P.length y).set (P.length+1+M.length) x
 rwa [set_two]at h1
def Arr.swapB(h:Arr w B g c (P++x::(M++y::Q)))(hp:p=P.length)(hq:q=P.length+1+M.length){nx ny tx ty:Nat}(hx:nx=x.l.length)(hy:ny=y.l.length)(hx2:tx=x.t.l.length)(hy2:ty=y.t.l.length) :
  Arr (put4 (put4 w g q x nx tx) g p y ny ty) B g c (P++y::(M++x::Q)):=by
 subst hp hq hx hy hx2 hy2;have h1:=(h.set (P.length+1+M.length) x).set P.length y
 rwa [set_two']at h1
end
def cons_of{α:Type}{l:List α}(h:0<l.length):∃x t,l=x::t:=by
 cases l with
 | nil=>exact absurd h (CW 0)
 | cons x t=>exact⟨x,t,rfl⟩
def SwIn(B g c:Nat)(P X M Y Q:List Ud)(w wi:World)(i:Nat)(X1 X2 Y1 Y2:List Ud):Prop :=
 X=X1++X2/\Y=Y1++Y2/\X1.length=i/\Y1.length=i/\Arr wi B g c (P++(Y1++(X2++(M++(X1++(Y2++Q))))))/\w.grownBy wi (some g)
def SwIn.form{P X M Y Q:List Ud}{X1 X2 Y1 Y2:List Ud}{x y:Ud}(h:SwIn B g c P X M Y Q w wi i X1 (x::X2) Y1 (y::Y2)) :
  Arr wi B g c ((P++Y1)++x::((X2++(M++X1))++y::(Y2++Q))):=by
 have:=h.2.2.2.2.1;have e:P++(Y1++(x::X2++(M++(X1++(y::Y2++Q)))))=(P++Y1)++x::((X2++(M++X1))++y::(Y2++Q)):=by simp
 rwa [e]at this
def SwIn.ext{P X M Y Q:List Ud}{X1 X2 Y1 Y2:List Ud}(h:SwIn B g c P X M Y Q w wi i X1 X2 Y1 Y2)(z:Ext wi wz):SwIn B g c P X M Y Q w wz i X1 X2 Y1 Y2 :=
 ⟨h.1,h.2.1,h.2.2.1,h.2.2.2.1,h.2.2.2.2.1.ext z,h.2.2.2.2.2.trans (Aq z g)⟩
def SwIn.step{B g c a b p q:Nat}{P X M Y Q:List Ud}{w wi:World}{i:Nat}{X1 X2 Y1 Y2:List Ud}{x y:Ud}(h:SwIn B g c P X M Y Q w wi i X1 (x::X2) Y1 (y::Y2))(ha:a=P.length)(hb:b=P.length+X.length+M.length)(hp:p=a+i)(hq:q=b+i){nx ny tx ty:Nat}(hx:nx=x.l.length)(hy:ny=y.l.length)(hx2:tx=x.t.l.length)(hy2:ty=y.t.l.length){wj:World}(hz:Ext wi wj) :
  SwIn B g c P X M Y Q w (put4 (put4 wj g p y ny ty) g q x nx tx) (i+1) (X1++[x]) X2 (Y1++[y]) Y2:=by
 have hf:=h.form.ext hz;obtain⟨h1,h2,h3,h4,h5,h6⟩:=h;have h7:=hf.swapA (p:=p) (q:=q) (by rw[AA];omega) (by
  have:=congrArg List.length h1;simp only[AA,AJ]at this ⊢;omega) hx hy hx2 hy2
 refine⟨by rw[h1];simp,by rw[h2];simp,by rw[AA,AO];omega,by rw[AA,AO];omega,?_,(h6.trans (Aq hz g)).trans upd_swap⟩;have e:P++(Y1++[y]++(X2++(M++(X1++[x]++(Y2++Q)))))=(P++Y1)++y::((X2++(M++X1))++x::(Y2++Q)):=by simp
 rw[e];exact h7
def swapR_any(B g c n a b k:Nat)(P X M Y Q:List Ud)(w:World)(ha:a=P.length)(hb:b=P.length+X.length+M.length)(hx:k=X.length)(hy:k=Y.length)(hn:n=(P++(X++(M++(Y++Q)))).length)(h:Arr w B g c (P++(X++(M++(Y++Q))))) :
  C3 283 #[.slice (some ⟨g,0,none⟩) n c,.int .i64 a,.int .i64 b,.int .i64 k,.func (.func 103) #[] #[]] w λe w'=>e=.returned (.tuple #[])/\Arr w' B g c (P++(Y++(M++(X++Q))))/\w.grownBy w' (some g):=by
 have O:=h.le;rw[<-hn]at O;have b2:b+k<=n:=by rw[hb,hn];simp only[AA];omega
 have b1:a+k<=b:=by omega
 have HA:=j6 ha;have HB:=j6 hb;have HX:=j6 hx;have HY:=j6 hy;have HI:H0 (SwIn B g c P X M Y Q w w 0 [] X [] Y):=j6 ⟨rfl,rfl,rfl,rfl,h,CM w _⟩;clear ha hb hx hy hn h;go_enter func283,ntmps283;go_wp2
 go_loopg [10] k (λz v wr=>∃(i:Nat) (X1 X2 Y1 Y2:List Ud),z=k-i/\i<=k/\v=.int .i64 i/\H0 (SwIn B g c P X M Y Q w wr i X1 X2 Y1 Y2))
 case atStart=>exact⟨0,[],X,[],Y,rfl,AG _,rfl,HI⟩
 case round =>
  obtain⟨i,X1,X2,Y1,Y2,rfl,hi,rfl,HJ⟩:=hrel;clear HI;by_cases hlt:i<k
  ·obtain⟨x,X2,rfl⟩:=cons_of (l:=X2) (by
    have⟨q1,q2,q3,q4,_⟩:=HJ.o;have:=HX.o;rw[q1,AA]at this;omega)
   obtain⟨y,Y2,rfl⟩:=cons_of (l:=Y2) (by
    have⟨q1,q2,q3,q4,_⟩:=HJ.o;have:=HY.o;rw[q2,AA]at this;omega)
   have hf:=HJ.o.form;have⟨C,R,D,S⟩:=hf.here (p:=a+i) (by rw[AA];have:=HA.o;have:=HJ.o.2.2.2.1;omega);have r:Arr wr B g c ((P++(Y1++(x::X2++(M++X1))))++y::(Y2++Q)):=by
    have e:(P++Y1)++x::((X2++(M++X1))++y::(Y2++Q))=(P++(Y1++(x::X2++(M++X1))))++y::(Y2++Q):=by simp
    rwa [e]at hf
   have⟨E,T,F,U⟩:=r.here (p:=b+i) (by
    have⟨q1,q2,q3,q4,_⟩:=HJ.o;have e1:=congrArg List.length q1;have e2:=HB.o;simp only[AA,AJ]at e1 ⊢;omega)
   have f0:=hf.free ((a+i)*4);have a7:=hf.free ((a+i)*4+1);have f1:=hf.free ((a+i)*4+2);have a8:=hf.free ((a+i)*4+3);have f2:=hf.free ((b+i)*4);have a9:=hf.free ((b+i)*4+1);have f3:=hf.free ((b+i)*4+2);have b0:=hf.free ((b+i)*4+3);have⟨nx,f⟩:=E9 x.l.length;have⟨tx,m⟩:=E9 x.t.l.length;have⟨ny,j⟩:=E9 y.l.length;have⟨ty,q⟩:=E9 y.t.l.length;rw[<-f]at C;rw[<-m]at D;rw[<-j]at E;rw[<-q]at F;have G:=j6 f;have K:=j6 m;have H:=j6 j;have L:=j6 q;have XE:Ext wr wr.drew:=(Ext.refl wr).drew;have a3:∀z:Xt wr.drew,z.W.cell? ⟨g,(b+i)*4,none⟩=some (.slice y.A ny y.c):=λz=>(XE.trans z.x).cell E;have a4:∀z:Xt wr.drew,z.W.cell? ⟨g,(b+i)*4+1,none⟩=some (.int .u64 y.t.e):=λz=>(XE.trans z.x).cell T;have a5:∀z:Xt wr.drew,z.W.cell? ⟨g,(b+i)*4+2,none⟩=some (.slice y.t.A ty y.t.c):=λz=>(XE.trans z.x).cell F;have a6:∀z:Xt wr.drew,z.W.cell? ⟨g,(b+i)*4+3,none⟩=some (.int .i64 y.d):=λz=>(XE.trans z.x).cell U;have Z:∀z:Xt wr.drew,z.W.cell? ⟨g,(a+i)*4,none⟩=some (.slice x.A nx x.c):=λz=>(XE.trans z.x).cell C;have a0:∀z:Xt wr.drew,z.W.cell? ⟨g,(a+i)*4+1,none⟩=some (.int .u64 x.t.e):=λz=>(XE.trans z.x).cell R;have a1:∀z:Xt wr.drew,z.W.cell? ⟨g,(a+i)*4+2,none⟩=some (.slice x.t.A tx x.t.c):=λz=>(XE.trans z.x).cell D;have a2:∀z:Xt wr.drew,z.W.cell? ⟨g,(a+i)*4+3,none⟩=some (.int .i64 x.d):=λz=>(XE.trans z.x).cell S;clear hf r f j m q
   go_upto_region 3 with fail
   refine wro [0,0,0,6,0,0,0,96,0,0,0,1536,3840,7936,0,0,0,98304,245760,507904,1048335,2096911,4194303,8388607] (.flo [0,1,2,3,8,9,10,11,12,13,14,15,16,17,18,19,20] (.pur [4,5,6,7] (.one 21 (.flo [22] (.one 23 (.fin)))))) ?_
   (refine Aa (pks rfl) ?_;(repeat (go_big_quiet_step (fail)));refine oq ?_)
   (refine Bi (pks rfl) ?_;(repeat (go_big_quiet_step (fail)));refine oq ?_)
   refine Ac (pks rfl) ?_;intro K_ N;go_wp2
   (refine Aa (pks rfl) ?_;(repeat (go_big_quiet_step (fail)));refine oq ?_)
   refine Ac (pks rfl) ?_;intro K_ N;go_wp2;refine Ad ?_;go_wp2
   go_roundg (k-(i+1))
   case measure=>omega
   case rel=>exact⟨i+1,X1++[x],X2,Y1++[y],Y2,rfl,by omega,by go_num,j6 ((HJ.o.step HA.o HB.o rfl rfl G.o H.o K.o L.o (Ext.refl _)).ext (Ext.refl _).drew)⟩
  ·have b3:i=k:=by omega
   have⟨q1,q2,q3,q4,q5,q6⟩:=HJ.o;have e1:X2=[]:=AH (by have:=HX.o;rw[q1,AA]at this;omega);have e2:Y2=[]:=AH (by have:=HY.o;rw[q2,AA]at this;omega);subst e1 e2;have I:H0 (Arr wr B g c (P++(Y++(M++(X++Q))))):=j6 (by
    rw[AV]at q1 q2;rw[q1,q2];simpa using q5)
   have J:=j6 q6;clear q1 q2 q3 q4 q5 q6;go_wp2
   go_end0
   exact⟨rfl,I.o,J.o⟩
def RotIn(B g c m:Nat)(D:List Ud)(w wi:World)(i j p:Nat)(P U V Q:List Ud):Prop :=
 D=P++(V++(U++Q))/\U.length=i/\V.length=j/\P.length=p/\m=p+i/\0<i/\0<j/\Arr wi B g c (P++(U++(V++Q)))/\w.grownBy wi (some g)
def RotIn.left{D:List Ud}{p:Nat}{P U1 U2 V Q:List Ud}(h:RotIn B g c m D w wi i j p P (U1++U2) V Q)(h1:U1.length=j)(h2:0<i-j)
  (ha:Arr wj B g c (P++(V++(U2++(U1++Q))))) (hg:wi.grownBy wj (some g)):RotIn B g c m D w wj (i-j) j (p+j) (P++V) U2 U1 Q:=by
 obtain⟨q1,q2,q3,q4,q5,q6,q7,q8,q9⟩:=h;rw[AA]at q2;refine⟨by rw[q1];simp,by omega,h1,by rw[AA];omega,by omega,h2,q7,?_,q9.trans hg⟩;rw[AK];exact ha
def RotIn.right{D:List Ud}{p:Nat}{P U V1 V2 Q:List Ud}(h:RotIn B g c m D w wi i j p P U (V1++V2) Q)(h1:V2.length=i)(h2:0<j-i)
  (ha:Arr wj B g c (P++(V2++(V1++(U++Q))))) (hg:wi.grownBy wj (some g)):RotIn B g c m D w wj i (j-i) p P V2 V1 (U++Q):=by
 obtain⟨q1,q2,q3,q4,q5,q6,q7,q8,q9⟩:=h;rw[AA]at q3;exact⟨by rw[q1];simp,h1,by omega,q4,q5,q6,h2,ha,q9.trans hg⟩
def cut_at{α:Type}(l:List α)(k:Nat)(h:k<=l.length):∃l1 l2,l=l1++l2/\l1.length=k:=⟨l.take k,l.drop k,(CF k l).symm,by rw[CE];omega⟩
def rot_any(B g c n a m b:Nat)(P U V Q:List Ud)(w:World)(ha:a=P.length)(hm:m=a+U.length)(hb:b=m+V.length)(hu:0<U.length)(hv:0<V.length)(hn:n=(P++(U++(V++Q))).length)(h:Arr w B g c (P++(U++(V++Q)))) :
  C3 255 #[.slice (some ⟨g,0,none⟩) n c,.int .i64 a,.int .i64 m,.int .i64 b,.func (.func 103) #[] #[]] w λe w'=>e=.returned (.tuple #[])/\Arr w' B g c (P++(V++(U++Q)))/\w.grownBy w' (some g):=by
 have F:=h.le;rw[<-hn]at F;have G:b<=n:=by rw[hb,hm,ha,hn];simp only[AA];omega
 have⟨i0,q⟩:=E9 U.length;have⟨j0,r⟩:=E9 V.length;have⟨D,hD⟩:=E9 (P++(V++(U++Q)));have HN:H0 (n=D.length):=j6 (by rw[hn,hD];simp only[AA];omega);have HI:H0 (RotIn B g c m D w w i0 j0 a P U V Q):=j6 ⟨hD,q.symm,r.symm,ha.symm,by omega,by omega,by omega,h,CM w _⟩;have e1:(m:Int)-(a:Int)=(i0:Int):=by omega
 have e2:(b:Int)-(m:Int)=(j0:Int):=by omega
 have C:i0+j0<=n:=by omega
 rw[<-hD];clear ha hm hb hu hv hn h q r hD;go_enter func255,ntmps255;go_wp2
 go_loopg [10,11] (i0+j0) (λz u v wr=>∃(i j p:Nat) (P U V Q:List Ud),z=i+j/\i+j<=n/\u=.int .i64 i/\v=.int .i64 j/\H0 (RotIn B g c m D w wr i j p P U V Q))
 case atStart=>exact⟨i0,j0,a,P,U,V,Q,rfl,C,rfl,rfl,HI⟩
 case round =>
  obtain⟨i,j,p,P,U,V,Q,rfl,hs,rfl,rfl,HJ⟩:=hrel;clear HI e1 e2;have I:(m:Int)-(i:Int)=(p:Int):=by have:=HJ.o.2.2.2.2.1;omega
  have K:m+j<=n:=by
   have⟨q1,q2,q3,q4,q5,_⟩:=HJ.o;have:=HN.o;rw[q1]at this;simp only[AA]at this;omega
  have H:i<=m:=by have:=HJ.o.2.2.2.2.1;omega
  rcases GH i j with hlt|heq|hgt
  ·obtain⟨V1,V2,rfl,x⟩:=cut_at V (j-i) (by have:=HJ.o.2.2.1;omega);have z1:((i:Int)==(j:Int))=false:=by rw[beq_eq_false_iff_ne];omega
   have z2:¬(j:Int)<i:=by omega
   have J:(m:Int)+(j:Int)-(i:Int)=((p+j:Nat):Int):=by omega
   have E:(j:Int)-(i:Int)=((j-i:Nat):Int):=by omega
   replace x:=j6 x;go_wp2_with (go_at_call 283;refine(swapR_any B g c n p (p+j) i P U V1 V2 Q _ HJ.o.2.2.2.1.symm (by have:=x.o;have:=HJ.o;have:=this.2.1;have:=HJ.o.2.2.2.1;omega) HJ.o.2.1.symm (by have:=HJ.o.2.2.1;rw[AA]at this;have:=x.o;omega) (by rw[HN.o,HJ.o.1];simp only[AA];omega) (by have:=HJ.o.2.2.2.2.2.2.2.1;rwa [AK]at this)).mono ?_;rintro e w1 ⟨rfl,a1,g1⟩;have d:=j6 (HJ.o.right (by have:=HJ.o.2.2.1;rw[AA]at this;have:=x.o;omega) (by omega) a1 g1);clear a1 g1)
   go_roundg (i+(j-i))
   case measure=>have:=HJ.o.2.2.2.2.2.1;omega
   case rel=>exact⟨i,j-i,p,P,V2,V1,U++Q,rfl,by omega,rfl,by go_num,d⟩
  ·subst heq;have z1:((i:Int)==(i:Int))=true:=by simp
   go_wp2_with (go_at_call 283;refine(swapR_any B g c n p m i P U [] V Q _ HJ.o.2.2.2.1.symm (by have:=HJ.o.2.1;have:=HJ.o.2.2.2.1;have:=HJ.o.2.2.2.2.1;simp only[CB];omega) HJ.o.2.1.symm HJ.o.2.2.1.symm (by rw[HN.o,HJ.o.1];simp only[AA,CB];omega) HJ.o.2.2.2.2.2.2.2.1).mono ?_;rintro e w1 ⟨rfl,a1,g1⟩;have y:H0 (Arr w1 B g c D):=j6 (by rw[HJ.o.1];exact a1);have A:=j6 (HJ.o.2.2.2.2.2.2.2.2.trans g1);clear a1 g1)
   go_end0
   exact⟨rfl,y.o,A.o⟩
  ·obtain⟨U1,U2,rfl,t⟩:=cut_at U j (by have:=HJ.o.2.1;omega);have z1:((i:Int)==(j:Int))=false:=by rw[beq_eq_false_iff_ne];omega
   have z2:(j:Int)<i:=by omega
   have E:(i:Int)-(j:Int)=((i-j:Nat):Int):=by omega
   replace t:=j6 t;go_wp2_with (go_at_call 283;refine(swapR_any B g c n p m j P U1 U2 V Q _ HJ.o.2.2.2.1.symm (by have:=HJ.o.2.1;rw[AA]at this;have:=HJ.o.2.2.2.1;have:=HJ.o.2.2.2.2.1;omega) t.o.symm HJ.o.2.2.1.symm (by rw[HN.o,HJ.o.1];simp only[AA];omega) (by have:=HJ.o.2.2.2.2.2.2.2.1;rwa [AK]at this)).mono ?_;rintro e w1 ⟨rfl,a1,g1⟩;have d:=j6 (HJ.o.left t.o (by omega) a1 g1);clear a1 g1)
   go_roundg (i-j+j)
   case measure=>have:=HJ.o.2.2.2.2.2.2.1;omega
   case rel=>exact⟨i-j,j,p+j,P++V,U2,U1,Q,rfl,by omega,by go_num,rfl,d⟩
end Go.Proofs.YtdgbkpoickbidaaGreatDoor.UdS
