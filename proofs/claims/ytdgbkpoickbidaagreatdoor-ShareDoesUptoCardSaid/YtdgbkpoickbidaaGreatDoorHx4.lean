/- Parts of the proof. Conditions: as stated. -/
import Derived.Test.YtdgbkpoickbidaaGreatDoorHx3
import Derived.Deep.LoopGhost
import Derived.Lib.SliceRun
set_option maxRecDepth 100000
set_option maxHeartbeats 4000000
open Go.RowKit Go.Proofs.Tryz
set_option linter.defProp false
namespace Go.Proofs.YtdgbkpoickbidaaGreatDoor
variable{xs ys:List Value}{B B' a c c' c3 g hi i j lo m n n' nx ny q s' tx:Nat}{S:Nat->Prop}{A A' A3:Option Addr}{e e':TypeId}{w w' w0 w2 w3 wi wj wr wz:World}
structure Ud where
 A:Option Addr
 c:Nat
 l:List Dat
 t:Tm
 d:Int
def Ud.zero:Ud:=⟨none,0,[],Tm.zero,0⟩
instance:Inhabited Ud:=⟨Ud.zero⟩
abbrev UK:=List Dat×TV
abbrev UV:=UK×Int
def Ud.k(x:Ud):UK:=(x.l,x.t.v)
def Ud.uv(x:Ud):UV:=(x.k,x.d)
def Hy(x y:UK):Int:=if Ba x.1 y.1=0 then Cr x.2 y.2 else Ba x.1 y.1
def cK:Bq Cr:=⟨λx y=>by rw[Fz y x],λx y z=>Of x y z⟩
def Ug:Bq Ba:=⟨Mh,Ky⟩
def Kg:Bq Hy:=by
 refine⟨λx y=>?_,λx y z h k=>?_⟩
 ·unfold Hy;have h:=Mh x.1 y.1;by_cases q:Ba x.1 y.1=0
  ·rw[if_pos q,if_pos (by omega)];exact cK.neg _ _
  ·rw[if_neg q,if_neg (by omega)];exact h
 ·unfold Hy at h k ⊢;by_cases q1:Ba x.1 y.1=0
  ·rw[if_pos q1]at h;by_cases q2:Ba y.1 z.1=0
   ·rw[if_pos q2]at k;rw[if_pos (Ug.eq_trans q1 q2)];exact cK.trans _ _ _ h k
   ·rw[if_neg q2]at k;have:=Ug.lt_of_le_lt (show Ba x.1 y.1<=0 by omega) (show Ba y.1 z.1<0 by omega);rw[if_neg (by omega)];omega
  ·rw[if_neg q1]at h;have a:Ba y.1 z.1<=0:=by
    by_cases q2:Ba y.1 z.1=0
    ·omega
    ·rw[if_neg q2]at k;exact k
   have:=Ug.lt_of_lt_le (show Ba x.1 y.1<0 by omega) a;rw[if_neg (by omega)];omega
def a3e(x y:Ud):Int:=Hy x.k y.k
def tS:Bq a3e:=⟨λx y=>Kg.neg _ _,λx y z=>Kg.trans _ _ _⟩
def udC(x:Ud):List Value:=[.slice x.A x.l.length x.c,.int .u64 x.t.e,.slice x.t.A x.t.l.length x.t.c,.int .i64 x.d]
def udV(x:Ud):Value:=.agg #[.slice x.A x.l.length x.c,.int .u64 x.t.e,.slice x.t.A x.t.l.length x.t.c,.int .i64 x.d]
def Ah(L:List Ud):List Value:=L.flatMap udC
def Cx(L:List Ud):(Ah L).length=L.length*4:=by
 unfold Ah;induction L with
 | nil=>rfl
 | cons d l ih=>rw[BQ,AA,ih,AJ,show(udC d).length=4 from rfl];omega
def Em:∀(L:List Ud) (i j:Nat),i<L.length->j<4->(Ah L)[i*4+j]?=(udC (L.getD i Ud.zero))[j]?
 | [],i,j,h,_=>absurd h (DR _)
 | d::l,0,j,_,hj=>by
  unfold Ah;rw[BQ,GC,BV,BS (by rw[show(udC d).length=4 from rfl];exact hj)];rfl
 | d::l,i+1,j,h,hj=>by
  unfold Ah;rw[BQ,BF (by rw[show(udC d).length=4 from rfl];omega),show(i+1)*4+j-(udC d).length=i*4+j by rw[show(udC d).length=4 from rfl];omega];exact Em l i j (ES h) hj
def Au(L M:List Ud):Ah (L++M)=Ah L++Ah M:=DF
def Bz(L:List Ud):∀u∈Ah L,u.oneCell'=true:=by
 intro u hu;have⟨d,_,h⟩:=DC.1 hu;simp only[udC,AY,DA,or_false]at h;rcases h with rfl|rfl|rfl|rfl<;>rfl
def nH(L:List Ud)(k:Nat):(Ah L).take (k*4)=Ah (L.take k):=by
 induction L generalizing k with
 | nil=>simp[Ah]
 | cons x L ih =>
  cases k with
  | zero=>simp[Ah]
  | succ k =>
   show(udC x++Ah L).take _=udC x++Ah (L.take k);rw[IA,show(udC x).length=4 from rfl,show(k+1)*4-4=k*4 by omega,ih,AW (by show 4<=_;omega)]
def nI(L:List Ud)(k:Nat):(Ah L).drop (k*4)=Ah (L.drop k):=by
 induction L generalizing k with
 | nil=>simp[Ah]
 | cons x L ih =>
  cases k with
  | zero=>simp[Ah]
  | succ k =>
   show(udC x++Ah L).drop _=Ah (L.drop k);rw[IB,show(udC x).length=4 from rfl,show(k+1)*4-4=k*4 by omega,ih,DS (by show 4<=_;omega),BD]
def cE:∀(L:List Ud) (i:Nat) (x:Ud),((((Ah L).set (i*4) (.slice x.A x.l.length x.c)).set (i*4+1) (.int .u64 x.t.e)).set (i*4+2) (.slice x.t.A x.t.l.length x.t.c)).set (i*4+3) (.int .i64 x.d)=Ah (L.set i x)
 | [],i,x=>rfl
 | d::l,0,x=>rfl
 | d::l,i+1,x=>by
  have ih:=cE l i x;show((((udC d++Ah l).set ((i+1)*4) _).set ((i+1)*4+1) _).set ((i+1)*4+2) _).set ((i+1)*4+3) _=udC d++Ah (l.set i x);rw[<-ih,CL _ _ (by show 4<=_;omega),CL _ _ (by show 4<=_;omega),CL _ _ (by show 4<=_;omega),CL _ _ (by show 4<=_;omega),show(i+1)*4-(udC d).length=i*4 by show _-4=_;omega,
   show(i+1)*4+1-(udC d).length=i*4+1 by show _-4=_;omega,show(i+1)*4+2-(udC d).length=i*4+2 by show _-4=_;omega,show(i+1)*4+3-(udC d).length=i*4+3 by show _-4=_;omega]
def Ao:Gr prog 22 95 4 64 (.agg #[.slice none 0 0,.int .u64 0,.slice none 0 0,.int .i64 0]):=⟨by kernel_rfl,by kernel_rfl,rfl,by decide⟩
structure UdR (w:World) (x:Ud):Prop where
 r:Rw w x.A x.c x.l
 t:Sl w 1 x.t.A x.t.l.length x.t.c (wds x.t.l)
def UdR.ext{x:Ud}(h:UdR w x)(y:Ext w w'):UdR w' x:=⟨h.r.ext y,h.t.ext y⟩
structure Uin (w:World) (A:Option Addr) (c:Nat) (L:List Ud):Prop where
 sl:Sl w 4 A L.length c (Ah L)
 ls:∀x∈L,UdR w x
def Uin.ext{L:List Ud}(h:Uin w A c L)(x:Ext w w'):Uin w' A c L:=⟨h.sl.ext x,λy hy=>(h.ls y hy).ext x⟩
def Uin.nil(w:World):Uin w none 0 []:=⟨Sl.nil w 4,λx hx=>(nomatch hx)⟩
def As{L:List Ud}(h:i<L.length):L.getD i Ud.zero∈L:=by
 rw[AB,AC h];exact BR h
def Uin.at{L:List Ud}(h:Uin w A c L){i:Nat}(hi:i<L.length):∃ad,A=some ad/\w.cell? (ad.add (i*4))=some (.slice (L.getD i Ud.zero).A (L.getD i Ud.zero).l.length (L.getD i Ud.zero).c) /\
  w.cell? ⟨(ad.add (i*4)).block,(ad.add (i*4)).off+1,none⟩=some (.int .u64 (L.getD i Ud.zero).t.e)/\w.cell? ⟨(ad.add (i*4)).block,(ad.add (i*4)).off+2,none⟩=some (.slice (L.getD i Ud.zero).t.A (L.getD i Ud.zero).t.l.length (L.getD i Ud.zero).t.c) /\
  w.cell? ⟨(ad.add (i*4)).block,(ad.add (i*4)).off+3,none⟩=some (.int .i64 (L.getD i Ud.zero).d):=
 Jq h.sl hi (show udC (L.getD i Ud.zero)=[.slice (L.getD i Ud.zero).A (L.getD i Ud.zero).l.length (L.getD i Ud.zero).c,.int .u64 (L.getD i Ud.zero).t.e,.slice (L.getD i Ud.zero).t.A (L.getD i Ud.zero).t.l.length (L.getD i Ud.zero).t.c,.int .i64 (L.getD i Ud.zero).d]from rfl) (λq hq=>Em L i q hi hq)
def Iy{L:List Ud}(h:i<L.length):L.take (i+1)=L.take i++[L.getD i Ud.zero]:=by
 rw[CC h,AB,AC h];rfl
def Xe{L:List Ud}(h:i<L.length):L.drop i=L.getD i Ud.zero::L.drop (i+1):=by
 rw[BY h,AB,AC h];rfl
end Go.Proofs.YtdgbkpoickbidaaGreatDoor
namespace Go.Proofs.YtdgbkpoickbidaaGreatDoor.UdS
variable{xs ys:List Value}{B B' a c c' c3 g hi i j lo m n n' nx ny q s' tx:Nat}{S:Nat->Prop}{A A' A3:Option Addr}{e e':TypeId}{w w' w0 w2 w3 wi wj wr wz:World}
def cmpC(x y:Ud):Int:=a3e x y
def cmpC_tot:Bq cmpC:=tS
def Rws(w:World)(g:Nat)(L:List Ud):Prop:=∀x∈L,UdR w x/\(0<x.l.length->∀ad,x.A=some ad->ad.block≠g)/\(0<x.t.l.length->∀ad,x.t.A=some ad->ad.block≠g)
def Arr(w:World)(B g c:Nat)(L:List Ud):Prop:=Own w B 95 4 (some ⟨g,0,none⟩) L.length c (Ah L)/\0<c
abbrev put4(w:World)(g i:Nat)(x:Ud)(n m:Nat):World:=(((w.setCell ⟨g,i*4,none⟩ (.slice x.A n x.c)).setCell ⟨g,i*4+1,none⟩ (.int .u64 x.t.e)).setCell ⟨g,i*4+2,none⟩ (.slice x.t.A m x.t.c)).setCell ⟨g,i*4+3,none⟩ (.int .i64 x.d)
section
variable{w w':World}{B g c:Nat}{L:List Ud}
def Arr.ext(h:Arr w B g c L)(x:Ext w w'):Arr w' B g c L:=⟨h.1.ext x,h.2⟩
def Rws.ext(h:Rws w g L)(x:Ext w w'):Rws w' g L:=λy hy=>⟨(h y hy).1.ext x,(h y hy).2⟩
def sF{size:Nat}(h:Sl w size A n m xs)(hx:w.grownBy w' (some g))(ha:0<n->∀ad,A=some ad->ad.block≠g):Sl w' size A n m xs :=
 ⟨h.1,h.2.1,h.2.2.1,h.2.2.2.1,λhn=>by
  have⟨ad,e,hc⟩:=h.2.2.2.2 hn;exact⟨ad,e,λj u hu=>hx.cell (hc j u hu) (by rw[Ep];intro q;injection q with q;exact ha hn ad e q)⟩⟩
def Rws.upd(h:Rws w g L)(hx:w.grownBy w' (some g)):Rws w' g L:=λy hy=>⟨⟨sF (h y hy).1.r hx (h y hy).2.1,sF (h y hy).1.t hx (h y hy).2.2⟩,(h y hy).2⟩
def cO{size:Nat}(h:Sl w size A n m xs)(hs:0<size)(hn:0<n):∀ad,A=some ad->ad.block<w.heap.size:=λad e=>by
 have⟨ad',e',hc⟩:=h.2.2.2.2 hn;rw[e]at e';injection e' with e';subst e';have hl:0<xs.length:=by rw[h.1];exact Nat.mul_pos hn hs
 have:=FD w _ (hc 0 _ (AC hl))
 rwa [Ep]at this
def Rws.of(h:∀x∈L,UdR w0 x)(x:Ext w0 w)(hg:w0.heap.size<=g):Rws w g L:=λy hy =>
 ⟨(h y hy).ext x,λhn ad e=>by have:=cO (h y hy).r (by decide) hn ad e;omega,λhn ad e=>by have:=cO (h y hy).t (by decide) hn ad e;omega⟩
def Rws.sub{M:List Ud}(h:Rws w g L)(hs:∀x∈M,x∈L):Rws w g M:=λx hx=>h x (hs x hx)
def Arr.le(h:Arr w B g c L):L.length<=9223372036854775807:=by have:=h.1.le;omega
def Arr.at(h:Arr w B g c L){i:Nat}(hi:i<L.length):w.cell? ⟨g,i*4,none⟩=some (.slice (L.getD i Ud.zero).A (L.getD i Ud.zero).l.length (L.getD i Ud.zero).c)/\w.cell? ⟨g,i*4+1,none⟩=some (.int .u64 (L.getD i Ud.zero).t.e) /\
  w.cell? ⟨g,i*4+2,none⟩=some (.slice (L.getD i Ud.zero).t.A (L.getD i Ud.zero).t.l.length (L.getD i Ud.zero).t.c)/\w.cell? ⟨g,i*4+3,none⟩=some (.int .i64 (L.getD i Ud.zero).d):=by
 have⟨g',e,_,_,_,hc,_⟩:=h.1.form (by omega);cases e;exact⟨hc _ _ (by rw[<-EH (i*4),Em L i 0 hi (by omega)];rfl),hc _ _ (by rw[Em L i 1 hi (by omega)];rfl),hc _ _ (by rw[Em L i 2 hi (by omega)];rfl),hc _ _ (by rw[Em L i 3 hi (by omega)];rfl)⟩
def Arr.free(h:Arr w B g c L)(j:Nat):w.frozen? ⟨g,j,none⟩=false:=by
 rcases h.1.2 with ⟨h1,h2⟩|⟨g',cur,e,hb,hg,_⟩
 ·have:=h.2;omega
 ·cases e;simp[World.frozen?,hg]
def Arr.set(h:Arr w B g c L)(i:Nat)(x:Ud):Arr (put4 w g i x x.l.length x.t.l.length) B g c (L.set i x):=by
 have:=(((h.1.put (i*4) (.slice x.A x.l.length x.c)).put (i*4+1) (.int .u64 x.t.e)).put (i*4+2) (.slice x.t.A x.t.l.length x.t.c)).put (i*4+3) (.int .i64 x.d);rw[cE]at this;refine⟨?_,h.2⟩;rw[ED];exact this
def Te(w:World)(g i:Nat)(x:Ud)(n m:Nat):w.grownBy (put4 w g i x n m) (some g):=(((Cn w g _ _).trans (Cn _ g _ _)).trans (Cn _ g _ _)).trans (Cn _ g _ _)
def upd_swap{x y:Ud}{ty:Nat}:w.grownBy (put4 (put4 w g i y ny ty) g j x nx tx) (some g):=(Te _ _ _ _ _ _).trans (Te _ _ _ _ _ _)
end
end Go.Proofs.YtdgbkpoickbidaaGreatDoor.UdS
namespace Go.Proofs.YtdgbkpoickbidaaGreatDoor
variable{xs ys:List Value}{B B' a c c' c3 g hi i j lo m n n' nx ny q s' tx:Nat}{S:Nat->Prop}{A A' A3:Option Addr}{e e':TypeId}{w w' w0 w2 w3 wi wj wr wz:World}
def Own.clip{s k:Nat}(h:Own w B e s A n c xs)(h1:n<=k)(h2:k<=c):Own w B e s A n k xs:=by
 refine⟨h.1,?_⟩;rcases h.2 with ⟨e1,e2⟩|⟨g,cur,rfl,hb,hg,hnc,hcm,hcs,ht⟩
 ·exact .inl ⟨by omega,e2⟩
 ·exact .inr ⟨g,cur,rfl,hb,hg,h1,AR h2 hcm,AR (DG _ h2) hcs,ht⟩
def Ca{s:Nat}(h:Own w B e s A n c xs)(k:Own w B' e' s' A' n' c' ys)(he:e≠e'){q:Nat}(h1:blk A c=some q):blk A' c'≠some q:=by
 intro h2;rcases h.2 with ⟨rfl,_⟩|⟨g,cur,rfl,_,hg,_⟩
 ·rw[Pp]at h1;cases h1
 ·rcases k.2 with ⟨rfl,_⟩|⟨g',cur',rfl,_,hg',_⟩
  ·rw[Pp]at h2;cases h2
  ·cases c with
   | zero=>cases h1
   | succ c =>
    cases c' with
    | zero=>cases h2
    | succ c' =>
     injection h1 with h1;injection h2 with h2;simp only at h1 h2;subst h1 h2;rw[hg]at hg';injection hg' with q;injection q with _ q;exact he q
structure Bu (w:World) (B:Nat) (A:Option Addr) (c:Nat) (L:List Ud):Prop where
 own:Own w B 95 4 A L.length c (Ah L)
 rw:∀x∈L,Own w B 204 4 x.A x.l.length x.c (Dd x.l)
 ts:∀x∈L,Own w B 180 1 x.t.A x.t.l.length x.t.c (wds x.t.l)
 ra:L.Pairwise λx y=>∀k,blk x.A x.c=some k->blk y.A y.c≠some k
 ta:L.Pairwise λx y=>∀k,blk x.t.A x.t.c=some k->blk y.t.A y.t.c≠some k
def Ee:(204:TypeId)≠95:=by decide
def Cz:(180:TypeId)≠95:=by decide
def Qh:(204:TypeId)≠180:=by decide
section
variable{w w':World}{B c:Nat}{A:Option Addr}{L M:List Ud}
def Bu.ext(h:Bu w B A c L)(x:Ext w w'):Bu w' B A c L:=⟨h.own.ext x,λy hy=>(h.rw y hy).ext x,λy hy=>(h.ts y hy).ext x,h.ra,h.ta⟩
def Bu.mono(h:Bu w B A c L){B':Nat}(hb:B'<=B):Bu w B' A c L:=⟨h.own.mono hb,λy hy=>(h.rw y hy).mono hb,λy hy=>(h.ts y hy).mono hb,h.ra,h.ta⟩
def Bu.uin(h:Bu w B A c L):Uin w A c L:=⟨h.own.sl,λx hx=>⟨(h.rw x hx).sl,(h.ts x hx).sl⟩⟩
def Bu.nil(w:World)(B:Nat):Bu w B none 0 []:=⟨Own.nil _ _ _ _,λx hx=>(nomatch hx),λx hx=>(nomatch hx),List.Pairwise.nil,List.Pairwise.nil⟩
def Bu.clip(h:Bu w B A c L):Bu w B A L.length L:=⟨h.own.clip (AD _) h.own.le.1,h.rw,h.ts,h.ra,h.ta⟩
def Bu.upd(h:Bu w B A c L)(x:Upd S w w')(hn:∀k,B<=k->k<w.heap.size->¬S k):Bu w' B A c L :=
 ⟨h.own.upd x (λk hk=>hn k (h.own.lt k hk).1 (h.own.lt k hk).2),λy hy=>(h.rw y hy).upd x (λk hk=>hn k ((h.rw y hy).lt k hk).1 ((h.rw y hy).lt k hk).2),λy hy=>(h.ts y hy).upd x (λk hk=>hn k ((h.ts y hy).lt k hk).1 ((h.ts y hy).lt k hk).2),h.ra,h.ta⟩
def Bu.push(h:Bu w B A c M)(e2:Ext w w2){x:Ud}(orr:Own w2 w.heap.size 204 4 x.A x.l.length x.c (Dd x.l))(ot:Own w2 w.heap.size 180 1 x.t.A x.t.l.length x.t.c (wds x.t.l))(hB:B<=w.heap.size)(ob:Obj)
  (o3:Own w3 B 95 4 A3 (M.length+1) c3 (Ah M++udC x)) (g3:(w2.alloc ob).grownBy w3 (blk A c)):Bu w3 B A3 c3 (M++[x]):=by
 have kept:∀{k0 s:Nat} {e:TypeId} {A':Option Addr} {n' c':Nat} {xs:List Value},e≠95->Own w2 k0 e s A' n' c' xs->Own w3 k0 e s A' n' c' xs:=λ{k0 s e A' n' c' xs} he o=>(o.alloc ob).kept g3 (by
  cases hb:blk A' c' with
  | none=>exact .inl rfl
  | some k=>exact .inr (λq=>Ca o (h.own.ext e2) he hb q.symm))
 refine⟨by rw[Au,AA];show Own w3 B _ 4 A3 (M.length+1) c3 (Ah M++Ah [x]);rw[show Ah [x]=udC x by simp[Ah]];exact o3,λy hy=>?_,λy hy=>?_,?_,?_⟩
 ·rcases AQ.1 hy with hy|hy
  ·exact kept Ee ((h.rw y hy).ext e2)
  ·rw[AE]at hy;subst hy;exact(kept Ee orr).mono hB
 ·rcases AQ.1 hy with hy|hy
  ·exact kept Cz ((h.ts y hy).ext e2)
  ·rw[AE]at hy;subst hy;exact(kept Cz ot).mono hB
 ·refine BL.2 ⟨h.ra,BN _ _,λy hy z hz k h1 h2=>?_⟩;rw[AE]at hz;subst hz;have:=((h.rw y hy).lt k h1).2;have:=(orr.lt k h2).1;omega
 ·refine BL.2 ⟨h.ta,BN _ _,λy hy z hz k h1 h2=>?_⟩;rw[AE]at hz;subst hz;have:=((h.ts y hy).lt k h1).2;have:=(ot.lt k h2).1;omega
def Bu.bump{y:Ud}(h:Bu w B (some ⟨g,0,none⟩) c (M++[y]))(s:Int):Bu (w.setCell ⟨g,M.length*4+3,none⟩ (.int .i64 s)) B (some ⟨g,0,none⟩) c (M++[⟨y.A,y.c,y.l,y.t,s⟩]):=by
 have hc:0<c:=by have:=h.own.le.1;rw[AA]at this;exact AZ (by simp) this
 obtain⟨c,rfl⟩:∃k,c=k+1:=⟨c-1,by omega⟩;have far:∀{k0 s':Nat} {e:TypeId} {A':Option Addr} {n' c':Nat} {xs:List Value},e≠95->Own w k0 e s' A' n' c' xs->Own (w.setCell ⟨g,M.length*4+3,none⟩ (.int .i64 s)) k0 e s' A' n' c' xs:=λhe o=>o.far (p:=⟨g,M.length*4+3,none⟩) (λq=>Ca o h.own he q rfl) _;have d:∀z∈M++[(⟨y.A,y.c,y.l,y.t,s⟩:Ud)],∃x∈M++[y],x.A=z.A/\x.c=z.c/\x.l=z.l/\x.t=z.t:=λz hz=>by
  rcases AQ.1 hz with hz|hz
  ·exact⟨z,BE _ hz,rfl,rfl,rfl,rfl⟩
  ·rw[AE]at hz;subst hz;exact⟨y,by simp,rfl,rfl,rfl,rfl⟩
 refine⟨?_,λz hz=>?_,λz hz=>?_,?_,?_⟩
 ·have:=h.own.put (M.length*4+3) (.int .i64 s);have e:(Ah (M++[y])).set (M.length*4+3) (.int .i64 s)=Ah (M++[(⟨y.A,y.c,y.l,y.t,s⟩:Ud)]):=by
   rw[Au,Au,CL _ _ (by rw[Cx];omega),Cx,DE];rfl
  rw[e]at this;rw[AA]at this ⊢;exact this
 ·have⟨x,hx,e1,e2,e3,e4⟩:=d z hz;have:=far Ee (h.rw x hx)
  rwa [e1,e2,e3]at this
 ·have⟨x,hx,e1,e2,e3,e4⟩:=d z hz;have:=far Cz (h.ts x hx)
  rwa [e4]at this
 ·have:=BL.1 h.ra;exact BL.2 ⟨this.1,BN _ _,λa ha b hb=>by rw[AE]at hb;subst hb;exact this.2.2 a ha y (by simp)⟩
 ·have:=BL.1 h.ta;exact BL.2 ⟨this.1,BN _ _,λa ha b hb=>by rw[AE]at hb;subst hb;exact this.2.2 a ha y (by simp)⟩
def Bu.del(h:Bu w B (some ⟨g,0,none⟩) c M)(p:Ud->Bool)(ar:UdS.Arr w' B g c (M.filter p))(up:w.grownBy w' (some g)):Bu w' B (some ⟨g,0,none⟩) c (M.filter p):=by
 have hc:=ar.2;obtain⟨c,rfl⟩:∃k,c=k+1:=⟨c-1,by omega⟩;have kept:∀{k0 s:Nat} {e:TypeId} {A':Option Addr} {n' c':Nat} {xs:List Value},e≠95->Own w k0 e s A' n' c' xs->Own w' k0 e s A' n' c' xs:=λ{k0 s e A' n' c' xs} he o=>o.kept up (by
  cases hb:blk A' c' with
  | none=>exact .inl rfl
  | some k=>exact .inr (λq=>Ca o h.own he hb (by rw[q];rfl)))
 exact⟨ar.1,λx hx=>kept Ee (h.rw x (BI.1 hx).1),λx hx=>kept Cz (h.ts x (BI.1 hx).1),h.ra.sublist FW,h.ta.sublist FW⟩
end
def Ez(A1 A2:Option Addr)(c1 c2 n1 n2:Nat)(k1 k2 v:Int)(l m:List Dat)(w:World)(hv:H0 (Ba l m=v))(e1:H0 (n1=l.length))(e2:H0 (n2=m.length))(h1:H0 (Rw w A1 c1 l))(h2:H0 (Rw w A2 c2 m)) :
  C3 188 #[.agg #[.slice A1 n1 c1,.int .i64 k1],.agg #[.slice A2 n2 c2,.int .i64 k2]] w λe w'=>e=.returned (.int .i64 v)/\Ext w w':=by
 have X:Ext w ((w.alloc (.cells #[.slice A1 n1 c1,.int .i64 k1] 154)).alloc (.cells #[.slice A2 n2 c2,.int .i64 k2] 154)):=((Ext.refl w).alloc _).alloc _;have b0:Bk ((w.alloc (.cells #[.slice A1 n1 c1,.int .i64 k1] 154)).alloc (.cells #[.slice A2 n2 c2,.int .i64 k2] 154)) w.heap.size 154 #[.slice A1 n1 c1,.int .i64 k1]:=(Bk.new _ _ _).alloc _;have p0:=b0.cell 0;go_enter func188,ntmps188;go_wp2_with (go_at_call 164;refine(Gz A1 A2 c1 c2 n1 n2 l m _ e1.o e2.o (h1.o.ext X) (h2.o.ext X)).mono ?_;rintro e w1 ⟨rfl,x1⟩)
 go_ret;exact⟨(by rw[hv.o];rfl),X.trans x1⟩
def getD_mid(P:List Ct)(x:Ct)(Q:List Ct):(P++x::Q).getD P.length Ct.zero=x:=by
 rw[AB,BF (AD _),DQ];rfl
def set_mid(P:List Ct)(x y:Ct)(Q:List Ct):(P++x::Q).set P.length y=P++y::Q:=by
 rw[CL _ _ (AD _),DQ];rfl
def Arr.two{P s2 Q:List Ct}{x y:Ct}(h:Arr w B g c (P++y::x::Q))(hq:q=P.length) :
  (w.cell? ⟨g,q*2,none⟩=some (.slice y.A y.l.length y.c)/\w.cell? ⟨g,q*2+1,none⟩=some (.int .i64 y.k))/\w.cell? ⟨g,(q+1)*2,none⟩=some (.slice x.A x.l.length x.c)/\w.cell? ⟨g,(q+1)*2+1,none⟩=some (.int .i64 x.k):=by
 subst hq;have h1:=h.at (i:=P.length) (by simp);have h2:=h.at (i:=P.length+1) (by simp);rw[getD_mid]at h1;have e:(P++y::x::Q).getD (P.length+1) Ct.zero=x:=by
  have:=getD_mid (P++[y]) x Q
  rwa [AK,AA]at this
 rw[e]at h2;exact⟨h1,h2⟩
def Arr.swap{P Q:List Ct}{x y:Ct}(h:Arr w B g c (P++y::x::Q))(hq:q=P.length) :
  Arr ((((w.setCell ⟨g,(q+1)*2,none⟩ (.slice y.A y.l.length y.c)).setCell ⟨g,(q+1)*2+1,none⟩ (.int .i64 y.k)).setCell ⟨g,q*2,none⟩ (.slice x.A x.l.length x.c)).setCell ⟨g,q*2+1,none⟩ (.int .i64 x.k)) B g c (P++x::y::Q):=by
 subst hq;have h1:=(h.set (P.length+1) y).set P.length x;have e:((P++y::x::Q).set (P.length+1) y).set P.length x=P++x::y::Q:=by
  have e1:(P++y::x::Q).set (P.length+1) y=P++y::y::Q:=by
   have:=set_mid (P++[y]) x y Q
   rwa [AK,AA,AK]at this
  rw[e1,set_mid]
 rwa [e]at h1
def upd_swap(w:World)(g a b c d:Nat)(u1 u2 u3 u4:Value):w.grownBy ((((w.setCell ⟨g,a,none⟩ u1).setCell ⟨g,b,none⟩ u2).setCell ⟨g,c,none⟩ u3).setCell ⟨g,d,none⟩ u4) (some g):=
 (((Cn w g a u1).trans (Cn _ g b u2)).trans (Cn _ g c u3)).trans (Cn _ g d u4)
def InsIn(B g c a:Nat)(P S T Q D':List Ct)(x:Ct)(w wi:World)(j:Nat)(s1 s2:List Ct):Prop :=
 j=a+s1.length/\D'=s1++s2/\(∀y∈s2,cmpC x y<0)/\Arr wi B g c (P++(s1++x::(s2++(T++Q))))/\w.grownBy wi (some g)/\Rws wi g (x::S)
def InsOut(B g c a:Nat)(P S Q:List Ct)(w wo:World)(i:Nat)(D D' T:List Ct):Prop :=
 S=D++T/\i=a+D.length/\Af cmpC D D'/\Arr wo B g c (P++(D'++(T++Q)))/\w.grownBy wo (some g)/\Rws wo g S
def stable_len{L M:List Ct}(h:Af cmpC L M):M.length=L.length:=by
 have key:∀(n:Nat) (L M:List Ct),L.length<=n->Af cmpC L M->M.length=L.length:=by
  intro n;induction n with
  | zero =>
   intro L M hn h;have:L=[]:=AH (by omega);subst this;cases M with
   | nil=>rfl
   | cons y M=>exact absurd ((h.mem cmpC_tot y).1 (BC ..)) DA
  | succ n ih =>
   intro L M hn h;cases M with
   | nil =>
    cases L with
    | nil=>rfl
    | cons y L=>exact absurd ((h.mem cmpC_tot y).2 (BC ..)) DA
   | cons y M =>
    have hy:=(h.mem cmpC_tot y).1 (BC ..);have p1:∀K:List Ct,(Ae cmpC y K).length+(K.filter λz=>!(cmpC y z==0)).length=K.length:=λK=>by
     unfold Ae;rw[<-AA];exact(GF (λz=>cmpC y z==0) K).length_eq
    have h1:=p1 L;have h2:=p1 (y::M);have h3:(Ae cmpC y L).length=(Ae cmpC y (y::M)).length:=by rw[h.same y]
    have h4:0<(Ae cmpC y L).length:=GL (BI.2 ⟨hy,by rw[beq_iff_eq];exact cmpC_tot.refl y⟩);have h5:=ih (L.filter λz=>!(cmpC y z==0)) ((y::M).filter λz=>!(cmpC y z==0)) (by omega) ⟨h.sorted.filter _,λz=>by
     have q:=h.same z;unfold Ae at q ⊢;rw[DD,DD];have e:∀K:List Ct,K.filter (λa=>(cmpC z a==0) && !(cmpC y a==0))=(K.filter (λa=>cmpC z a==0)).filter (λa=>!(cmpC y a==0)):=λK=>by
      rw[DD]
      congr 1
      funext a;rw[Bool.and_comm]
     rw[e,e,q]⟩
    omega
 exact key L.length L M (AD _) h
def nzC(x:Ct):Bool:=!(x.k==0)
def sum2_any(A:Option Addr)(c n:Nat)(k:Int)(v:Bool)(w:World)(hv:H0 ((k==0)=v)) :
  C3 190 #[.agg #[.slice A n c,.int .i64 k]] w λe w'=>e=.returned (.bool v)/\Ext w w':=by
 rw[<-hv.o];clear hv;go_enter func190,ntmps190;go_wp2;go_ret;exact⟨rfl,(Ext.refl w).alloc _⟩
def index_none(B g c n:Nat)(M:List Ct)(w:World)(hn:n=M.length)(h:Arr w B g c M)(hz:∀x∈M,(x.k==0)=false) :
  C3 226 #[.slice (some ⟨g,0,none⟩) n c,.func (.func 190) #[] #[]] w λe w'=>e=.returned (.int .i64 (-1))/\Ext w w':=by
 have d:=h.le;rw[<-hn]at d;have H:=j6 h;have HN:=j6 hn;have HZ:=j6 hz;clear h hn hz;go_enter func226,ntmps226;go_wp2
 go_loopw [8] (λv wr=>∃i:Nat,i<=n/\v=.int .i64 i/\Ext w wr) (λv _=>n-(intOf v).toNat)
 case atStart=>exact⟨0,AG _,rfl,Ext.refl _⟩
 case round =>
  obtain⟨i,hi,rfl,er⟩:=hrel;by_cases hlt:i<n
  ·have a:i<M.length:=by rw[<-HN.o];exact hlt
   have⟨p0,p1⟩:=(H.o.ext er).at a;have hk:((M.getD i Ct.zero).k==0)=false:=by
    rw[AB,AC a];exact HZ.o _ (BR a)
   have⟨x,hx⟩:=tz (M.getD i Ct.zero);rw[hx]at p0 p1 hk;have HK:=j6 hk;clear a hx hk;go_wp2_with (go_at_call 190;refine(sum2_any _ _ _ _ _ _ HK).mono ?_;rintro e w1 ⟨rfl,x1⟩)
   go_roundw
   case rel=>exact⟨i+1,by omega,by go_num,er.trans x1⟩
   case measure=>simp[intOf];omega
  ·go_wp2;go_ret;exact⟨rfl,er⟩
def index_some(B g c n q:Nat)(P Q:List Ct)(x:Ct)(w:World)(hn:n=(P++x::Q).length)(hq:q=P.length)(h:Arr w B g c (P++x::Q))(hz:∀x∈P,(x.k==0)=false)(hx:(x.k==0)=true) :
  C3 226 #[.slice (some ⟨g,0,none⟩) n c,.func (.func 190) #[] #[]] w λe w'=>e=.returned (.int .i64 q)/\Ext w w':=by
 have f:=h.le;rw[<-hn]at f;have l:q<n:=by rw[hn,AA,AJ];omega
 have H:=j6 h;have HQ:=j6 hq;have HZ:=j6 hz;have HX:=j6 hx;clear h hn hz hq hx;go_enter func226,ntmps226;go_wp2
 go_loopw [8] (λv wr=>∃i:Nat,i<=q/\v=.int .i64 i/\Ext w wr) (λv _=>n-(intOf v).toNat)
 case atStart=>exact⟨0,AG _,rfl,Ext.refl _⟩
 case round =>
  obtain⟨i,hi,rfl,er⟩:=hrel;have j:i<n:=by omega
  have a:i<(P++x::Q).length:=by rw[AA,AJ,<-HQ.o];omega
  have⟨p0,p1⟩:=(H.o.ext er).at a;by_cases hiq:i<q
  ·have hk:(((P++x::Q).getD i Ct.zero).k==0)=false:=by
    have hp:i<P.length:=by rw[<-HQ.o];exact hiq
    rw[AB,BS hp,AC hp];exact HZ.o _ (BR hp)
   have⟨y,hy⟩:=tz ((P++x::Q).getD i Ct.zero);rw[hy]at p0 p1 hk;have HK:=j6 hk;clear a hy hk;go_wp2_with (go_at_call 190;refine(sum2_any _ _ _ _ _ _ HK).mono ?_;rintro e w1 ⟨rfl,x1⟩)
   go_roundw
   case rel=>exact⟨i+1,by omega,by go_num,er.trans x1⟩
   case measure=>simp[intOf];omega
  ·have d:i=q:=by omega
   subst d;have e:(P++x::Q).getD i Ct.zero=x:=by rw[HQ.o];exact getD_mid P x Q
   rw[e]at p0 p1;clear a e;go_wp2_with (go_at_call 190;refine(sum2_any _ _ _ _ _ _ HX).mono ?_;rintro e w1 ⟨rfl,x1⟩)
   go_ret;exact⟨rfl,er.trans x1⟩
def own_set_past{k:Nat}(h:Own w B 154 2 (some ⟨g,0,none⟩) n c xs)(hk:xs.length<=k)(u:Value):Own (w.setCell ⟨g,k,none⟩ u) B 154 2 (some ⟨g,0,none⟩) n c xs:=by
 have:=h.put k u
 rwa [GD hk]at this
def own_sets_past:∀(vs:List Value) (w:World) (k:Nat),Own w B 154 2 (some ⟨g,0,none⟩) n c xs->xs.length<=k->Own (w.setCells g k vs) B 154 2 (some ⟨g,0,none⟩) n c xs
 | [],_,_,h,_=>h
 | v::vs,w,k,h,hk=>own_sets_past vs _ (k+1) (own_set_past h hk v) (by omega)
def upd_sets(g:Nat):∀(vs:List Value) (w:World) (k:Nat),w.grownBy (w.setCells g k vs) (some g)
 | [],w,_=>CM w _
 | v::vs,w,k=>(Cn w g k v).trans (upd_sets g vs _ (k+1))
def Arr.prefix_{K X:List Ct}(h:Arr w B g c (K++X)):Arr w B g c K:=by
 refine⟨⟨Ue K,?_⟩,h.2⟩;rcases h.1.2 with ⟨h1,h2⟩|⟨g',cur,e,hb,hg,hnc,hcm,hcs,htake⟩
 ·exact .inl ⟨h1,by rw[AA]at h2;omega⟩
 ·refine .inr ⟨g',cur,e,hb,hg,by rw[AA]at hnc;omega,hcm,hcs,?_⟩;have:(cur.toList.take ((K++X).length*2)).take (K.length*2)=(Az (K++X)).take (K.length*2):=by rw[htake]
  rw[List.take_take,Nat.min_eq_left (by rw[AA];omega),Fo]at this;rw[this,<-Ue K,DY]
def Arr.cells_past{K:List Ct}(h:Arr w B g c K){j:Nat}(hj:j<c*2):(w.cell? ⟨g,j,none⟩).isSome=true:=by
 rcases h.1.2 with ⟨h1,_⟩|⟨g',cur,e,hb,hg,hnc,hcm,hcs,htake⟩
 ·have:=h.2;omega
 ·cases e;rw[cell_of_row w g j cur _ (0,0) hg,EZ (AZ hj hcs)];rfl
def jC{P:Program}(w:World)(t e ty:TypeId)(z0 z1:Value)(ht:P.underlying t=some (.slice e))(hv:∀w,(zeroValue e).run P w=.ok (.agg #[z0,z1]) w)(hz0:z0.oneCell'=true)(hz1:z1.oneCell'=true)(hzc:(Value.agg #[z0,z1]).cells=#[z0,z1])(b o n c:Nat)(hn:0<n)
  (hc:∀j,j<n*2->(w.cell? ⟨b,o+j,none⟩).isSome=true) (hf:∀j,j<n*2->w.frozen? ⟨b,o+j,none⟩=false) :
  (Builtin.clear_ #[t] ty #[.slice (some ⟨b,o,none⟩) n c]).run P w=.ok (.tuple #[]) (w.setCells b o (Builtin.zeroCells #[z0,z1] n).toList):=by
 have a:(Builtin.zeroCells #[z0,z1] n).toList.length=n*2:=by
  have:=size_zeroCells #[z0,z1] n;rw[EF,this];rfl
 have g:∀v∈(Builtin.zeroCells #[z0,z1] n).toList,v.oneCell'=true:=by
  intro v d;unfold Builtin.zeroCells at d;rw[Array.toList_map]at d;obtain⟨i,_,rfl⟩:=AP.1 d;show(#[z0,z1][i % 2]!).oneCell'=true;rcases(by omega:i % 2=0\/i % 2=1)with h|h
  ·rw[h];exact hz0
  ·rw[h];exact hz1
 have f:=run_storeCells_cells (P:=P) b o (Builtin.zeroCells #[z0,z1] n).toList 0 w (by simpa [a] using hc) (by simpa [a] using hf) g;simp only[EH]at f;obtain⟨m,rfl⟩:∃m,n=m+1:=⟨n-1,by omega⟩;simp[Builtin.clear_,run_underlying ht,hv,hzc,f]
def Deleted(B g c:Nat)(M:List Ct)(w:World)(e:Ending)(w':World):Prop:=∃m,e=.returned (.slice (some ⟨g,0,none⟩) m c)/\m=(M.filter nzC).length/\Arr w' B g c (M.filter nzC)/\w.grownBy w' (some g)
def yE(w:World):(zeroValue 154).run prog w=.ok (.agg #[.slice none 0 0,.int .i64 0]) w:=by kernel_rfl
def DelIn(B g c:Nat)(M K X R:List Ct)(w wr:World)(j:Nat):Prop:=j=K.length+X.length/\M.filter nzC=K++R.filter nzC/\Arr wr B g c (K++(X++R))/\w.grownBy wr (some g)/\0<X.length
def DelIn.mk'{M K X R:List Ct}(h:DelIn B g c M K X R w wr j)(hz:Ext wr wz):DelIn B g c M K X R w wz j:=⟨h.1,h.2.1,h.2.2.1.ext hz,h.2.2.2.1.trans (Aq hz g),h.2.2.2.2⟩
def DelIn.skip{M K X R:List Ct}{x:Ct}(h:DelIn B g c M K X (x::R) w wr j)(hx:nzC x=false)(hz:Ext wr wz):DelIn B g c M K (X++[x]) R w wz (j+1):=by
 obtain⟨h1,h2,h3,h4,h5⟩:=h;refine⟨by rw[AA,AO];omega,by rw[h2,CP (by simp[hx])],?_,h4.trans (Aq hz g),by rw[AA];omega⟩;have e:K++(X++[x]++R)=K++(X++x::R):=by simp
 rw[e];exact h3.ext hz
def DelIn.keep{M K X R:List Ct}{x y:Ct}(h:DelIn B g c M K (y::X) (x::R) w wr j)(hx:nzC x=true)(hi:i=K.length){n:Nat}(hn:n=x.l.length) :
  DelIn B g c M (K++[x]) (X++[x]) R w ((wr.setCell ⟨g,i*2,none⟩ (.slice x.A n x.c)).setCell ⟨g,i*2+1,none⟩ (.int .i64 x.k)) (j+1):=by
 subst hi hn;obtain⟨h1,h2,h3,h4,h5⟩:=h;refine⟨by simp only[AA,AJ,CB]at h1 ⊢;omega,by rw[h2,CR hx];simp,?_,h4.trans ((Cn wr g _ _).trans (Cn _ g _ _)),by rw[AA,AO];omega⟩;have h6:=h3.set K.length x;have e:(K++(y::X++x::R)).set K.length x=K++[x]++(X++[x]++R):=by
  rw[CI,set_mid];simp
 rw[e]at h6;exact h6
def deleteFunc_any(B g c n:Nat)(M:List Ct)(w:World)(hn:n=M.length)(h:Arr w B g c M) :
  C3 189 #[.slice (some ⟨g,0,none⟩) n c,.func (.func 190) #[] #[]] w (Deleted B g c M w):=by
 by_cases hall:∀x∈M,(x.k==0)=false
 ·have hf:M.filter nzC=M:=EM.2 λx hx=>by unfold nzC;rw[hall x hx];rfl
  have H:=j6 h;have HN:=j6 hn;have HF:=j6 hf;clear h hn hf;go_enter func189,ntmps189;go_wp2_with (go_at_call 226;refine(index_none B g c n M _ HN.o H.o hall).mono ?_;rintro e w1 ⟨rfl,x1⟩)
  go_ret;exact⟨n,rfl,by rw[HF.o];exact HN.o,by rw[HF.o];exact H.o.ext x1,Aq x1 g⟩
 ·obtain⟨P,x,Q,rfl,hP,hx⟩:∃P x Q,M=P++x::Q/\(∀y∈P,(y.k==0)=false)/\(x.k==0)=true:=by
   clear h hn;induction M with
   | nil=>exact absurd (λx hx=>(nomatch hx)) hall
   | cons y M ih =>
    by_cases hy:(y.k==0)=true
    ·exact⟨[],y,M,rfl,λz hz=>(nomatch hz),hy⟩
    ·have D:(y.k==0)=false:=by simpa using hy
     have⟨P,x,Q,e,h1,h2⟩:=ih (λq=>hall λz hz=>(AY.1 hz).elim (λe=>e▸D) (q z));exact⟨y::P,x,Q,by rw[e];rfl,λz hz=>(AY.1 hz).elim (λe=>e▸D) (h1 z),h2⟩
  clear hall;have⟨M,hM⟩:=E9 (P++x::Q);have⟨q,hq⟩:=E9 P.length;have I:=h.le;rw[<-hn]at I;have U:q<n:=by rw[hn,hq,AA,AJ];omega
  have J:n<=c:=by rw[hn];exact h.1.le.1
  have L:c<=9223372036854775807:=h.1.le.2;have m:P.filter nzC=P:=EM.2 λy hy=>by unfold nzC;rw[hP y hy];rfl
  have H:=j6 h;have HN:=j6 hn;have HQ:=j6 hq;have HP:=j6 hP;have HX:=j6 hx;have E:H0 (n=q+1+Q.length):=j6 (by rw[hn,hq,AA,AJ];omega);have HD:∀w1,Ext w w1->H0 (DelIn B g c M P [x] Q w w1 (q+1)):=λw1 x1=>j6 ⟨by rw[hq];rfl,by rw[hM,CT,m,CP (by unfold nzC;rw[hx];decide)],h.ext x1,Aq x1 g,Nat.zero_lt_one⟩;have F:=j6 HD;rw[<-hM];clear h hn hq hP hx m hM HD;go_enter func189,ntmps189;go_wp2_with (go_at_call 226;refine(index_some B g c n q P Q x _ HN.o HQ.o H.o HP.o HX.o).mono ?_;rintro e w1 ⟨rfl,x1⟩)
  go_loopg [5,6] (n-(q+1)) (λz u v wr=>∃(i j:Nat) (K X R:List Ct),z=n-j/\j<=n/\i<=j/\u=.int .i64 i/\v=.int .i64 j/\H0 (i=K.length/\n=j+R.length)/\H0 (DelIn B g c M K X R w wr j))
  case atStart=>exact⟨q,q+1,P,[x],Q,rfl,by omega,by omega,rfl,by simp,j6 ⟨HQ.o,E.o⟩,F.o w1 x1⟩
  case round =>
   obtain⟨i,j,K,X,R,rfl,hj,S,rfl,rfl,HI,HJ⟩:=hrel;obtain⟨wi,C⟩:∃wi:World,wi=wr:=⟨_,rfl⟩;rw[<-C]at HJ ⊢;clear C;by_cases hlt:j<n
   ·obtain⟨y,R,rfl⟩:∃y R',R=y::R':=by
     cases R with
     | nil=>have:=HI.o.2;rw[CB]at this;omega
     | cons y R=>exact⟨y,R,rfl⟩
    obtain⟨x0,X,rfl⟩:∃x0 X',X=x0::X':=by
     cases X with
     | nil=>have:=HJ.o.2.2.2.2;exact absurd this (by decide)
     | cons x0 X=>exact⟨x0,X,rfl⟩
    have hA:=HJ.o.2.2.1;have r:j<(K++(x0::X++y::R)).length:=by have:=HJ.o.1;simp only[AA,AJ]at this ⊢;omega
    have⟨p0,p1⟩:=hA.at r;have e:(K++(x0::X++y::R)).getD j Ct.zero=y:=by
     rw[<-AK,show j=(K++x0::X).length by rw[AA];exact HJ.o.1];exact getD_mid _ y R
    rw[e]at p0 p1;have f0:=hA.free (i*2);have f1:=hA.free (i*2+1);have c0:∃u,wi.cell? ⟨g,i*2,none⟩=some u:=CQ.1 (hA.cells_past (by omega));have c1:∃u,wi.cell? ⟨g,i*2+1,none⟩=some u:=CQ.1 (hA.cells_past (by omega));obtain⟨u0,c0⟩:=c0;obtain⟨u1,c1⟩:=c1;have HA:=j6 hA;have⟨ny,a⟩:=E9 y.l.length;rw[<-a]at p0;have G:=j6 a;have⟨v,hv⟩:=tz ((y.k==0));have HV:=j6 hv;clear hA r e a hv;cases v
    ·have hx:H0 (nzC y=true):=j6 (by unfold nzC;rw[HV.o];rfl);go_wp2_with (go_at_call 190;refine(sum2_any _ _ _ _ _ _ HV).mono ?_;rintro e w2 ⟨rfl,x2⟩;have X2:=((Ext.refl wi).alloc (.cells #[.slice y.A ny y.c,.int .i64 y.k] 154)).trans x2;have B2:=(Bk.new wi 154 #[.slice y.A ny y.c,.int .i64 y.k]).ext x2;have b0:=B2.cell 0;have b1:=B2.cell 1;have d:=j6 (HA.o.ext X2);have g0:=d.o.free (i*2);have g1:=d.o.free (i*2+1);have d0:=X2.cell c0;have d1:=X2.cell c1)
     go_roundg (n-(j+1))
     case measure=>omega
     case rel=>exact⟨i+1,j+1,K++[y],X++[y],R,rfl,by omega,by omega,by go_num,by go_num,j6 ⟨by rw[AA,AO,<-HI.o.1],by have:=HI.o.2;rw[AJ]at this;omega⟩,j6 ((DelIn.mk' HJ.o X2).keep hx.o HI.o.1 G.o)⟩
    ·have hx:H0 (nzC y=false):=j6 (by unfold nzC;rw[HV.o];rfl);go_wp2_with (go_at_call 190;refine(sum2_any _ _ _ _ _ _ HV).mono ?_;rintro e w2 ⟨rfl,x2⟩;have X2:=((Ext.refl wi).alloc (.cells #[.slice y.A ny y.c,.int .i64 y.k] 154)).trans x2)
     go_roundg (n-(j+1))
     case measure=>omega
     case rel=>exact⟨i,j+1,K,x0::X++[y],R,rfl,by omega,by omega,rfl,by go_num,j6 ⟨HI.o.1,by have:=HI.o.2;rw[AJ]at this;omega⟩,j6 (HJ.o.skip hx.o X2)⟩
   ·obtain rfl:j=n:=by omega
    have hR:R=[]:=AH (by have:=HI.o.2;omega);subst hR;have hA:=HJ.o.2.2.1;have T:i<j:=by have h1:=HJ.o.1;have h2:=HI.o.1;have h3:=HJ.o.2.2.2.2;omega
    have N:j-i<=c-i:=by omega
    have O:¬(c=i):=by omega
    have f:∃vs,∀ty,(Builtin.clear_ #[31] ty #[.slice (some ⟨g,i*2,none⟩) (j-i) (c-i)]).run prog wi=.ok (.tuple #[]) (wi.setCells g (i*2) vs):=
     ⟨_,λty=>(jC (P:=prog) wi 31 154 ty (.slice none 0 0) (.int .i64 0) Tryz.underlying31 yE rfl rfl rfl g (i*2) (j-i) (c-i) (by omega) (λt ht=>hA.cells_past (by omega)) (λt ht=>hA.free _))⟩
    obtain⟨vs,f⟩:=f;have HA:=j6 hA;have HF:H0 (M.filter nzC=K):=j6 (by have:=HJ.o.2.1;rwa [List.filter_nil,AV]at this);have HG:=j6 HJ.o.2.2.2.1;have HK:=j6 HI.o.1;clear hA HJ HI;go_wp2;go_ret;refine⟨i,rfl,by rw[HF.o];exact HK.o,?_,HG.o.trans (upd_sets g vs wi _)⟩;rw[HF.o];have hp:=HA.o.prefix_;exact⟨own_sets_past vs wi _ hp.1 (by rw[Ue,HK.o];exact AD _),hp.2⟩
def wY:Gr prog 79 204 4 32 (.agg #[.int .u8 0,.bool false,.int .i64 0,.string ⟨#[]⟩]):=⟨by kernel_rfl,by kernel_rfl,rfl,by decide⟩
def tH(B n:Nat)(l:List Dat)(e:Ending)(w':World):Prop:=∃A c,e=.returned (.slice A n c)/\Own w' B 204 4 A n c (Dd l)/\(∀ad,A=some ad->B<=ad.block/\ad.block<w'.heap.size)
def Gd(h:blk A c=some g):∃ad,A=some ad/\ad.block=g:=by
 cases A with
 | none=>cases c<;>exact nomatch h
 | some ad =>
  cases c with
  | zero=>exact nomatch h
  | succ c=>exact⟨ad,rfl,by injection h⟩
def bK(A:Option Addr)(c n:Nat)(l:List Dat)(w:World)(hn:n=l.length)(h:Rw w A c l)(hs:n<=1000000000) :
  C3 183 #[.slice A n c] w λe w'=>tH w.heap.size n l e w'/\Ext w w':=by
 have f:=λ(W:World)=>FP (P:=prog) W 79 204 A n c 0 0 Tryz.underlying79;cases A with
 | none =>
  have hc:c=0:=h.2.2.2.1 rfl;have d:n=0:=by have:=h.2.1;omega
  have hl:l=[]:=AH (by omega);subst hc d hl;clear h hn;go_enter func183,ntmps183;go_wp2;go_ret;exact⟨⟨none,0,rfl,Own.nil _ _ _ _,λad e=>nomatch e⟩,Ext.refl w⟩
 | some ad =>
  have HN:=j6 hn;have hh:Sl w 4 (some ad) n c (Dd l):=by rw[hn];exact h
  have H:=j6 hh;clear h hn hh;go_enter func183,ntmps183;go_wp2_with (at_builtin;(refine Ab _ wY w.heap.size _ _ rfl rfl (some ⟨w.heap.size,0,none⟩) 0 0 [] rfl ((Own.empty _ w.heap.size _ 4 _)) (some ad) n c (Dd l) rfl (Sl.ext H.o ((Ext.refl w).alloc _)) (Ti l) (by omega) (by decide) (by simp) ?_;intro A' c' w2 o2 g2 h2))
  go_ret;refine⟨⟨A',c',by simp,by simpa using o2,λa e=>?_⟩,((Ext.refl w).alloc _).grown g2 (by simp[blk])⟩;subst e;rcases h2 with ⟨e1,e2⟩|⟨e1,_⟩
  ·injection e1 with e1;subst e1;exact⟨AD _,AZ (by simp) g2.size⟩
  ·have⟨a2,e2,e3⟩:=Gd e1;injection e2 with e2;have e4:(w.alloc (.cells #[] 204)).heap.size=w.heap.size+1:=by simp
   have e5:=(o2.lt _ e1).2;rw[e2,e3];omega
abbrev V:=List Dat×Int
def cmpV(x y:V):Int:=Ba x.1 y.1
def cmpV_tot:Bq cmpV:=⟨λx y=>Mh x.1 y.1,λx y z=>Ky x.1 y.1 z.1⟩
def Al(x:Ct):V:=(x.l,x.k)
def w64(n:Int):Int:=IntKind.i64.wrap n
def Pa(a b:Int):w64 (w64 a+b)=w64 (a+b):=by
 unfold w64;simp only[BJ];omega
def Zd{a:Int}(h : -9223372036854775808<=a/\a<=9223372036854775807):w64 a=a:=CU _ (by omega)
def Sw(a:Int) : -9223372036854775808<=w64 a/\w64 a<=9223372036854775807:=by
 unfold w64;simp only[BJ];omega
def InN(x:V):Prop := -9223372036854775808<=x.2/\x.2<=9223372036854775807
def cnt(l:List V):Int:=w64 (l.foldr (λx a=>x.2+a) 0)
def cnt_snoc(l:List V)(x:V):cnt (l++[x])=w64 (cnt l+x.2):=by
 unfold cnt;rw[Pa]
 congr 1
 induction l with
 | nil=>simp
 | cons y l ih=>simp only[CI,List.foldr_cons];rw[ih];omega
def cnt_one{x:V}(h:InN x):cnt [x]=x.2:=by
 show w64 (x.2+0)=x.2;rw[GR];exact Zd h
def sumClass:List V->List V
 | []=>[]
 | x::xs=>[(x.1,cnt (x::xs))]
def sumClass_one{x:V}(h:InN x):sumClass [x]=[x]:=by
 show [(x.1,cnt [x])]=[x];rw[cnt_one h]
def sumClass_nil{l:List V}(h:sumClass l=[]):l=[]:=by
 cases l with
 | nil=>rfl
 | cons x l=>exact nomatch h
def sumClass_snoc{l:List V}{y x:V}(h:[y]=sumClass l):sumClass (l++[x])=[(y.1,w64 (y.2+x.2))]:=by
 cases l with
 | nil=>exact nomatch h
 | cons z l =>
  injection h with h _;subst h;show [(z.1,cnt ((z::l)++[x]))]=_;rw[cnt_snoc]
def sumClass_twice(l:List V):sumClass (sumClass l)=sumClass l:=by
 cases l with
 | nil=>rfl
 | cons x l =>
  show [(x.1,w64 (cnt (x::l)+0))]=[(x.1,cnt (x::l))];rw[GR,show w64 (cnt (x::l))=cnt (x::l)from Zd (Sw _)]
def sumClass_mem{l:List V}{y:V}(h:y∈sumClass l):sumClass l=[y]:=by
 cases l with
 | nil=>cases h
 | cons x l =>
  have:y=(x.1,cnt (x::l)):=by simpa [sumClass] using h
  rw[this];rfl
structure Summed (D R:List V):Prop where
 sorted:R.Pairwise λx y=>cmpV x y<0
 same:∀c,Ae cmpV c R=sumClass (Ae cmpV c D)
def Summed.unique{D R S:List V}(h:Summed D R)(k:Summed D S):R=S :=
 Af.unique cmpV_tot (l:=R) ⟨h.sorted.imp λq=>DP q,λ_=>rfl⟩ ⟨k.sorted.imp λq=>DP q,λc=>by rw[h.same,k.same]⟩
def alike_one(c x:V):Ae cmpV c [x]=if cmpV c x=0 then [x] else []:=by
 unfold Ae;by_cases h:cmpV c x=0
 ·rw[if_pos h,CR (by simpa using h)];rfl
 ·rw[if_neg h,CP (by simpa using h)];rfl
def alike_none{c:V}{l:List V}(h:∀y∈l,¬cmpV c y=0):Ae cmpV c l=[]:=GK.2 λy hy q=>h y hy (by simpa using q)
def mergeStep(M:List V)(x:V):List V:=match M.getLast? with
 | some y=>if cmpV y x=0 then M.dropLast++[(y.1,w64 (y.2+x.2))] else M++[x]
 | none=>[x]
def mergeV(S:List V):List V:=S.foldl mergeStep []
def mergeStep_nil(x:V):mergeStep [] x=[x]:=rfl
def mergeStep_snoc(M:List V)(y x:V):mergeStep (M++[y]) x=if cmpV y x=0 then M++[(y.1,w64 (y.2+x.2))] else M++[y]++[x]:=by
 unfold mergeStep;rw[EK,EC];simp
def mergeV_snoc(S:List V)(x:V):mergeV (S++[x])=mergeStep (mergeV S) x:=by
 unfold mergeV;rw[DU];rfl
def Jg{α:Type}{p:List α->Prop}(h0:p [])(h1:∀l x,p l->p (l++[x]))(l:List α):p l:=by
 have key:∀m:List α,p m.reverse:=λm=>by
  induction m with
  | nil=>exact h0
  | cons x m ih=>rw[List.reverse_cons];exact h1 _ _ ih
 have:=key l.reverse
 rwa [List.reverse_reverse]at this
def merge_sum(S:List V):S.Pairwise (λx y=>cmpV x y<=0)->(∀x∈S,InN x)->Summed S (mergeV S)/\((S=[]/\mergeV S=[])\/∃S0 s M0 y,S=S0++[s]/\mergeV S=M0++[y]/\cmpV y s=0):=by
 refine Jg (p:=λS=>S.Pairwise (λx y=>cmpV x y<=0)->(∀x∈S,InN x)->Summed S (mergeV S)/\((S=[]/\mergeV S=[])\/∃S0 s M0 y,S=S0++[s]/\mergeV S=M0++[y]/\cmpV y s=0)) ?_ ?_ S
 ·exact λ_ _=>⟨⟨List.Pairwise.nil,λ_=>rfl⟩,.inl ⟨rfl,rfl⟩⟩
 ·intro S x ih hs f;have i:=BL.1 hs;have hx:=f x (by simp);have⟨⟨i1,i2⟩,i3⟩:=ih i.1 (λy hy=>f y (BE _ hy));rw[mergeV_snoc];rcases i3 with ⟨rfl,i4⟩|⟨S0,s,M0,y,e1,e2,e3⟩
  ·rw[i4,mergeStep_nil];refine⟨⟨BN _ _,λc=>?_⟩,.inr ⟨[],x,[],x,rfl,rfl,cmpV_tot.refl x⟩⟩;rw[BD,alike_one];split
   ·rw[sumClass_one hx]
   ·rfl
  ·rw[e2]at i1 i2 ⊢;rw[mergeStep_snoc];have p1:=BL.1 i1;have a:∀m∈M0,cmpV m y<0:=λm hm=>p1.2.2 m hm y (by simp);have j:cmpV s x<=0:=i.2.2 s (by rw[e1];simp) x (by simp);have l:cmpV y x<=0:=cmpV_tot.trans y s x (by omega) j;by_cases h0:cmpV y x=0
   ·rw[if_pos h0];refine⟨⟨BL.2 ⟨p1.1,BN _ _,λm hm z hz=>?_⟩,λc=>?_⟩,.inr ⟨S,x,M0,_,rfl,rfl,h0⟩⟩
    ·rw[AE.1 hz];exact a m hm
    ·have q:=i2 c;rw[Ag,alike_one]at q;rw[Ag,Ag,alike_one,alike_one];by_cases hc:cmpV c y=0
     ·have d:cmpV c x=0:=cmpV_tot.eq_trans hc h0;have hM:Ae cmpV c M0=[]:=alike_none λm hm e=>by
       have:=a m hm;have:=(cmpV_tot.eq_left (z:=y) (show cmpV m c=0 by rw[cmpV_tot.neg,e];rfl)).2 hc;omega
      rw[if_pos hc,hM,BD]at q;rw[if_pos (show cmpV c (y.1,w64 (y.2+x.2))=0 from hc),if_pos d,hM,BD];exact(sumClass_snoc q).symm
     ·have d:¬cmpV c x=0:=λe=>hc (cmpV_tot.eq_trans e (by rw[cmpV_tot.neg,h0];rfl));rw[if_neg hc]at q;rw[if_neg (show ¬cmpV c (y.1,w64 (y.2+x.2))=0 from hc),if_neg d,AV (Ae cmpV c S)];exact q
   ·rw[if_neg h0];have g:∀m∈M0++[y],cmpV m x<0:=λm hm=>by
     rcases AQ.1 hm with h|h
     ·exact cmpV_tot.lt_of_lt_le (a m h) l
     ·rw[AE.1 h];omega
    refine⟨⟨BL.2 ⟨i1,BN _ _,λm hm z hz=>?_⟩,λc=>?_⟩,.inr ⟨S,x,M0++[y],x,rfl,rfl,cmpV_tot.refl x⟩⟩
    ·rw[AE.1 hz];exact g m hm
    ·have q:=i2 c;have e4:Ae cmpV c (M0++[y]++[x])=Ae cmpV c (M0++[y])++Ae cmpV c [x]:=Ag _ _ _;have e5:Ae cmpV c (S++[x])=Ae cmpV c S++Ae cmpV c [x]:=Ag _ _ _;rw[e4,e5,q,alike_one];by_cases hc:cmpV c x=0
     ·have hM:Ae cmpV c (M0++[y])=[]:=alike_none λm hm e=>by
       have:=g m hm;have:=(cmpV_tot.eq_left (z:=x) (show cmpV m c=0 by rw[cmpV_tot.neg,e];rfl)).2 hc;omega
      rw[hM]at q;rw[sumClass_nil q.symm,if_pos hc];show []++[x]=sumClass ([]++[x]);rw[BD,sumClass_one hx]
     ·rw[if_neg hc,AV,AV]
def Summed.of_stable{D S:List V}(h:Af cmpV D S)(hin:∀x∈D,InN x):Summed D (mergeV S):=by
 have k:=(merge_sum S h.sorted (λx hx=>hin x ((h.mem cmpV_tot x).1 hx))).1;exact⟨k.sorted,λc=>by rw[k.same,h.same]⟩
def addV:List V->V->List V
 | [],x=>[x]
 | y::R,x=>if cmpV y x<0 then y::addV R x else if cmpV y x=0 then (y.1,w64 (y.2+x.2))::R else x::y::R
def alike_cons(c y:V)(R:List V):Ae cmpV c (y::R)=(if cmpV c y=0 then [y] else [])++Ae cmpV c R:=by
 have:=Ag (cmp:=cmpV) c [y] R;rw[alike_one]at this;exact this
def addV_mem(x:V):∀(R:List V) (z:V),(∀y∈R,cmpV z y<0)->cmpV z x<0->∀y∈addV R x,cmpV z y<0
 | [],z,_,hx,y,hy=>by rw[AE.1 hy];exact hx
 | a::R,z,h,hx,y,hy=>by
  unfold addV at hy;split at hy
  ·rcases AY.1 hy with rfl|q
   ·exact h _ (BC ..)
   ·exact addV_mem x R z (λb hb=>h b (BM _ hb)) hx y q
  ·split at hy
   ·rcases AY.1 hy with rfl|q
    ·exact h a (BC ..)
    ·exact h y (BM _ q)
   ·rcases AY.1 hy with rfl|q
    ·exact hx
    ·exact h y q
def addV_same(x:V)(hx:InN x)(c:V):∀(R:List V) (l:List V),R.Pairwise (λx y=>cmpV x y<0)->Ae cmpV c R=sumClass l->Ae cmpV c (addV R x)=sumClass (l++if cmpV c x=0 then [x] else [])
 | [],l,_,h=>by
  have:=sumClass_nil (show sumClass l=[]from h.symm);subst this;show Ae cmpV c [x]=_;rw[alike_one];split
  ·rw[BD,sumClass_one hx]
  ·rfl
 | y::R,l,hp,h=>by
  have hp':=BZ.1 hp;unfold addV;by_cases h1:cmpV y x<0
  ·rw[if_pos h1,alike_cons];rw[alike_cons]at h;by_cases hc:cmpV c y=0
   ·have hcx:¬cmpV c x=0:=λe=>by have:=(cmpV_tot.eq_left (z:=x) hc).1 e;omega
    rw[if_pos hc]at h ⊢;have hR:Ae cmpV c R=[]:=alike_none λz hz e=>by
     have:=hp'.1 z hz;have:=(cmpV_tot.eq_left (z:=z) hc).1 e;omega
    rw[hR]at h;have:=addV_same x hx c R [] hp'.2 hR;rw[this,if_neg hcx,AV,AV];exact h
   ·rw[if_neg hc]at h ⊢;exact addV_same x hx c R l hp'.2 h
  ·rw[if_neg h1];by_cases h2:cmpV y x=0
   ·rw[if_pos h2,alike_cons];rw[alike_cons]at h;by_cases hc:cmpV c y=0
    ·have hcx:cmpV c x=0:=cmpV_tot.eq_trans hc h2;have hR:Ae cmpV c R=[]:=alike_none λz hz e=>by
      have:=hp'.1 z hz;have:=(cmpV_tot.eq_left (z:=z) hc).1 e;omega
     rw[if_pos hc,hR]at h;rw[if_pos (show cmpV c (y.1,w64 (y.2+x.2))=0 from hc),hR,if_pos hcx];exact(sumClass_snoc h).symm
    ·have hcx:¬cmpV c x=0:=λe=>hc (cmpV_tot.eq_trans e (by rw[cmpV_tot.neg,h2];rfl));rw[if_neg hc]at h;rw[if_neg (show ¬cmpV c (y.1,w64 (y.2+x.2))=0 from hc),if_neg hcx,AV];exact h
   ·rw[if_neg h2,alike_cons];by_cases hc:cmpV c x=0
    ·have hyx:cmpV x y<0:=by rw[cmpV_tot.neg];omega
     have hR:Ae cmpV c (y::R)=[]:=alike_none λz hz e=>by
      have a:cmpV x z<0:=by
       rcases AY.1 hz with rfl|q
       ·exact hyx
       ·exact cmpV_tot.lt_of_lt_le hyx (DP (hp'.1 z q))
      have:=(cmpV_tot.eq_left (z:=z) hc).1 e;omega
     rw[hR]at h ⊢;rw[if_pos hc,sumClass_nil h.symm];show [x]++[]=sumClass ([]++[x]);rw[BD,sumClass_one hx];rfl
    ·rw[if_neg hc,BD,AV];exact h
def addV_sorted(x:V):∀R:List V,R.Pairwise (λx y=>cmpV x y<0)->(addV R x).Pairwise (λx y=>cmpV x y<0)
 | [],_=>BN _ _
 | y::R,h=>by
  have h':=BZ.1 h;unfold addV;split
  ·rename_i h1;exact BZ.2 ⟨addV_mem x R y h'.1 h1,addV_sorted x R h'.2⟩
  ·split
   ·exact BZ.2 ⟨λz hz=>h'.1 z hz,h'.2⟩
   ·rename_i h1 h2;have hyx:cmpV x y<0:=by rw[cmpV_tot.neg];omega
    exact BZ.2 ⟨λz hz=>(AY.1 hz).elim (λe=>e▸hyx) (λq=>cmpV_tot.lt_of_lt_le hyx (DP (h'.1 z q))),h⟩
def Summed.add{D R:List V}{x:V}(h:Summed D R)(hx:InN x):Summed (D++[x]) (addV R x):=⟨addV_sorted x R h.sorted,λc=>by rw[addV_same x hx c R _ h.sorted (h.same c),Ag,alike_one]⟩
def sumAll(L:List V):List V:=L.foldl addV []
def Summed.all(L:List V):(∀x∈L,InN x)->Summed L (sumAll L):=by
 refine Jg (p:=λL=>(∀x∈L,InN x)->Summed L (sumAll L)) (λ_=>⟨List.Pairwise.nil,λ_=>rfl⟩) (λL x ih h=>?_) L;unfold sumAll;rw[DU];exact(ih (λy hy=>h y (BE _ hy))).add (h x (by simp))
def sumV(L:List V):List V:=(sumAll L).filter λx=>!(x.2==0)
def dedup_new{L O:List V}{x:V}(h:∀c,Ae cmpV c O=sumClass (Ae cmpV c L))(hx:InN x)(hn:∀y∈O,¬cmpV y x=0)(c:V):Ae cmpV c (O++[x])=sumClass (Ae cmpV c (L++[x])):=by
 rw[Ag,Ag,h,alike_one];by_cases hc:cmpV c x=0
 ·have hO:Ae cmpV c O=[]:=alike_none λy hy e=>hn y hy (cmpV_tot.eq_trans (by rw[cmpV_tot.neg,e];rfl) hc);have:=h c;rw[hO]at this;rw[sumClass_nil this.symm,if_pos hc];show []++[x]=sumClass ([]++[x]);rw[BD,sumClass_one hx]
 ·rw[if_neg hc,AV,AV]
def dedup_old{L P Q:List V}{y x:V}(h:∀c,Ae cmpV c (P++y::Q)=sumClass (Ae cmpV c L))(hy:cmpV y x=0)(c:V):Ae cmpV c (P++(y.1,w64 (y.2+x.2))::Q)=sumClass (Ae cmpV c (L++[x])):=by
 have q:=h c;rw[Ag,alike_cons]at q;rw[Ag,alike_cons,Ag,alike_one];by_cases hc:cmpV c y=0
 ·have a:cmpV c x=0:=cmpV_tot.eq_trans hc hy;rw[if_pos hc]at q;have hm:=sumClass_mem (l:=Ae cmpV c L) (y:=y) (by rw[<-q];simp);have hl:=congrArg List.length (q.trans hm);simp only[AA,AJ,CB]at hl;have hP:Ae cmpV c P=[]:=AH (by omega);have hQ:Ae cmpV c Q=[]:=AH (by omega);rw[if_pos (show cmpV c (y.1,w64 (y.2+x.2))=0 from hc),if_pos a,hP,hQ];exact(sumClass_snoc hm.symm).symm
 ·have a:¬cmpV c x=0:=λe=>hc (cmpV_tot.eq_trans e (by rw[cmpV_tot.neg,hy];rfl));rw[if_neg hc]at q;rw[if_neg (show ¬cmpV c (y.1,w64 (y.2+x.2))=0 from hc),if_neg a,AV (Ae cmpV c L)];exact q
section
variable{α:Type}{cmp:α->α->Int}
def He(s:List α):s=[]\/∃t y,s=t++[y]:=by
 rcases FQ s with h|⟨t,y,h⟩
 ·exact .inl h
 ·exact .inr ⟨t,y,by rw[h,FR]⟩
def mG(T:Bq cmp){t:List α}{y:α}(h:(t++[y]).Pairwise λa b=>cmp a b<=0):∀a∈t++[y],cmp a y<=0:=by
 intro a ha;rcases AQ.1 ha with q|q
 ·exact(BL.1 h).2.2 a q y (by simp)
 ·simp only[AE]at q;subst q;rw[T.refl];decide
def Mx(T:Bq cmp){t:List α}{y:α}(h:(y::t).Pairwise λa b=>cmp a b<=0):∀a∈y::t,cmp y a<=0:=by
 intro a ha;rcases AY.1 ha with q|q
 ·subst q;rw[T.refl];decide
 ·exact(BZ.1 h).1 a q
def Af.merge(T:Bq cmp){X1 X2 Y1 Y2 Z1 Z2:List α}(hX:(X1++X2).Pairwise λa b=>cmp a b<=0)(hY:(Y1++Y2).Pairwise λa b=>cmp a b<=0)
  (h1:∀t x y s,X1=t++[x]->Y2=y::s->cmp x y<=0) (h2:∀t y x s,Y1=t++[y]->X2=x::s->cmp y x<0)
  (s1:Af cmp (X1++Y1) Z1) (s2:Af cmp (X2++Y2) Z2):Af cmp ((X1++X2)++(Y1++Y2)) (Z1++Z2):=by
 have pX:=BL.1 hX;have pY:=BL.1 hY;have f:∀a∈X1,∀b∈Y2,cmp a b<=0:=by
  intro a ha b hb;rcases He X1 with e|⟨t,x,e⟩
  ·rw[e]at ha;cases ha
  ·cases hY2:Y2 with
   | nil=>rw[hY2]at hb;cases hb
   | cons y s =>
    have q1:=mG T (e▸pX.1) a (e▸ha);have q2:=h1 t x y s e hY2;have q3:=Mx T (hY2▸pY.2.1) b (hY2▸hb);exact T.trans _ _ _ (T.trans _ _ _ q1 q2) q3
 have d:∀a∈Y1,∀b∈X2,cmp a b<0:=by
  intro a ha b hb;rcases He Y1 with e|⟨t,y,e⟩
  ·rw[e]at ha;cases ha
  ·cases hX2:X2 with
   | nil=>rw[hX2]at hb;cases hb
   | cons x s =>
    have q1:=mG T (e▸pY.1) a (e▸ha);have q2:=h2 t y x s e hX2;have q3:=Mx T (hX2▸pX.2.1) b (hX2▸hb);exact T.lt_of_lt_le (T.lt_of_le_lt q1 q2) q3
 refine⟨BL.2 ⟨s1.sorted,s2.sorted,λa ha b hb=>?_⟩,λc=>?_⟩
 ·rcases AQ.1 ((s1.mem T a).1 ha)with p|p<;>rcases AQ.1 ((s2.mem T b).1 hb)with q|q
  ·exact pX.2.2 a p b q
  ·exact f a p b q
  ·exact DP (d a p b q)
  ·exact pY.2.2 a p b q
 ·rw[Ag,s1.same,s2.same,Ag,Ag,Ag,Ag,Ag];have hc:Ae cmp c Y1++Ae cmp c X2=Ae cmp c X2++Ae cmp c Y1:=by
   cases e1:Ae cmp c Y1 with
   | nil=>simp
   | cons y l1 =>
    cases e2:Ae cmp c X2 with
    | nil=>simp
    | cons x l2 =>
     exfalso;have my:y∈Ae cmp c Y1:=by rw[e1];exact BC ..
     have mx:x∈Ae cmp c X2:=by rw[e2];exact BC ..
     have⟨hy,qy⟩:=BI.1 my;have⟨hx,qx⟩:=BI.1 mx;have qy:cmp c y=0:=by simpa using qy
     have qx:cmp c x=0:=by simpa using qx
     have:=d y hy x hx;have:=(T.eq_left qy).1 qx;omega
  rw[AK,AK,<-AK (Ae cmp c Y1),hc,AK]
def Af.self{l:List α}(h:l.Pairwise λa b=>cmp a b<=0):Af cmp l l:=⟨h,λ_=>rfl⟩
inductive Bks (cmp:α->α->Int) (s:Nat):List α->List α->Prop
 | last (O S:List α) (h:O.length<=s) (k:Af cmp O S):Bks cmp s O S
 | more (O S O' S':List α) (h:O.length=s) (k:Af cmp O S) (r:Bks cmp s O' S'):Bks cmp s (O++O') (S++S')
def Af.nil_of{S:List α}(T:Bq cmp)(h:Af cmp [] S):S=[]:=h.unique T Af.nil
def Bks.none(T:Bq cmp){s:Nat}(hs:0<s){O S:List α}(h:Bks cmp s O S)(ho:O=[]):S=[]:=by
 cases h with
 | last _ _ _ k=>subst ho;exact k.nil_of T
 | more O1 S1 O2 S2 h1 _ _ =>
  have:=congrArg List.length ho;rw[AA,CB]at this;omega
def Bks.all(T:Bq cmp){s:Nat}(hs:0<s){O S:List α}(h:Bks cmp s O S)(hl:O.length<=s):Af cmp O S:=by
 cases h with
 | last _ _ _ k=>exact k
 | more O1 S1 O2 S2 h1 k r =>
  rw[AA]at hl;have e:O2=[]:=AH (by omega);have e2:=r.none T hs e;subst e e2;rw[AV,AV];exact k
def Bks.mem(T:Bq cmp){s:Nat}{O S:List α}(h:Bks cmp s O S)(x:α):x∈S↔x∈O:=by
 induction h with
 | last O S _ k=>exact k.mem T x
 | more O1 S1 O2 S2 _ k _ ih=>rw[AQ,AQ,k.mem T,ih]
def Bks.len(T:∀{O S:List α},Af cmp O S->S.length=O.length){s:Nat}{O S:List α}(h:Bks cmp s O S):S.length=O.length:=by
 induction h with
 | last O S _ k=>exact T k
 | more O1 S1 O2 S2 _ k _ ih=>rw[AA,AA,T k,ih]
def Bks.two{s:Nat}(hs:0<s){O S:List α}(h:Bks cmp s O S)(hl:2*s<=O.length) :
  ∃O1 S1 O2 S2 O3 S3,O=O1++(O2++O3)/\S=S1++(S2++S3)/\O1.length=s/\O2.length=s/\Af cmp O1 S1/\Af cmp O2 S2/\Bks cmp s O3 S3:=by
 cases h with
 | last _ _ h _=>omega
 | more O1 S1 O2 S2 h1 k r =>
  rw[AA]at hl;cases r with
  | last _ _ h2 k2=>exact⟨O1,S1,O2,S2,[],[],by rw[AV],by rw[AV],h1,by omega,k,k2,.last [] [] (AG _) Af.nil⟩
  | more O2 S2 O3 S3 h2 k2 r2=>exact⟨O1,S1,O2,S2,O3,S3,rfl,rfl,h1,h2,k,k2,r2⟩
def Bks.rest(T:Bq cmp){s:Nat}(hs:0<s){O S:List α}(h:Bks cmp s O S)(h1:s<O.length)(h2:O.length<2*s) :
  ∃O1 S1 O2 S2,O=O1++O2/\S=S1++S2/\O1.length=s/\Af cmp O1 S1/\Af cmp O2 S2:=by
 cases h with
 | last _ _ h _=>omega
 | more O1 S1 O2 S2 h3 k r =>
  rw[AA]at h2;exact⟨O1,S1,O2,S2,rfl,rfl,h3,k,r.all T hs (by omega)⟩
end
def getD_here{P Q:List Ct}{x:Ct}{p:Nat}(hp:p=P.length):(P++x::Q).getD p Ct.zero=x:=by subst hp;exact getD_mid P x Q
def Arr.here{p:Nat}{P Q:List Ct}{x:Ct}(h:Arr w B g c (P++x::Q))(hp:p=P.length) :
  w.cell? ⟨g,p*2,none⟩=some (.slice x.A x.l.length x.c)/\w.cell? ⟨g,p*2+1,none⟩=some (.int .i64 x.k):=by
 have:=h.at (i:=p) (by subst hp;simp)
 rwa [getD_here hp]at this
def set_two(P M Q:List Ct)(x y:Ct):((P++x::(M++y::Q)).set P.length y).set (P.length+1+M.length) x=P++y::(M++x::Q):=by
 rw[set_mid];have:=set_mid (P++y::M) y x Q;simp only[AK,CI,AA,AJ]at this
 rwa [show P.length+1+M.length=P.length+(M.length+1)by omega]
def set_two'(P M Q:List Ct)(x y:Ct):((P++x::(M++y::Q)).set (P.length+1+M.length) x).set P.length y=P++y::(M++x::Q):=by
 have:=set_mid (P++x::M) y x Q;simp only[AK,CI,AA,AJ]at this;rw[show P.length+1+M.length=P.length+(M.length+1)by omega,this,set_mid]
section
variable{w:World}{B g c p q:Nat}{P M Q:List Ct}{x y:Ct}
def Arr.swapA(h:Arr w B g c (P++x::(M++y::Q)))(hp:p=P.length)(hq:q=P.length+1+M.length){nx ny:Nat}(hx:nx=x.l.length)(hy:ny=y.l.length) :
  Arr ((((w.setCell ⟨g,p*2,none⟩ (.slice y.A ny y.c)).setCell ⟨g,p*2+1,none⟩ (.int .i64 y.k)).setCell ⟨g,q*2,none⟩ (.slice x.A nx x.c)).setCell ⟨g,q*2+1,none⟩ (.int .i64 x.k)) B g c (P++y::(M++x::Q)):=by
 subst hp hq hx hy;have h1:=(h.set P.length y).set (P.length+1+M.length) x
 rwa [set_two]at h1
def Arr.swapB(h:Arr w B g c (P++x::(M++y::Q)))(hp:p=P.length)(hq:q=P.length+1+M.length){nx ny:Nat}(hx:nx=x.l.length)(hy:ny=y.l.length) :
  Arr ((((w.setCell ⟨g,q*2,none⟩ (.slice x.A nx x.c)).setCell ⟨g,q*2+1,none⟩ (.int .i64 x.k)).setCell ⟨g,p*2,none⟩ (.slice y.A ny y.c)).setCell ⟨g,p*2+1,none⟩ (.int .i64 y.k)) B g c (P++y::(M++x::Q)):=by
 subst hp hq hx hy;have h1:=(h.set (P.length+1+M.length) x).set P.length y
 rwa [set_two']at h1
end
def cons_of{α:Type}{l:List α}(h:0<l.length):∃x t,l=x::t:=by
 cases l with
 | nil=>exact absurd h (CW 0)
 | cons x t=>exact⟨x,t,rfl⟩
def SwIn(B g c:Nat)(P X M Y Q:List Ct)(w wi:World)(i:Nat)(X1 X2 Y1 Y2:List Ct):Prop :=
 X=X1++X2/\Y=Y1++Y2/\X1.length=i/\Y1.length=i/\Arr wi B g c (P++(Y1++(X2++(M++(X1++(Y2++Q))))))/\w.grownBy wi (some g)
def SwIn.form{P X M Y Q:List Ct}{X1 X2 Y1 Y2:List Ct}{x y:Ct}(h:SwIn B g c P X M Y Q w wi i X1 (x::X2) Y1 (y::Y2)) :
  Arr wi B g c ((P++Y1)++x::((X2++(M++X1))++y::(Y2++Q))):=by
 have:=h.2.2.2.2.1;have e:P++(Y1++(x::X2++(M++(X1++(y::Y2++Q)))))=(P++Y1)++x::((X2++(M++X1))++y::(Y2++Q)):=by simp
 rwa [e]at this
def SwIn.step{B g c a b p q:Nat}{P X M Y Q:List Ct}{w wi:World}{i:Nat}{X1 X2 Y1 Y2:List Ct}{x y:Ct}(h:SwIn B g c P X M Y Q w wi i X1 (x::X2) Y1 (y::Y2))(ha:a=P.length)(hb:b=P.length+X.length+M.length)(hp:p=a+i)(hq:q=b+i){nx ny:Nat}(hx:nx=x.l.length)(hy:ny=y.l.length){wj:World}(hz:Ext wi wj) :
  SwIn B g c P X M Y Q w ((((wj.setCell ⟨g,p*2,none⟩ (.slice y.A ny y.c)).setCell ⟨g,p*2+1,none⟩ (.int .i64 y.k)).setCell ⟨g,q*2,none⟩ (.slice x.A nx x.c)).setCell ⟨g,q*2+1,none⟩ (.int .i64 x.k)) (i+1) (X1++[x]) X2 (Y1++[y]) Y2:=by
 have hf:=h.form.ext hz;obtain⟨h1,h2,h3,h4,h5,h6⟩:=h;have h7:=hf.swapA (p:=p) (q:=q) (by rw[AA];omega) (by
  have:=congrArg List.length h1;simp only[AA,AJ]at this ⊢;omega) hx hy
 refine⟨by rw[h1];simp,by rw[h2];simp,by rw[AA,AO];omega,by rw[AA,AO];omega,?_,(h6.trans (Aq hz g)).trans (upd_swap wj g _ _ _ _ _ _ _ _)⟩;have e:P++(Y1++[y]++(X2++(M++(X1++[x]++(Y2++Q)))))=(P++Y1)++y::((X2++(M++X1))++x::(Y2++Q)):=by simp
 rw[e];exact h7
def swapR_any(B g c n a b k:Nat)(P X M Y Q:List Ct)(w:World)(ha:a=P.length)(hb:b=P.length+X.length+M.length)(hx:k=X.length)(hy:k=Y.length)(hn:n=(P++(X++(M++(Y++Q)))).length)(h:Arr w B g c (P++(X++(M++(Y++Q))))) :
  C3 295 #[.slice (some ⟨g,0,none⟩) n c,.int .i64 a,.int .i64 b,.int .i64 k,.func (.func 188) #[] #[]] w λe w'=>e=.returned (.tuple #[])/\Arr w' B g c (P++(Y++(M++(X++Q))))/\w.grownBy w' (some g):=by
 have F:=h.le;rw[<-hn]at F;have O:b+k<=n:=by rw[hb,hn];simp only[AA];omega
 have N:a+k<=b:=by omega
 have HA:=j6 ha;have HB:=j6 hb;have HX:=j6 hx;have HY:=j6 hy;have HI:H0 (SwIn B g c P X M Y Q w w 0 [] X [] Y):=j6 ⟨rfl,rfl,rfl,rfl,h,CM w _⟩;clear ha hb hx hy hn h;go_enter func295,ntmps295;go_wp2
 go_loopg [10] k (λz v wr=>∃(i:Nat) (X1 X2 Y1 Y2:List Ct),z=k-i/\i<=k/\v=.int .i64 i/\H0 (SwIn B g c P X M Y Q w wr i X1 X2 Y1 Y2))
 case atStart=>exact⟨0,[],X,[],Y,rfl,AG _,rfl,HI⟩
 case round =>
  obtain⟨i,X1,X2,Y1,Y2,rfl,hi,rfl,HJ⟩:=hrel;clear HI;by_cases hlt:i<k
  ·obtain⟨x,X2,rfl⟩:=cons_of (l:=X2) (by
    have⟨q1,q2,q3,q4,_⟩:=HJ.o;have:=HX.o;rw[q1,AA]at this;omega)
   obtain⟨y,Y2,rfl⟩:=cons_of (l:=Y2) (by
    have⟨q1,q2,q3,q4,_⟩:=HJ.o;have:=HY.o;rw[q2,AA]at this;omega)
   have hf:=HJ.o.form;have⟨m,G⟩:=hf.here (p:=a+i) (by rw[AA];have:=HA.o;have:=HJ.o.2.2.2.1;omega);have j:Arr wr B g c ((P++(Y1++(x::X2++(M++X1))))++y::(Y2++Q)):=by
    have e:(P++Y1)++x::((X2++(M++X1))++y::(Y2++Q))=(P++(Y1++(x::X2++(M++X1))))++y::(Y2++Q):=by simp
    rwa [e]at hf
   have⟨q,H⟩:=j.here (p:=b+i) (by
    have⟨q1,q2,q3,q4,_⟩:=HJ.o;have e1:=congrArg List.length q1;have e2:=HB.o;simp only[AA,AJ]at e1 ⊢;omega)
   have f0:=hf.free ((a+i)*2);have f1:=hf.free ((a+i)*2+1);have f2:=hf.free ((b+i)*2);have f3:=hf.free ((b+i)*2+1);have⟨nx,d⟩:=E9 x.l.length;have⟨ny,f⟩:=E9 y.l.length;rw[<-d]at m;rw[<-f]at q;have r:=j6 d;have t:=j6 f;have XE:Ext wr wr.drew:=(Ext.refl wr).drew;have K:∀z:Xt wr.drew,z.W.cell? ⟨g,(b+i)*2,none⟩=some (.slice y.A ny y.c):=λz=>(XE.trans z.x).cell q;have L:∀z:Xt wr.drew,z.W.cell? ⟨g,(b+i)*2+1,none⟩=some (.int .i64 y.k):=λz=>(XE.trans z.x).cell H;have I:∀z:Xt wr.drew,z.W.cell? ⟨g,(a+i)*2,none⟩=some (.slice x.A nx x.c):=λz=>(XE.trans z.x).cell m;have J:∀z:Xt wr.drew,z.W.cell? ⟨g,(a+i)*2+1,none⟩=some (.int .i64 x.k):=λz=>(XE.trans z.x).cell G;clear hf j d f
   go_upto_region 3 with fail
   refine wro [0,0,0,6,0,0,0,96,0,0,0,1536,3840,7936,0,0,0,98304,245760,507904,1048335,2096911,4194303,8388607] (.flo [0,1,2,3,8,9,10,11,12,13,14,15,16,17,18,19,20] (.pur [4,5,6,7] (.one 21 (.flo [22] (.one 23 (.fin)))))) ?_
   (refine Aa (pks rfl) ?_;(repeat (go_big_quiet_step (fail)));refine oq ?_)
   (refine Bi (pks rfl) ?_;(repeat (go_big_quiet_step (fail)));refine oq ?_)
   refine Ac (pks rfl) ?_;intro K_ E;go_wp2
   (refine Aa (pks rfl) ?_;(repeat (go_big_quiet_step (fail)));refine oq ?_)
   refine Ac (pks rfl) ?_;intro K_ E;go_wp2;refine Ad ?_;go_wp2
   go_roundg (k-(i+1))
   case measure=>omega
   case rel=>exact⟨i+1,X1++[x],X2,Y1++[y],Y2,rfl,by omega,by go_num,j6 (HJ.o.step HA.o HB.o rfl rfl r.o t.o XE)⟩
  ·have R:i=k:=by omega
   have⟨q1,q2,q3,q4,q5,q6⟩:=HJ.o;have e1:X2=[]:=AH (by have:=HX.o;rw[q1,AA]at this;omega);have e2:Y2=[]:=AH (by have:=HY.o;rw[q2,AA]at this;omega);subst e1 e2;have C:H0 (Arr wr B g c (P++(Y++(M++(X++Q))))):=j6 (by
    rw[AV]at q1 q2;rw[q1,q2];simpa using q5)
   have D:=j6 q6;clear q1 q2 q3 q4 q5 q6;go_wp2
   go_end0
   exact⟨rfl,C.o,D.o⟩
def RotIn(B g c m:Nat)(D:List Ct)(w wi:World)(i j p:Nat)(P U V Q:List Ct):Prop :=
 D=P++(V++(U++Q))/\U.length=i/\V.length=j/\P.length=p/\m=p+i/\0<i/\0<j/\Arr wi B g c (P++(U++(V++Q)))/\w.grownBy wi (some g)
def RotIn.left{D:List Ct}{p:Nat}{P U1 U2 V Q:List Ct}(h:RotIn B g c m D w wi i j p P (U1++U2) V Q)(h1:U1.length=j)(h2:0<i-j)
  (ha:Arr wj B g c (P++(V++(U2++(U1++Q))))) (hg:wi.grownBy wj (some g)):RotIn B g c m D w wj (i-j) j (p+j) (P++V) U2 U1 Q:=by
 obtain⟨q1,q2,q3,q4,q5,q6,q7,q8,q9⟩:=h;rw[AA]at q2;refine⟨by rw[q1];simp,by omega,h1,by rw[AA];omega,by omega,h2,q7,?_,q9.trans hg⟩;rw[AK];exact ha
def RotIn.right{D:List Ct}{p:Nat}{P U V1 V2 Q:List Ct}(h:RotIn B g c m D w wi i j p P U (V1++V2) Q)(h1:V2.length=i)(h2:0<j-i)
  (ha:Arr wj B g c (P++(V2++(V1++(U++Q))))) (hg:wi.grownBy wj (some g)):RotIn B g c m D w wj i (j-i) p P V2 V1 (U++Q):=by
 obtain⟨q1,q2,q3,q4,q5,q6,q7,q8,q9⟩:=h;rw[AA]at q3;exact⟨by rw[q1];simp,h1,by omega,q4,q5,q6,h2,ha,q9.trans hg⟩
def cut_at{α:Type}(l:List α)(k:Nat)(h:k<=l.length):∃l1 l2,l=l1++l2/\l1.length=k:=⟨l.take k,l.drop k,(CF k l).symm,by rw[CE];omega⟩
def rot_any(B g c n a m b:Nat)(P U V Q:List Ct)(w:World)(ha:a=P.length)(hm:m=a+U.length)(hb:b=m+V.length)(hu:0<U.length)(hv:0<V.length)(hn:n=(P++(U++(V++Q))).length)(h:Arr w B g c (P++(U++(V++Q)))) :
  C3 284 #[.slice (some ⟨g,0,none⟩) n c,.int .i64 a,.int .i64 m,.int .i64 b,.func (.func 188) #[] #[]] w λe w'=>e=.returned (.tuple #[])/\Arr w' B g c (P++(V++(U++Q)))/\w.grownBy w' (some g):=by
 have F:=h.le;rw[<-hn]at F;have G:b<=n:=by rw[hb,hm,ha,hn];simp only[AA];omega
 have⟨i0,q⟩:=E9 U.length;have⟨j0,r⟩:=E9 V.length;have⟨D,hD⟩:=E9 (P++(V++(U++Q)));have HN:H0 (n=D.length):=j6 (by rw[hn,hD];simp only[AA];omega);have HI:H0 (RotIn B g c m D w w i0 j0 a P U V Q):=j6 ⟨hD,q.symm,r.symm,ha.symm,by omega,by omega,by omega,h,CM w _⟩;have e1:(m:Int)-(a:Int)=(i0:Int):=by omega
 have e2:(b:Int)-(m:Int)=(j0:Int):=by omega
 have C:i0+j0<=n:=by omega
 rw[<-hD];clear ha hm hb hu hv hn h q r hD;go_enter func284,ntmps284;go_wp2
 go_loopg [10,11] (i0+j0) (λz u v wr=>∃(i j p:Nat) (P U V Q:List Ct),z=i+j/\i+j<=n/\u=.int .i64 i/\v=.int .i64 j/\H0 (RotIn B g c m D w wr i j p P U V Q))
 case atStart=>exact⟨i0,j0,a,P,U,V,Q,rfl,C,rfl,rfl,HI⟩
 case round =>
  obtain⟨i,j,p,P,U,V,Q,rfl,hs,rfl,rfl,HJ⟩:=hrel;clear HI e1 e2;have I:(m:Int)-(i:Int)=(p:Int):=by have:=HJ.o.2.2.2.2.1;omega
  have K:m+j<=n:=by
   have⟨q1,q2,q3,q4,q5,_⟩:=HJ.o;have:=HN.o;rw[q1]at this;simp only[AA]at this;omega
  have H:i<=m:=by have:=HJ.o.2.2.2.2.1;omega
  rcases GH i j with hlt|heq|hgt
  ·obtain⟨V1,V2,rfl,x⟩:=cut_at V (j-i) (by have:=HJ.o.2.2.1;omega);have z1:((i:Int)==(j:Int))=false:=by rw[beq_eq_false_iff_ne];omega
   have z2:¬(j:Int)<i:=by omega
   have J:(m:Int)+(j:Int)-(i:Int)=((p+j:Nat):Int):=by omega
   have E:(j:Int)-(i:Int)=((j-i:Nat):Int):=by omega
   replace x:=j6 x;go_wp2_with (go_at_call 295;refine(swapR_any B g c n p (p+j) i P U V1 V2 Q _ HJ.o.2.2.2.1.symm (by have:=x.o;have:=HJ.o;have:=this.2.1;have:=HJ.o.2.2.2.1;omega) HJ.o.2.1.symm (by have:=HJ.o.2.2.1;rw[AA]at this;have:=x.o;omega) (by rw[HN.o,HJ.o.1];simp only[AA];omega) (by have:=HJ.o.2.2.2.2.2.2.2.1;rwa [AK]at this)).mono ?_;rintro e w1 ⟨rfl,a1,g1⟩;have d:=j6 (HJ.o.right (by have:=HJ.o.2.2.1;rw[AA]at this;have:=x.o;omega) (by omega) a1 g1);clear a1 g1)
   go_roundg (i+(j-i))
   case measure=>have:=HJ.o.2.2.2.2.2.1;omega
   case rel=>exact⟨i,j-i,p,P,V2,V1,U++Q,rfl,by omega,rfl,by go_num,d⟩
  ·subst heq;have z1:((i:Int)==(i:Int))=true:=by simp
   go_wp2_with (go_at_call 295;refine(swapR_any B g c n p m i P U [] V Q _ HJ.o.2.2.2.1.symm (by have:=HJ.o.2.1;have:=HJ.o.2.2.2.1;have:=HJ.o.2.2.2.2.1;simp only[CB];omega) HJ.o.2.1.symm HJ.o.2.2.1.symm (by rw[HN.o,HJ.o.1];simp only[AA,CB];omega) HJ.o.2.2.2.2.2.2.2.1).mono ?_;rintro e w1 ⟨rfl,a1,g1⟩;have y:H0 (Arr w1 B g c D):=j6 (by rw[HJ.o.1];exact a1);have A:=j6 (HJ.o.2.2.2.2.2.2.2.2.trans g1);clear a1 g1)
   go_end0
   exact⟨rfl,y.o,A.o⟩
  ·obtain⟨U1,U2,rfl,t⟩:=cut_at U j (by have:=HJ.o.2.1;omega);have z1:((i:Int)==(j:Int))=false:=by rw[beq_eq_false_iff_ne];omega
   have z2:(j:Int)<i:=by omega
   have E:(i:Int)-(j:Int)=((i-j:Nat):Int):=by omega
   replace t:=j6 t;go_wp2_with (go_at_call 295;refine(swapR_any B g c n p m j P U1 U2 V Q _ HJ.o.2.2.2.1.symm (by have:=HJ.o.2.1;rw[AA]at this;have:=HJ.o.2.2.2.1;have:=HJ.o.2.2.2.2.1;omega) t.o.symm HJ.o.2.2.1.symm (by rw[HN.o,HJ.o.1];simp only[AA];omega) (by have:=HJ.o.2.2.2.2.2.2.2.1;rwa [AK]at this)).mono ?_;rintro e w1 ⟨rfl,a1,g1⟩;have d:=j6 (HJ.o.left t.o (by omega) a1 g1);clear a1 g1)
   go_roundg (i-j+j)
   case measure=>have:=HJ.o.2.2.2.2.2.2.1;omega
   case rel=>exact⟨i-j,j,p+j,P++V,U2,U1,Q,rfl,by omega,by go_num,rfl,d⟩
def SortedC(l:List Ct):Prop:=l.Pairwise λx y=>cmpC x y<=0
def SortedC.left{l m:List Ct}(h:SortedC (l++m)):SortedC l:=(BL.1 h).1
def SortedC.right{l m:List Ct}(h:SortedC (l++m)):SortedC m:=(BL.1 h).2.1
def getD_left{l m:List Ct}(h:i<l.length):(l++m).getD i Ct.zero=l.getD i Ct.zero:=by
 rw[AB,BS h,AB]
def getD_right{l m:List Ct}(h:l.length<=i):(l++m).getD i Ct.zero=m.getD (i-l.length) Ct.zero:=by
 rw[AB,BF h,AB]
def mem_getD{l:List Ct}(h:i<l.length):l.getD i Ct.zero∈l:=by
 rw[AB,AC h];exact BR h
def mem_mid{P X R:List Ct}(h1:P.length<=i)(h2:i<P.length+X.length):(P++(X++R)).getD i Ct.zero∈X:=by
 rw[getD_right h1,getD_left (by omega)];exact mem_getD (by omega)
def getD_of{L P Q:List Ct}{x:Ct}(h:L=P++x::Q)(hi:i=P.length):L.getD i Ct.zero=x:=by
 rw[h];exact getD_here hi
def sym_split{P X Y Q L:List Ct}{b mid p s:Nat}(hL:L=P++(X++(Y++Q)))(ha:a=P.length)(hm:m=a+X.length)(hb:b=m+Y.length)(hmid:mid=(a+b) / 2)(hn:n=mid+m)(hp:n=p+1)
  (hc:(mid<m/\lo=n-b/\hi=mid)\/(m<=mid/\lo=a/\hi=m)) (h1:lo<=s) (h2:s<=hi) (hA:lo<s->¬cmpC (L.getD (n-s) Ct.zero) (L.getD (s-1) Ct.zero)<0) (hB:s<hi->cmpC (L.getD (p-s) Ct.zero) (L.getD s Ct.zero)<0) :
  ∃X1 X2 Y1 Y2,X=X1++X2/\Y=Y1++Y2/\s=a+X1.length/\n-s=m+Y1.length/\mid=a+(X1.length+Y1.length) /\
   (∀t x y u,X1=t++[x]->Y2=y::u->cmpC x y<=0)/\(∀t y x u,Y1=t++[y]->X2=x::u->cmpC y x<0):=by
 have e:a<=s/\s<=m:=by omega
 have f:m<=n-s/\n-s<=b:=by omega
 have⟨X1,X2,hX,c⟩:=cut_at X (s-a) (by omega);have⟨Y1,Y2,hY,d⟩:=cut_at Y (n-s-m) (by omega);have lX:X.length=X1.length+X2.length:=by rw[hX,AA]
 have lY:Y.length=Y1.length+Y2.length:=by rw[hY,AA]
 refine⟨X1,X2,Y1,Y2,hX,hY,by omega,by omega,by omega,λt x y u e1 e2=>?_,λt y x u e1 e2=>?_⟩
 ·have l1:X1.length=t.length+1:=by rw[e1,AA,AO]
  have l2:Y2.length=u.length+1:=by rw[e2,AJ]
  have:=hA (by omega);rw[getD_of (L:=L) (P:=P++X++Y1) (Q:=u++Q) (x:=y) (by rw[hL,hY,e2];simp) (by simp only[AA];omega),getD_of (L:=L) (P:=P++t) (Q:=X2++(Y++Q)) (x:=x) (by rw[hL,hX,e1];simp) (by simp only[AA];omega)]at this;rw[cmpC_tot.neg];omega
 ·have l1:Y1.length=t.length+1:=by rw[e1,AA,AO]
  have l2:X2.length=u.length+1:=by rw[e2,AJ]
  have:=hB (by omega);rw[getD_of (L:=L) (P:=P++X++t) (Q:=Y2++Q) (x:=y) (by rw[hL,hY,e1];simp) (by simp only[AA];omega),getD_of (L:=L) (P:=P++X1) (Q:=u++(Y++Q)) (x:=x) (by rw[hL,hX,e2];simp) (by simp only[AA];omega)]at this;exact this
def one_split{P Y Q L:List Ct}{x:Ct}{b:Nat}(hL:L=P++([x]++(Y++Q)))(ha:a=P.length)(hm:m=a+1)(hb:b=m+Y.length)(h1:m<=i)(h2:i<=b)(hY:SortedC Y)
  (hA:m<i->cmpC (L.getD (i-1) Ct.zero) x<0) (hB:i<b->¬cmpC (L.getD i Ct.zero) x<0) :
  ∃Y1 Y2,Y=Y1++Y2/\i=m+Y1.length/\Af cmpC ([x]++Y) (Y1++x::Y2):=by
 have⟨Y1,Y2,hS,d⟩:=cut_at Y (i-m) (by omega);have lY:Y.length=Y1.length+Y2.length:=by rw[hS,AA]
 have hf:∀y u,Y2=y::u->cmpC x y<=0:=λy u e=>by
  have l2:Y2.length=u.length+1:=by rw[e,AJ]
  have:=hB (by omega);rw[getD_of (L:=L) (P:=P++([x]++Y1)) (Q:=u++Q) (x:=y) (by rw[hL,hS,e];simp) (by simp only[AA,AO];omega)]at this;rw[cmpC_tot.neg];omega
 refine⟨Y1,Y2,hS,by omega,?_⟩;rw[hS]at hY;have c:SortedC (x::Y2):=BZ.2 ⟨λz hz=>by
  cases h:Y2 with
  | nil=>rw[h]at hz;cases hz
  | cons y u=>exact cmpC_tot.trans _ _ _ (hf y u h) (Mx cmpC_tot (h▸hY.right) z (h▸hz)),hY.right⟩
 have:=Af.merge cmpC_tot (X1:=[]) (X2:=[x]) (Y1:=Y1) (Y2:=Y2) (Z1:=Y1) (Z2:=x::Y2) (by rw[BD];exact BN _ _) hY (λt z y s e=>by cases t<;>cases e) (λt y z s e1 e2=>by
  injection e2 with e2 _;subst e2;have l1:Y1.length=t.length+1:=by rw[e1,AA,AO]
  have:=hA (by omega)
  rwa [getD_of (L:=L) (P:=P++([x]++t)) (Q:=Y2++Q) (x:=y) (by rw[hL,hS,e1];simp) (by simp only[AA,AO];omega)]at this) (by rw[BD];exact Af.self hY.left) (Af.self c)
 rw[hS];exact this
def last_split{P X Q L:List Ct}{y:Ct}(hL:L=P++(X++([y]++Q)))(ha:a=P.length)(hm:m=a+X.length)(h1:a<=i)(h2:i<=m)(hX:SortedC X)
  (hA:a<i->¬cmpC y (L.getD (i-1) Ct.zero)<0) (hB:i<m->cmpC y (L.getD i Ct.zero)<0) :
  ∃X1 X2,X=X1++X2/\i=a+X1.length/\Af cmpC (X++[y]) (X1++y::X2):=by
 have⟨X1,X2,hS,c⟩:=cut_at X (i-a) (by omega);have lX:X.length=X1.length+X2.length:=by rw[hS,AA]
 refine⟨X1,X2,hS,by omega,?_⟩;refine Af.insert cmpC_tot (Af.self (hS▸hX) |> λh=>(hS▸h:Af cmpC X (X1++X2))) (λz hz=>?_) (λz hz=>?_)
 ·cases h:X2 with
  | nil=>rw[h]at hz;cases hz
  | cons x u =>
   have l2:X2.length=u.length+1:=by rw[h,AJ]
   have:=hB (by omega);rw[getD_of (L:=L) (P:=P++X1) (Q:=u++([y]++Q)) (x:=x) (by rw[hL,hS,h];simp) (by simp only[AA];omega)]at this;rw[hS]at hX;exact cmpC_tot.lt_of_lt_le this (Mx cmpC_tot (h▸hX.right) z (h▸hz))
 ·rcases He X1 with e|⟨t,x,e⟩
  ·rw[e]at hz;cases hz
  ·rw[e,EK,EC]at hz;have hz:x=z:=by simpa using hz
   subst hz;have l1:X1.length=t.length+1:=by rw[e,AA,AO]
   have:=hA (by omega)
   rwa [getD_of (L:=L) (P:=P++t) (Q:=X2++([y]++Q)) (x:=x) (by rw[hL,hS,e];simp) (by simp only[AA];omega)]at this
end Go.Proofs.YtdgbkpoickbidaaGreatDoor
