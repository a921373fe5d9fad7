/- Parts of the proof, put together. Conditions: each theorem states its own. -/
import Derived.Test.YtdgbkpoickbidaaGreatDoorHd3
import Derived.Deep.LoopGhost
import Derived.Lib.SliceRun
set_option maxRecDepth 100000
set_option maxHeartbeats 4000000
open Go.RowKit
namespace Go.Proofs.YtdgbkpoickbidaaGreatDoor
structure Ud where
 A:Option Addr
 c:Nat
 l:List Dat
 t:Tm
 d:Int
def Ud.zero:Ud:=⟨none,0,[],Tm.zero,0⟩
instance:Inhabited Ud:=⟨Ud.zero⟩
abbrev UK:=List Dat×TV
abbrev UV:=UK×Int
def Ud.k(x:Ud):UK:=(x.l,x.t.v)
def Ud.uv(x:Ud):UV:=(x.k,x.d)
def Hp(x y:UK):Int:=if As x.1 y.1=0 then Cp x.2 y.2 else As x.1 y.1
theorem bG:Bs Cp:=⟨fun x y=>by rw[Gd y x],fun x y z=>Nn x y z⟩
theorem Ti:Bs As:=⟨Ll,Kh⟩
theorem Jo:Bs Hp:=by
 refine⟨fun x y=>?_,fun x y z h k=>?_⟩
 ·unfold Hp;have h:=Ll x.1 y.1;by_cases q:As x.1 y.1=0
  ·rw[if_pos q,if_pos (by omega)];exact bG.neg _ _
  ·rw[if_neg q,if_neg (by omega)];exact h
 ·unfold Hp at h k ⊢;by_cases q1:As x.1 y.1=0
  ·rw[if_pos q1]at h;by_cases q2:As y.1 z.1=0
   ·rw[if_pos q2]at k;rw[if_pos (Ti.eq_trans q1 q2)];exact bG.trans _ _ _ h k
   ·rw[if_neg q2]at k;have:=Ti.lt_of_le_lt (show As x.1 y.1<=0 by omega) (show As y.1 z.1<0 by omega);rw[if_neg (by omega)];omega
  ·rw[if_neg q1]at h;have hyz:As y.1 z.1<=0:=by
    by_cases q2:As y.1 z.1=0
    ·omega
    ·rw[if_neg q2]at k;exact k
   have:=Ti.lt_of_lt_le (show As x.1 y.1<0 by omega) hyz;rw[if_neg (by omega)];omega
def zN(x y:Ud):Int:=Hp x.k y.k
theorem qJ:Bs zN:=⟨fun x y=>Jo.neg _ _,fun x y z=>Jo.trans _ _ _⟩
def udC(x:Ud):List Value:=[.slice x.A x.l.length x.c,.int .u64 x.t.e,.slice x.t.A x.t.l.length x.t.c,.int .i64 x.d]
def udV(x:Ud):Value:=.agg #[.slice x.A x.l.length x.c,.int .u64 x.t.e,.slice x.t.A x.t.l.length x.t.c,.int .i64 x.d]
def Ah(L:List Ud):List Value:=L.flatMap udC
theorem Cw(L:List Ud):(Ah L).length=L.length*4:=by
 unfold Ah;induction L with
 | nil=>rfl
 | cons d l ih=>rw[BM,AA,ih,AI,show(udC d).length=4 from rfl];omega
theorem Eg:∀(L:List Ud) (i j:Nat),i<L.length->j<4->(Ah L)[i*4+j]?=(udC (L.getD i Ud.zero))[j]?
 | [],i,j,h,_=>absurd h (DQ _)
 | d::l,0,j,_,hj=>by
  unfold Ah;rw[BM,FL,BR,BI (by rw[show(udC d).length=4 from rfl];exact hj)];rfl
 | d::l,i+1,j,h,hj=>by
  unfold Ah;rw[BM,BD (by rw[show(udC d).length=4 from rfl];omega),show(i+1)*4+j-(udC d).length=i*4+j by rw[show(udC d).length=4 from rfl];omega];exact Eg l i j (EC h) hj
theorem Bb(L M:List Ud):Ah (L++M)=Ah L++Ah M:=CS
theorem Ca(L:List Ud):∀u∈Ah L,u.oneCell'=true:=by
 intro u hu;obtain⟨d,_,h⟩:=DH.1 hu;simp only[udC,AZ,CU,or_false]at h;rcases h with rfl|rfl|rfl|rfl<;>rfl
theorem kU(L:List Ud)(k:Nat):(Ah L).take (k*4)=Ah (L.take k):=by
 induction L generalizing k with
 | nil=>simp[Ah]
 | cons x L ih =>
  cases k with
  | zero=>simp[Ah]
  | succ k =>
   show(udC x++Ah L).take _=udC x++Ah (L.take k);rw[GV,show(udC x).length=4 from rfl,show(k+1)*4-4=k*4 by omega,ih,AT (by show 4<=_;omega)]
theorem kV(L:List Ud)(k:Nat):(Ah L).drop (k*4)=Ah (L.drop k):=by
 induction L generalizing k with
 | nil=>simp[Ah]
 | cons x L ih =>
  cases k with
  | zero=>simp[Ah]
  | succ k =>
   show(udC x++Ah L).drop _=Ah (L.drop k);rw[GX,show(udC x).length=4 from rfl,show(k+1)*4-4=k*4 by omega,ih,DN (by show 4<=_;omega),BC]
theorem bB:∀(L:List Ud) (i:Nat) (x:Ud),((((Ah L).set (i*4) (.slice x.A x.l.length x.c)).set (i*4+1) (.int .u64 x.t.e)).set (i*4+2) (.slice x.t.A x.t.l.length x.t.c)).set (i*4+3) (.int .i64 x.d)=Ah (L.set i x)
 | [],i,x=>rfl
 | d::l,0,x=>rfl
 | d::l,i+1,x=>by
  have ih:=bB l i x;show((((udC d++Ah l).set ((i+1)*4) _).set ((i+1)*4+1) _).set ((i+1)*4+2) _).set ((i+1)*4+3) _=udC d++Ah (l.set i x);rw[<-ih,CG _ _ (by show 4<=_;omega),CG _ _ (by show 4<=_;omega),CG _ _ (by show 4<=_;omega),CG _ _ (by show 4<=_;omega),show(i+1)*4-(udC d).length=i*4 by show _-4=_;omega,
   show(i+1)*4+1-(udC d).length=i*4+1 by show _-4=_;omega,show(i+1)*4+2-(udC d).length=i*4+2 by show _-4=_;omega,show(i+1)*4+3-(udC d).length=i*4+3 by show _-4=_;omega]
theorem Aw:Gj Tryz.prog 22 95 4 64 (.agg #[.slice none 0 0,.int .u64 0,.slice none 0 0,.int .i64 0]):=⟨by kernel_rfl,by kernel_rfl,rfl,by decide⟩
structure UdR (w:World) (x:Ud):Prop where
 r:Rw w x.A x.c x.l
 t:Sl w 1 x.t.A x.t.l.length x.t.c (wds x.t.l)
theorem UdR.ext{w w':World}{x:Ud}(h:UdR w x)(y:Ext w w'):UdR w' x:=⟨h.r.ext y,h.t.ext y⟩
structure Uin (w:World) (A:Option Addr) (c:Nat) (L:List Ud):Prop where
 sl:Sl w 4 A L.length c (Ah L)
 ls:∀x∈L,UdR w x
theorem Uin.ext{w w':World}{A:Option Addr}{c:Nat}{L:List Ud}(h:Uin w A c L)(x:Ext w w'):Uin w' A c L:=⟨h.sl.ext x,fun y hy=>(h.ls y hy).ext x⟩
theorem Uin.nil(w:World):Uin w none 0 []:=⟨Sl.nil w 4,fun x hx=>(nomatch hx)⟩
theorem Ar{L:List Ud}{i:Nat}(h:i<L.length):L.getD i Ud.zero∈L:=by
 rw[AB,AC h];exact BP h
theorem Uin.at{w:World}{A:Option Addr}{c:Nat}{L:List Ud}(h:Uin w A c L){i:Nat}(hi:i<L.length):∃ad,A=some ad/\w.cell? (ad.add (i*4))=some (.slice (L.getD i Ud.zero).A (L.getD i Ud.zero).l.length (L.getD i Ud.zero).c) /\
  w.cell? ⟨(ad.add (i*4)).block,(ad.add (i*4)).off+1,none⟩=some (.int .u64 (L.getD i Ud.zero).t.e)/\w.cell? ⟨(ad.add (i*4)).block,(ad.add (i*4)).off+2,none⟩=some (.slice (L.getD i Ud.zero).t.A (L.getD i Ud.zero).t.l.length (L.getD i Ud.zero).t.c) /\
  w.cell? ⟨(ad.add (i*4)).block,(ad.add (i*4)).off+3,none⟩=some (.int .i64 (L.getD i Ud.zero).d):=
 Iv h.sl hi (show udC (L.getD i Ud.zero)=[.slice (L.getD i Ud.zero).A (L.getD i Ud.zero).l.length (L.getD i Ud.zero).c,.int .u64 (L.getD i Ud.zero).t.e,.slice (L.getD i Ud.zero).t.A (L.getD i Ud.zero).t.l.length (L.getD i Ud.zero).t.c,.int .i64 (L.getD i Ud.zero).d]from rfl) (fun q hq=>Eg L i q hi hq)
theorem Ig{L:List Ud}{i:Nat}(h:i<L.length):L.take (i+1)=L.take i++[L.getD i Ud.zero]:=by
 rw[BQ h,AB,AC h];rfl
theorem Wf{L:List Ud}{i:Nat}(h:i<L.length):L.drop i=L.getD i Ud.zero::L.drop (i+1):=by
 rw[BY h,AB,AC h];rfl
end Go.Proofs.YtdgbkpoickbidaaGreatDoor
namespace Go.Proofs.YtdgbkpoickbidaaGreatDoor.UdS
def cmpC(x y:Ud):Int:=zN x y
theorem cmpC_tot:Bs cmpC:=qJ
def Rws(w:World)(g:Nat)(L:List Ud):Prop:=∀x∈L,UdR w x/\(0<x.l.length->∀ad,x.A=some ad->ad.block≠g)/\(0<x.t.l.length->∀ad,x.t.A=some ad->ad.block≠g)
def Arr(w:World)(B g c:Nat)(L:List Ud):Prop:=Own w B 95 4 (some ⟨g,0,none⟩) L.length c (Ah L)/\0<c
abbrev put4(w:World)(g i:Nat)(x:Ud)(n m:Nat):World:=(((w.setCell ⟨g,i*4,none⟩ (.slice x.A n x.c)).setCell ⟨g,i*4+1,none⟩ (.int .u64 x.t.e)).setCell ⟨g,i*4+2,none⟩ (.slice x.t.A m x.t.c)).setCell ⟨g,i*4+3,none⟩ (.int .i64 x.d)
section
variable{w w':World}{B g c:Nat}{L:List Ud}
theorem Arr.ext(h:Arr w B g c L)(x:Ext w w'):Arr w' B g c L:=⟨h.1.ext x,h.2⟩
theorem Rws.ext(h:Rws w g L)(x:Ext w w'):Rws w' g L:=fun y hy=>⟨(h y hy).1.ext x,(h y hy).2⟩
theorem pA{A:Option Addr}{n m:Nat}{size:Nat}{xs:List Value}(h:Sl w size A n m xs)(hx:w.grownBy w' (some g))(ha:0<n->∀ad,A=some ad->ad.block≠g):Sl w' size A n m xs :=
 ⟨h.1,h.2.1,h.2.2.1,h.2.2.2.1,fun hn=>by
  obtain⟨ad,e,hc⟩:=h.2.2.2.2 hn;exact⟨ad,e,fun j u hu=>hx.cell (hc j u hu) (by rw[De];intro q;injection q with q;exact ha hn ad e q)⟩⟩
theorem Rws.upd(h:Rws w g L)(hx:w.grownBy w' (some g)):Rws w' g L:=fun y hy=>⟨⟨pA (h y hy).1.r hx (h y hy).2.1,pA (h y hy).1.t hx (h y hy).2.2⟩,(h y hy).2⟩
theorem bH{A:Option Addr}{n m:Nat}{size:Nat}{xs:List Value}(h:Sl w size A n m xs)(hs:0<size)(hn:0<n):∀ad,A=some ad->ad.block<w.heap.size:=fun ad e=>by
 obtain⟨ad',e',hc⟩:=h.2.2.2.2 hn;rw[e]at e';injection e' with e';subst e';have hl:0<xs.length:=by rw[h.1];exact Nat.mul_pos hn hs
 have:=EZ w _ (hc 0 _ (AC hl))
 rwa [De]at this
theorem Rws.of{w0:World}(h:∀x∈L,UdR w0 x)(x:Ext w0 w)(hg:w0.heap.size<=g):Rws w g L:=fun y hy =>
 ⟨(h y hy).ext x,fun hn ad e=>by have:=bH (h y hy).r (by decide) hn ad e;omega,fun hn ad e=>by have:=bH (h y hy).t (by decide) hn ad e;omega⟩
theorem Rws.sub{M:List Ud}(h:Rws w g L)(hs:∀x∈M,x∈L):Rws w g M:=fun x hx=>h x (hs x hx)
theorem Arr.le(h:Arr w B g c L):L.length<=9223372036854775807:=by have:=h.1.le;omega
theorem Arr.at(h:Arr w B g c L){i:Nat}(hi:i<L.length):w.cell? ⟨g,i*4,none⟩=some (.slice (L.getD i Ud.zero).A (L.getD i Ud.zero).l.length (L.getD i Ud.zero).c)/\w.cell? ⟨g,i*4+1,none⟩=some (.int .u64 (L.getD i Ud.zero).t.e) /\
  w.cell? ⟨g,i*4+2,none⟩=some (.slice (L.getD i Ud.zero).t.A (L.getD i Ud.zero).t.l.length (L.getD i Ud.zero).t.c)/\w.cell? ⟨g,i*4+3,none⟩=some (.int .i64 (L.getD i Ud.zero).d):=by
 obtain⟨g',e,_,_,_,hc,_⟩:=h.1.form (by omega);cases e;exact⟨hc _ _ (by rw[<-DV (i*4),Eg L i 0 hi (by omega)];rfl),hc _ _ (by rw[Eg L i 1 hi (by omega)];rfl),hc _ _ (by rw[Eg L i 2 hi (by omega)];rfl),hc _ _ (by rw[Eg L i 3 hi (by omega)];rfl)⟩
theorem Arr.free(h:Arr w B g c L)(j:Nat):w.frozen? ⟨g,j,none⟩=false:=by
 rcases h.1.2 with ⟨h1,h2⟩|⟨g',cur,e,hb,hg,_⟩
 ·have:=h.2;omega
 ·cases e;simp[World.frozen?,hg]
theorem Arr.set(h:Arr w B g c L)(i:Nat)(x:Ud):Arr (put4 w g i x x.l.length x.t.l.length) B g c (L.set i x):=by
 have:=(((h.1.put (i*4) (.slice x.A x.l.length x.c)).put (i*4+1) (.int .u64 x.t.e)).put (i*4+2) (.slice x.t.A x.t.l.length x.t.c)).put (i*4+3) (.int .i64 x.d);rw[bB]at this;refine⟨?_,h.2⟩;rw[DY];exact this
theorem Si(w:World)(g i:Nat)(x:Ud)(n m:Nat):w.grownBy (put4 w g i x n m) (some g):=(((Cn w g _ _).trans (Cn _ g _ _)).trans (Cn _ g _ _)).trans (Cn _ g _ _)
theorem upd_swap{w:World}{g i j:Nat}{x y:Ud}{nx ny tx ty:Nat}:w.grownBy (put4 (put4 w g i y ny ty) g j x nx tx) (some g):=(Si _ _ _ _ _ _).trans (Si _ _ _ _ _ _)
end
end Go.Proofs.YtdgbkpoickbidaaGreatDoor.UdS
namespace Go.Proofs.YtdgbkpoickbidaaGreatDoor
theorem Own.clip{w:World}{B s n c k:Nat}{e:TypeId}{A:Option Addr}{xs:List Value}(h:Own w B e s A n c xs)(h1:n<=k)(h2:k<=c):Own w B e s A n k xs:=by
 refine⟨h.1,?_⟩;rcases h.2 with ⟨e1,e2⟩|⟨g,cur,rfl,hb,hg,hnc,hcm,hcs,ht⟩
 ·exact .inl ⟨by omega,e2⟩
 ·exact .inr ⟨g,cur,rfl,hb,hg,h1,AQ h2 hcm,AQ (CT _ h2) hcs,ht⟩
theorem Cd{w:World}{B B' s s' n n' c c':Nat}{e e':TypeId}{A A':Option Addr}{xs ys:List Value}(h:Own w B e s A n c xs)(k:Own w B' e' s' A' n' c' ys)(he:e≠e'){q:Nat}(h1:blk A c=some q):blk A' c'≠some q:=by
 intro h2;rcases h.2 with ⟨rfl,_⟩|⟨g,cur,rfl,_,hg,_⟩
 ·rw[Oq]at h1;cases h1
 ·rcases k.2 with ⟨rfl,_⟩|⟨g',cur',rfl,_,hg',_⟩
  ·rw[Oq]at h2;cases h2
  ·cases c with
   | zero=>cases h1
   | succ c =>
    cases c' with
    | zero=>cases h2
    | succ c' =>
     injection h1 with h1;injection h2 with h2;simp only at h1 h2;subst h1 h2;rw[hg]at hg';injection hg' with q;injection q with _ q;exact he q
structure Cl (w:World) (B:Nat) (A:Option Addr) (c:Nat) (L:List Ud):Prop where
 own:Own w B 95 4 A L.length c (Ah L)
 rw:∀x∈L,Own w B 204 4 x.A x.l.length x.c (Dc x.l)
 ts:∀x∈L,Own w B 180 1 x.t.A x.t.l.length x.t.c (wds x.t.l)
 ra:L.Pairwise fun x y=>∀k,blk x.A x.c=some k->blk y.A y.c≠some k
 ta:L.Pairwise fun x y=>∀k,blk x.t.A x.t.c=some k->blk y.t.A y.t.c≠some k
theorem Ed:(204:TypeId)≠95:=by decide
theorem Cx:(180:TypeId)≠95:=by decide
theorem Pm:(204:TypeId)≠180:=by decide
section
variable{w w':World}{B c:Nat}{A:Option Addr}{L M:List Ud}
theorem Cl.ext(h:Cl w B A c L)(x:Ext w w'):Cl w' B A c L:=⟨h.own.ext x,fun y hy=>(h.rw y hy).ext x,fun y hy=>(h.ts y hy).ext x,h.ra,h.ta⟩
theorem Cl.mono(h:Cl w B A c L){B':Nat}(hb:B'<=B):Cl w B' A c L:=⟨h.own.mono hb,fun y hy=>(h.rw y hy).mono hb,fun y hy=>(h.ts y hy).mono hb,h.ra,h.ta⟩
theorem Cl.uin(h:Cl w B A c L):Uin w A c L:=⟨h.own.sl,fun x hx=>⟨(h.rw x hx).sl,(h.ts x hx).sl⟩⟩
theorem Cl.nil(w:World)(B:Nat):Cl w B none 0 []:=⟨Own.nil _ _ _ _,fun x hx=>(nomatch hx),fun x hx=>(nomatch hx),List.Pairwise.nil,List.Pairwise.nil⟩
theorem Cl.clip(h:Cl w B A c L):Cl w B A L.length L:=⟨h.own.clip (AD _) h.own.le.1,h.rw,h.ts,h.ra,h.ta⟩
theorem Cl.upd{S:Nat->Prop}(h:Cl w B A c L)(x:Upd S w w')(hn:∀k,B<=k->k<w.heap.size->¬S k):Cl w' B A c L :=
 ⟨h.own.upd x (fun k hk=>hn k (h.own.lt k hk).1 (h.own.lt k hk).2),fun y hy=>(h.rw y hy).upd x (fun k hk=>hn k ((h.rw y hy).lt k hk).1 ((h.rw y hy).lt k hk).2),fun y hy=>(h.ts y hy).upd x (fun k hk=>hn k ((h.ts y hy).lt k hk).1 ((h.ts y hy).lt k hk).2),h.ra,h.ta⟩
theorem Cl.push{w2 w3:World}{A3:Option Addr}{c3:Nat}(h:Cl w B A c M)(e2:Ext w w2){x:Ud}(orr:Own w2 w.heap.size 204 4 x.A x.l.length x.c (Dc x.l))(ot:Own w2 w.heap.size 180 1 x.t.A x.t.l.length x.t.c (wds x.t.l))(hB:B<=w.heap.size)(ob:Obj)
  (o3:Own w3 B 95 4 A3 (M.length+1) c3 (Ah M++udC x)) (g3:(w2.alloc ob).grownBy w3 (blk A c)):Cl w3 B A3 c3 (M++[x]):=by
 have kept:∀{k0 s:Nat} {e:TypeId} {A':Option Addr} {n' c':Nat} {xs:List Value},e≠95->Own w2 k0 e s A' n' c' xs->Own w3 k0 e s A' n' c' xs:=fun {k0 s e A' n' c' xs} he o=>(o.alloc ob).kept g3 (by
  cases hb:blk A' c' with
  | none=>exact .inl rfl
  | some k=>exact .inr (fun q=>Cd o (h.own.ext e2) he hb q.symm))
 refine⟨by rw[Bb,AA];show Own w3 B _ 4 A3 (M.length+1) c3 (Ah M++Ah [x]);rw[show Ah [x]=udC x by simp[Ah]];exact o3,fun y hy=>?_,fun y hy=>?_,?_,?_⟩
 ·rcases AR.1 hy with hy|hy
  ·exact kept Ed ((h.rw y hy).ext e2)
  ·rw[AH]at hy;subst hy;exact(kept Ed orr).mono hB
 ·rcases AR.1 hy with hy|hy
  ·exact kept Cx ((h.ts y hy).ext e2)
  ·rw[AH]at hy;subst hy;exact(kept Cx ot).mono hB
 ·refine BG.2 ⟨h.ra,BL _ _,fun y hy z hz k h1 h2=>?_⟩;rw[AH]at hz;subst hz;have:=((h.rw y hy).lt k h1).2;have:=(orr.lt k h2).1;omega
 ·refine BG.2 ⟨h.ta,BL _ _,fun y hy z hz k h1 h2=>?_⟩;rw[AH]at hz;subst hz;have:=((h.ts y hy).lt k h1).2;have:=(ot.lt k h2).1;omega
theorem Cl.bump{g:Nat}{y:Ud}(h:Cl w B (some ⟨g,0,none⟩) c (M++[y]))(s:Int):Cl (w.setCell ⟨g,M.length*4+3,none⟩ (.int .i64 s)) B (some ⟨g,0,none⟩) c (M++[⟨y.A,y.c,y.l,y.t,s⟩]):=by
 have hc:0<c:=by have:=h.own.le.1;rw[AA]at this;exact BF (by simp) this
 obtain⟨c,rfl⟩:∃k,c=k+1:=⟨c-1,by omega⟩;have far:∀{k0 s':Nat} {e:TypeId} {A':Option Addr} {n' c':Nat} {xs:List Value},e≠95->Own w k0 e s' A' n' c' xs->Own (w.setCell ⟨g,M.length*4+3,none⟩ (.int .i64 s)) k0 e s' A' n' c' xs:=fun he o=>o.far (p:=⟨g,M.length*4+3,none⟩) (fun q=>Cd o h.own he q rfl) _;have pick:∀z∈M++[(⟨y.A,y.c,y.l,y.t,s⟩:Ud)],∃x∈M++[y],x.A=z.A/\x.c=z.c/\x.l=z.l/\x.t=z.t:=fun z hz=>by
  rcases AR.1 hz with hz|hz
  ·exact⟨z,BH _ hz,rfl,rfl,rfl,rfl⟩
  ·rw[AH]at hz;subst hz;exact⟨y,by simp,rfl,rfl,rfl,rfl⟩
 refine⟨?_,fun z hz=>?_,fun z hz=>?_,?_,?_⟩
 ·have:=h.own.put (M.length*4+3) (.int .i64 s);have e:(Ah (M++[y])).set (M.length*4+3) (.int .i64 s)=Ah (M++[(⟨y.A,y.c,y.l,y.t,s⟩:Ud)]):=by
   rw[Bb,Bb,CG _ _ (by rw[Cw];omega),Cw,CR];rfl
  rw[e]at this;rw[AA]at this ⊢;exact this
 ·obtain⟨x,hx,e1,e2,e3,e4⟩:=pick z hz;have:=far Ed (h.rw x hx)
  rwa [e1,e2,e3]at this
 ·obtain⟨x,hx,e1,e2,e3,e4⟩:=pick z hz;have:=far Cx (h.ts x hx)
  rwa [e4]at this
 ·have:=BG.1 h.ra;exact BG.2 ⟨this.1,BL _ _,fun a ha b hb=>by rw[AH]at hb;subst hb;exact this.2.2 a ha y (by simp)⟩
 ·have:=BG.1 h.ta;exact BG.2 ⟨this.1,BL _ _,fun a ha b hb=>by rw[AH]at hb;subst hb;exact this.2.2 a ha y (by simp)⟩
theorem Cl.del{g:Nat}(h:Cl w B (some ⟨g,0,none⟩) c M)(p:Ud->Bool)(ar:UdS.Arr w' B g c (M.filter p))(up:w.grownBy w' (some g)):Cl w' B (some ⟨g,0,none⟩) c (M.filter p):=by
 have hc:=ar.2;obtain⟨c,rfl⟩:∃k,c=k+1:=⟨c-1,by omega⟩;have kept:∀{k0 s:Nat} {e:TypeId} {A':Option Addr} {n' c':Nat} {xs:List Value},e≠95->Own w k0 e s A' n' c' xs->Own w' k0 e s A' n' c' xs:=fun {k0 s e A' n' c' xs} he o=>o.kept up (by
  cases hb:blk A' c' with
  | none=>exact .inl rfl
  | some k=>exact .inr (fun q=>Cd o h.own he hb (by rw[q];rfl)))
 exact⟨ar.1,fun x hx=>kept Ed (h.rw x (BV.1 hx).1),fun x hx=>kept Cx (h.ts x (BV.1 hx).1),h.ra.sublist GM,h.ta.sublist GM⟩
end
theorem Ex(A1 A2:Option Addr)(c1 c2 n1 n2:Nat)(k1 k2 v:Int)(l m:List Dat)(w:World)(hv:Hid (As l m=v))(e1:Hid (n1=l.length))(e2:Hid (n2=m.length))(h1:Hid (Rw w A1 c1 l))(h2:Hid (Rw w A2 c2 m)) :
  Calls Tryz.prog 188 #[.agg #[.slice A1 n1 c1,.int .i64 k1],.agg #[.slice A2 n2 c2,.int .i64 k2]] w fun e w'=>e=.returned (.int .i64 v)/\Ext w w':=by
 have X:Ext w ((w.alloc (.cells #[.slice A1 n1 c1,.int .i64 k1] 154)).alloc (.cells #[.slice A2 n2 c2,.int .i64 k2] 154)):=((Ext.refl w).alloc _).alloc _;have b0:Bk ((w.alloc (.cells #[.slice A1 n1 c1,.int .i64 k1] 154)).alloc (.cells #[.slice A2 n2 c2,.int .i64 k2] 154)) w.heap.size 154 #[.slice A1 n1 c1,.int .i64 k1]:=(Bk.new _ _ _).alloc _;have p0:=b0.cell 0;go_enter Tryz.func188,Tryz.ntmps188;go_wp2_with (go_at_call 164;refine(Fj A1 A2 c1 c2 n1 n2 l m _ e1.out e2.out (h1.out.ext X) (h2.out.ext X)).mono ?_;rintro e w1 ⟨rfl,x1⟩)
 go_ret;exact⟨(by rw[hv.out];rfl),X.trans x1⟩
theorem getD_mid(P:List Ct)(x:Ct)(Q:List Ct):(P++x::Q).getD P.length Ct.zero=x:=by
 rw[AB,BD (AD _),DG];rfl
theorem set_mid(P:List Ct)(x y:Ct)(Q:List Ct):(P++x::Q).set P.length y=P++y::Q:=by
 rw[CG _ _ (AD _),DG];rfl
theorem Arr.two{w:World}{B g c q:Nat}{P s2 Q:List Ct}{x y:Ct}(h:Arr w B g c (P++y::x::Q))(hq:q=P.length) :
  (w.cell? ⟨g,q*2,none⟩=some (.slice y.A y.l.length y.c)/\w.cell? ⟨g,q*2+1,none⟩=some (.int .i64 y.k))/\w.cell? ⟨g,(q+1)*2,none⟩=some (.slice x.A x.l.length x.c)/\w.cell? ⟨g,(q+1)*2+1,none⟩=some (.int .i64 x.k):=by
 subst hq;have h1:=h.at (i:=P.length) (by simp);have h2:=h.at (i:=P.length+1) (by simp);rw[getD_mid]at h1;have e:(P++y::x::Q).getD (P.length+1) Ct.zero=x:=by
  have:=getD_mid (P++[y]) x Q
  rwa [AJ,AA]at this
 rw[e]at h2;exact⟨h1,h2⟩
theorem Arr.swap{w:World}{B g c q:Nat}{P Q:List Ct}{x y:Ct}(h:Arr w B g c (P++y::x::Q))(hq:q=P.length) :
  Arr ((((w.setCell ⟨g,(q+1)*2,none⟩ (.slice y.A y.l.length y.c)).setCell ⟨g,(q+1)*2+1,none⟩ (.int .i64 y.k)).setCell ⟨g,q*2,none⟩ (.slice x.A x.l.length x.c)).setCell ⟨g,q*2+1,none⟩ (.int .i64 x.k)) B g c (P++x::y::Q):=by
 subst hq;have h1:=(h.set (P.length+1) y).set P.length x;have e:((P++y::x::Q).set (P.length+1) y).set P.length x=P++x::y::Q:=by
  have e1:(P++y::x::Q).set (P.length+1) y=P++y::y::Q:=by
   have:=set_mid (P++[y]) x y Q
   rwa [AJ,AA,AJ]at this
  rw[e1,set_mid]
 rwa [e]at h1
theorem upd_swap(w:World)(g a b c d:Nat)(u1 u2 u3 u4:Value):w.grownBy ((((w.setCell ⟨g,a,none⟩ u1).setCell ⟨g,b,none⟩ u2).setCell ⟨g,c,none⟩ u3).setCell ⟨g,d,none⟩ u4) (some g):=
 (((Cn w g a u1).trans (Cn _ g b u2)).trans (Cn _ g c u3)).trans (Cn _ g d u4)
def InsIn(B g c a:Nat)(P S T Q D':List Ct)(x:Ct)(w wi:World)(j:Nat)(s1 s2:List Ct):Prop :=
 j=a+s1.length/\D'=s1++s2/\(∀y∈s2,cmpC x y<0)/\Arr wi B g c (P++(s1++x::(s2++(T++Q))))/\w.grownBy wi (some g)/\Rws wi g (x::S)
def InsOut(B g c a:Nat)(P S Q:List Ct)(w wo:World)(i:Nat)(D D' T:List Ct):Prop :=
 S=D++T/\i=a+D.length/\Ae cmpC D D'/\Arr wo B g c (P++(D'++(T++Q)))/\w.grownBy wo (some g)/\Rws wo g S
theorem stable_len{L M:List Ct}(h:Ae cmpC L M):M.length=L.length:=by
 have key:∀(n:Nat) (L M:List Ct),L.length<=n->Ae cmpC L M->M.length=L.length:=by
  intro n;induction n with
  | zero =>
   intro L M hn h;have:L=[]:=AG (by omega);subst this;cases M with
   | nil=>rfl
   | cons y M=>exact absurd ((h.mem cmpC_tot y).1 (BE ..)) CU
  | succ n ih =>
   intro L M hn h;cases M with
   | nil =>
    cases L with
    | nil=>rfl
    | cons y L=>exact absurd ((h.mem cmpC_tot y).2 (BE ..)) CU
   | cons y M =>
    have hy:=(h.mem cmpC_tot y).1 (BE ..);have p1:∀K:List Ct,(Af cmpC y K).length+(K.filter fun z=>!(cmpC y z==0)).length=K.length:=fun K=>by
     unfold Af;rw[<-AA];exact(FX (fun z=>cmpC y z==0) K).length_eq
    have h1:=p1 L;have h2:=p1 (y::M);have h3:(Af cmpC y L).length=(Af cmpC y (y::M)).length:=by rw[h.same y]
    have h4:0<(Af cmpC y L).length:=GD (BV.2 ⟨hy,by rw[beq_iff_eq];exact cmpC_tot.refl y⟩);have h5:=ih (L.filter fun z=>!(cmpC y z==0)) ((y::M).filter fun z=>!(cmpC y z==0)) (by omega) ⟨h.sorted.filter _,fun z=>by
     have q:=h.same z;unfold Af at q ⊢;rw[CW,CW];have e:∀K:List Ct,K.filter (fun a=>(cmpC z a==0) && !(cmpC y a==0))=(K.filter (fun a=>cmpC z a==0)).filter (fun a=>!(cmpC y a==0)):=fun K=>by
      rw[CW]
      congr 1
      funext a;rw[Bool.and_comm]
     rw[e,e,q]⟩
    omega
 exact key L.length L M (AD _) h
def nzC(x:Ct):Bool:=!(x.k==0)
theorem sum2_any(A:Option Addr)(c n:Nat)(k:Int)(v:Bool)(w:World)(hv:Hid ((k==0)=v)) :
  Calls Tryz.prog 190 #[.agg #[.slice A n c,.int .i64 k]] w fun e w'=>e=.returned (.bool v)/\Ext w w':=by
 rw[<-hv.out];clear hv;go_enter Tryz.func190,Tryz.ntmps190;go_wp2;go_ret;exact⟨rfl,(Ext.refl w).alloc _⟩
theorem index_none(B g c n:Nat)(M:List Ct)(w:World)(hn:n=M.length)(h:Arr w B g c M)(hz:∀x∈M,(x.k==0)=false) :
  Calls Tryz.prog 226 #[.slice (some ⟨g,0,none⟩) n c,.func (.func 190) #[] #[]] w fun e w'=>e=.returned (.int .i64 (-1))/\Ext w w':=by
 have hnm:=h.le;rw[<-hn]at hnm;have H:=hid h;have HN:=hid hn;have HZ:=hid hz;clear h hn hz;go_enter Tryz.func226,Tryz.ntmps226;go_wp2
 go_loopw [8] (fun v wr=>∃i:Nat,i<=n/\v=.int .i64 i/\Ext w wr) (fun v _=>n-(intOf v).toNat)
 case atStart=>exact⟨0,AE _,rfl,Ext.refl _⟩
 case round =>
  obtain⟨i,hi,rfl,er⟩:=hrel;by_cases hlt:i<n
  ·have hil:i<M.length:=by rw[<-HN.out];exact hlt
   obtain⟨p0,p1⟩:=(H.out.ext er).at hil;have hk:((M.getD i Ct.zero).k==0)=false:=by
    rw[AB,AC hil];exact HZ.out _ (BP hil)
   obtain⟨x,hx⟩:∃x,M.getD i Ct.zero=x:=⟨_,rfl⟩;rw[hx]at p0 p1 hk;have HK:=hid hk;clear hil hx hk;go_wp2_with (go_at_call 190;refine(sum2_any _ _ _ _ _ _ HK).mono ?_;rintro e w1 ⟨rfl,x1⟩)
   go_roundw
   case rel=>exact⟨i+1,by omega,by go_num,er.trans x1⟩
   case measure=>simp[intOf];omega
  ·go_wp2;go_ret;exact⟨rfl,er⟩
theorem index_some(B g c n q:Nat)(P Q:List Ct)(x:Ct)(w:World)(hn:n=(P++x::Q).length)(hq:q=P.length)(h:Arr w B g c (P++x::Q))(hz:∀x∈P,(x.k==0)=false)(hx:(x.k==0)=true) :
  Calls Tryz.prog 226 #[.slice (some ⟨g,0,none⟩) n c,.func (.func 190) #[] #[]] w fun e w'=>e=.returned (.int .i64 q)/\Ext w w':=by
 have hnm:=h.le;rw[<-hn]at hnm;have hqn:q<n:=by rw[hn,AA,AI];omega
 have H:=hid h;have HQ:=hid hq;have HZ:=hid hz;have HX:=hid hx;clear h hn hz hq hx;go_enter Tryz.func226,Tryz.ntmps226;go_wp2
 go_loopw [8] (fun v wr=>∃i:Nat,i<=q/\v=.int .i64 i/\Ext w wr) (fun v _=>n-(intOf v).toNat)
 case atStart=>exact⟨0,AE _,rfl,Ext.refl _⟩
 case round =>
  obtain⟨i,hi,rfl,er⟩:=hrel;have hlt:i<n:=by omega
  have hil:i<(P++x::Q).length:=by rw[AA,AI,<-HQ.out];omega
  obtain⟨p0,p1⟩:=(H.out.ext er).at hil;by_cases hiq:i<q
  ·have hk:(((P++x::Q).getD i Ct.zero).k==0)=false:=by
    have hp:i<P.length:=by rw[<-HQ.out];exact hiq
    rw[AB,BI hp,AC hp];exact HZ.out _ (BP hp)
   obtain⟨y,hy⟩:∃y,(P++x::Q).getD i Ct.zero=y:=⟨_,rfl⟩;rw[hy]at p0 p1 hk;have HK:=hid hk;clear hil hy hk;go_wp2_with (go_at_call 190;refine(sum2_any _ _ _ _ _ _ HK).mono ?_;rintro e w1 ⟨rfl,x1⟩)
   go_roundw
   case rel=>exact⟨i+1,by omega,by go_num,er.trans x1⟩
   case measure=>simp[intOf];omega
  ·have hiq2:i=q:=by omega
   subst hiq2;have e:(P++x::Q).getD i Ct.zero=x:=by rw[HQ.out];exact getD_mid P x Q
   rw[e]at p0 p1;clear hil e;go_wp2_with (go_at_call 190;refine(sum2_any _ _ _ _ _ _ HX).mono ?_;rintro e w1 ⟨rfl,x1⟩)
   go_ret;exact⟨rfl,er.trans x1⟩
theorem own_set_past{w:World}{B g n c k:Nat}{xs:List Value}(h:Own w B 154 2 (some ⟨g,0,none⟩) n c xs)(hk:xs.length<=k)(u:Value):Own (w.setCell ⟨g,k,none⟩ u) B 154 2 (some ⟨g,0,none⟩) n c xs:=by
 have:=h.put k u
 rwa [FW hk]at this
theorem own_sets_past{B g n c:Nat}{xs:List Value}:∀(vs:List Value) (w:World) (k:Nat),Own w B 154 2 (some ⟨g,0,none⟩) n c xs->xs.length<=k->Own (w.setCells g k vs) B 154 2 (some ⟨g,0,none⟩) n c xs
 | [],_,_,h,_=>h
 | v::vs,w,k,h,hk=>own_sets_past vs _ (k+1) (own_set_past h hk v) (by omega)
theorem upd_sets(g:Nat):∀(vs:List Value) (w:World) (k:Nat),w.grownBy (w.setCells g k vs) (some g)
 | [],w,_=>CH w _
 | v::vs,w,k=>(Cn w g k v).trans (upd_sets g vs _ (k+1))
theorem Arr.prefix_{w:World}{B g c:Nat}{K X:List Ct}(h:Arr w B g c (K++X)):Arr w B g c K:=by
 refine⟨⟨Tg K,?_⟩,h.2⟩;rcases h.1.2 with ⟨h1,h2⟩|⟨g',cur,e,hb,hg,hnc,hcm,hcs,htake⟩
 ·exact .inl ⟨h1,by rw[AA]at h2;omega⟩
 ·refine .inr ⟨g',cur,e,hb,hg,by rw[AA]at hnc;omega,hcm,hcs,?_⟩;have:(cur.toList.take ((K++X).length*2)).take (K.length*2)=(Bg (K++X)).take (K.length*2):=by rw[htake]
  rw[List.take_take,Nat.min_eq_left (by rw[AA];omega),Fp]at this;rw[this,<-Tg K,DS]
theorem Arr.cells_past{w:World}{B g c:Nat}{K:List Ct}(h:Arr w B g c K){j:Nat}(hj:j<c*2):(w.cell? ⟨g,j,none⟩).isSome=true:=by
 rcases h.1.2 with ⟨h1,_⟩|⟨g',cur,e,hb,hg,hnc,hcm,hcs,htake⟩
 ·have:=h.2;omega
 ·cases e;rw[cell_of_row w g j cur _ (0,0) hg,ET (BF hj hcs)];rfl
theorem gN{P:Program}(w:World)(t e ty:TypeId)(z0 z1:Value)(ht:P.underlying t=some (.slice e))(hv:∀w,(zeroValue e).run P w=.ok (.agg #[z0,z1]) w)(hz0:z0.oneCell'=true)(hz1:z1.oneCell'=true)(hzc:(Value.agg #[z0,z1]).cells=#[z0,z1])(b o n c:Nat)(hn:0<n)
  (hc:∀j,j<n*2->(w.cell? ⟨b,o+j,none⟩).isSome=true) (hf:∀j,j<n*2->w.frozen? ⟨b,o+j,none⟩=false) :
  (Builtin.clear_ #[t] ty #[.slice (some ⟨b,o,none⟩) n c]).run P w=.ok (.tuple #[]) (w.setCells b o (Builtin.zeroCells #[z0,z1] n).toList):=by
 have hlen:(Builtin.zeroCells #[z0,z1] n).toList.length=n*2:=by
  have:=size_zeroCells #[z0,z1] n;rw[DZ,this];rfl
 have hall:∀v∈(Builtin.zeroCells #[z0,z1] n).toList,v.oneCell'=true:=by
  intro v hv';unfold Builtin.zeroCells at hv';rw[Array.toList_map]at hv';obtain⟨i,_,rfl⟩:=AW.1 hv';show(#[z0,z1][i % 2]!).oneCell'=true;rcases(by omega:i % 2=0\/i % 2=1)with h|h
  ·rw[h];exact hz0
  ·rw[h];exact hz1
 have hst:=run_storeCells_cells (P:=P) b o (Builtin.zeroCells #[z0,z1] n).toList 0 w (by simpa [hlen] using hc) (by simpa [hlen] using hf) hall;simp only[DV]at hst;obtain⟨m,rfl⟩:∃m,n=m+1:=⟨n-1,by omega⟩;simp[Builtin.clear_,run_underlying ht,hv,hzc,hst]
def Deleted(B g c:Nat)(M:List Ct)(w:World)(e:Ending)(w':World):Prop:=∃m,e=.returned (.slice (some ⟨g,0,none⟩) m c)/\m=(M.filter nzC).length/\Arr w' B g c (M.filter nzC)/\w.grownBy w' (some g)
theorem uH(w:World):(zeroValue 154).run Tryz.prog w=.ok (.agg #[.slice none 0 0,.int .i64 0]) w:=by kernel_rfl
def DelIn(B g c:Nat)(M K X R:List Ct)(w wr:World)(j:Nat):Prop:=j=K.length+X.length/\M.filter nzC=K++R.filter nzC/\Arr wr B g c (K++(X++R))/\w.grownBy wr (some g)/\0<X.length
theorem DelIn.mk'{B g c:Nat}{M K X R:List Ct}{w wr wz:World}{j:Nat}(h:DelIn B g c M K X R w wr j)(hz:Ext wr wz):DelIn B g c M K X R w wz j:=⟨h.1,h.2.1,h.2.2.1.ext hz,h.2.2.2.1.trans (Av hz g),h.2.2.2.2⟩
theorem DelIn.skip{B g c:Nat}{M K X R:List Ct}{x:Ct}{w wr wz:World}{j:Nat}(h:DelIn B g c M K X (x::R) w wr j)(hx:nzC x=false)(hz:Ext wr wz):DelIn B g c M K (X++[x]) R w wz (j+1):=by
 obtain⟨h1,h2,h3,h4,h5⟩:=h;refine⟨by rw[AA,AK];omega,by rw[h2,DC (by simp[hx])],?_,h4.trans (Av hz g),by rw[AA];omega⟩;have e:K++(X++[x]++R)=K++(X++x::R):=by simp
 rw[e];exact h3.ext hz
theorem DelIn.keep{B g c i:Nat}{M K X R:List Ct}{x y:Ct}{w wr:World}{j:Nat}(h:DelIn B g c M K (y::X) (x::R) w wr j)(hx:nzC x=true)(hi:i=K.length){n:Nat}(hn:n=x.l.length) :
  DelIn B g c M (K++[x]) (X++[x]) R w ((wr.setCell ⟨g,i*2,none⟩ (.slice x.A n x.c)).setCell ⟨g,i*2+1,none⟩ (.int .i64 x.k)) (j+1):=by
 subst hi hn;obtain⟨h1,h2,h3,h4,h5⟩:=h;refine⟨by simp only[AA,AI,CB]at h1 ⊢;omega,by rw[h2,CY hx];simp,?_,h4.trans ((Cn wr g _ _).trans (Cn _ g _ _)),by rw[AA,AK];omega⟩;have h6:=h3.set K.length x;have e:(K++(y::X++x::R)).set K.length x=K++[x]++(X++[x]++R):=by
  rw[CD,set_mid];simp
 rw[e]at h6;exact h6
theorem deleteFunc_any(B g c n:Nat)(M:List Ct)(w:World)(hn:n=M.length)(h:Arr w B g c M) :
  Calls Tryz.prog 189 #[.slice (some ⟨g,0,none⟩) n c,.func (.func 190) #[] #[]] w (Deleted B g c M w):=by
 by_cases hall:∀x∈M,(x.k==0)=false
 ·have hf:M.filter nzC=M:=FS.2 fun x hx=>by unfold nzC;rw[hall x hx];rfl
  have H:=hid h;have HN:=hid hn;have HF:=hid hf;clear h hn hf;go_enter Tryz.func189,Tryz.ntmps189;go_wp2_with (go_at_call 226;refine(index_none B g c n M _ HN.out H.out hall).mono ?_;rintro e w1 ⟨rfl,x1⟩)
  go_ret;exact⟨n,rfl,by rw[HF.out];exact HN.out,by rw[HF.out];exact H.out.ext x1,Av x1 g⟩
 ·obtain⟨P,x,Q,rfl,hP,hx⟩:∃P x Q,M=P++x::Q/\(∀y∈P,(y.k==0)=false)/\(x.k==0)=true:=by
   clear h hn;induction M with
   | nil=>exact absurd (fun x hx=>(nomatch hx)) hall
   | cons y M ih =>
    by_cases hy:(y.k==0)=true
    ·exact⟨[],y,M,rfl,fun z hz=>(nomatch hz),hy⟩
    ·have hy':(y.k==0)=false:=by simpa using hy
     obtain⟨P,x,Q,e,h1,h2⟩:=ih (fun q=>hall fun z hz=>(AZ.1 hz).elim (fun e=>e▸hy') (q z));exact⟨y::P,x,Q,by rw[e];rfl,fun z hz=>(AZ.1 hz).elim (fun e=>e▸hy') (h1 z),h2⟩
  clear hall;obtain⟨M,hM⟩:∃M,M=P++x::Q:=⟨_,rfl⟩;obtain⟨q,hq⟩:∃q,q=P.length:=⟨_,rfl⟩;have hnm:=h.le;rw[<-hn]at hnm;have hqn:q<n:=by rw[hn,hq,AA,AI];omega
  have hncap:n<=c:=by rw[hn];exact h.1.le.1
  have hc63:c<=9223372036854775807:=h.1.le.2;have hf1:P.filter nzC=P:=FS.2 fun y hy=>by unfold nzC;rw[hP y hy];rfl
  have H:=hid h;have HN:=hid hn;have HQ:=hid hq;have HP:=hid hP;have HX:=hid hx;have HLen:Hid (n=q+1+Q.length):=hid (by rw[hn,hq,AA,AI];omega);have HD:∀w1,Ext w w1->Hid (DelIn B g c M P [x] Q w w1 (q+1)):=fun w1 x1=>hid ⟨by rw[hq];rfl,by rw[hM,DR,hf1,DC (by unfold nzC;rw[hx];decide)],h.ext x1,Av x1 g,Nat.zero_lt_one⟩;have HDD:=hid HD;rw[<-hM];clear h hn hq hP hx hf1 hM HD;go_enter Tryz.func189,Tryz.ntmps189;go_wp2_with (go_at_call 226;refine(index_some B g c n q P Q x _ HN.out HQ.out H.out HP.out HX.out).mono ?_;rintro e w1 ⟨rfl,x1⟩)
  go_loopg [5,6] (n-(q+1)) (fun z u v wr=>∃(i j:Nat) (K X R:List Ct),z=n-j/\j<=n/\i<=j/\u=.int .i64 i/\v=.int .i64 j/\Hid (i=K.length/\n=j+R.length)/\Hid (DelIn B g c M K X R w wr j))
  case atStart=>exact⟨q,q+1,P,[x],Q,rfl,by omega,by omega,rfl,by simp,hid ⟨HQ.out,HLen.out⟩,HDD.out w1 x1⟩
  case round =>
   obtain⟨i,j,K,X,R,rfl,hj,hij,rfl,rfl,HI,HJ⟩:=hrel;obtain⟨wi,hwi⟩:∃wi:World,wi=wr:=⟨_,rfl⟩;rw[<-hwi]at HJ ⊢;clear hwi;by_cases hlt:j<n
   ·obtain⟨y,R,rfl⟩:∃y R',R=y::R':=by
     cases R with
     | nil=>have:=HI.out.2;rw[CB]at this;omega
     | cons y R=>exact⟨y,R,rfl⟩
    obtain⟨x0,X,rfl⟩:∃x0 X',X=x0::X':=by
     cases X with
     | nil=>have:=HJ.out.2.2.2.2;exact absurd this (by decide)
     | cons x0 X=>exact⟨x0,X,rfl⟩
    have hA:=HJ.out.2.2.1;have hjl:j<(K++(x0::X++y::R)).length:=by have:=HJ.out.1;simp only[AA,AI]at this ⊢;omega
    obtain⟨p0,p1⟩:=hA.at hjl;have e:(K++(x0::X++y::R)).getD j Ct.zero=y:=by
     rw[<-AJ,show j=(K++x0::X).length by rw[AA];exact HJ.out.1];exact getD_mid _ y R
    rw[e]at p0 p1;have f0:=hA.free (i*2);have f1:=hA.free (i*2+1);have c0:∃u,wi.cell? ⟨g,i*2,none⟩=some u:=CK.1 (hA.cells_past (by omega));have c1:∃u,wi.cell? ⟨g,i*2+1,none⟩=some u:=CK.1 (hA.cells_past (by omega));obtain⟨u0,c0⟩:=c0;obtain⟨u1,c1⟩:=c1;have HA:=hid hA;obtain⟨ny,hny⟩:∃ny,ny=y.l.length:=⟨_,rfl⟩;rw[<-hny]at p0;have HNY:=hid hny;obtain⟨v,hv⟩:∃v,(y.k==0)=v:=⟨_,rfl⟩;have HV:=hid hv;clear hA hjl e hny hv;cases v
    ·have hx:Hid (nzC y=true):=hid (by unfold nzC;rw[HV.out];rfl);go_wp2_with (go_at_call 190;refine(sum2_any _ _ _ _ _ _ HV).mono ?_;rintro e w2 ⟨rfl,x2⟩;have X2:=((Ext.refl wi).alloc (.cells #[.slice y.A ny y.c,.int .i64 y.k] 154)).trans x2;have B2:=(Bk.new wi 154 #[.slice y.A ny y.c,.int .i64 y.k]).ext x2;have b0:=B2.cell 0;have b1:=B2.cell 1;have HA2:=hid (HA.out.ext X2);have g0:=HA2.out.free (i*2);have g1:=HA2.out.free (i*2+1);have d0:=X2.cell c0;have d1:=X2.cell c1)
     go_roundg (n-(j+1))
     case measure=>omega
     case rel=>exact⟨i+1,j+1,K++[y],X++[y],R,rfl,by omega,by omega,by go_num,by go_num,hid ⟨by rw[AA,AK,<-HI.out.1],by have:=HI.out.2;rw[AI]at this;omega⟩,hid ((DelIn.mk' HJ.out X2).keep hx.out HI.out.1 HNY.out)⟩
    ·have hx:Hid (nzC y=false):=hid (by unfold nzC;rw[HV.out];rfl);go_wp2_with (go_at_call 190;refine(sum2_any _ _ _ _ _ _ HV).mono ?_;rintro e w2 ⟨rfl,x2⟩;have X2:=((Ext.refl wi).alloc (.cells #[.slice y.A ny y.c,.int .i64 y.k] 154)).trans x2)
     go_roundg (n-(j+1))
     case measure=>omega
     case rel=>exact⟨i,j+1,K,x0::X++[y],R,rfl,by omega,by omega,rfl,by go_num,hid ⟨HI.out.1,by have:=HI.out.2;rw[AI]at this;omega⟩,hid (HJ.out.skip hx.out X2)⟩
   ·obtain rfl:j=n:=by omega
    have hR:R=[]:=AG (by have:=HI.out.2;omega);subst hR;have hA:=HJ.out.2.2.1;have hin:i<j:=by have h1:=HJ.out.1;have h2:=HI.out.1;have h3:=HJ.out.2.2.2.2;omega
    have hcap:j-i<=c-i:=by omega
    have hci:¬(c=i):=by omega
    have hcl:∃vs,∀ty,(Builtin.clear_ #[31] ty #[.slice (some ⟨g,i*2,none⟩) (j-i) (c-i)]).run Tryz.prog wi=.ok (.tuple #[]) (wi.setCells g (i*2) vs):=
     ⟨_,fun ty=>(gN (P:=Tryz.prog) wi 31 154 ty (.slice none 0 0) (.int .i64 0) Tryz.underlying31 uH rfl rfl rfl g (i*2) (j-i) (c-i) (by omega) (fun t ht=>hA.cells_past (by omega)) (fun t ht=>hA.free _))⟩
    obtain⟨vs,hcl⟩:=hcl;have HA:=hid hA;have HF:Hid (M.filter nzC=K):=hid (by have:=HJ.out.2.1;rwa [List.filter_nil,AP]at this);have HG:=hid HJ.out.2.2.2.1;have HK:=hid HI.out.1;clear hA HJ HI;go_wp2;go_ret;refine⟨i,rfl,by rw[HF.out];exact HK.out,?_,HG.out.trans (upd_sets g vs wi _)⟩;rw[HF.out];have hp:=HA.out.prefix_;exact⟨own_sets_past vs wi _ hp.1 (by rw[Tg,HK.out];exact AD _),hp.2⟩
theorem sV:Gj Tryz.prog 79 204 4 32 (.agg #[.int .u8 0,.bool false,.int .i64 0,.string ⟨#[]⟩]):=⟨by kernel_rfl,by kernel_rfl,rfl,by decide⟩
def pZ(B n:Nat)(l:List Dat)(e:Ending)(w':World):Prop:=∃A c,e=.returned (.slice A n c)/\Own w' B 204 4 A n c (Dc l)/\(∀ad,A=some ad->B<=ad.block/\ad.block<w'.heap.size)
theorem Gg{A:Option Addr}{c g:Nat}(h:blk A c=some g):∃ad,A=some ad/\ad.block=g:=by
 cases A with
 | none=>cases c<;>exact nomatch h
 | some ad =>
  cases c with
  | zero=>exact nomatch h
  | succ c=>exact⟨ad,rfl,by injection h⟩
theorem aE(A:Option Addr)(c n:Nat)(l:List Dat)(w:World)(hn:n=l.length)(h:Rw w A c l)(hs:n<=1000000000) :
  Calls Tryz.prog 183 #[.slice A n c] w fun e w'=>pZ w.heap.size n l e w'/\Ext w w':=by
 have hnil:=fun (W:World)=>FI (P:=Tryz.prog) W 79 204 A n c 0 0 Tryz.underlying79;cases A with
 | none =>
  have hc:c=0:=h.2.2.2.1 rfl;have hn0:n=0:=by have:=h.2.1;omega
  have hl:l=[]:=AG (by omega);subst hc hn0 hl;clear h hn;go_enter Tryz.func183,Tryz.ntmps183;go_wp2;go_ret;exact⟨⟨none,0,rfl,Own.nil _ _ _ _,fun ad e=>nomatch e⟩,Ext.refl w⟩
 | some ad =>
  have HN:=hid hn;have hh:Sl w 4 (some ad) n c (Dc l):=by rw[hn];exact h
  have H:=hid hh;clear h hn hh;go_enter Tryz.func183,Tryz.ntmps183;go_wp2_with (at_builtin;(refine Ab _ sV w.heap.size _ _ rfl rfl (some ⟨w.heap.size,0,none⟩) 0 0 [] rfl ((Own.empty _ w.heap.size _ 4 _)) (some ad) n c (Dc l) rfl (Sl.ext H.out ((Ext.refl w).alloc _)) (Sp l) (by omega) (by decide) (by simp) ?_;intro A' c' w2 o2 g2 h2))
  go_ret;refine⟨⟨A',c',by simp,by simpa using o2,fun a e=>?_⟩,((Ext.refl w).alloc _).grown g2 (by simp[blk])⟩;subst e;rcases h2 with ⟨e1,e2⟩|⟨e1,_⟩
  ·injection e1 with e1;subst e1;exact⟨AD _,BF (by simp) g2.size⟩
  ·obtain⟨a2,e2,e3⟩:=Gg e1;injection e2 with e2;have e4:(w.alloc (.cells #[] 204)).heap.size=w.heap.size+1:=by simp
   have e5:=(o2.lt _ e1).2;rw[e2,e3];omega
abbrev V:=List Dat×Int
def cmpV(x y:V):Int:=As x.1 y.1
theorem cmpV_tot:Bs cmpV:=⟨fun x y=>Ll x.1 y.1,fun x y z=>Kh x.1 y.1 z.1⟩
def Am(x:Ct):V:=(x.l,x.k)
def w64(n:Int):Int:=IntKind.i64.wrap n
theorem Of(a b:Int):w64 (w64 a+b)=w64 (a+b):=by
 unfold w64;simp only[AY];omega
theorem Xv{a:Int}(h : -9223372036854775808<=a/\a<=9223372036854775807):w64 a=a:=DB _ (by omega)
theorem Sf(a:Int) : -9223372036854775808<=w64 a/\w64 a<=9223372036854775807:=by
 unfold w64;simp only[AY];omega
def InN(x:V):Prop := -9223372036854775808<=x.2/\x.2<=9223372036854775807
def cnt(l:List V):Int:=w64 (l.foldr (fun x a=>x.2+a) 0)
theorem cnt_snoc(l:List V)(x:V):cnt (l++[x])=w64 (cnt l+x.2):=by
 unfold cnt;rw[Of]
 congr 1
 induction l with
 | nil=>simp
 | cons y l ih=>simp only[CD,List.foldr_cons];rw[ih];omega
theorem cnt_one{x:V}(h:InN x):cnt [x]=x.2:=by
 show w64 (x.2+0)=x.2;rw[GJ];exact Xv h
def sumClass:List V->List V
 | []=>[]
 | x::xs=>[(x.1,cnt (x::xs))]
theorem sumClass_one{x:V}(h:InN x):sumClass [x]=[x]:=by
 show [(x.1,cnt [x])]=[x];rw[cnt_one h]
theorem sumClass_nil{l:List V}(h:sumClass l=[]):l=[]:=by
 cases l with
 | nil=>rfl
 | cons x l=>exact nomatch h
theorem sumClass_snoc{l:List V}{y x:V}(h:[y]=sumClass l):sumClass (l++[x])=[(y.1,w64 (y.2+x.2))]:=by
 cases l with
 | nil=>exact nomatch h
 | cons z l =>
  injection h with h _;subst h;show [(z.1,cnt ((z::l)++[x]))]=_;rw[cnt_snoc]
theorem sumClass_twice(l:List V):sumClass (sumClass l)=sumClass l:=by
 cases l with
 | nil=>rfl
 | cons x l =>
  show [(x.1,w64 (cnt (x::l)+0))]=[(x.1,cnt (x::l))];rw[GJ,show w64 (cnt (x::l))=cnt (x::l)from Xv (Sf _)]
theorem sumClass_mem{l:List V}{y:V}(h:y∈sumClass l):sumClass l=[y]:=by
 cases l with
 | nil=>cases h
 | cons x l =>
  have:y=(x.1,cnt (x::l)):=by simpa [sumClass] using h
  rw[this];rfl
structure Summed (D R:List V):Prop where
 sorted:R.Pairwise fun x y=>cmpV x y<0
 same:∀c,Af cmpV c R=sumClass (Af cmpV c D)
theorem Summed.unique{D R S:List V}(h:Summed D R)(k:Summed D S):R=S :=
 Ae.unique cmpV_tot (l:=R) ⟨h.sorted.imp fun q=>EB q,fun _=>rfl⟩ ⟨k.sorted.imp fun q=>EB q,fun c=>by rw[h.same,k.same]⟩
theorem alike_one(c x:V):Af cmpV c [x]=if cmpV c x=0 then [x] else []:=by
 unfold Af;by_cases h:cmpV c x=0
 ·rw[if_pos h,CY (by simpa using h)];rfl
 ·rw[if_neg h,DC (by simpa using h)];rfl
theorem alike_none{c:V}{l:List V}(h:∀y∈l,¬cmpV c y=0):Af cmpV c l=[]:=GC.2 fun y hy q=>h y hy (by simpa using q)
def mergeStep(M:List V)(x:V):List V:=match M.getLast? with
 | some y=>if cmpV y x=0 then M.dropLast++[(y.1,w64 (y.2+x.2))] else M++[x]
 | none=>[x]
def mergeV(S:List V):List V:=S.foldl mergeStep []
theorem mergeStep_nil(x:V):mergeStep [] x=[x]:=rfl
theorem mergeStep_snoc(M:List V)(y x:V):mergeStep (M++[y]) x=if cmpV y x=0 then M++[(y.1,w64 (y.2+x.2))] else M++[y]++[x]:=by
 unfold mergeStep;rw[EG,DX];simp
theorem mergeV_snoc(S:List V)(x:V):mergeV (S++[x])=mergeStep (mergeV S) x:=by
 unfold mergeV;rw[DT];rfl
theorem Jm{α:Type}{p:List α->Prop}(h0:p [])(h1:∀l x,p l->p (l++[x]))(l:List α):p l:=by
 have key:∀m:List α,p m.reverse:=fun m=>by
  induction m with
  | nil=>exact h0
  | cons x m ih=>rw[List.reverse_cons];exact h1 _ _ ih
 have:=key l.reverse
 rwa [List.reverse_reverse]at this
theorem merge_sum(S:List V):S.Pairwise (fun x y=>cmpV x y<=0)->(∀x∈S,InN x)->Summed S (mergeV S)/\((S=[]/\mergeV S=[])\/∃S0 s M0 y,S=S0++[s]/\mergeV S=M0++[y]/\cmpV y s=0):=by
 refine Jm (p:=fun S=>S.Pairwise (fun x y=>cmpV x y<=0)->(∀x∈S,InN x)->Summed S (mergeV S)/\((S=[]/\mergeV S=[])\/∃S0 s M0 y,S=S0++[s]/\mergeV S=M0++[y]/\cmpV y s=0)) ?_ ?_ S
 ·exact fun _ _=>⟨⟨List.Pairwise.nil,fun _=>rfl⟩,.inl ⟨rfl,rfl⟩⟩
 ·intro S x ih hs hin;have hs':=BG.1 hs;have hx:=hin x (by simp);obtain⟨⟨i1,i2⟩,i3⟩:=ih hs'.1 (fun y hy=>hin y (BH _ hy));rw[mergeV_snoc];rcases i3 with ⟨rfl,i4⟩|⟨S0,s,M0,y,e1,e2,e3⟩
  ·rw[i4,mergeStep_nil];refine⟨⟨BL _ _,fun c=>?_⟩,.inr ⟨[],x,[],x,rfl,rfl,cmpV_tot.refl x⟩⟩;rw[BC,alike_one];split
   ·rw[sumClass_one hx]
   ·rfl
  ·rw[e2]at i1 i2 ⊢;rw[mergeStep_snoc];have p1:=BG.1 i1;have hlast:∀m∈M0,cmpV m y<0:=fun m hm=>p1.2.2 m hm y (by simp);have hsx:cmpV s x<=0:=hs'.2.2 s (by rw[e1];simp) x (by simp);have hyx:cmpV y x<=0:=cmpV_tot.trans y s x (by omega) hsx;by_cases h0:cmpV y x=0
   ·rw[if_pos h0];refine⟨⟨BG.2 ⟨p1.1,BL _ _,fun m hm z hz=>?_⟩,fun c=>?_⟩,.inr ⟨S,x,M0,_,rfl,rfl,h0⟩⟩
    ·rw[AH.1 hz];exact hlast m hm
    ·have q:=i2 c;rw[Ag,alike_one]at q;rw[Ag,Ag,alike_one,alike_one];by_cases hc:cmpV c y=0
     ·have hcx:cmpV c x=0:=cmpV_tot.eq_trans hc h0;have hM:Af cmpV c M0=[]:=alike_none fun m hm e=>by
       have:=hlast m hm;have:=(cmpV_tot.eq_left (z:=y) (show cmpV m c=0 by rw[cmpV_tot.neg,e];rfl)).2 hc;omega
      rw[if_pos hc,hM,BC]at q;rw[if_pos (show cmpV c (y.1,w64 (y.2+x.2))=0 from hc),if_pos hcx,hM,BC];exact(sumClass_snoc q).symm
     ·have hcx:¬cmpV c x=0:=fun e=>hc (cmpV_tot.eq_trans e (by rw[cmpV_tot.neg,h0];rfl));rw[if_neg hc]at q;rw[if_neg (show ¬cmpV c (y.1,w64 (y.2+x.2))=0 from hc),if_neg hcx,AP (Af cmpV c S)];exact q
   ·rw[if_neg h0];have hlt:∀m∈M0++[y],cmpV m x<0:=fun m hm=>by
     rcases AR.1 hm with h|h
     ·exact cmpV_tot.lt_of_lt_le (hlast m h) hyx
     ·rw[AH.1 h];omega
    refine⟨⟨BG.2 ⟨i1,BL _ _,fun m hm z hz=>?_⟩,fun c=>?_⟩,.inr ⟨S,x,M0++[y],x,rfl,rfl,cmpV_tot.refl x⟩⟩
    ·rw[AH.1 hz];exact hlt m hm
    ·have q:=i2 c;have e4:Af cmpV c (M0++[y]++[x])=Af cmpV c (M0++[y])++Af cmpV c [x]:=Ag _ _ _;have e5:Af cmpV c (S++[x])=Af cmpV c S++Af cmpV c [x]:=Ag _ _ _;rw[e4,e5,q,alike_one];by_cases hc:cmpV c x=0
     ·have hM:Af cmpV c (M0++[y])=[]:=alike_none fun m hm e=>by
       have:=hlt m hm;have:=(cmpV_tot.eq_left (z:=x) (show cmpV m c=0 by rw[cmpV_tot.neg,e];rfl)).2 hc;omega
      rw[hM]at q;rw[sumClass_nil q.symm,if_pos hc];show []++[x]=sumClass ([]++[x]);rw[BC,sumClass_one hx]
     ·rw[if_neg hc,AP,AP]
theorem Summed.of_stable{D S:List V}(h:Ae cmpV D S)(hin:∀x∈D,InN x):Summed D (mergeV S):=by
 have k:=(merge_sum S h.sorted (fun x hx=>hin x ((h.mem cmpV_tot x).1 hx))).1;exact⟨k.sorted,fun c=>by rw[k.same,h.same]⟩
def addV:List V->V->List V
 | [],x=>[x]
 | y::R,x=>if cmpV y x<0 then y::addV R x else if cmpV y x=0 then (y.1,w64 (y.2+x.2))::R else x::y::R
theorem alike_cons(c y:V)(R:List V):Af cmpV c (y::R)=(if cmpV c y=0 then [y] else [])++Af cmpV c R:=by
 have:=Ag (cmp:=cmpV) c [y] R;rw[alike_one]at this;exact this
theorem addV_mem(x:V):∀(R:List V) (z:V),(∀y∈R,cmpV z y<0)->cmpV z x<0->∀y∈addV R x,cmpV z y<0
 | [],z,_,hx,y,hy=>by rw[AH.1 hy];exact hx
 | a::R,z,h,hx,y,hy=>by
  unfold addV at hy;split at hy
  ·rcases AZ.1 hy with rfl|q
   ·exact h _ (BE ..)
   ·exact addV_mem x R z (fun b hb=>h b (BN _ hb)) hx y q
  ·split at hy
   ·rcases AZ.1 hy with rfl|q
    ·exact h a (BE ..)
    ·exact h y (BN _ q)
   ·rcases AZ.1 hy with rfl|q
    ·exact hx
    ·exact h y q
theorem addV_same(x:V)(hx:InN x)(c:V):∀(R:List V) (l:List V),R.Pairwise (fun x y=>cmpV x y<0)->Af cmpV c R=sumClass l->Af cmpV c (addV R x)=sumClass (l++if cmpV c x=0 then [x] else [])
 | [],l,_,h=>by
  have:=sumClass_nil (show sumClass l=[]from h.symm);subst this;show Af cmpV c [x]=_;rw[alike_one];split
  ·rw[BC,sumClass_one hx]
  ·rfl
 | y::R,l,hp,h=>by
  have hp':=BS.1 hp;unfold addV;by_cases h1:cmpV y x<0
  ·rw[if_pos h1,alike_cons];rw[alike_cons]at h;by_cases hc:cmpV c y=0
   ·have hcx:¬cmpV c x=0:=fun e=>by have:=(cmpV_tot.eq_left (z:=x) hc).1 e;omega
    rw[if_pos hc]at h ⊢;have hR:Af cmpV c R=[]:=alike_none fun z hz e=>by
     have:=hp'.1 z hz;have:=(cmpV_tot.eq_left (z:=z) hc).1 e;omega
    rw[hR]at h;have:=addV_same x hx c R [] hp'.2 hR;rw[this,if_neg hcx,AP,AP];exact h
   ·rw[if_neg hc]at h ⊢;exact addV_same x hx c R l hp'.2 h
  ·rw[if_neg h1];by_cases h2:cmpV y x=0
   ·rw[if_pos h2,alike_cons];rw[alike_cons]at h;by_cases hc:cmpV c y=0
    ·have hcx:cmpV c x=0:=cmpV_tot.eq_trans hc h2;have hR:Af cmpV c R=[]:=alike_none fun z hz e=>by
      have:=hp'.1 z hz;have:=(cmpV_tot.eq_left (z:=z) hc).1 e;omega
     rw[if_pos hc,hR]at h;rw[if_pos (show cmpV c (y.1,w64 (y.2+x.2))=0 from hc),hR,if_pos hcx];exact(sumClass_snoc h).symm
    ·have hcx:¬cmpV c x=0:=fun e=>hc (cmpV_tot.eq_trans e (by rw[cmpV_tot.neg,h2];rfl));rw[if_neg hc]at h;rw[if_neg (show ¬cmpV c (y.1,w64 (y.2+x.2))=0 from hc),if_neg hcx,AP];exact h
   ·rw[if_neg h2,alike_cons];by_cases hc:cmpV c x=0
    ·have hyx:cmpV x y<0:=by rw[cmpV_tot.neg];omega
     have hR:Af cmpV c (y::R)=[]:=alike_none fun z hz e=>by
      have hxz:cmpV x z<0:=by
       rcases AZ.1 hz with rfl|q
       ·exact hyx
       ·exact cmpV_tot.lt_of_lt_le hyx (EB (hp'.1 z q))
      have:=(cmpV_tot.eq_left (z:=z) hc).1 e;omega
     rw[hR]at h ⊢;rw[if_pos hc,sumClass_nil h.symm];show [x]++[]=sumClass ([]++[x]);rw[BC,sumClass_one hx];rfl
    ·rw[if_neg hc,BC,AP];exact h
theorem addV_sorted(x:V):∀R:List V,R.Pairwise (fun x y=>cmpV x y<0)->(addV R x).Pairwise (fun x y=>cmpV x y<0)
 | [],_=>BL _ _
 | y::R,h=>by
  have h':=BS.1 h;unfold addV;split
  ·rename_i h1;exact BS.2 ⟨addV_mem x R y h'.1 h1,addV_sorted x R h'.2⟩
  ·split
   ·exact BS.2 ⟨fun z hz=>h'.1 z hz,h'.2⟩
   ·rename_i h1 h2;have hyx:cmpV x y<0:=by rw[cmpV_tot.neg];omega
    exact BS.2 ⟨fun z hz=>(AZ.1 hz).elim (fun e=>e▸hyx) (fun q=>cmpV_tot.lt_of_lt_le hyx (EB (h'.1 z q))),h⟩
theorem Summed.add{D R:List V}{x:V}(h:Summed D R)(hx:InN x):Summed (D++[x]) (addV R x):=⟨addV_sorted x R h.sorted,fun c=>by rw[addV_same x hx c R _ h.sorted (h.same c),Ag,alike_one]⟩
def sumAll(L:List V):List V:=L.foldl addV []
theorem Summed.all(L:List V):(∀x∈L,InN x)->Summed L (sumAll L):=by
 refine Jm (p:=fun L=>(∀x∈L,InN x)->Summed L (sumAll L)) (fun _=>⟨List.Pairwise.nil,fun _=>rfl⟩) (fun L x ih h=>?_) L;unfold sumAll;rw[DT];exact(ih (fun y hy=>h y (BH _ hy))).add (h x (by simp))
def sumV(L:List V):List V:=(sumAll L).filter fun x=>!(x.2==0)
theorem dedup_new{L O:List V}{x:V}(h:∀c,Af cmpV c O=sumClass (Af cmpV c L))(hx:InN x)(hn:∀y∈O,¬cmpV y x=0)(c:V):Af cmpV c (O++[x])=sumClass (Af cmpV c (L++[x])):=by
 rw[Ag,Ag,h,alike_one];by_cases hc:cmpV c x=0
 ·have hO:Af cmpV c O=[]:=alike_none fun y hy e=>hn y hy (cmpV_tot.eq_trans (by rw[cmpV_tot.neg,e];rfl) hc);have:=h c;rw[hO]at this;rw[sumClass_nil this.symm,if_pos hc];show []++[x]=sumClass ([]++[x]);rw[BC,sumClass_one hx]
 ·rw[if_neg hc,AP,AP]
theorem dedup_old{L P Q:List V}{y x:V}(h:∀c,Af cmpV c (P++y::Q)=sumClass (Af cmpV c L))(hy:cmpV y x=0)(c:V):Af cmpV c (P++(y.1,w64 (y.2+x.2))::Q)=sumClass (Af cmpV c (L++[x])):=by
 have q:=h c;rw[Ag,alike_cons]at q;rw[Ag,alike_cons,Ag,alike_one];by_cases hc:cmpV c y=0
 ·have hcx:cmpV c x=0:=cmpV_tot.eq_trans hc hy;rw[if_pos hc]at q;have hm:=sumClass_mem (l:=Af cmpV c L) (y:=y) (by rw[<-q];simp);have hl:=congrArg List.length (q.trans hm);simp only[AA,AI,CB]at hl;have hP:Af cmpV c P=[]:=AG (by omega);have hQ:Af cmpV c Q=[]:=AG (by omega);rw[if_pos (show cmpV c (y.1,w64 (y.2+x.2))=0 from hc),if_pos hcx,hP,hQ];exact(sumClass_snoc hm.symm).symm
 ·have hcx:¬cmpV c x=0:=fun e=>hc (cmpV_tot.eq_trans e (by rw[cmpV_tot.neg,hy];rfl));rw[if_neg hc]at q;rw[if_neg (show ¬cmpV c (y.1,w64 (y.2+x.2))=0 from hc),if_neg hcx,AP (Af cmpV c L)];exact q
section
variable{α:Type}{cmp:α->α->Int}
theorem Gz(s:List α):s=[]\/∃t y,s=t++[y]:=by
 rcases FJ s with h|⟨t,y,h⟩
 ·exact .inl h
 ·exact .inr ⟨t,y,by rw[h,FK]⟩
theorem jU(T:Bs cmp){t:List α}{y:α}(h:(t++[y]).Pairwise fun a b=>cmp a b<=0):∀a∈t++[y],cmp a y<=0:=by
 intro a ha;rcases AR.1 ha with q|q
 ·exact(BG.1 h).2.2 a q y (by simp)
 ·simp only[AH]at q;subst q;rw[T.refl];decide
theorem Mg(T:Bs cmp){t:List α}{y:α}(h:(y::t).Pairwise fun a b=>cmp a b<=0):∀a∈y::t,cmp y a<=0:=by
 intro a ha;rcases AZ.1 ha with q|q
 ·subst q;rw[T.refl];decide
 ·exact(BS.1 h).1 a q
theorem Ae.merge(T:Bs cmp){X1 X2 Y1 Y2 Z1 Z2:List α}(hX:(X1++X2).Pairwise fun a b=>cmp a b<=0)(hY:(Y1++Y2).Pairwise fun a b=>cmp a b<=0)
  (h1:∀t x y s,X1=t++[x]->Y2=y::s->cmp x y<=0) (h2:∀t y x s,Y1=t++[y]->X2=x::s->cmp y x<0)
  (s1:Ae cmp (X1++Y1) Z1) (s2:Ae cmp (X2++Y2) Z2):Ae cmp ((X1++X2)++(Y1++Y2)) (Z1++Z2):=by
 have pX:=BG.1 hX;have pY:=BG.1 hY;have a12:∀a∈X1,∀b∈Y2,cmp a b<=0:=by
  intro a ha b hb;rcases Gz X1 with e|⟨t,x,e⟩
  ·rw[e]at ha;cases ha
  ·cases hY2:Y2 with
   | nil=>rw[hY2]at hb;cases hb
   | cons y s =>
    have q1:=jU T (e▸pX.1) a (e▸ha);have q2:=h1 t x y s e hY2;have q3:=Mg T (hY2▸pY.2.1) b (hY2▸hb);exact T.trans _ _ _ (T.trans _ _ _ q1 q2) q3
 have a21:∀a∈Y1,∀b∈X2,cmp a b<0:=by
  intro a ha b hb;rcases Gz Y1 with e|⟨t,y,e⟩
  ·rw[e]at ha;cases ha
  ·cases hX2:X2 with
   | nil=>rw[hX2]at hb;cases hb
   | cons x s =>
    have q1:=jU T (e▸pY.1) a (e▸ha);have q2:=h2 t y x s e hX2;have q3:=Mg T (hX2▸pX.2.1) b (hX2▸hb);exact T.lt_of_lt_le (T.lt_of_le_lt q1 q2) q3
 refine⟨BG.2 ⟨s1.sorted,s2.sorted,fun a ha b hb=>?_⟩,fun c=>?_⟩
 ·rcases AR.1 ((s1.mem T a).1 ha)with p|p<;>rcases AR.1 ((s2.mem T b).1 hb)with q|q
  ·exact pX.2.2 a p b q
  ·exact a12 a p b q
  ·exact EB (a21 a p b q)
  ·exact pY.2.2 a p b q
 ·rw[Ag,s1.same,s2.same,Ag,Ag,Ag,Ag,Ag];have hc:Af cmp c Y1++Af cmp c X2=Af cmp c X2++Af cmp c Y1:=by
   cases e1:Af cmp c Y1 with
   | nil=>simp
   | cons y l1 =>
    cases e2:Af cmp c X2 with
    | nil=>simp
    | cons x l2 =>
     exfalso;have my:y∈Af cmp c Y1:=by rw[e1];exact BE ..
     have mx:x∈Af cmp c X2:=by rw[e2];exact BE ..
     obtain⟨hy,qy⟩:=BV.1 my;obtain⟨hx,qx⟩:=BV.1 mx;have qy:cmp c y=0:=by simpa using qy
     have qx:cmp c x=0:=by simpa using qx
     have:=a21 y hy x hx;have:=(T.eq_left qy).1 qx;omega
  rw[AJ,AJ,<-AJ (Af cmp c Y1),hc,AJ]
theorem Ae.self{l:List α}(h:l.Pairwise fun a b=>cmp a b<=0):Ae cmp l l:=⟨h,fun _=>rfl⟩
inductive Bks (cmp:α->α->Int) (s:Nat):List α->List α->Prop
 | last (O S:List α) (h:O.length<=s) (k:Ae cmp O S):Bks cmp s O S
 | more (O S O' S':List α) (h:O.length=s) (k:Ae cmp O S) (r:Bks cmp s O' S'):Bks cmp s (O++O') (S++S')
theorem Ae.nil_of{S:List α}(T:Bs cmp)(h:Ae cmp [] S):S=[]:=h.unique T Ae.nil
theorem Bks.none(T:Bs cmp){s:Nat}(hs:0<s){O S:List α}(h:Bks cmp s O S)(ho:O=[]):S=[]:=by
 cases h with
 | last _ _ _ k=>subst ho;exact k.nil_of T
 | more O1 S1 O2 S2 h1 _ _ =>
  have:=congrArg List.length ho;rw[AA,CB]at this;omega
theorem Bks.all(T:Bs cmp){s:Nat}(hs:0<s){O S:List α}(h:Bks cmp s O S)(hl:O.length<=s):Ae cmp O S:=by
 cases h with
 | last _ _ _ k=>exact k
 | more O1 S1 O2 S2 h1 k r =>
  rw[AA]at hl;have e:O2=[]:=AG (by omega);have e2:=r.none T hs e;subst e e2;rw[AP,AP];exact k
theorem Bks.mem(T:Bs cmp){s:Nat}{O S:List α}(h:Bks cmp s O S)(x:α):x∈S↔x∈O:=by
 induction h with
 | last O S _ k=>exact k.mem T x
 | more O1 S1 O2 S2 _ k _ ih=>rw[AR,AR,k.mem T,ih]
theorem Bks.len(T:∀{O S:List α},Ae cmp O S->S.length=O.length){s:Nat}{O S:List α}(h:Bks cmp s O S):S.length=O.length:=by
 induction h with
 | last O S _ k=>exact T k
 | more O1 S1 O2 S2 _ k _ ih=>rw[AA,AA,T k,ih]
theorem Bks.two{s:Nat}(hs:0<s){O S:List α}(h:Bks cmp s O S)(hl:2*s<=O.length) :
  ∃O1 S1 O2 S2 O3 S3,O=O1++(O2++O3)/\S=S1++(S2++S3)/\O1.length=s/\O2.length=s/\Ae cmp O1 S1/\Ae cmp O2 S2/\Bks cmp s O3 S3:=by
 cases h with
 | last _ _ h _=>omega
 | more O1 S1 O2 S2 h1 k r =>
  rw[AA]at hl;cases r with
  | last _ _ h2 k2=>exact⟨O1,S1,O2,S2,[],[],by rw[AP],by rw[AP],h1,by omega,k,k2,.last [] [] (AE _) Ae.nil⟩
  | more O2 S2 O3 S3 h2 k2 r2=>exact⟨O1,S1,O2,S2,O3,S3,rfl,rfl,h1,h2,k,k2,r2⟩
theorem Bks.rest(T:Bs cmp){s:Nat}(hs:0<s){O S:List α}(h:Bks cmp s O S)(h1:s<O.length)(h2:O.length<2*s) :
  ∃O1 S1 O2 S2,O=O1++O2/\S=S1++S2/\O1.length=s/\Ae cmp O1 S1/\Ae cmp O2 S2:=by
 cases h with
 | last _ _ h _=>omega
 | more O1 S1 O2 S2 h3 k r =>
  rw[AA]at h2;exact⟨O1,S1,O2,S2,rfl,rfl,h3,k,r.all T hs (by omega)⟩
end
theorem getD_here{P Q:List Ct}{x:Ct}{p:Nat}(hp:p=P.length):(P++x::Q).getD p Ct.zero=x:=by subst hp;exact getD_mid P x Q
theorem Arr.here{w:World}{B g c p:Nat}{P Q:List Ct}{x:Ct}(h:Arr w B g c (P++x::Q))(hp:p=P.length) :
  w.cell? ⟨g,p*2,none⟩=some (.slice x.A x.l.length x.c)/\w.cell? ⟨g,p*2+1,none⟩=some (.int .i64 x.k):=by
 have:=h.at (i:=p) (by subst hp;simp)
 rwa [getD_here hp]at this
theorem set_two(P M Q:List Ct)(x y:Ct):((P++x::(M++y::Q)).set P.length y).set (P.length+1+M.length) x=P++y::(M++x::Q):=by
 rw[set_mid];have:=set_mid (P++y::M) y x Q;simp only[AJ,CD,AA,AI]at this
 rwa [show P.length+1+M.length=P.length+(M.length+1)by omega]
theorem set_two'(P M Q:List Ct)(x y:Ct):((P++x::(M++y::Q)).set (P.length+1+M.length) x).set P.length y=P++y::(M++x::Q):=by
 have:=set_mid (P++x::M) y x Q;simp only[AJ,CD,AA,AI]at this;rw[show P.length+1+M.length=P.length+(M.length+1)by omega,this,set_mid]
section
variable{w:World}{B g c p q:Nat}{P M Q:List Ct}{x y:Ct}
theorem Arr.swapA(h:Arr w B g c (P++x::(M++y::Q)))(hp:p=P.length)(hq:q=P.length+1+M.length){nx ny:Nat}(hx:nx=x.l.length)(hy:ny=y.l.length) :
  Arr ((((w.setCell ⟨g,p*2,none⟩ (.slice y.A ny y.c)).setCell ⟨g,p*2+1,none⟩ (.int .i64 y.k)).setCell ⟨g,q*2,none⟩ (.slice x.A nx x.c)).setCell ⟨g,q*2+1,none⟩ (.int .i64 x.k)) B g c (P++y::(M++x::Q)):=by
 subst hp hq hx hy;have h1:=(h.set P.length y).set (P.length+1+M.length) x
 rwa [set_two]at h1
theorem Arr.swapB(h:Arr w B g c (P++x::(M++y::Q)))(hp:p=P.length)(hq:q=P.length+1+M.length){nx ny:Nat}(hx:nx=x.l.length)(hy:ny=y.l.length) :
  Arr ((((w.setCell ⟨g,q*2,none⟩ (.slice x.A nx x.c)).setCell ⟨g,q*2+1,none⟩ (.int .i64 x.k)).setCell ⟨g,p*2,none⟩ (.slice y.A ny y.c)).setCell ⟨g,p*2+1,none⟩ (.int .i64 y.k)) B g c (P++y::(M++x::Q)):=by
 subst hp hq hx hy;have h1:=(h.set (P.length+1+M.length) x).set P.length y
 rwa [set_two']at h1
end
theorem cons_of{α:Type}{l:List α}(h:0<l.length):∃x t,l=x::t:=by
 cases l with
 | nil=>exact absurd h (CO 0)
 | cons x t=>exact⟨x,t,rfl⟩
def SwIn(B g c:Nat)(P X M Y Q:List Ct)(w wi:World)(i:Nat)(X1 X2 Y1 Y2:List Ct):Prop :=
 X=X1++X2/\Y=Y1++Y2/\X1.length=i/\Y1.length=i/\Arr wi B g c (P++(Y1++(X2++(M++(X1++(Y2++Q))))))/\w.grownBy wi (some g)
theorem SwIn.form{B g c:Nat}{P X M Y Q:List Ct}{w wi:World}{i:Nat}{X1 X2 Y1 Y2:List Ct}{x y:Ct}(h:SwIn B g c P X M Y Q w wi i X1 (x::X2) Y1 (y::Y2)) :
  Arr wi B g c ((P++Y1)++x::((X2++(M++X1))++y::(Y2++Q))):=by
 have:=h.2.2.2.2.1;have e:P++(Y1++(x::X2++(M++(X1++(y::Y2++Q)))))=(P++Y1)++x::((X2++(M++X1))++y::(Y2++Q)):=by simp
 rwa [e]at this
theorem SwIn.step{B g c a b p q:Nat}{P X M Y Q:List Ct}{w wi:World}{i:Nat}{X1 X2 Y1 Y2:List Ct}{x y:Ct}(h:SwIn B g c P X M Y Q w wi i X1 (x::X2) Y1 (y::Y2))(ha:a=P.length)(hb:b=P.length+X.length+M.length)(hp:p=a+i)(hq:q=b+i){nx ny:Nat}(hx:nx=x.l.length)(hy:ny=y.l.length){wj:World}(hz:Ext wi wj) :
  SwIn B g c P X M Y Q w ((((wj.setCell ⟨g,p*2,none⟩ (.slice y.A ny y.c)).setCell ⟨g,p*2+1,none⟩ (.int .i64 y.k)).setCell ⟨g,q*2,none⟩ (.slice x.A nx x.c)).setCell ⟨g,q*2+1,none⟩ (.int .i64 x.k)) (i+1) (X1++[x]) X2 (Y1++[y]) Y2:=by
 have hf:=h.form.ext hz;obtain⟨h1,h2,h3,h4,h5,h6⟩:=h;have h7:=hf.swapA (p:=p) (q:=q) (by rw[AA];omega) (by
  have:=congrArg List.length h1;simp only[AA,AI]at this ⊢;omega) hx hy
 refine⟨by rw[h1];simp,by rw[h2];simp,by rw[AA,AK];omega,by rw[AA,AK];omega,?_,(h6.trans (Av hz g)).trans (upd_swap wj g _ _ _ _ _ _ _ _)⟩;have e:P++(Y1++[y]++(X2++(M++(X1++[x]++(Y2++Q)))))=(P++Y1)++y::((X2++(M++X1))++x::(Y2++Q)):=by simp
 rw[e];exact h7
theorem swapR_any(B g c n a b k:Nat)(P X M Y Q:List Ct)(w:World)(ha:a=P.length)(hb:b=P.length+X.length+M.length)(hx:k=X.length)(hy:k=Y.length)(hn:n=(P++(X++(M++(Y++Q)))).length)(h:Arr w B g c (P++(X++(M++(Y++Q))))) :
  Calls Tryz.prog 295 #[.slice (some ⟨g,0,none⟩) n c,.int .i64 a,.int .i64 b,.int .i64 k,.func (.func 188) #[] #[]] w fun e w'=>e=.returned (.tuple #[])/\Arr w' B g c (P++(Y++(M++(X++Q))))/\w.grownBy w' (some g):=by
 have hnm:=h.le;rw[<-hn]at hnm;have hbk:b+k<=n:=by rw[hb,hn];simp only[AA];omega
 have hak:a+k<=b:=by omega
 have HA:=hid ha;have HB:=hid hb;have HX:=hid hx;have HY:=hid hy;have HI:Hid (SwIn B g c P X M Y Q w w 0 [] X [] Y):=hid ⟨rfl,rfl,rfl,rfl,h,CH w _⟩;clear ha hb hx hy hn h;go_enter Tryz.func295,Tryz.ntmps295;go_wp2
 go_loopg [10] k (fun z v wr=>∃(i:Nat) (X1 X2 Y1 Y2:List Ct),z=k-i/\i<=k/\v=.int .i64 i/\Hid (SwIn B g c P X M Y Q w wr i X1 X2 Y1 Y2))
 case atStart=>exact⟨0,[],X,[],Y,rfl,AE _,rfl,HI⟩
 case round =>
  obtain⟨i,X1,X2,Y1,Y2,rfl,hi,rfl,HJ⟩:=hrel;clear HI;by_cases hlt:i<k
  ·obtain⟨x,X2,rfl⟩:=cons_of (l:=X2) (by
    obtain⟨q1,q2,q3,q4,_⟩:=HJ.out;have:=HX.out;rw[q1,AA]at this;omega)
   obtain⟨y,Y2,rfl⟩:=cons_of (l:=Y2) (by
    obtain⟨q1,q2,q3,q4,_⟩:=HJ.out;have:=HY.out;rw[q2,AA]at this;omega)
   have hf:=HJ.out.form;obtain⟨px0,px1⟩:=hf.here (p:=a+i) (by rw[AA];have:=HA.out;have:=HJ.out.2.2.2.1;omega);have hf2:Arr wr B g c ((P++(Y1++(x::X2++(M++X1))))++y::(Y2++Q)):=by
    have e:(P++Y1)++x::((X2++(M++X1))++y::(Y2++Q))=(P++(Y1++(x::X2++(M++X1))))++y::(Y2++Q):=by simp
    rwa [e]at hf
   obtain⟨py0,py1⟩:=hf2.here (p:=b+i) (by
    obtain⟨q1,q2,q3,q4,_⟩:=HJ.out;have e1:=congrArg List.length q1;have e2:=HB.out;simp only[AA,AI]at e1 ⊢;omega)
   have f0:=hf.free ((a+i)*2);have f1:=hf.free ((a+i)*2+1);have f2:=hf.free ((b+i)*2);have f3:=hf.free ((b+i)*2+1);obtain⟨nx,hnx⟩:∃nx,nx=x.l.length:=⟨_,rfl⟩;obtain⟨ny,hny⟩:∃ny,ny=y.l.length:=⟨_,rfl⟩;rw[<-hnx]at px0;rw[<-hny]at py0;have HNX:=hid hnx;have HNY:=hid hny;have XE:Ext wr wr.drew:=(Ext.refl wr).drew;have PY0:∀z:Xt wr.drew,z.W.cell? ⟨g,(b+i)*2,none⟩=some (.slice y.A ny y.c):=fun z=>(XE.trans z.x).cell py0;have PY1:∀z:Xt wr.drew,z.W.cell? ⟨g,(b+i)*2+1,none⟩=some (.int .i64 y.k):=fun z=>(XE.trans z.x).cell py1;have PX0:∀z:Xt wr.drew,z.W.cell? ⟨g,(a+i)*2,none⟩=some (.slice x.A nx x.c):=fun z=>(XE.trans z.x).cell px0;have PX1:∀z:Xt wr.drew,z.W.cell? ⟨g,(a+i)*2+1,none⟩=some (.int .i64 x.k):=fun z=>(XE.trans z.x).cell px1;clear hf hf2 hnx hny
   go_upto_region 3 with fail
   refine wro [0,0,0,6,0,0,0,96,0,0,0,1536,3840,7936,0,0,0,98304,245760,507904,1048335,2096911,4194303,8388607] (.flo [0,1,2,3,8,9,10,11,12,13,14,15,16,17,18,19,20] (.pur [4,5,6,7] (.one 21 (.flo [22] (.one 23 (.fin)))))) ?_
   (refine Aa (pks rfl) ?_;(repeat (go_big_quiet_step (fail)));refine oq ?_)
   (refine Bv (pks rfl) ?_;(repeat (go_big_quiet_step (fail)));refine oq ?_)
   refine Ac (pks rfl) ?_;intro K_ hK_;go_wp2
   (refine Aa (pks rfl) ?_;(repeat (go_big_quiet_step (fail)));refine oq ?_)
   refine Ac (pks rfl) ?_;intro K_ hK_;go_wp2;refine Ad ?_;go_wp2
   go_roundg (k-(i+1))
   case measure=>omega
   case rel=>exact⟨i+1,X1++[x],X2,Y1++[y],Y2,rfl,by omega,by go_num,hid (HJ.out.step HA.out HB.out rfl rfl HNX.out HNY.out XE)⟩
  ·have hik:i=k:=by omega
   obtain⟨q1,q2,q3,q4,q5,q6⟩:=HJ.out;have e1:X2=[]:=AG (by have:=HX.out;rw[q1,AA]at this;omega);have e2:Y2=[]:=AG (by have:=HY.out;rw[q2,AA]at this;omega);subst e1 e2;have HQ5:Hid (Arr wr B g c (P++(Y++(M++(X++Q))))):=hid (by
    rw[AP]at q1 q2;rw[q1,q2];simpa using q5)
   have HQ6:=hid q6;clear q1 q2 q3 q4 q5 q6;go_wp2
   go_end0
   exact⟨rfl,HQ5.out,HQ6.out⟩
def RotIn(B g c m:Nat)(D:List Ct)(w wi:World)(i j p:Nat)(P U V Q:List Ct):Prop :=
 D=P++(V++(U++Q))/\U.length=i/\V.length=j/\P.length=p/\m=p+i/\0<i/\0<j/\Arr wi B g c (P++(U++(V++Q)))/\w.grownBy wi (some g)
theorem RotIn.left{B g c m:Nat}{D:List Ct}{w wi wj:World}{i j p:Nat}{P U1 U2 V Q:List Ct}(h:RotIn B g c m D w wi i j p P (U1++U2) V Q)(h1:U1.length=j)(h2:0<i-j)
  (ha:Arr wj B g c (P++(V++(U2++(U1++Q))))) (hg:wi.grownBy wj (some g)):RotIn B g c m D w wj (i-j) j (p+j) (P++V) U2 U1 Q:=by
 obtain⟨q1,q2,q3,q4,q5,q6,q7,q8,q9⟩:=h;rw[AA]at q2;refine⟨by rw[q1];simp,by omega,h1,by rw[AA];omega,by omega,h2,q7,?_,q9.trans hg⟩;rw[AJ];exact ha
theorem RotIn.right{B g c m:Nat}{D:List Ct}{w wi wj:World}{i j p:Nat}{P U V1 V2 Q:List Ct}(h:RotIn B g c m D w wi i j p P U (V1++V2) Q)(h1:V2.length=i)(h2:0<j-i)
  (ha:Arr wj B g c (P++(V2++(V1++(U++Q))))) (hg:wi.grownBy wj (some g)):RotIn B g c m D w wj i (j-i) p P V2 V1 (U++Q):=by
 obtain⟨q1,q2,q3,q4,q5,q6,q7,q8,q9⟩:=h;rw[AA]at q3;exact⟨by rw[q1];simp,h1,by omega,q4,q5,q6,h2,ha,q9.trans hg⟩
theorem cut_at{α:Type}(l:List α)(k:Nat)(h:k<=l.length):∃l1 l2,l=l1++l2/\l1.length=k:=⟨l.take k,l.drop k,(CE k l).symm,by rw[CA];omega⟩
theorem rot_any(B g c n a m b:Nat)(P U V Q:List Ct)(w:World)(ha:a=P.length)(hm:m=a+U.length)(hb:b=m+V.length)(hu:0<U.length)(hv:0<V.length)(hn:n=(P++(U++(V++Q))).length)(h:Arr w B g c (P++(U++(V++Q)))) :
  Calls Tryz.prog 284 #[.slice (some ⟨g,0,none⟩) n c,.int .i64 a,.int .i64 m,.int .i64 b,.func (.func 188) #[] #[]] w fun e w'=>e=.returned (.tuple #[])/\Arr w' B g c (P++(V++(U++Q)))/\w.grownBy w' (some g):=by
 have hnm:=h.le;rw[<-hn]at hnm;have hbn:b<=n:=by rw[hb,hm,ha,hn];simp only[AA];omega
 obtain⟨i0,hi0⟩:∃i,i=U.length:=⟨_,rfl⟩;obtain⟨j0,hj0⟩:∃j,j=V.length:=⟨_,rfl⟩;obtain⟨D,hD⟩:∃D,D=P++(V++(U++Q)):=⟨_,rfl⟩;have HN:Hid (n=D.length):=hid (by rw[hn,hD];simp only[AA];omega);have HI:Hid (RotIn B g c m D w w i0 j0 a P U V Q):=hid ⟨hD,hi0.symm,hj0.symm,ha.symm,by omega,by omega,by omega,h,CH w _⟩;have e1:(m:Int)-(a:Int)=(i0:Int):=by omega
 have e2:(b:Int)-(m:Int)=(j0:Int):=by omega
 have hij:i0+j0<=n:=by omega
 rw[<-hD];clear ha hm hb hu hv hn h hi0 hj0 hD;go_enter Tryz.func284,Tryz.ntmps284;go_wp2
 go_loopg [10,11] (i0+j0) (fun z u v wr=>∃(i j p:Nat) (P U V Q:List Ct),z=i+j/\i+j<=n/\u=.int .i64 i/\v=.int .i64 j/\Hid (RotIn B g c m D w wr i j p P U V Q))
 case atStart=>exact⟨i0,j0,a,P,U,V,Q,rfl,hij,rfl,rfl,HI⟩
 case round =>
  obtain⟨i,j,p,P,U,V,Q,rfl,hs,rfl,rfl,HJ⟩:=hrel;clear HI e1 e2;have hmi:(m:Int)-(i:Int)=(p:Int):=by have:=HJ.out.2.2.2.2.1;omega
  have hmn:m+j<=n:=by
   obtain⟨q1,q2,q3,q4,q5,_⟩:=HJ.out;have:=HN.out;rw[q1]at this;simp only[AA]at this;omega
  have him:i<=m:=by have:=HJ.out.2.2.2.2.1;omega
  rcases FZ i j with hlt|heq|hgt
  ·obtain⟨V1,V2,rfl,hv1⟩:=cut_at V (j-i) (by have:=HJ.out.2.2.1;omega);have z1:((i:Int)==(j:Int))=false:=by rw[beq_eq_false_iff_ne];omega
   have z2:¬(j:Int)<i:=by omega
   have hmj:(m:Int)+(j:Int)-(i:Int)=((p+j:Nat):Int):=by omega
   have hji:(j:Int)-(i:Int)=((j-i:Nat):Int):=by omega
   have HV1:=hid hv1;clear hv1;go_wp2_with (go_at_call 295;refine(swapR_any B g c n p (p+j) i P U V1 V2 Q _ HJ.out.2.2.2.1.symm (by have:=HV1.out;have:=HJ.out;have:=this.2.1;have:=HJ.out.2.2.2.1;omega) HJ.out.2.1.symm (by have:=HJ.out.2.2.1;rw[AA]at this;have:=HV1.out;omega) (by rw[HN.out,HJ.out.1];simp only[AA];omega) (by have:=HJ.out.2.2.2.2.2.2.2.1;rwa [AJ]at this)).mono ?_;rintro e w1 ⟨rfl,a1,g1⟩;have HJ1:=hid (HJ.out.right (by have:=HJ.out.2.2.1;rw[AA]at this;have:=HV1.out;omega) (by omega) a1 g1);clear a1 g1)
   go_roundg (i+(j-i))
   case measure=>have:=HJ.out.2.2.2.2.2.1;omega
   case rel=>exact⟨i,j-i,p,P,V2,V1,U++Q,rfl,by omega,rfl,by go_num,HJ1⟩
  ·subst heq;have z1:((i:Int)==(i:Int))=true:=by simp
   go_wp2_with (go_at_call 295;refine(swapR_any B g c n p m i P U [] V Q _ HJ.out.2.2.2.1.symm (by have:=HJ.out.2.1;have:=HJ.out.2.2.2.1;have:=HJ.out.2.2.2.2.1;simp only[CB];omega) HJ.out.2.1.symm HJ.out.2.2.1.symm (by rw[HN.out,HJ.out.1];simp only[AA,CB];omega) HJ.out.2.2.2.2.2.2.2.1).mono ?_;rintro e w1 ⟨rfl,a1,g1⟩;have HA1:Hid (Arr w1 B g c D):=hid (by rw[HJ.out.1];exact a1);have HG1:=hid (HJ.out.2.2.2.2.2.2.2.2.trans g1);clear a1 g1)
   go_end0
   exact⟨rfl,HA1.out,HG1.out⟩
  ·obtain⟨U1,U2,rfl,hu1⟩:=cut_at U j (by have:=HJ.out.2.1;omega);have z1:((i:Int)==(j:Int))=false:=by rw[beq_eq_false_iff_ne];omega
   have z2:(j:Int)<i:=by omega
   have hji:(i:Int)-(j:Int)=((i-j:Nat):Int):=by omega
   have HU1:=hid hu1;clear hu1;go_wp2_with (go_at_call 295;refine(swapR_any B g c n p m j P U1 U2 V Q _ HJ.out.2.2.2.1.symm (by have:=HJ.out.2.1;rw[AA]at this;have:=HJ.out.2.2.2.1;have:=HJ.out.2.2.2.2.1;omega) HU1.out.symm HJ.out.2.2.1.symm (by rw[HN.out,HJ.out.1];simp only[AA];omega) (by have:=HJ.out.2.2.2.2.2.2.2.1;rwa [AJ]at this)).mono ?_;rintro e w1 ⟨rfl,a1,g1⟩;have HJ1:=hid (HJ.out.left HU1.out (by omega) a1 g1);clear a1 g1)
   go_roundg (i-j+j)
   case measure=>have:=HJ.out.2.2.2.2.2.2.1;omega
   case rel=>exact⟨i-j,j,p+j,P++V,U2,U1,Q,rfl,by omega,by go_num,rfl,HJ1⟩
def SortedC(l:List Ct):Prop:=l.Pairwise fun x y=>cmpC x y<=0
theorem SortedC.left{l m:List Ct}(h:SortedC (l++m)):SortedC l:=(BG.1 h).1
theorem SortedC.right{l m:List Ct}(h:SortedC (l++m)):SortedC m:=(BG.1 h).2.1
theorem getD_left{l m:List Ct}{i:Nat}(h:i<l.length):(l++m).getD i Ct.zero=l.getD i Ct.zero:=by
 rw[AB,BI h,AB]
theorem getD_right{l m:List Ct}{i:Nat}(h:l.length<=i):(l++m).getD i Ct.zero=m.getD (i-l.length) Ct.zero:=by
 rw[AB,BD h,AB]
theorem mem_getD{l:List Ct}{i:Nat}(h:i<l.length):l.getD i Ct.zero∈l:=by
 rw[AB,AC h];exact BP h
theorem mem_mid{P X R:List Ct}{i:Nat}(h1:P.length<=i)(h2:i<P.length+X.length):(P++(X++R)).getD i Ct.zero∈X:=by
 rw[getD_right h1,getD_left (by omega)];exact mem_getD (by omega)
theorem getD_of{L P Q:List Ct}{x:Ct}{i:Nat}(h:L=P++x::Q)(hi:i=P.length):L.getD i Ct.zero=x:=by
 rw[h];exact getD_here hi
theorem sym_split{P X Y Q L:List Ct}{a m b mid n p s lo hi:Nat}(hL:L=P++(X++(Y++Q)))(ha:a=P.length)(hm:m=a+X.length)(hb:b=m+Y.length)(hmid:mid=(a+b) / 2)(hn:n=mid+m)(hp:n=p+1)
  (hc:(mid<m/\lo=n-b/\hi=mid)\/(m<=mid/\lo=a/\hi=m)) (h1:lo<=s) (h2:s<=hi) (hA:lo<s->¬cmpC (L.getD (n-s) Ct.zero) (L.getD (s-1) Ct.zero)<0) (hB:s<hi->cmpC (L.getD (p-s) Ct.zero) (L.getD s Ct.zero)<0) :
  ∃X1 X2 Y1 Y2,X=X1++X2/\Y=Y1++Y2/\s=a+X1.length/\n-s=m+Y1.length/\mid=a+(X1.length+Y1.length) /\
   (∀t x y u,X1=t++[x]->Y2=y::u->cmpC x y<=0)/\(∀t y x u,Y1=t++[y]->X2=x::u->cmpC y x<0):=by
 have hs1:a<=s/\s<=m:=by omega
 have hs2:m<=n-s/\n-s<=b:=by omega
 obtain⟨X1,X2,hX,hX1⟩:=cut_at X (s-a) (by omega);obtain⟨Y1,Y2,hY,hY1⟩:=cut_at Y (n-s-m) (by omega);have lX:X.length=X1.length+X2.length:=by rw[hX,AA]
 have lY:Y.length=Y1.length+Y2.length:=by rw[hY,AA]
 refine⟨X1,X2,Y1,Y2,hX,hY,by omega,by omega,by omega,fun t x y u e1 e2=>?_,fun t y x u e1 e2=>?_⟩
 ·have l1:X1.length=t.length+1:=by rw[e1,AA,AK]
  have l2:Y2.length=u.length+1:=by rw[e2,AI]
  have:=hA (by omega);rw[getD_of (L:=L) (P:=P++X++Y1) (Q:=u++Q) (x:=y) (by rw[hL,hY,e2];simp) (by simp only[AA];omega),getD_of (L:=L) (P:=P++t) (Q:=X2++(Y++Q)) (x:=x) (by rw[hL,hX,e1];simp) (by simp only[AA];omega)]at this;rw[cmpC_tot.neg];omega
 ·have l1:Y1.length=t.length+1:=by rw[e1,AA,AK]
  have l2:X2.length=u.length+1:=by rw[e2,AI]
  have:=hB (by omega);rw[getD_of (L:=L) (P:=P++X++t) (Q:=Y2++Q) (x:=y) (by rw[hL,hY,e1];simp) (by simp only[AA];omega),getD_of (L:=L) (P:=P++X1) (Q:=u++(Y++Q)) (x:=x) (by rw[hL,hX,e2];simp) (by simp only[AA];omega)]at this;exact this
theorem one_split{P Y Q L:List Ct}{x:Ct}{a m b i:Nat}(hL:L=P++([x]++(Y++Q)))(ha:a=P.length)(hm:m=a+1)(hb:b=m+Y.length)(h1:m<=i)(h2:i<=b)(hY:SortedC Y)
  (hA:m<i->cmpC (L.getD (i-1) Ct.zero) x<0) (hB:i<b->¬cmpC (L.getD i Ct.zero) x<0) :
  ∃Y1 Y2,Y=Y1++Y2/\i=m+Y1.length/\Ae cmpC ([x]++Y) (Y1++x::Y2):=by
 obtain⟨Y1,Y2,hS,hY1⟩:=cut_at Y (i-m) (by omega);have lY:Y.length=Y1.length+Y2.length:=by rw[hS,AA]
 have hf:∀y u,Y2=y::u->cmpC x y<=0:=fun y u e=>by
  have l2:Y2.length=u.length+1:=by rw[e,AI]
  have:=hB (by omega);rw[getD_of (L:=L) (P:=P++([x]++Y1)) (Q:=u++Q) (x:=y) (by rw[hL,hS,e];simp) (by simp only[AA,AK];omega)]at this;rw[cmpC_tot.neg];omega
 refine⟨Y1,Y2,hS,by omega,?_⟩;rw[hS]at hY;have hx2:SortedC (x::Y2):=BS.2 ⟨fun z hz=>by
  cases h:Y2 with
  | nil=>rw[h]at hz;cases hz
  | cons y u=>exact cmpC_tot.trans _ _ _ (hf y u h) (Mg cmpC_tot (h▸hY.right) z (h▸hz)),hY.right⟩
 have:=Ae.merge cmpC_tot (X1:=[]) (X2:=[x]) (Y1:=Y1) (Y2:=Y2) (Z1:=Y1) (Z2:=x::Y2) (by rw[BC];exact BL _ _) hY (fun t z y s e=>by cases t<;>cases e) (fun t y z s e1 e2=>by
  injection e2 with e2 _;subst e2;have l1:Y1.length=t.length+1:=by rw[e1,AA,AK]
  have:=hA (by omega)
  rwa [getD_of (L:=L) (P:=P++([x]++t)) (Q:=Y2++Q) (x:=y) (by rw[hL,hS,e1];simp) (by simp only[AA,AK];omega)]at this) (by rw[BC];exact Ae.self hY.left) (Ae.self hx2)
 rw[hS];exact this
theorem last_split{P X Q L:List Ct}{y:Ct}{a m i:Nat}(hL:L=P++(X++([y]++Q)))(ha:a=P.length)(hm:m=a+X.length)(h1:a<=i)(h2:i<=m)(hX:SortedC X)
  (hA:a<i->¬cmpC y (L.getD (i-1) Ct.zero)<0) (hB:i<m->cmpC y (L.getD i Ct.zero)<0) :
  ∃X1 X2,X=X1++X2/\i=a+X1.length/\Ae cmpC (X++[y]) (X1++y::X2):=by
 obtain⟨X1,X2,hS,hX1⟩:=cut_at X (i-a) (by omega);have lX:X.length=X1.length+X2.length:=by rw[hS,AA]
 refine⟨X1,X2,hS,by omega,?_⟩;refine Ae.insert cmpC_tot (Ae.self (hS▸hX) |> fun h=>(hS▸h:Ae cmpC X (X1++X2))) (fun z hz=>?_) (fun z hz=>?_)
 ·cases h:X2 with
  | nil=>rw[h]at hz;cases hz
  | cons x u =>
   have l2:X2.length=u.length+1:=by rw[h,AI]
   have:=hB (by omega);rw[getD_of (L:=L) (P:=P++X1) (Q:=u++([y]++Q)) (x:=x) (by rw[hL,hS,h];simp) (by simp only[AA];omega)]at this;rw[hS]at hX;exact cmpC_tot.lt_of_lt_le this (Mg cmpC_tot (h▸hX.right) z (h▸hz))
 ·rcases Gz X1 with e|⟨t,x,e⟩
  ·rw[e]at hz;cases hz
  ·rw[e,EG,DX]at hz;have hz:x=z:=by simpa using hz
   subst hz;have l1:X1.length=t.length+1:=by rw[e,AA,AK]
   have:=hA (by omega)
   rwa [getD_of (L:=L) (P:=P++t) (Q:=X2++([y]++Q)) (x:=x) (by rw[hL,hS,e];simp) (by simp only[AA];omega)]at this
end Go.Proofs.YtdgbkpoickbidaaGreatDoor
