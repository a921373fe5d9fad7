/- Parts of the proof. Conditions: as stated. -/
import Derived.Test.YtdgbkpoickbidaaGreatDoorHx6
import Derived.Deep.Strs
import Derived.Shelf.Abstract
import Derived.Shelf.SlSortCmp.WholeK
import Derived.Shelf.SlGeneric
import Derived.Ground.SlsfProg
set_option maxRecDepth 100000
set_option maxHeartbeats 8000000
open Go.RowKit Go.Proofs.Tryz
set_option linter.defProp false
namespace Go.Proofs.YtdgbkpoickbidaaGreatDoor.UdS
variable{xs:List Value}{B c c3 g i m m2 n:Nat}{R S:Nat->Prop}{A A2 A3:Option Addr}{T e f t:TypeId}{w w' w0 w2 w3 wr:World}
abbrev V:=UK×Int
def cmpV(x y:V):Int:=Hy x.1 y.1
def cmpV_tot:Bq cmpV:=⟨λx y=>Kg.neg x.1 y.1,λx y z=>Kg.trans x.1 y.1 z.1⟩
def InN(x:V):Prop := -9223372036854775808<=x.2/\x.2<=9223372036854775807
def cnt(l:List V):Int:=w64 (l.foldr (λx a=>x.2+a) 0)
def cnt_snoc(l:List V)(x:V):cnt (l++[x])=w64 (cnt l+x.2):=by
 unfold cnt;rw[Pa]
 congr 1
 induction l with
 | nil=>simp
 | cons y l ih=>simp only[CI,List.foldr_cons];rw[ih];omega
def cnt_one{x:V}(h:InN x):cnt [x]=x.2:=by
 show w64 (x.2+0)=x.2;rw[GR];exact Zd h
def sumClass:List V->List V
 | []=>[]
 | x::xs=>[(x.1,cnt (x::xs))]
def sumClass_one{x:V}(h:InN x):sumClass [x]=[x]:=by
 show [(x.1,cnt [x])]=[x];rw[cnt_one h]
def sumClass_nil{l:List V}(h:sumClass l=[]):l=[]:=by
 cases l with
 | nil=>rfl
 | cons x l=>exact nomatch h
def sumClass_snoc{l:List V}{y x:V}(h:[y]=sumClass l):sumClass (l++[x])=[(y.1,w64 (y.2+x.2))]:=by
 cases l with
 | nil=>exact nomatch h
 | cons z l =>
  injection h with h _;subst h;show [(z.1,cnt ((z::l)++[x]))]=_;rw[cnt_snoc]
def sumClass_twice(l:List V):sumClass (sumClass l)=sumClass l:=by
 cases l with
 | nil=>rfl
 | cons x l =>
  show [(x.1,w64 (cnt (x::l)+0))]=[(x.1,cnt (x::l))];rw[GR,show w64 (cnt (x::l))=cnt (x::l)from Zd (Sw _)]
def sumClass_mem{l:List V}{y:V}(h:y∈sumClass l):sumClass l=[y]:=by
 cases l with
 | nil=>cases h
 | cons x l =>
  have:y=(x.1,cnt (x::l)):=by simpa [sumClass] using h
  rw[this];rfl
structure Summed (D R:List V):Prop where
 sorted:R.Pairwise λx y=>cmpV x y<0
 same:∀c,Ae cmpV c R=sumClass (Ae cmpV c D)
def Summed.unique{D R S:List V}(h:Summed D R)(k:Summed D S):R=S :=
 Af.unique cmpV_tot (l:=R) ⟨h.sorted.imp λq=>DP q,λ_=>rfl⟩ ⟨k.sorted.imp λq=>DP q,λc=>by rw[h.same,k.same]⟩
def alike_one(c x:V):Ae cmpV c [x]=if cmpV c x=0 then [x] else []:=by
 unfold Ae;by_cases h:cmpV c x=0
 ·rw[if_pos h,CR (by simpa using h)];rfl
 ·rw[if_neg h,CP (by simpa using h)];rfl
def alike_none{c:V}{l:List V}(h:∀y∈l,¬cmpV c y=0):Ae cmpV c l=[]:=GK.2 λy hy q=>h y hy (by simpa using q)
def mergeStep(M:List V)(x:V):List V:=match M.getLast? with
 | some y=>if cmpV y x=0 then M.dropLast++[(y.1,w64 (y.2+x.2))] else M++[x]
 | none=>[x]
def mergeV(S:List V):List V:=S.foldl mergeStep []
def mergeStep_nil(x:V):mergeStep [] x=[x]:=rfl
def mergeStep_snoc(M:List V)(y x:V):mergeStep (M++[y]) x=if cmpV y x=0 then M++[(y.1,w64 (y.2+x.2))] else M++[y]++[x]:=by
 unfold mergeStep;rw[EK,EC];simp
def mergeV_snoc(S:List V)(x:V):mergeV (S++[x])=mergeStep (mergeV S) x:=by
 unfold mergeV;rw[DU];rfl
def merge_sum(S:List V):S.Pairwise (λx y=>cmpV x y<=0)->(∀x∈S,InN x)->Summed S (mergeV S)/\((S=[]/\mergeV S=[])\/∃S0 s M0 y,S=S0++[s]/\mergeV S=M0++[y]/\cmpV y s=0):=by
 refine Jg (p:=λS=>S.Pairwise (λx y=>cmpV x y<=0)->(∀x∈S,InN x)->Summed S (mergeV S)/\((S=[]/\mergeV S=[])\/∃S0 s M0 y,S=S0++[s]/\mergeV S=M0++[y]/\cmpV y s=0)) ?_ ?_ S
 ·exact λ_ _=>⟨⟨List.Pairwise.nil,λ_=>rfl⟩,.inl ⟨rfl,rfl⟩⟩
 ·intro S x ih hs f;have i:=BL.1 hs;have hx:=f x (by simp);have⟨⟨i1,i2⟩,i3⟩:=ih i.1 (λy hy=>f y (BE _ hy));rw[mergeV_snoc];rcases i3 with ⟨rfl,i4⟩|⟨S0,s,M0,y,e1,e2,e3⟩
  ·rw[i4,mergeStep_nil];refine⟨⟨BN _ _,λc=>?_⟩,.inr ⟨[],x,[],x,rfl,rfl,cmpV_tot.refl x⟩⟩;rw[BD,alike_one];split
   ·rw[sumClass_one hx]
   ·rfl
  ·rw[e2]at i1 i2 ⊢;rw[mergeStep_snoc];have p1:=BL.1 i1;have a:∀m∈M0,cmpV m y<0:=λm hm=>p1.2.2 m hm y (by simp);have j:cmpV s x<=0:=i.2.2 s (by rw[e1];simp) x (by simp);have l:cmpV y x<=0:=cmpV_tot.trans y s x (by omega) j;by_cases h0:cmpV y x=0
   ·rw[if_pos h0];refine⟨⟨BL.2 ⟨p1.1,BN _ _,λm hm z hz=>?_⟩,λc=>?_⟩,.inr ⟨S,x,M0,_,rfl,rfl,h0⟩⟩
    ·rw[AE.1 hz];exact a m hm
    ·have q:=i2 c;rw[Ag,alike_one]at q;rw[Ag,Ag,alike_one,alike_one];by_cases hc:cmpV c y=0
     ·have d:cmpV c x=0:=cmpV_tot.eq_trans hc h0;have hM:Ae cmpV c M0=[]:=alike_none λm hm e=>by
       have:=a m hm;have:=(cmpV_tot.eq_left (z:=y) (show cmpV m c=0 by rw[cmpV_tot.neg,e];rfl)).2 hc;omega
      rw[if_pos hc,hM,BD]at q;rw[if_pos (show cmpV c (y.1,w64 (y.2+x.2))=0 from hc),if_pos d,hM,BD];exact(sumClass_snoc q).symm
     ·have d:¬cmpV c x=0:=λe=>hc (cmpV_tot.eq_trans e (by rw[cmpV_tot.neg,h0];rfl));rw[if_neg hc]at q;rw[if_neg (show ¬cmpV c (y.1,w64 (y.2+x.2))=0 from hc),if_neg d,AV (Ae cmpV c S)];exact q
   ·rw[if_neg h0];have g:∀m∈M0++[y],cmpV m x<0:=λm hm=>by
     rcases AQ.1 hm with h|h
     ·exact cmpV_tot.lt_of_lt_le (a m h) l
     ·rw[AE.1 h];omega
    refine⟨⟨BL.2 ⟨i1,BN _ _,λm hm z hz=>?_⟩,λc=>?_⟩,.inr ⟨S,x,M0++[y],x,rfl,rfl,cmpV_tot.refl x⟩⟩
    ·rw[AE.1 hz];exact g m hm
    ·have q:=i2 c;have e4:Ae cmpV c (M0++[y]++[x])=Ae cmpV c (M0++[y])++Ae cmpV c [x]:=Ag _ _ _;have e5:Ae cmpV c (S++[x])=Ae cmpV c S++Ae cmpV c [x]:=Ag _ _ _;rw[e4,e5,q,alike_one];by_cases hc:cmpV c x=0
     ·have hM:Ae cmpV c (M0++[y])=[]:=alike_none λm hm e=>by
       have:=g m hm;have:=(cmpV_tot.eq_left (z:=x) (show cmpV m c=0 by rw[cmpV_tot.neg,e];rfl)).2 hc;omega
      rw[hM]at q;rw[sumClass_nil q.symm,if_pos hc];show []++[x]=sumClass ([]++[x]);rw[BD,sumClass_one hx]
     ·rw[if_neg hc,AV,AV]
def Summed.of_stable{D S:List V}(h:Af cmpV D S)(hin:∀x∈D,InN x):Summed D (mergeV S):=by
 have k:=(merge_sum S h.sorted (λx hx=>hin x ((h.mem cmpV_tot x).1 hx))).1;exact⟨k.sorted,λc=>by rw[k.same,h.same]⟩
def addV:List V->V->List V
 | [],x=>[x]
 | y::R,x=>if cmpV y x<0 then y::addV R x else if cmpV y x=0 then (y.1,w64 (y.2+x.2))::R else x::y::R
def alike_cons(c y:V)(R:List V):Ae cmpV c (y::R)=(if cmpV c y=0 then [y] else [])++Ae cmpV c R:=by
 have:=Ag (cmp:=cmpV) c [y] R;rw[alike_one]at this;exact this
def addV_mem(x:V):∀(R:List V) (z:V),(∀y∈R,cmpV z y<0)->cmpV z x<0->∀y∈addV R x,cmpV z y<0
 | [],z,_,hx,y,hy=>by rw[AE.1 hy];exact hx
 | a::R,z,h,hx,y,hy=>by
  unfold addV at hy;split at hy
  ·rcases AY.1 hy with rfl|q
   ·exact h _ (BC ..)
   ·exact addV_mem x R z (λb hb=>h b (BM _ hb)) hx y q
  ·split at hy
   ·rcases AY.1 hy with rfl|q
    ·exact h a (BC ..)
    ·exact h y (BM _ q)
   ·rcases AY.1 hy with rfl|q
    ·exact hx
    ·exact h y q
def addV_same(x:V)(hx:InN x)(c:V):∀(R:List V) (l:List V),R.Pairwise (λx y=>cmpV x y<0)->Ae cmpV c R=sumClass l->Ae cmpV c (addV R x)=sumClass (l++if cmpV c x=0 then [x] else [])
 | [],l,_,h=>by
  have:=sumClass_nil (show sumClass l=[]from h.symm);subst this;show Ae cmpV c [x]=_;rw[alike_one];split
  ·rw[BD,sumClass_one hx]
  ·rfl
 | y::R,l,hp,h=>by
  have hp':=BZ.1 hp;unfold addV;by_cases h1:cmpV y x<0
  ·rw[if_pos h1,alike_cons];rw[alike_cons]at h;by_cases hc:cmpV c y=0
   ·have hcx:¬cmpV c x=0:=λe=>by have:=(cmpV_tot.eq_left (z:=x) hc).1 e;omega
    rw[if_pos hc]at h ⊢;have hR:Ae cmpV c R=[]:=alike_none λz hz e=>by
     have:=hp'.1 z hz;have:=(cmpV_tot.eq_left (z:=z) hc).1 e;omega
    rw[hR]at h;have:=addV_same x hx c R [] hp'.2 hR;rw[this,if_neg hcx,AV,AV];exact h
   ·rw[if_neg hc]at h ⊢;exact addV_same x hx c R l hp'.2 h
  ·rw[if_neg h1];by_cases h2:cmpV y x=0
   ·rw[if_pos h2,alike_cons];rw[alike_cons]at h;by_cases hc:cmpV c y=0
    ·have hcx:cmpV c x=0:=cmpV_tot.eq_trans hc h2;have hR:Ae cmpV c R=[]:=alike_none λz hz e=>by
      have:=hp'.1 z hz;have:=(cmpV_tot.eq_left (z:=z) hc).1 e;omega
     rw[if_pos hc,hR]at h;rw[if_pos (show cmpV c (y.1,w64 (y.2+x.2))=0 from hc),hR,if_pos hcx];exact(sumClass_snoc h).symm
    ·have hcx:¬cmpV c x=0:=λe=>hc (cmpV_tot.eq_trans e (by rw[cmpV_tot.neg,h2];rfl));rw[if_neg hc]at h;rw[if_neg (show ¬cmpV c (y.1,w64 (y.2+x.2))=0 from hc),if_neg hcx,AV];exact h
   ·rw[if_neg h2,alike_cons];by_cases hc:cmpV c x=0
    ·have hyx:cmpV x y<0:=by rw[cmpV_tot.neg];omega
     have hR:Ae cmpV c (y::R)=[]:=alike_none λz hz e=>by
      have a:cmpV x z<0:=by
       rcases AY.1 hz with rfl|q
       ·exact hyx
       ·exact cmpV_tot.lt_of_lt_le hyx (DP (hp'.1 z q))
      have:=(cmpV_tot.eq_left (z:=z) hc).1 e;omega
     rw[hR]at h ⊢;rw[if_pos hc,sumClass_nil h.symm];show [x]++[]=sumClass ([]++[x]);rw[BD,sumClass_one hx];rfl
    ·rw[if_neg hc,BD,AV];exact h
def addV_sorted(x:V):∀R:List V,R.Pairwise (λx y=>cmpV x y<0)->(addV R x).Pairwise (λx y=>cmpV x y<0)
 | [],_=>BN _ _
 | y::R,h=>by
  have h':=BZ.1 h;unfold addV;split
  ·rename_i h1;exact BZ.2 ⟨addV_mem x R y h'.1 h1,addV_sorted x R h'.2⟩
  ·split
   ·exact BZ.2 ⟨λz hz=>h'.1 z hz,h'.2⟩
   ·rename_i h1 h2;have hyx:cmpV x y<0:=by rw[cmpV_tot.neg];omega
    exact BZ.2 ⟨λz hz=>(AY.1 hz).elim (λe=>e▸hyx) (λq=>cmpV_tot.lt_of_lt_le hyx (DP (h'.1 z q))),h⟩
def Summed.add{D R:List V}{x:V}(h:Summed D R)(hx:InN x):Summed (D++[x]) (addV R x):=⟨addV_sorted x R h.sorted,λc=>by rw[addV_same x hx c R _ h.sorted (h.same c),Ag,alike_one]⟩
def sumAll(L:List V):List V:=L.foldl addV []
def Summed.all(L:List V):(∀x∈L,InN x)->Summed L (sumAll L):=by
 refine Jg (p:=λL=>(∀x∈L,InN x)->Summed L (sumAll L)) (λ_=>⟨List.Pairwise.nil,λ_=>rfl⟩) (λL x ih h=>?_) L;unfold sumAll;rw[DU];exact(ih (λy hy=>h y (BE _ hy))).add (h x (by simp))
def sumV(L:List V):List V:=(sumAll L).filter λx=>!(x.2==0)
def dedup_new{L O:List V}{x:V}(h:∀c,Ae cmpV c O=sumClass (Ae cmpV c L))(hx:InN x)(hn:∀y∈O,¬cmpV y x=0)(c:V):Ae cmpV c (O++[x])=sumClass (Ae cmpV c (L++[x])):=by
 rw[Ag,Ag,h,alike_one];by_cases hc:cmpV c x=0
 ·have hO:Ae cmpV c O=[]:=alike_none λy hy e=>hn y hy (cmpV_tot.eq_trans (by rw[cmpV_tot.neg,e];rfl) hc);have:=h c;rw[hO]at this;rw[sumClass_nil this.symm,if_pos hc];show []++[x]=sumClass ([]++[x]);rw[BD,sumClass_one hx]
 ·rw[if_neg hc,AV,AV]
def dedup_old{L P Q:List V}{y x:V}(h:∀c,Ae cmpV c (P++y::Q)=sumClass (Ae cmpV c L))(hy:cmpV y x=0)(c:V):Ae cmpV c (P++(y.1,w64 (y.2+x.2))::Q)=sumClass (Ae cmpV c (L++[x])):=by
 have q:=h c;rw[Ag,alike_cons]at q;rw[Ag,alike_cons,Ag,alike_one];by_cases hc:cmpV c y=0
 ·have a:cmpV c x=0:=cmpV_tot.eq_trans hc hy;rw[if_pos hc]at q;have hm:=sumClass_mem (l:=Ae cmpV c L) (y:=y) (by rw[<-q];simp);have hl:=congrArg List.length (q.trans hm);simp only[AA,AJ,CB]at hl;have hP:Ae cmpV c P=[]:=AH (by omega);have hQ:Ae cmpV c Q=[]:=AH (by omega);rw[if_pos (show cmpV c (y.1,w64 (y.2+x.2))=0 from hc),if_pos a,hP,hQ];exact(sumClass_snoc hm.symm).symm
 ·have a:¬cmpV c x=0:=λe=>hc (cmpV_tot.eq_trans e (by rw[cmpV_tot.neg,hy];rfl));rw[if_neg hc]at q;rw[if_neg (show ¬cmpV c (y.1,w64 (y.2+x.2))=0 from hc),if_neg a,AV (Ae cmpV c L)];exact q
end Go.Proofs.YtdgbkpoickbidaaGreatDoor.UdS
namespace Go.Proofs.YtdgbkpoickbidaaGreatDoor
variable{xs:List Value}{B c c3 g i m m2 n:Nat}{R S:Nat->Prop}{A A2 A3:Option Addr}{T e f t:TypeId}{w w' w0 w2 w3 wr:World}
def atV(U:List UV)(t:TV):List V:=(U.filter λv=>Fq v.1.2 t).map λv=>(v.1.1,v.2)
def atU(L:List Ud)(t:TV):List Ct:=(L.filter λx=>Fq x.t.v t).map λx=>⟨x.A,x.c,x.l,x.d⟩
def mU(L:List Ud)(t:TV):(atU L t).map Al=atV (L.map Ud.uv) t:=by
 unfold atU atV;rw[CO,EE,CO];rfl
def eL{L:List Ud}{x:Ud}(hi:i<L.length)(hx:L.getD i Ud.zero=x)(t:TV):atU (L.take (i+1)) t=atU (L.take i) t++if Fq x.t.v t=true then [⟨x.A,x.c,x.l,x.d⟩] else []:=by
 unfold atU;rw[Iy hi,hx,CT,AI]
 congr 1
 split
 ·rename_i h;simp[h]
 ·rename_i h;simp[h]
structure InU (x:Ud):Prop where
 row:InC ⟨x.A,x.c,x.l,x.d⟩
 tu:U32 x.t.l
 tn:x.t.l.length<=100000
 te:0<=x.t.e/\x.t.e<=18446744073709551615
def InU.num{x:Ud}(h:InU x):UdS.InN x.uv:=h.row.num
def InU.lens{x:Ud}(h:InU x):x.l.length<=1000000000/\x.t.l.length<=1000000000:=⟨AR h.row.len (by decide),AR h.tn (by decide)⟩
def Ly(w:World)(U:List V)(e:Ending)(w':World):Prop:=∃A m c R,e=.returned (.slice A m c)/\m=R.length/\Own w' w.heap.size 154 2 A m c (Az R) /\
 (∀x∈R,RwO w' x.A x.c x.l/\∀ad,x.A=some ad->w.heap.size<=ad.block/\blk A c≠some ad.block)/\Iz R/\R.map Al=U/\Ext w w'
def Ls.late{L:List Ct}{e:Ending}{U:List V}(h:Ls w0 L e w')(x:Ext w w0)(hv:sumV (L.map Al)=U):Ly w U e w':=by
 obtain⟨A,m,c,R,e1,e2,o,r,a,v,x2⟩:=h;exact⟨A,m,c,R,e1,e2,o.mono x.size,λy hy=>⟨(r y hy).1,λad q=>⟨AR x.size ((r y hy).2 ad q).1,((r y hy).2 ad q).2⟩⟩,a,by rw[v,hv],x.trans x2⟩
def lJ{b:Bool}(e1 e2:Int)(A1 A2:Option Addr)(n1 n2 c1 c2:Nat)(l1 l2:List Int)(w:World)(hb:H0 (Jn e1 l1 e2 l2=b))(h1:Sl w 1 A1 n1 c1 (wds l1))(h2:Sl w 1 A2 n2 c2 (wds l2)) :
  C3 108 #[.agg #[.int .u64 e1,.slice A1 n1 c1],.agg #[.int .u64 e2,.slice A2 n2 c2]] w λe w'=>e=.returned (.bool b)/\Ext w w':=hb.o▸mF e1 e2 A1 A2 n1 n2 c1 c2 l1 l2 w h1 h2
structure On (w wr:World) (L:List Ud) (t:TV) (i:Nat) (A:Option Addr) (m c:Nat):Prop where
 len:m=(atU (L.take i) t).length
 own:Own wr w.heap.size 154 2 A m c (Az (atU (L.take i) t))
 ext:Ext w wr
def On.skip{L:List Ud}{t:TV}{x:Ud}(h:On w wr L t i A m c)(hi:i<L.length)(hx:L.getD i Ud.zero=x)(hb:Fq x.t.v t=false)(q:Ext wr w2):On w w2 L t (i+1) A m c:=by
 have e:atU (L.take (i+1)) t=atU (L.take i) t:=by rw[eL hi hx,if_neg (by rw[hb];decide),AV]
 exact⟨by rw[e];exact h.len,by rw[e];exact h.own.ext q,h.ext.trans q⟩
def On.more{L:List Ud}{t:TV}{c2:Nat}{x:Ud}(h:On w wr L t i A m c)(hi:i<L.length)(hx:L.getD i Ud.zero=x)(hb:Fq x.t.v t=true)(hm:m2=m+1)
  (o:Own w2 w.heap.size 154 2 A2 m2 c2 (Az (atU (L.take i) t)++[.slice x.A x.l.length x.c,.int .i64 x.d])) (q:Ext w w2):On w w2 L t (i+1) A2 m2 c2:=by
 have e:atU (L.take (i+1)) t=atU (L.take i) t++[⟨x.A,x.c,x.l,x.d⟩]:=by rw[eL hi hx,if_pos hb]
 refine⟨by rw[e,AA,hm,h.len];rfl,?_,q⟩;rw[e,Fo];exact o
def mT(A:Option Addr)(c n:Nat)(L:List Ud)(e:Int)(At:Option Addr)(nt ct:Nat)(lt:List Int)(w:World)(hn:H0 (n=L.length))(h:H0 (Uin w A c L))(h9:n<=1000000)(hin:H0 (∀x∈L,InU x))(ht:H0 (Sl w 1 At nt ct (wds lt)))(G:Good w) :
  C3 17 #[.slice A n c,.agg #[.int .u64 e,.slice At nt ct]] w (Ly w (sumV (atV (L.map Ud.uv) (e,lt)))):=by
 go_enter func17,ntmps17;go_wp2;have⟨wb,f⟩:=E9 (w.alloc (.cells #[.int .u64 e,.slice At nt ct] 26));have XB:H0 (Ext w wb):=j6 (by rw[f];exact(Ext.refl _).alloc _);have BT:H0 (Bk wb w.heap.size 26 #[.int .u64 e,.slice At nt ct]):=j6 (by rw[f];exact Bk.new _ _ _);rw[<-f];clear f;have⟨gt,F⟩:=E9 w.heap.size;rw[<-F]at BT ⊢;clear F;have D:H0 (On wb wb L (e,lt) 0 none 0 0):=j6 ⟨rfl,Own.nil _ _ _ _,Ext.refl _⟩
 go_loopg [5,10] n (λz u v wr=>∃(i m c3:Nat) (A3:Option Addr),z=n-i/\i<=n/\m<=i/\u=.slice A3 m c3/\v=.int .i64 i/\H0 (On wb wr L (e,lt) i A3 m c3))
 case atStart=>exact⟨0,0,0,none,rfl,AG _,AD _,rfl,rfl,D⟩
 case round =>
  clear D;obtain⟨i,m,c3,A3,rfl,hi,K,rfl,rfl,HP⟩:=hrel;by_cases hlt:i<n
  ·have a:i<L.length:=by rw[<-hn.o];exact hlt
   have XW:=XB.o.trans HP.o.ext;obtain⟨ad,rfl,p0,p1,p2,p3⟩:=(h.o.ext XW).at a;have hm:=As a;have⟨x,hx⟩:=tz (L.getD i Ud.zero);rw[hx]at p0 p1 p2 p3 hm;have⟨nx,j⟩:=E9 x.l.length;have⟨tx,B⟩:=E9 x.t.l.length;rw[<-j]at p0;rw[<-B]at p2;have H:=j6 j;have HX:=j6 hx;have C:=j6 a;have E:H0 (∀W,Ext wr W->Sl W 1 x.t.A tx x.t.c (wds x.t.l)):=j6 (λW q=>by rw[B];exact((h.o.ls x hm).t.ext XW).ext q);have HT:H0 (∀W,Ext wr W->Sl W 1 At nt ct (wds lt)):=j6 (λW q=>(ht.o.ext XW).ext q);have XA:Ext wr (wr.alloc (.cells #[.slice x.A nx x.c,.int .u64 x.t.e,.slice x.t.A tx x.t.c,.int .i64 x.d] 95)):=(Ext.refl wr).alloc _;have BX:H0 (Bk (wr.alloc (.cells #[.slice x.A nx x.c,.int .u64 x.t.e,.slice x.t.A tx x.t.c,.int .i64 x.d] 95)) wr.heap.size 95 #[.slice x.A nx x.c,.int .u64 x.t.e,.slice x.t.A tx x.t.c,.int .i64 x.d]):=j6 (Bk.new _ _ _);have t0:=(BT.o.ext (HP.o.ext.trans XA)).cell 0;have t1:=(BT.o.ext (HP.o.ext.trans XA)).cell 1;have⟨b,hb⟩:=tz (Jn x.t.e x.t.l e lt);have HB:=j6 hb;clear a hm hx j B hb XW;have m1:=TI;cases b with
   | true =>
    go_wp2_with (first
     | (go_at_call 108;clear m1;refine(lJ x.t.e e x.t.A At tx nt x.t.c ct x.t.l lt _ HB (E.o _ XA) (HT.o _ XA)).mono ?_;rintro r w1 ⟨rfl,x1⟩;have q0:=(BX.o.ext x1).cell 0;have q3:=(BX.o.ext x1).cell 3;have X1:=j6 (XA.trans x1);have M:wb.heap.size<=w1.heap.size:=(HP.o.ext.trans X1.o).size;clear x1;have m2:=TI)
     | (at_builtin;clear m2;refine Ab _ Bo wb.heap.size _ _ rfl rfl A3 m c3 (Az (atU (L.take i) (e,lt))) rfl ((HP.o.own.ext X1.o).alloc _) (some ⟨w1.heap.size,0,none⟩) 1 1 [.slice x.A nx x.c,.int .i64 x.d] rfl (No _ _ _ _) (by intro u hu;simp at hu;rcases hu with rfl|rfl<;>rfl) (by omega) (by decide) (by simp;omega) ?_;intro A6 c6 w6 o6 g6 h6;clear h6;have g:H0 (On wb w6 L (e,lt) (i+1) A6 (m+1) c6):=j6 (HP.o.more C.o HX.o HB.o rfl (by have:=o6;rwa [H.o]at this) (((HP.o.ext.trans X1.o).alloc _).grown g6 (λk e=>(HP.o.own.lt k e).1)));clear o6 g6)
     | fail)
    go_roundg (n-(i+1))
    case measure=>omega
    case rel=>exact⟨i+1,m+1,c6,A6,rfl,by omega,by omega,rfl,by go_num,g⟩
   | false =>
    go_wp2_with (first
     | (go_at_call 108;clear m1;refine(lJ x.t.e e x.t.A At tx nt x.t.c ct x.t.l lt _ HB (E.o _ XA) (HT.o _ XA)).mono ?_;rintro r w1 ⟨rfl,x1⟩;have g:H0 (On wb w1 L (e,lt) (i+1) A3 m c3):=j6 (HP.o.skip C.o HX.o HB.o (XA.trans x1));clear x1)
     | fail)
    go_roundg (n-(i+1))
    case measure=>omega
    case rel=>exact⟨i+1,m,c3,A3,rfl,by omega,by omega,rfl,by go_num,g⟩
  ·obtain rfl:i=n:=by omega
   have XW:=XB.o.trans HP.o.ext;have ea:atU (L.take i) (e,lt)=atU L (e,lt):=by rw[AW (by rw[<-hn.o];exact AD _)]
   have HC:H0 (Ev wr A3 c3 (atU L (e,lt))):=j6 ⟨by have:=HP.o.own.sl;have q:=HP.o.len;rw[ea]at this q;rwa [q]at this,λy hy=>by
    obtain⟨x,hx,rfl⟩:=AP.1 hy;exact(h.o.ls x (BI.1 hx).1).r.ext XW⟩
   have HI:H0 (∀y∈atU L (e,lt),InC y):=j6 (λy hy=>by
    obtain⟨x,hx,rfl⟩:=AP.1 hy;exact(hin.o x (BI.1 hx).1).row)
   have HM:H0 (m=(atU L (e,lt)).length):=j6 (by rw[<-ea];exact HP.o.len);have HV:H0 (sumV ((atU L (e,lt)).map Al)=sumV (atV (L.map Ud.uv) (e,lt))):=j6 (by rw[mU]);have GW:=j6 (G.ext XW);have I:=j6 XW;clear ea XW;go_wp2_with (first
    | (go_at_call 109;refine(yJ A3 c3 m (atU L (e,lt)) _ HM.o (by omega) HC.o HI.o GW.o).mono ?_;rintro r w2 hr;have HR:=j6 (Ls.late hr I.o HV.o);obtain⟨A2,m2,c2,R2,rfl,J⟩:=hr;clear J)
    | fail)
   go_ret;exact HR.o
open Go.ChangeShapes Go.WideShapes Go.ChangeAt Go.RowKit Go.WideElems
section
variable{H:Type}{enc:TypeId×Value->H}{W:World}
def dE:prog.cellsOf 79=1:=by kernel_rfl
def Zv:prog.cellsOf 95=4:=by kernel_rfl
structure hH (x:Ud):Prop where
 r:a3i x.l
 t:a3g x.t
 d : -9223372036854775808<=x.d/\x.d<=9223372036854775807
def xF{fuel:Nat}{cs:List Value}{y:DataW H×List MemPlace}(h:DataW.trod enc prog W 0 (λ_=>true) true fuel 95 cs=some y) :
  ∃x:Ud,cs=udC x/\UdR W x/\hH x:=by
 have⟨y0,y1,y2,n,_,hl,h0,h1,h2⟩:=Go.Deep.trod_struct3 Tryz.underlying95 h;rw[Zv]at hl;obtain⟨c0,c1,c2,c3,rfl⟩:=a1h hl;have g0:DataW.trod enc prog W 0 (λ_=>true) true n 79 [c0]=some y0:=by
  have:DataW.trod enc prog W 0 (λ_=>true) true n 79 (([c0,c1,c2,c3].drop 0).take (prog.cellsOf 79))=some y0:=h0;rw[dE]at this;exact this
 have g1:DataW.trod enc prog W 0 (λ_=>true) true n 26 [c1,c2]=some y1:=by
  have:DataW.trod enc prog W 0 (λ_=>true) true n 26 (([c0,c1,c2,c3].drop 1).take (prog.cellsOf 26))=some y1:=h1;rw[sD]at this;exact this
 have g2:DataW.trod enc prog W 0 (λ_=>true) true n 2 [c3]=some y2:=by
  have:DataW.trod enc prog W 0 (λ_=>true) true n 2 (([c0,c1,c2,c3].drop 3).take (prog.cellsOf 2))=some y2:=h2;rw[lW]at this;exact this
 have⟨A,c,l,e0,r0,i0⟩:=qV g0;have⟨t,e1,s1,i1⟩:=kU g1;have⟨k,e2,_,w2⟩:=DataW.trod_int Tryz.underlying2 g2;obtain rfl:c0=.slice A l.length c:=by simpa using e0
 obtain⟨rfl,rfl⟩:c1=.int .u64 t.e/\c2=.slice t.A t.l.length t.c:=by simpa [tmC] using e1
 obtain rfl:c3=.int .i64 k:=by simpa using e2
 exact⟨⟨A,c,l,t,k⟩,rfl,⟨r0,s1⟩,⟨i0,i1,Zz w2⟩⟩
def qU{fuel:Nat}{cs:List Value}{y:DataW H×List MemPlace}(h:DataW.trod enc prog W 0 (λ_=>true) true fuel 22 cs=some y) :
  ∃A c L,cs=[.slice A (List.length L) c]/\Uin W A c L/\∀x∈L,hH x:=by
 rcases FJ Tryz.underlying22 h with ⟨hcs,_⟩|⟨a,n,c,m,fu,D,Pl,hcs,_,hnc,hcm,hm,_,hx⟩
 ·exact⟨none,0,[],hcs,Uin.nil W,λx hx=>(nomatch hx)⟩
 ·rw[Zv]at hx;have r:n<=m:=by rw[hm];split<;>omega
  have⟨F,hF⟩:=GX (α:=Ud) (n:=n) (p:=λi d=>(∀j,j<4->W.cell? (a.add (i*4+j))=(udC d)[j]?)/\UdR W d/\hH d) (λi hi=>by
   have⟨l,h1,h2⟩:=hx i (by omega);have⟨_,_,h3⟩:=GI h1;obtain⟨d,rfl,h4⟩:=xF h2;exact⟨d,λj hj=>by rw[<-Ji];exact h3 j hj,h4⟩)
  have f:((List.range n).map F).length=n:=by simp
  have g:∀d∈(List.range n).map F,UdR W d/\hH d:=λd hd=>by
   obtain⟨i,hi,rfl⟩:=AP.1 hd;exact(hF i (DW.1 hi)).2
  refine⟨some a,c,(List.range n).map F,by rw[f];exact hcs,⟨⟨by rw[Cx],by rw[f];exact hnc,hcm,(λh=>nomatch h),λ_=>⟨a,rfl,λj u hu=>?_⟩⟩,λd hd=>(g d hd).1⟩,λd hd=>(g d hd).2⟩;have hj:j<n*4:=by
   rcases DO j (n*4)with q|q
   ·exact q
   ·rw[DL (by rw[Cx,f];exact q)]at hu;cases hu
  have e:j=j / 4*4+j % 4:=by omega
  rw[e,Em _ _ _ (by rw[f];omega) (by omega)]at hu;have e2:((List.range n).map F).getD (j / 4) Ud.zero=F (j / 4):=by
   rw[AB,CG,GT (by omega)];rfl
  rw[e2]at hu;rw[e,(hF (j / 4) (by omega)).1 (j % 4) (by omega)];exact hu
end
def hH.inU{x:Ud}(h:hH x)(h1:x.l.length<=1000000)(h2:x.t.l.length<=100000):InU x:=⟨⟨h.r.txt,h.r.int,h.d,h1⟩,h.t.u,h2,h.t.e⟩
open Go.ChangeShapes Go.WideShapes Go.ChangeAt Go.RowKit Go.WideElems
structure Hop where
 k:Int
 A:Option Addr
 c:Nat
 L:List Ud
 e:Int
 n:Int
 b:Int
def Hop.zero:Hop:=⟨0,none,0,[],0,0,0⟩
instance:Inhabited Hop:=⟨Hop.zero⟩
def Qd(x:Hop):List Value:=[.int .u8 x.k,.slice x.A x.L.length x.c,.int .u64 x.e,.int .i64 x.n,.int .u8 x.b]
def Xc(M:List Hop):List Value:=M.flatMap Qd
def Ye(M:List Hop):(Xc M).length=M.length*5:=by
 unfold Xc;induction M with
 | nil=>rfl
 | cons d l ih=>rw[BQ,AA,ih,AJ,show(Qd d).length=5 from rfl];omega
def Pm:∀(M:List Hop) (i j:Nat),i<M.length->j<5->(Xc M)[i*5+j]?=(Qd (M.getD i Hop.zero))[j]?
 | [],i,j,h,_=>absurd h (DR _)
 | d::l,0,j,_,hj=>by
  unfold Xc;rw[BQ,GC,BV,BS (by rw[show(Qd d).length=5 from rfl];exact hj)];rfl
 | d::l,i+1,j,h,hj=>by
  unfold Xc;rw[BQ,BF (by rw[show(Qd d).length=5 from rfl];omega),show(i+1)*5+j-(Qd d).length=i*5+j by rw[show(Qd d).length=5 from rfl];omega];exact Pm l i j (ES h) hj
structure Oz (x:Hop):Prop where
 k:0<=x.k/\x.k<=255
 u:∀y∈x.L,hH y
 e:0<=x.e/\x.e<=18446744073709551615
 n : -9223372036854775808<=x.n/\x.n<=9223372036854775807
 b:0<=x.b/\x.b<=255
structure Hin (w:World) (A:Option Addr) (c:Nat) (M:List Hop):Prop where
 sl:Sl w 5 A M.length c (Xc M)
 ls:∀x∈M,Uin w x.A x.c x.L
def Hin.ext{M:List Hop}(h:Hin w A c M)(x:Ext w w'):Hin w' A c M:=⟨h.sl.ext x,λy hy=>(h.ls y hy).ext x⟩
def dL{M:List Hop}(h:i<M.length):M.getD i Hop.zero∈M:=by
 rw[AB,AC h];exact BR h
def a1c{M:List Hop}(h:i<M.length):M.take (i+1)=M.take i++[M.getD i Hop.zero]:=by
 rw[CC h,AB,AC h];rfl
def Hin.at{M:List Hop}(h:Hin w A c M){i:Nat}(hi:i<M.length){x:Hop}(hx:M.getD i Hop.zero=x):∃ad,A=some ad/\w.cell? (ad.add (i*5))=some (.int .u8 x.k)/\w.cell? ⟨(ad.add (i*5)).block,(ad.add (i*5)).off+1,none⟩=some (.slice x.A x.L.length x.c) /\
  w.cell? ⟨(ad.add (i*5)).block,(ad.add (i*5)).off+2,none⟩=some (.int .u64 x.e)/\w.cell? ⟨(ad.add (i*5)).block,(ad.add (i*5)).off+3,none⟩=some (.int .i64 x.n)/\w.cell? ⟨(ad.add (i*5)).block,(ad.add (i*5)).off+4,none⟩=some (.int .u8 x.b):=by
 have⟨ad,e,hc⟩:=h.sl.2.2.2.2 (by omega);have q:∀j v,j<5->(Qd x)[j]?=some v->w.cell? (ad.add (i*5+j))=some v:=λj v hj hv=>hc _ v (by rw[Pm M i j hi hj,hx,hv]);exact⟨ad,e,q 0 _ (by omega) rfl,by rw[<-Ge _ _ 1 (by omega)];exact q 1 _ (by omega) rfl,by rw[<-Ge _ _ 2 (by omega)];exact q 2 _ (by omega) rfl,by rw[<-Ge _ _ 3 (by omega)];exact q 3 _ (by omega) rfl,by rw[<-Ge _ _ 4 (by omega)];exact q 4 _ (by omega) rfl⟩
section
variable{H:Type}{enc:TypeId×Value->H}{W:World}
def a3n{α:Type}{l:List α}(h:l.length=5):∃a b c d e,l=[a,b,c,d,e]:=by
 match l,h with
 | [a,b,c,d,e],_=>exact⟨a,b,c,d,e,rfl⟩
def Ub:prog.cellsOf 114=5:=by kernel_rfl
def lU:prog.cellsOf 5=1:=by kernel_rfl
def dD:prog.cellsOf 22=1:=by kernel_rfl
def vJ:prog.cellsOf 23=1:=by kernel_rfl
def vL:prog.cellsOf 3=1:=by kernel_rfl
def Ps{P:Program}{base:Nat}{spare:Nat->Bool}{held:Bool}{f0 f1 f2 f3 f4:Field}{fuel:Nat}{cs:List Value}{x:DataW H×List MemPlace}(ht:P.underlying t=some (.struct #[f0,f1,f2,f3,f4]))(h:DataW.trod enc P w base spare held fuel t cs=some x) :
  ∃y0 y1 y2 y3 y4 n,x.1=.agg [y0.1,y1.1,y2.1,y3.1,y4.1]/\cs.length=P.cellsOf t/\DataW.trod enc P w base spare held n f0.type ((cs.drop f0.offset).take (P.cellsOf f0.type))=some y0 /\
   DataW.trod enc P w base spare held n f1.type ((cs.drop f1.offset).take (P.cellsOf f1.type))=some y1/\DataW.trod enc P w base spare held n f2.type ((cs.drop f2.offset).take (P.cellsOf f2.type))=some y2 /\
   DataW.trod enc P w base spare held n f3.type ((cs.drop f3.offset).take (P.cellsOf f3.type))=some y3/\DataW.trod enc P w base spare held n f4.type ((cs.drop f4.offset).take (P.cellsOf f4.type))=some y4:=by
 obtain⟨xs,n,_,rfl,hl,a,hf⟩:=DataW.trod_struct ht h
 match xs,a with
 | [y0,y1,y2,y3,y4],_=>exact⟨y0,y1,y2,y3,y4,n,by simp,hl,by simpa using hf 0 f0 rfl,by simpa using hf 1 f1 rfl,by simpa using hf 2 f2 rfl,by simpa using hf 3 f3 rfl,by simpa using hf 4 f4 rfl⟩
def qX{fuel:Nat}{cs:List Value}{y:DataW H×List MemPlace}(h:DataW.trod enc prog W 0 (λ_=>true) true fuel 114 cs=some y) :
  ∃x:Hop,cs=Qd x/\Uin W x.A x.c x.L/\Oz x/\x.L.length<=Rows.uptoBulk y.1:=by
 have⟨y0,y1,y2,y3,y4,n,hy,hl,h0,h1,h2,h3,h4⟩:=Ps Tryz.underlying114 h;rw[Ub]at hl;obtain⟨c0,c1,c2,c3,c4,rfl⟩:=a3n hl;have g0:DataW.trod enc prog W 0 (λ_=>true) true n 5 [c0]=some y0:=by
  have:DataW.trod enc prog W 0 (λ_=>true) true n 5 (([c0,c1,c2,c3,c4].drop 0).take (prog.cellsOf 5))=some y0:=h0;rw[lU]at this;exact this
 have g1:DataW.trod enc prog W 0 (λ_=>true) true n 22 [c1]=some y1:=by
  have:DataW.trod enc prog W 0 (λ_=>true) true n 22 (([c0,c1,c2,c3,c4].drop 1).take (prog.cellsOf 22))=some y1:=h1;rw[dD]at this;exact this
 have g2:DataW.trod enc prog W 0 (λ_=>true) true n 23 [c2]=some y2:=by
  have:DataW.trod enc prog W 0 (λ_=>true) true n 23 (([c0,c1,c2,c3,c4].drop 2).take (prog.cellsOf 23))=some y2:=h2;rw[vJ]at this;exact this
 have g3:DataW.trod enc prog W 0 (λ_=>true) true n 3 [c3]=some y3:=by
  have:DataW.trod enc prog W 0 (λ_=>true) true n 3 (([c0,c1,c2,c3,c4].drop 3).take (prog.cellsOf 3))=some y3:=h3;rw[vL]at this;exact this
 have g4:DataW.trod enc prog W 0 (λ_=>true) true n 5 [c4]=some y4:=by
  have:DataW.trod enc prog W 0 (λ_=>true) true n 5 (([c0,c1,c2,c3,c4].drop 4).take (prog.cellsOf 5))=some y4:=h4;rw[lU]at this;exact this
 have⟨k,e0,_,w0⟩:=DataW.trod_int Tryz.underlying5 g0;have⟨A,c,L,e1,s1,i1⟩:=qU g1;have⟨e,e2,_,w2⟩:=DataW.trod_int Tryz.underlying23 g2;have⟨m,e3,_,w3⟩:=DataW.trod_int Tryz.underlying3 g3;have⟨b,e4,_,w4⟩:=DataW.trod_int Tryz.underlying5 g4;obtain rfl:c0=.int .u8 k:=by simpa using e0
 obtain rfl:c1=.slice A L.length c:=by simpa using e1
 obtain rfl:c2=.int .u64 e:=by simpa using e2
 obtain rfl:c3=.int .i64 m:=by simpa using e3
 obtain rfl:c4=.int .u8 b:=by simpa using e4
 have b1:=iY Tryz.underlying22 g1;have p1:=Iw (d:=y1.1) (l:=[y0.1,y1.1,y2.1,y3.1,y4.1]) (by simp);refine⟨⟨k,A,c,L,e,m,b⟩,rfl,s1,⟨rS w0,i1,rY w2,Zz w3,rS w4⟩,?_⟩;show L.length<=_;rw[hy];simp only[Rows.uptoBulk];omega
def qW{base:Nat}{v:Value}{d:DataW H}{p:List MemPlace}(hv:Value.okWide prog W .any base 108 v)(h:DataW.Trod enc prog W 0 (λ_=>true) true 108 v d p) :
  ∃A c M,v=.slice A (List.length M) c/\Hin W A c M/\(∀x∈M,Oz x/\x.L.length<=Rows.uptoBulk d):=by
 obtain⟨r,hf⟩:=h;obtain⟨A',n',c',rfl⟩:=okWide_slice Tryz.underlying108 hv;rcases FJ Tryz.underlying108 hf with ⟨hcs,_⟩|⟨a,n,c,m,fu,D,Pl,hcs,_,hnc,hcm,hm,hy,hx⟩
 ·have e:(Value.slice A' n' c')=.slice none 0 0:=by injection hcs
  obtain⟨rfl,rfl,rfl⟩:A'=none/\n'=0/\c'=0:=by simpa using e
  exact⟨none,0,[],rfl,⟨Sl.nil W 5,λx hx=>(nomatch hx)⟩,λx hx=>(nomatch hx)⟩
 ·have e:(Value.slice A' n' c')=.slice (some a) n c:=by injection hcs
  obtain⟨rfl,rfl,rfl⟩:A'=some a/\n'=n/\c'=c:=by simpa using e
  rw[Ub]at hx;have y:n'<=m:=by rw[hm];split<;>omega
  have e2:d=DataW.slice ((List.range n').map D) ((List.range (m-n')).map λj=>D (n'+j)):=by injection hy
  have⟨F,hF⟩:=GX (α:=Hop) (n:=n') (p:=λi x=>(∀j,j<5->W.cell? (a.add (i*5+j))=(Qd x)[j]?)/\Uin W x.A x.c x.L/\Oz x/\x.L.length<=Rows.uptoBulk (D i)) (λi hi=>by
   have⟨t,h1,h2⟩:=hx i (by omega);have⟨_,_,h3⟩:=GI h1;obtain⟨x,rfl,h4⟩:=qX h2;exact⟨x,λj hj=>by rw[<-Ji];exact h3 j hj,h4⟩)
  have f:((List.range n').map F).length=n':=by simp
  have hb:∀i,i<n'->Rows.uptoBulk (D i)<=Rows.uptoBulk d:=λi hi=>by
   have:=Iw (d:=D i) (l:=(List.range n').map D) (AP.2 ⟨i,DW.2 hi,rfl⟩);rw[e2];simp only[Rows.uptoBulk];omega
  have g:∀x∈(List.range n').map F,Uin W x.A x.c x.L/\Oz x/\x.L.length<=Rows.uptoBulk d:=λx hx=>by
   obtain⟨i,hi,rfl⟩:=AP.1 hx;have h:=(hF i (DW.1 hi)).2;have:=hb i (DW.1 hi);exact⟨h.1,h.2.1,AR h.2.2 this⟩
  refine⟨some a,c',(List.range n').map F,by rw[f],⟨⟨by rw[Ye],by rw[f];exact hnc,hcm,(λh=>nomatch h),λ_=>⟨a,rfl,λj u hu=>?_⟩⟩,λx hx=>(g x hx).1⟩,λx hx=>(g x hx).2⟩;have hj:j<n'*5:=by
   rcases DO j (n'*5)with q|q
   ·exact q
   ·rw[DL (by rw[Ye,f];exact q)]at hu;cases hu
  have e:j=j / 5*5+j % 5:=by omega
  rw[e,Pm _ _ _ (by rw[f];omega) (by omega)]at hu;have e2:((List.range n').map F).getD (j / 5) Hop.zero=F (j / 5):=by
   rw[AB,CG,GT (by omega)];rfl
  rw[e2]at hu;rw[e,(hF (j / 5) (by omega)).1 (j % 5) (by omega)];exact hu
end
open Go.ChangeShapes Go.WideShapes Go.ChangeAt Go.RowKit Go.WideElems
section
variable{H:Type}{enc:TypeId×Value->H}{W:World}
def Qo{α:Type}{E:TypeId}(ht:prog.underlying T=some (.slice E)){size:Nat}(hs:prog.cellsOf E=size)(C:α->List Value)(hC:∀x,(C x).length=size){L:List α}{Cs:List Value}(hat:∀i (hi:i<L.length) j,j<size->Cs[i*size+j]?=(C (L[i]'hi))[j]?){A:Option Addr}{c:Nat}(sl:Sl W size A L.length c Cs)
  {fuel:Nat} {y:DataW H×List MemPlace} (h:DataW.trod enc prog W 0 (λ_=>true) true fuel T [.slice A L.length c]=some y):∀i (hi:i<L.length),∃fu z,DataW.trod enc prog W 0 (λ_=>true) true fu E (C (L[i]'hi))=some z/\Rows.uptoBulk z.1<=Rows.uptoBulk y.1:=by
 intro i hi;rcases FJ ht h with ⟨hcs,_⟩|⟨a,n,k,m,fu,D,Pl,hcs,_,hnc,hcm,hm,rfl,hx⟩
 ·have e:L.length=0:=by injection hcs with q;injection q
  omega
 ·rw[hs]at hx;have hn:L.length=n:=by injection hcs with q;injection q
  have hA:A=some a:=by injection hcs with q;injection q
  subst hA;have g:n<=m:=by rw[hm];split<;>omega
  have hb:Rows.uptoBulkAll ((List.range n).map D)<=Rows.uptoBulk (DataW.slice ((List.range n).map D) ((List.range (m-n)).map λj=>D (n+j))):=by
   simp only[Rows.uptoBulk];omega
  have⟨f,h1,h2⟩:=hx i (by omega);have⟨_,h4,h3⟩:=GI h1;have e:f=C (L[i]'hi):=by
   refine GY λj=>?_;rcases DO j size with q|q
   ·rw[<-h3 j q,Ji];have⟨ad,e1,hc⟩:=sl.2.2.2.2 (by omega);injection e1 with e1;subst e1;have q2:j<(C (L[i]'hi)).length:=by rw[hC];exact q
    have e3:(C (L[i]'hi))[j]?=some ((C (L[i]'hi))[j]'q2):=AC q2;rw[e3];exact hc _ _ (by rw[hat i hi j q];exact e3)
   ·rw[DL (by omega),DL (by rw[hC];exact q)]
  subst e;exact⟨fu,_,h2,AR (Iw (d:=D i) (l:=(List.range n).map D) (AP.2 ⟨i,DW.2 (by omega),rfl⟩)) hb⟩
def zZ{fuel:Nat}{d:Dat}{y:DataW H×List MemPlace}(h:DataW.trod enc prog W 0 (λ_=>true) true fuel 204 (Nl d)=some y):d.s.size<=Rows.uptoBulk y.1:=by
 obtain⟨y0,y1,y2,y3,n,rfl,hl,h0,h1,h2,h3⟩:=Go.Joins.trod_struct4 Tryz.underlying204 h;have g3:DataW.trod enc prog W 0 (λ_=>true) true n 9 [.string d.s]=some y3:=by
  have:DataW.trod enc prog W 0 (λ_=>true) true n 9 (((Nl d).drop 3).take (prog.cellsOf 9))=some y3:=h3;rw[lV]at this;exact this
 have⟨s,e3,ey,_⟩:=DataW.trod_string Tryz.underlying9 g3;have e:d.s=s:=by simpa using e3
 subst ey;show d.s.size<=Rows.uptoBulk (DataW.agg [y0.1,y1.1,y2.1,DataW.lit (.string s.data.toList)]);simp only[Rows.uptoBulk,Rows.uptoBulkAll];rw[e];have:s.data.toList.length=s.size:=by simp
 omega
def yT{fuel:Nat}{l:List Dat}{y:DataW H×List MemPlace}(h:DataW.trod enc prog W 0 (λ_=>true) true fuel 79 [.slice A l.length c]=some y)(hr:Rw W A c l):∀d∈l,d.s.size<=Rows.uptoBulk y.1:=λd hd=>by
 obtain⟨i,hi,rfl⟩:=DK hd;have⟨fu,z,h2,h3⟩:=Qo Tryz.underlying79 Tx Nl (λ_=>rfl) (λi hi j hj=>by
  have e2:=Ks l i j hi hj
  rwa [AB,AC hi]at e2) hr h i hi
 exact AR (zZ h2) h3
def a1t{fuel:Nat}{x:Ud}{y:DataW H×List MemPlace}(h:DataW.trod enc prog W 0 (λ_=>true) true fuel 95 (udC x)=some y)(hr:Rw W x.A x.c x.l):∀d∈x.l,d.s.size<=Rows.uptoBulk y.1:=λd hd=>by
 have⟨y0,y1,y2,n,hy,hl,h0,h1,h2⟩:=Go.Deep.trod_struct3 Tryz.underlying95 h;have g0:DataW.trod enc prog W 0 (λ_=>true) true n 79 [.slice x.A x.l.length x.c]=some y0:=by
  have:DataW.trod enc prog W 0 (λ_=>true) true n 79 (((udC x).drop 0).take (prog.cellsOf 79))=some y0:=h0;rw[dE]at this;exact this
 have k:=yT g0 hr d hd;have p:=Iw (d:=y0.1) (l:=[y0.1,y1.1,y2.1]) (by simp);rw[hy];simp only[Rows.uptoBulk];omega
def yG{fuel:Nat}{L:List Ud}{y:DataW H×List MemPlace}(h:DataW.trod enc prog W 0 (λ_=>true) true fuel 22 [.slice A L.length c]=some y)(hu:Uin W A c L):∀x∈L,∀d∈x.l,d.s.size<=Rows.uptoBulk y.1:=λx hx d hd=>by
 obtain⟨i,hi,rfl⟩:=DK hx;have⟨fu,z,h2,h3⟩:=Qo Tryz.underlying22 Zv udC (λ_=>rfl) (λi hi j hj=>by
  have e2:=Em L i j hi hj
  rwa [AB,AC hi]at e2) hu.sl h i hi
 exact AR (a1t h2 (hu.ls _ hx).r d hd) h3
end
open Go.ChangeShapes Go.WideShapes Go.ChangeAt Go.RowKit Go.WideElems
section
variable{H:Type}{enc:TypeId×Value->H}{W:World}
def zT{fuel:Nat}{x:Hop}{y:DataW H×List MemPlace}(h:DataW.trod enc prog W 0 (λ_=>true) true fuel 114 (Qd x)=some y)(hr:Uin W x.A x.c x.L):∀u∈x.L,∀d∈u.l,d.s.size<=Rows.uptoBulk y.1:=λu hu d hd=>by
 have⟨y0,y1,y2,y3,y4,n,hy,hl,h0,h1,h2,h3,h4⟩:=Ps Tryz.underlying114 h;have g1:DataW.trod enc prog W 0 (λ_=>true) true n 22 [.slice x.A x.L.length x.c]=some y1:=by
  have:DataW.trod enc prog W 0 (λ_=>true) true n 22 (((Qd x).drop 1).take (prog.cellsOf 22))=some y1:=h1;rw[dD]at this;exact this
 have k:=yG g1 hr u hu d hd;have p:=Iw (d:=y1.1) (l:=[y0.1,y1.1,y2.1,y3.1,y4.1]) (by simp);rw[hy];simp only[Rows.uptoBulk];omega
def come_hopst{base:Nat}{v:Value}{d:DataW H}{p:List MemPlace}(hv:Value.okWide prog W .any base 108 v)(h:DataW.Trod enc prog W 0 (λ_=>true) true 108 v d p) :
  ∃A c M,v=.slice A (List.length M) c/\Hin W A c M/\(∀x∈M,(Oz x/\x.L.length<=Rows.uptoBulk d)/\∀u∈x.L,∀t∈u.l,t.s.size<=Rows.uptoBulk d):=by
 obtain⟨A,c,M,rfl,h1,h2⟩:=qW hv h;obtain⟨a,hf⟩:=h;refine⟨A,c,M,rfl,h1,λx hx=>⟨h2 x hx,λu hu t ht=>?_⟩⟩;obtain⟨i,hi,rfl⟩:=DK hx;have⟨fu,z,h3,h4⟩:=Qo Tryz.underlying108 Ub Qd (λ_=>rfl) (λi hi j hj=>by
  have e2:=Pm M i j hi hj
  rwa [AB,AC hi]at e2) h1.sl hf i hi
 exact AR (zT h3 (h1.ls _ hx) u hu t ht) h4
end
def Ty(w:World)(k:Nat)(e:TypeId):Prop:=∃cur z,w.heap[k]?=some (.cells cur e z)
def Ty.ne{k:Nat}(h:Ty w k e)(g:Ty w k f):e=f:=by
 obtain⟨a,b,h⟩:=h;obtain⟨c,d,g⟩:=g;rw[h]at g;injection g with g;injection g with _ g
def Bk.ty{cs:Array Value}(h:Bk w g t cs):Ty w g t:=⟨_,_,h⟩
def Own.ty{s:Nat}(h:Own w B e s A n c xs){k:Nat}(hk:blk A c=some k):Ty w k e:=by
 rcases h.2 with ⟨rfl,_⟩|⟨g,cur,rfl,_,hg,_⟩
 ·rw[Pp]at hk;cases hk
 ·cases c with
  | zero=>cases hk
  | succ c =>
   injection hk with hk;simp only at hk;subst hk;exact⟨_,_,hg⟩
def Zc(A:Option Addr)(c:Nat)(L:List Ud)(k:Nat):Prop:=blk A c=some k\/∃x∈L,blk x.A x.c=some k\/blk x.t.A x.t.c=some k
section
variable{w w':World}{B c:Nat}{A:Option Addr}{k:Nat}
def Bu.lt{L:List Ud}(h:Bu w B A c L)(hk:Zc A c L k):B<=k/\k<w.heap.size:=by
 rcases hk with hk|⟨x,hx,hk|hk⟩
 ·exact h.own.lt k hk
 ·exact(h.rw x hx).lt k hk
 ·exact(h.ts x hx).lt k hk
def Bu.ty{L:List Ud}(h:Bu w B A c L)(hk:Zc A c L k):Ty w k 95\/Ty w k 204\/Ty w k 180:=by
 rcases hk with hk|⟨x,hx,hk|hk⟩
 ·exact .inl (h.own.ty hk)
 ·exact .inr (.inl ((h.rw x hx).ty hk))
 ·exact .inr (.inr ((h.ts x hx).ty hk))
def Bu.updB{L:List Ud}(h:Bu w B A c L)(x:Upd S w w')(hn:∀k,Zc A c L k->¬S k):Bu w' B A c L :=
 ⟨h.own.upd x (λk hk=>hn k (.inl hk)),λy hy=>(h.rw y hy).upd x (λk hk=>hn k (.inr ⟨y,hy,.inl hk⟩)),λy hy=>(h.ts y hy).upd x (λk hk=>hn k (.inr ⟨y,hy,.inr hk⟩)),h.ra,h.ta⟩
end
def Rg(R:Nat->Prop)(w w':World)(k:Nat):Prop:=R k\/(w.heap.size<=k/\k<w'.heap.size)
def Rg.step{R:Nat->Prop}{a b c:World}(h:a.heap.size<=b.heap.size)(h2:b.heap.size<=c.heap.size):∀k,Rg (Rg R a b) b c k->Rg R a c k:=λk hk=>by
 rcases hk with (hk|⟨h3,h4⟩)|⟨h3,h4⟩
 ·exact .inl hk
 ·exact .inr ⟨h3,by omega⟩
 ·exact .inr ⟨by omega,h4⟩
def sB{a b c:World}(h:Upd R a b)(k:Upd (Rg R a b) b c):Upd R a c :=
 ⟨k.os.trans h.os,k.tape.trans h.tape,k.output.trans h.output,AR h.size k.size,λq hq hn=>(k.block q (AZ hq h.size) (λe=>by
  rcases e with e|⟨e,_⟩
  ·exact hn e
  ·omega)).trans (h.block q hq hn)⟩
section
variable{w w':World}
def Bk.upd{cs:Array Value}(h:Bk w g t cs)(x:Upd S w w')(hn:¬S g):Bk w' g t cs:=(x.block g h.lt hn).trans h
end
def xZ(g:Nat)(lb:Array Value)(p:Tm->Bool)(L:List Tm)(w:World):Prop:=∀(W:World) (x:Tm),x∈L->Ext w W->C3 g #[tmV x,lb[0]!] W λe w'=>e=.returned (.bool (p x))/\Ext W w'
def a2x(p:Tm->Bool)(L:List Tm)(w:World)(e:Ending)(w':World):Prop:=∃r:Int,e=.returned (.int .i64 r)/\decide (0<=r)=L.any p/\Ext w w'
def tD{L:List Tm}{p:Tm->Bool}{k:Nat}(h:k<L.length)(hp:p (L.getD k Tm.zero)=true):L.any p=true:=EI.2 ⟨_,Hs h,hp⟩
def eN{L:List Tm}{p:Tm->Bool}(h:∀j,j<L.length->p (L.getD j Tm.zero)=false):L.any p=false:=by
 rw[FL];intro x hx;obtain⟨j,hj,rfl⟩:=DK hx;have:=h j hj;rw[AB,AC hj]at this;simpa using this
def gE(p:Tm->Bool)(g:Nat)(v:Value)(eg:∀args w,(callFunc g args).run prog w=.ok (.enter g args) w)(AL:Option Addr)(cL m:Nat)(L:List Tm)(w:World)(hm:H0 (m=L.length))(hL:H0 (Tin w AL cL L))(hp:H0 (xZ g #[v] p L w)) :
  C3 204 #[.slice AL m cL,.func (.func g) #[] #[v]] w (a2x p L w):=by
 have d:m<=9223372036854775807:=by rw[hm.o];exact hL.o.sl.le
 go_enter func204,ntmps204;go_wp2
 go_loopg [5,8] m (λgg _ s8 wr=>∃kk:Nat,kk<=m/\m-kk<=gg/\s8=.int .i64 kk/\H0 (Ext w wr)/\H0 (∀j,j<kk->p (L.getD j Tm.zero)=false))
 case atStart=>exact⟨0,AG _,by omega,rfl,j6 (Ext.refl w),j6 (λj hj=>absurd hj (DR _))⟩
 case round =>
  obtain⟨kk,h,hg,rfl,BW,AF⟩:=hrel;by_cases hlt:kk<m
  ·have f:(kk:Int)<(m:Int):=by omega
   obtain⟨ad,rfl,q0,q1⟩:=(hL.o.ext BW.o).at (i:=kk) (by rw[<-hm.o];exact hlt);have a:=hp.o wr (L.getD kk Tm.zero) (Hs (by rw[<-hm.o];exact hlt)) BW.o;have⟨x,hx⟩:=tz (L.getD kk Tm.zero);rw[hx]at q0 q1 a;replace hx:=j6 hx;unfold tmV at a;cases hq:p x with
   | true =>
    rw[hq]at a;have HQ:=j6 hq;clear hq;go_wp2_with (go_at_fn g;refine a.mono ?_;rintro e w' ⟨rfl,c⟩)
    go_ret;exact⟨_,rfl,by rw[tD (by rw[<-hm.o];exact hlt) (by rw[hx.o];exact HQ.o)];simp,BW.o.trans c⟩
   | false =>
    rw[hq]at a;have HQ:=j6 hq;clear hq;go_wp2_with (go_at_fn g;refine a.mono ?_;rintro e w' ⟨rfl,c⟩)
    go_roundg (m-(kk+1))
    case measure=>omega
    case rel =>
     refine⟨kk+1,by omega,by omega,by go_num,j6 (BW.o.trans c),j6 (λj hj=>?_)⟩;by_cases hjk:j<kk
     ·exact AF.o j hjk
     ·obtain rfl:j=kk:=by omega
      rw[hx.o];exact HQ.o
  ·obtain rfl:kk=m:=by omega
   go_wp2;go_ret;exact⟨_,rfl,by rw[eN (λj hj=>AF.o j (by rw[hm.o];exact hj))];rfl,BW.o⟩
def Mu(p:Tm->Bool)(g:Nat)(v:Value)(eg:∀args w,(callFunc g args).run prog w=.ok (.enter g args) w)(AL:Option Addr)(cL m:Nat)(L:List Tm)(w:World)(hm:H0 (m=L.length))(hL:H0 (Tin w AL cL L))(hp:H0 (xZ g #[v] p L w)) :
  C3 144 #[.slice AL m cL,.func (.func g) #[] #[v]] w λe w'=>e=.returned (.bool (L.any p))/\Ext w w':=by
 go_enter func144,ntmps144;go_wp2_with (go_at_call 204;refine(gE p g v eg AL cL m L _ hm hL hp).mono ?_;rintro e w1 ⟨r,rfl,hr,x1⟩;replace hr:=j6 hr)
 go_ret;exact⟨by rw[<-hr.o];rfl,x1⟩
def same(x y:TV):Bool:=decide (x.2.length=y.2.length)
def a1p(x y:TV):TV:=(max x.1 y.1,List.zipWith max x.2 y.2)
def a3f(x y:TV):TV:=(min x.1 y.1,List.zipWith min x.2 y.2)
def dF{x y:TV}(h:same x y=true):(a1p x y).2.length=x.2.length:=by
 have:=of_decide_eq_true h;show(List.zipWith max x.2 y.2).length=_;rw[FX];omega
def vP{x y:TV}(h:same x y=true):(a3f x y).2.length=x.2.length:=by
 have:=of_decide_eq_true h;show(List.zipWith min x.2 y.2).length=_;rw[FX];omega
def Wx(a:List TV)(s t:TV):Ak (a++[s]) t=(Ak a t||Fq s t):=by unfold Ak;simp
def Gq(a b:List TV):Bool:=b.all λt=>Ak a t
def Kf{a b:List TV}:Gq a b=true ↔ ∀t∈b,Ak a t=true:=EO
def Il(t:TV)(acc:Option TV)(x:TV):Option TV:=if same t x then some (match acc with|none=>a1p t x|some o=>a3f o (a1p t x)) else acc
def a1q(a:List TV)(t:TV):Option TV:=a.foldl (Il t) none
def Ix(a:List TV)(t:TV):TV:=(a1q a t).getD t
def gW{t x:TV}{acc:Option TV}(h:∀o,acc=some o->o.2.length=t.2.length):∀o,Il t acc x=some o->o.2.length=t.2.length:=by
 intro o ho;unfold Il at ho;split at ho
 ·rename_i hs;cases acc with
  | none =>
   injection ho with ho;rw[<-ho,dF hs]
  | some q =>
   injection ho with ho;have hq:=h q rfl;rw[<-ho,vP (decide_eq_true (by rw[dF hs];exact hq)),hq]
 ·exact h o ho
def eO{t:TV}:∀(a:List TV) (acc:Option TV),(∀o,acc=some o->o.2.length=t.2.length)->∀o,a.foldl (Il t) acc=some o->o.2.length=t.2.length
 | [],acc,h,o,ho=>h o ho
 | x::a,acc,h,o,ho=>eO a _ (gW h) o ho
def Pq(a:List TV)(t:TV):(Ix a t).2.length=t.2.length:=by
 unfold Ix;cases h:a1q a t with
 | none=>rfl
 | some o=>exact eO a none (λ_ h=>nomatch h) o h
def gU(x:Tm)(B:Nat)(e:Int)(A:Option Addr)(n c:Nat)(l:List Int)(w:World)(hx:H0 (Sl w 1 x.A x.l.length x.c (wds x.l)))(hb:H0 (Bk w B 26 #[.int .u64 e,.slice A n c]))(ht:H0 (Sl w 1 A n c (wds l))) :
  C3 201 #[tmV x,.pointer (some ⟨B,0,none⟩)] w λr w'=>r=.returned (.bool (Fq x.v (e,l)))/\Ext w w':=by
 have c0:w.cell? ⟨B,0,none⟩=some (.int .u64 e):=hb.o.cell 0;have c1:w.cell? ⟨B,1,none⟩=some (.slice A n c):=hb.o.cell 1;have a:=hb.o.lt;unfold tmV;obtain⟨xe,xA,xc,xl⟩:=x;go_enter func201,ntmps201;go_wp2_with (go_at_call 108;refine(mF _ _ _ _ _ _ _ _ _ _ _ (hx.o.ext ((Ext.refl w).alloc _)) (ht.o.ext ((Ext.refl w).alloc _))).mono ?_;rintro r w1 ⟨rfl,x1⟩)
 go_ret;exact⟨rfl,((Ext.refl w).alloc _).trans x1⟩
def Vz:∀args w,(callFunc 201 args).run prog w=.ok (.enter 201 args) w:=enters_of func201 (by kernel_rfl) rfl
def any_map{L:List Tm}(t:TV):(L.any λx=>Fq x.v t)=Ak (L.map Tm.v) t:=by unfold Ak;rw[List.any_map];rfl
def kX(AL:Option Addr)(cL m:Nat)(L:List Tm)(e:Int)(A:Option Addr)(n c:Nat)(l:List Int)(w:World)(hm:H0 (m=L.length))(hL:H0 (Tin w AL cL L))(ht:H0 (Sl w 1 A n c (wds l))) :
  C3 140 #[.slice AL m cL,.agg #[.int .u64 e,.slice A n c]] w λr w'=>r=.returned (.bool (Ak (L.map Tm.v) (e,l)))/\Ext w w':=by
 rw[<-any_map];have X:Ext w (w.alloc (.cells #[.int .u64 e,.slice A n c] 26)):=(Ext.refl w).alloc _;have HP:H0 (xZ 201 #[.pointer (some ⟨w.heap.size,0,none⟩)] (λx=>Fq x.v (e,l)) L (w.alloc (.cells #[.int .u64 e,.slice A n c] 26))):=j6 (λW x hx y =>
  gU x w.heap.size e A n c l W (j6 (((hL.o.ls x hx).ext X).ext y)) (j6 ((Bk.new w _ _).ext y)) (j6 ((ht.o.ext X).ext y)))
 obtain⟨q,hq⟩:∃q,(L.any λx=>Fq x.v (e,l))=q:=⟨_,rfl⟩;have HQ:=j6 hq;rw[hq];clear hq;go_enter func140,ntmps140;go_wp2_with (go_at_call 144;refine(Mu _ 201 _ Vz AL cL m L _ hm (j6 (hL.o.ext X)) HP).mono ?_;rintro r w1 ⟨rfl,x1⟩)
 go_ret;exact⟨by rw[<-HQ.o];rfl,X.trans x1⟩
def Er{v:Bool}(AL:Option Addr)(cL m:Nat)(L:List Tm)(e:Int)(A:Option Addr)(n c:Nat)(l:List Int)(w:World)(hv:H0 (Ak (L.map Tm.v) (e,l)=v))(hm:H0 (m=L.length))(hL:H0 (Tin w AL cL L))(ht:H0 (Sl w 1 A n c (wds l))) :
  C3 140 #[.slice AL m cL,.agg #[.int .u64 e,.slice A n c]] w λr w'=>r=.returned (.bool v)/\Ext w w':=hv.o▸kX AL cL m L e A n c l w hm hL ht
def wG(x:Tm)(B:Nat)(AL:Option Addr)(cL m:Nat)(L:List Tm)(w:World)(hx:H0 (Sl w 1 x.A x.l.length x.c (wds x.l)))(hb:H0 (Bk w B 27 #[.slice AL m cL]))(hm:H0 (m=L.length))(hL:H0 (Tin w AL cL L)) :
  C3 213 #[tmV x,.pointer (some ⟨B,0,none⟩)] w λr w'=>r=.returned (.bool (!Ak (L.map Tm.v) x.v))/\Ext w w':=by
 have c0:w.cell? ⟨B,0,none⟩=some (.slice AL m cL):=hb.o.cell 0;have a:=hb.o.lt;unfold tmV;obtain⟨xe,xA,xc,xl⟩:=x;have⟨q,hq⟩:=tz (Ak (L.map Tm.v) (xe,xl));have HQ:=j6 hq;show Calls _ _ _ _ λr w'=>r=.returned (.bool (!Ak (L.map Tm.v) (xe,xl)))/\Ext w w';rw[hq];clear hq;go_enter func213,ntmps213;go_wp2_with (go_at_call 140;refine(Er AL cL m L xe xA xl.length xc xl _ HQ hm (j6 (hL.o.ext ((Ext.refl w).alloc _))) (j6 (hx.o.ext ((Ext.refl w).alloc _)))).mono ?_;rintro r w1 ⟨rfl,x1⟩)
 go_ret;exact⟨rfl,((Ext.refl w).alloc _).trans x1⟩
def gI:∀args w,(callFunc 213 args).run prog w=.ok (.enter 213 args) w:=enters_of func213 (by kernel_rfl) rfl
def zG{L M:List Tm}:(!M.any λx=>!Ak (L.map Tm.v) x.v)=Gq (L.map Tm.v) (M.map Tm.v):=by
 unfold Gq;rw[List.all_map,List.not_any_eq_all_not];simp only[Bool.not_not];rfl
def Kj(AL AM:Option Addr)(cL cM m n:Nat)(L M:List Tm)(w:World)(hm:H0 (m=L.length))(hn:H0 (n=M.length))(hL:H0 (Tin w AL cL L))(hM:H0 (Tin w AM cM M)) :
  C3 158 #[.slice AL m cL,.slice AM n cM] w λr w'=>r=.returned (.bool (Gq (L.map Tm.v) (M.map Tm.v)))/\Ext w w':=by
 rw[<-zG];have X:Ext w (w.alloc (.cells #[.slice AL m cL] 27)):=(Ext.refl w).alloc _;have HP:H0 (xZ 213 #[.pointer (some ⟨w.heap.size,0,none⟩)] (λx=>!Ak (L.map Tm.v) x.v) M (w.alloc (.cells #[.slice AL m cL] 27))):=j6 (λW x hx y =>
  wG x w.heap.size AL cL m L W (j6 (((hM.o.ls x hx).ext X).ext y)) (j6 ((Bk.new w _ _).ext y)) hm (j6 ((hL.o.ext X).ext y)))
 obtain⟨q,hq⟩:∃q,(M.any λx=>!Ak (L.map Tm.v) x.v)=q:=⟨_,rfl⟩;have HQ:=j6 hq;rw[hq];clear hq;go_enter func158,ntmps158;go_wp2_with (go_at_call 144;refine(Mu _ 213 _ gI AM cM n M _ hn (j6 (hM.o.ext X)) HP).mono ?_;rintro r w1 ⟨rfl,x1⟩)
 go_ret;exact⟨by rw[<-HQ.o];rfl,X.trans x1⟩
def a1b(e:Int)(n:Nat)(l:List Int)(w:World)(r:Ending)(w':World):Prop:=∃A' c',r=.returned (.agg #[.int .u64 e,.slice A' n c'])/\Own w' w.heap.size 180 1 A' n c' (wds l)/\Ext w w'
def Vh(e:Int)(A:Option Addr)(n c:Nat)(l:List Int)(w:World)(h:H0 (Sl w 1 A n c (wds l)))(hn:n<=1000000) :
  C3 142 #[.agg #[.int .u64 e,.slice A n c]] w (a1b e n l w):=by
 go_enter func142,ntmps142;go_wp2_with (go_at_call 184;refine(Rr _ _ _ _ _ (h.o.ext (((Ext.refl w).alloc _).alloc _)) (Se l) (by omega)).mono ?_;rintro r w1 ⟨A',c',rfl,ho,x1⟩;have ba:Bk w1 w.heap.size 26 #[.int .u64 e,.slice A n c]:=((Bk.new w _ _).alloc _).ext x1;have bb:Bk w1 (w.heap.size+1) 26 #[.int .u64 0,.slice none 0 0]:=(Bk.at (by simp)).ext x1;have q0:w1.cell? ⟨w.heap.size,0,none⟩=some (.int .u64 e):=ba.cell 0;have q1:w1.cell? ⟨w.heap.size,1,none⟩=some (.slice A n c):=ba.cell 1;have f0:=ba.free 0;have f1:=ba.free 1;have q2:=bb.cell 0;have q3:=bb.cell 1;have f2:=bb.free 0;have f3:=bb.free 1;replace ho:=j6 ho;replace ba:=j6 ba;replace bb:=j6 bb)
 have a:=(bb.o.far (p:=⟨w.heap.size,1,none⟩) (by simp) (.slice A' n c')).set2 (.int .u64 e) (.slice A' n c');refine bodyPost_ret (v:=.agg #[.int .u64 e,.slice A' n c']) (by simp[results,Tryz.results142,go_sem,a.1,a.2]) rfl ⟨A',c',rfl,?_,?_⟩
 ·exact(((ho.o.mono (by simp;omega)).far (ho.o.ne (by simp;omega)) _).far (ho.o.ne (by simp)) _).far (ho.o.ne (by simp)) _
 ·have x2:=(((Ext.refl w).alloc _).alloc _).trans x1;exact((x2.set (by simp) _).set (by simp) _).set (by simp) _
def gP(A:Option Addr)(n c:Nat)(L:List Tm)(w:World)(hm:H0 (n=L.length))(h:H0 (Tin w A c L))(hn:n<=1000000) :
  C3 199 #[.slice A n c] w λe w'=>∃A' c',e=.returned (.slice A' n c')/\Own w' w.heap.size 26 2 A' n c' (Gp L)/\Ext w w':=by
 have hs:H0 (Sl w 2 A n c (Gp L)):=j6 (by rw[hm.o];exact h.o.sl);have i:=λ(W:World)=>FP (P:=prog) W 27 26 A n c 0 0 Tryz.underlying27;rcases A with _|a
 ·obtain rfl:c=0:=hs.o.2.2.2.1 rfl;have f:n=0:=by have:=hs.o.2.1;omega
  subst f;have hx:Gp L=[]:=AH (by simpa using hs.o.1);rw[hx];go_enter func199,ntmps199;go_wp2;go_ret;exact⟨none,0,rfl,Own.nil _ _ _ _,Ext.refl _⟩
 ·go_enter func199,ntmps199;go_wp2_with (at_builtin;refine Da _ Yi w.heap.size _ _ (by rfl) (by rfl) _ 0 0 [] (by rfl) (Own.empty _ _ _ _ _) (some a) n c (Gp L) (by rfl) (hs.o.ext ((Ext.refl w).alloc _)) (cH L) (by omega) (by omega) (by simp) ?_;intro A' c' w1 g d j)
  go_ret;refine⟨A',c',by simp,by simpa using g,?_⟩;exact((Ext.refl w).alloc _).grown d (by simp[blk])
def Fs.push{M:List Tm}(h:Fs w B A c M)(e2:Ext w w2){x:Tm}(ox:Own w2 w.heap.size 180 1 x.A x.l.length x.c (wds x.l))(hB:B<=w.heap.size)(ob:Obj)
  (o3:Own w3 B 26 2 A3 (M.length+1) c3 (Gp M++tmC x)) (g3:(w2.alloc ob).grownBy w3 (blk A c)) (x3:(A3=A/\c3=c)\/(blk A3 c3=some (w2.alloc ob).heap.size/\Ext (w2.alloc ob) w3)):Fs w3 B A3 c3 (M++[x]):=by
 have f:=((Ext.refl w2).alloc ob).size;have hw:=e2.size;have kept:∀{k0:Nat} {A':Option Addr} {n' c':Nat} {xs:List Value},Own w2 k0 180 1 A' n' c' xs->(∀k,blk A' c'=some k->blk A c≠some k)->Own w3 k0 180 1 A' n' c' xs:=λo hne=>(o.alloc ob).kept g3 (by
  rename_i A' n' c' xs;cases hb:blk A' c' with
  | none=>exact .inl rfl
  | some k=>exact .inr (λe=>hne k hb e.symm))
 have a:∀k,blk A3 c3=some k->blk A c=some k\/w2.heap.size<=k:=λk hk=>by
  rcases x3 with ⟨rfl,rfl⟩|⟨h1,_⟩
  ·exact .inl hk
  ·rw[h1]at hk;injection hk with hk;exact .inr (by omega)
 have d:∀k,blk x.A x.c=some k->blk A c≠some k:=λk hk e=>by have:=(ox.lt k hk).1;have:=(h.own.lt k e).2;omega
 refine⟨by rw[eU,AA];show Own w3 B _ 2 A3 (M.length+1) c3 (Gp M++Gp [x]);rw[show Gp [x]=tmC x by simp[Gp]];exact o3,λy hy=>?_,?_⟩
 ·rcases AQ.1 hy with hy|hy
  ·have⟨h1,h2⟩:=h.ls y hy;refine⟨kept (h1.ext e2) h2,λk hk e=>?_⟩;rcases a k e with q|q
   ·exact h2 k hk q
   ·have:=(h1.lt k hk).2;omega
  ·rw[AE]at hy;subst hy;refine⟨(kept ox d).mono hB,λk hk e=>?_⟩;rcases a k e with q|q
   ·exact d k hk q
   ·have:=(ox.lt k hk).2;omega
 ·refine BL.2 ⟨h.apart,BN _ _,λy hy z hz k h1 h2=>?_⟩;rw[AE]at hz;subst hz;have:=((h.ls y hy).1.lt k h1).2;have:=(ox.lt k h2).1;omega
section
variable{α:Type}[Inhabited α](enc:α->List Value)(k:Nat)(hk:∀x,(enc x).length=k)(k0:0<k)
include hk
omit [Inhabited α] in
def Tz:∀l:List α,(l.flatMap enc).length=l.length*k
 | []=>by simp
 | x::l=>by rw[BQ,AA,hk,Tz l,AJ,DM];omega
include k0
def mL:∀(l:List α) (t:Nat),t<l.length*k->(l.flatMap enc)[t]?=(enc (l.getD (t / k) default))[t % k]?
 | [],t,h=>absurd h (by simp)
 | x::l,t,h=>by
  rw[BQ];by_cases q:t<k
  ·rw[BS (by rw[hk];exact q),Nat.div_eq_of_lt q,Nat.mod_eq_of_lt q];rfl
  ·rw[AJ,DM]at h;rw[BF (by rw[hk];omega),hk,mL l (t-k) (by omega)];have e1:t / k=(t-k) / k+1:=Nat.div_eq_sub_div k0 (by omega);have e2:t % k=(t-k) % k:=Nat.mod_eq_sub_mod (by omega);rw[e1,e2];rfl
def dQ(d:Array α){t:Nat}(h:t<d.size*k):(d.toList.flatMap enc)[t]?=some ((Go.Sort.flatK enc k d)[t]!):=by
 rw[mL enc k hk k0 _ t (by simpa using h),Go.Sort.get_flatK enc k d t h];have h1:t / k<d.size:=(Nat.div_lt_iff_lt_mul k0).2 h;have h2:t % k<k:=Nat.mod_lt _ k0;have e:d.toList.getD (t / k) default=d[t / k]!:=by
  rw[AB,FS,Array.getElem!_eq_getD,Array.getD_eq_getD_getElem?]
 rw[e];have h3:t % k<(enc d[t / k]!).length:=by rw[hk];exact h2
 rw[AC h3,getElem!_pos (enc d[t / k]!) _ h3]
def oZ{blk:Nat}{d:Array α}(h:Own w B T k (some ⟨blk,0,none⟩) d.size c (d.toList.flatMap enc))(hd:0<d.size):Go.Sort.HoldsK enc k w blk 0 d:=by
 have⟨g,e,_,_,_,hc,hf⟩:=h.form hd;injection e with e;injection e with e;subst e;intro j hj;rw[Go.Sort.size_flatK]at hj;refine⟨?_,hf _⟩;rw[BV];exact hc j _ (dQ enc k hk k0 d hj)
def Us{blk:Nat}{d d':Array α}{os:Array Obj}(h:Own w B T k (some ⟨blk,0,none⟩) d.size c (d.toList.flatMap enc))(hd:0<d.size)(hs:d'.size=d.size) :
  Own (sortWorldK enc k w blk 0 n d' os) B T k (some ⟨blk,0,none⟩) d.size c (d'.toList.flatMap enc)/\Upd (λq=>q=blk) w (sortWorldK enc k w blk 0 n d' os):=by
 obtain⟨h1,h2⟩:=h;rcases h2 with h2|⟨g,cur,e,hb,hg,hnc,hcm,hcs,htake⟩
 ·omega
 ·injection e with e;injection e with e;subst e;have i:blk<w.heap.size:=(BP.1 hg).1;have a:(sortWorldK enc k w blk 0 n d' os).heap[blk]?=some (.cells (Go.Sort.putCells id 0 (Go.Sort.flatK enc k d') cur) T (0,0)):=by
   show(w.heap.modify blk _++os)[blk]?=_;rw[Array.getElem?_append_left (by simpa using i),FN,if_pos rfl,hg];rfl
  refine⟨⟨by rw[Tz enc k hk,EF,hs],.inr ⟨blk,_,rfl,hb,a,hnc,hcm,by simpa [Go.Sort.putCells] using hcs,?_⟩⟩,?_⟩
  ·refine GY λt=>?_;rw[EJ];by_cases ht:t<d.size*k
   ·rw[if_pos ht,dQ enc k hk k0 d' (by rw[hs];exact ht),FS];have f:t<cur.size:=AZ (AZ ht (DG _ hnc)) hcs;simp only[Go.Sort.putCells,Array.getElem?_mapIdx,EZ f,FI];rw[if_pos ⟨AG _,by rw[Go.Sort.size_flatK,hs];omega⟩];rfl
   ·rw[if_neg ht,DL (by rw[Tz enc k hk,EF,hs];omega)]
  ·refine⟨rfl,rfl,rfl,?_,λq hq hn=>?_⟩
   ·show w.heap.size<=(w.heap.modify blk _++os).size;simp
   ·show(w.heap.modify blk _++os)[q]?=_;rw[Array.getElem?_append_left (by simpa using hq),FN,if_neg (λe=>hn e.symm)]
end
def eY{α:Type}[Inhabited α]{lt:α->α->Bool}{d d':Array α}(hp:Go.Sort.PermIn 0 d.size d d')(hs:Go.Sort.SortedIn lt 0 d.size d'):d'.size=d.size/\d'.toList.Perm d.toList/\d'.toList.Pairwise λx y=>lt y x=false:=by
 obtain⟨h1,_,h3⟩:=hp;refine⟨h1,?_,DH.2 λi j hi hj hij=>?_⟩
 ·have e1:d.extract 0 d.size=d:=by simp
  have e2:d'.extract 0 d.size=d':=by rw[<-h1];simp
  rwa [e1,e2]at h3
 ·have a:i<d'.size:=by simpa using hi
  have c:j<d'.size:=by simpa using hj
  have:=hs i j (AG _) hij (by omega);rw[getElem!_pos d' j c,getElem!_pos d' i a]at this;simpa using this
end Go.Proofs.YtdgbkpoickbidaaGreatDoor
namespace Go.Proofs
open Go.Shelf
def Tryz.sortTimes_ren:Go.Shelf.Ren:=⟨fun|6=>200|15=>209|14=>230|28=>246|29=>247|20=>258|21=>259|22=>260|23=>261|24=>262|25=>263|26=>264|27=>265|46=>285|47=>274|48=>275|49=>286|50=>287|57=>296|n=>n,fun|22=>27|24=>26|25=>184|3=>3|39=>267|0=>0|53=>180|55=>23|4=>4|46=>300|45=>299|50=>200|5=>5|9=>9|66=>326|70=>329|76=>347|77=>348|n=>n,fun|n=>n⟩
def Tryz.sortTimes:Go.Proofs.SlLaysF0.n6 prog Tryz.sortTimes_ren:={
 mixed:=by kernel_rfl
 f6:=⟨Tryz.f200.name,by decide,func200.trans (congrArg some (by kernel_rfl))⟩
 f14:=⟨Tryz.f230.name,by decide,func230.trans (congrArg some (by kernel_rfl))⟩
 f15:=func209.trans (congrArg some (by kernel_rfl))
 f20:=⟨Tryz.f258.name,by decide,func258.trans (congrArg some (by kernel_rfl))⟩
 f21:=⟨Tryz.f259.name,by decide,func259.trans (congrArg some (by kernel_rfl))⟩
 f22:=⟨Tryz.f260.name,by decide,func260.trans (congrArg some (by kernel_rfl))⟩
 f23:=⟨Tryz.f261.name,by decide,func261.trans (congrArg some (by kernel_rfl))⟩
 f24:=⟨Tryz.f262.name,by decide,func262.trans (congrArg some (by kernel_rfl))⟩
 f25:=⟨Tryz.f263.name,by decide,func263.trans (congrArg some (by kernel_rfl))⟩
 f26:=⟨Tryz.f264.name,by decide,func264.trans (congrArg some (by kernel_rfl))⟩
 f27:=⟨Tryz.f265.name,by decide,func265.trans (congrArg some (by kernel_rfl))⟩
 f28:=func246.trans (congrArg some (by kernel_rfl))
 f29:=func247.trans (congrArg some (by kernel_rfl))
 f46:=⟨Tryz.f285.name,by decide,func285.trans (congrArg some (by kernel_rfl))⟩
 f47:=func274.trans (congrArg some (by kernel_rfl))
 f48:=func275.trans (congrArg some (by kernel_rfl))
 f49:=⟨Tryz.f286.name,by decide,func286.trans (congrArg some (by kernel_rfl))⟩
 f50:=⟨Tryz.f287.name,by decide,func287.trans (congrArg some (by kernel_rfl))⟩
 f57:=⟨Tryz.f296.name,by decide,func296.trans (congrArg some (by kernel_rfl))⟩
 t0:=Tryz.underlying0
 a0:=Tryz.isAgg0
 z0:=Tryz.sizeOf0
 v0:=Tryz.zeroValue0
 t3:=Tryz.underlying3
 a3:=Tryz.isAgg3
 z3:=Tryz.sizeOf3
 v3:=Tryz.zeroValue3
 t4:=Tryz.underlying4
 a4:=Tryz.isAgg4
 z4:=Tryz.sizeOf4
 v4:=Tryz.zeroValue4
 t5:=Tryz.underlying5
 a5:=Tryz.isAgg5
 z5:=Tryz.sizeOf5
 v5:=Tryz.zeroValue5
 t9:=Tryz.underlying9
 a9:=Tryz.isAgg9
 z9:=Tryz.sizeOf9
 v9:=Tryz.zeroValue9
 t22:=Tryz.underlying27
 a22:=Tryz.isAgg27
 z22:=Tryz.sizeOf27
 v22:=Tryz.zeroValue27
 t25:=Tryz.underlying184
 a25:=Tryz.isAgg184
 z25:=Tryz.sizeOf184
 v25:=Tryz.zeroValue184
 t39:=Tryz.underlying267
 a39:=Tryz.isAgg267
 z39:=Tryz.sizeOf267
 v39:=Tryz.zeroValue267
 t45:=Tryz.underlying299
 a45:=Tryz.isAgg299
 z45:=Tryz.sizeOf299
 v45:=Tryz.zeroValue299
 t46:=Tryz.underlying300
 a46:=Tryz.isAgg300
 z46:=Tryz.sizeOf300
 v46:=Tryz.zeroValue300
 t50:=Tryz.underlying200
 a50:=Tryz.isAgg200
 z50:=Tryz.sizeOf200
 v50:=Tryz.zeroValue200
 t53:=Tryz.underlying180
 a53:=Tryz.isAgg180
 z53:=Tryz.sizeOf180
 v53:=Tryz.zeroValue180
 t55:=Tryz.underlying23
 a55:=Tryz.isAgg23
 z55:=Tryz.sizeOf23
 v55:=Tryz.zeroValue23
 t66:=Tryz.underlying326
 a66:=Tryz.isAgg326
 z66:=Tryz.sizeOf326
 v66:=Tryz.zeroValue326
 t70:=Tryz.underlying329
 a70:=Tryz.isAgg329
 z70:=Tryz.sizeOf329
 v70:=Tryz.zeroValue329
 t76:=Tryz.underlying347
 a76:=Tryz.isAgg347
 z76:=Tryz.sizeOf347
 v76:=Tryz.zeroValue347
 t77:=Tryz.underlying348
 a77:=Tryz.isAgg348
 z77:=Tryz.sizeOf348
 v77:=Tryz.zeroValue348 }
end Go.Proofs
namespace Go.Proofs.YtdgbkpoickbidaaGreatDoor
variable{xs:List Value}{B c c3 g i m m2 n:Nat}{R S:Nat->Prop}{A A2 A3:Option Addr}{T e f t:TypeId}{w w' w0 w2 w3 wr:World}
def xN(w:World):C3 209 #[.int .u64 0] w λe w'=>e=.returned (.int .i64 0)/\w=w':=by
 have h:=Any.bits_Len (SlLaysF0.n15.bits (P:=prog) (ρ:=Tryz.sortTimes_ren) { Tryz.sortTimes with }) 0 w (by omega) (by omega);change C3 209 _ _ _ at h;exact h.mono λ_ _ ⟨he,hw⟩=>⟨he,hw.symm⟩
def wN(A:Option Addr)(c:Nat)(fv:Value)(w:World):C3 258 #[.slice A 0 c,.int .i64 0,.int .i64 0,fv] w λe w'=>e=.returned (.tuple #[])/\w=w':=by
 go_enter func258,ntmps258;go_wp2;refine wp_loop_rounds 1 ?_;rw[rounds_succ];go_wp2
 go_end0
 exact⟨rfl,rfl⟩
def vF(A:Option Addr)(c:Nat)(z:Int)(fv:Value)(w:World):C3 230 #[.slice A 0 c,.int .i64 0,.int .i64 0,.int .i64 z,fv] w λe w'=>e=.returned (.tuple #[])/\w=w':=by
 go_enter func230,ntmps230;go_wp2;refine wp_loop_rounds 1 ?_;rw[rounds_succ];go_wp2_with (go_at_call 258;refine(wN _ _ _ _).mono ?_;rintro e w' ⟨rfl,rfl⟩)
 (try simp only[Exit.inBlock,Exit.then]);refine bodyPost_ret (results_none rfl _ _ _) rfl ?_
 exact⟨rfl,rfl⟩
def nW(A:Option Addr)(c:Nat)(fv:Value)(w:World):C3 200 #[.slice A 0 c,fv] w λe w'=>e=.returned (.tuple #[])/\w=w':=by
 go_enter func200,ntmps200;go_wp2_with (first
  | (go_at_call 209;refine(xN _).mono ?_;rintro e w' ⟨rfl,rfl⟩)
  | (go_at_call 230;refine(vF _ _ _ _ _).mono ?_;rintro e w' ⟨rfl,rfl⟩))
 go_end0
 exact⟨rfl,rfl⟩
def kP:∀args w,(callFunc 146 args).run prog w=.ok (.enter 146 args) w:=enters_of func146 (by kernel_rfl) rfl
def a1x{α:Type}(v:α->TV):Go.Sort.SWO (ltOf λx y:α=>Cr (v x) (v y)) where
 irrefl x:=by show decide (Cr (v x) (v x)<0)=false;rw[Co.2 rfl];rfl
 trans x y z h1 h2:=by
  replace h1:decide (Cr (v x) (v y)<0)=true:=h1;replace h2:decide (Cr (v y) (v z)<0)=true:=h2;show decide (Cr (v x) (v z)<0)=true;rw[decide_eq_true_iff]at *;exact Kb h1 (by omega)
 ntrans x y z h1 h2:=by
  replace h1:decide (Cr (v x) (v y)<0)=false:=h1;replace h2:decide (Cr (v y) (v z)<0)=false:=h2;show decide (Cr (v x) (v z)<0)=false;rw[decide_eq_false_iff_not]at *;have a:=Fz (v x) (v y);have b:=Fz (v y) (v z);have c:=Fz (v x) (v z);have d:=Of (v z) (v y) (v x) (by omega) (by omega);omega
def gV{α β:Type}(L:List α)(f:α->List β):(L.attach.flatMap λx=>f x.1)=L.flatMap f:=by
 have h:L.attach.flatMap (λx=>f x.1)=(L.attach.map Subtype.val).flatMap f:=by rw[List.flatMap_map]
 rw[h,List.attach_map_subtype_val]
def a0u(L:List Tm)(B g c m:Nat)(w:World)(e:Ending)(w':World):Prop :=
 e=.returned (.tuple #[])/\∃L':List Tm,L'.Perm L/\(L'.Pairwise λx y=>Cr x.v y.v<=0)/\Own w' B 26 2 (some ⟨g,0,none⟩) m c (Gp L')/\Upd (λk=>k=g) w w'
def iX(L:List Tm)(B g c m:Nat)(w0 w:World)(hm:m=L.length)(h0:0<m)(o:Own w B 26 2 (some ⟨g,0,none⟩) m c (Gp L))(ls:∀x∈L,Sl w0 1 x.A x.l.length x.c (wds x.l))(x0:Ext w0 w)(hb:w0.heap.size<=g)(h9:m<=1000000) :
  C3 200 #[.slice (some ⟨g,0,none⟩) m c,.func (.func 146) #[] #[]] w (a0u L B g c m w):=by
 haveI:Inhabited {x:Tm // x∈L}:=⟨⟨L.head (by intro e;subst e;simp at hm;omega),List.head_mem _⟩⟩
 obtain⟨d,hd⟩:∃d:Array {x:Tm // x∈L},d=L.attach.toArray:=⟨_,rfl⟩;have ds:d.size=m:=by rw[hd,hm];simp
 have f:(d.toList.flatMap λx=>tmC x.1)=Gp L:=by rw[hd];exact gV L tmC
 have hk:∀x:{x:Tm // x∈L},(tmC x.1).length=2:=λ_=>rfl;have o':Own w B 26 2 (some ⟨g,0,none⟩) d.size c (d.toList.flatMap λx=>tmC x.1):=by rw[f,ds];exact o
 have i:CmpLays prog 146 #[] (λx:{x:Tm // x∈L}=>tmC x.1) 2 (λx y=>Cr x.1.v y.1.v) g 0 d.size w:=λq os dk hdk x y=>by
  have u:=(Us (λx:{x:Tm // x∈L}=>tmC x.1) 2 hk (by decide) (n:=q) (os:=os) o' (by omega) hdk).2;have e:Ext w0 (sortWorldK (λx:{x:Tm // x∈L}=>tmC x.1) 2 w g 0 q dk os):=Hj x0 u (λk hk=>by omega);exact xI x.1.e y.1.e x.1.A y.1.A x.1.l.length y.1.l.length x.1.c y.1.c x.1.l y.1.l _ ((ls _ x.2).ext e) ((ls _ y.2).ext e)
 have a:=AnyQ.slices_SortFunc Tryz.sortTimes 2 Tryz.isAgg26 Tryz.sizeOf26 (λx:{x:Tm // x∈L}=>tmC x.1) hk (λx v hv=>by simp[tmC]at hv;rcases hv with rfl|rfl<;>rfl) (λx y=>Cr x.1.v y.1.v) (a1x λx:{x:Tm // x∈L}=>x.1.v) 146 #[] g 0 c d w kP i
  (oZ _ 2 hk (by decide) o' (by omega)) (by have:=(o.lt g (by unfold blk;have⟨_,h2⟩:=o.le;cases c with|zero=>have:=o.le.1;omega|succ c=>rfl)).2;exact this) (by omega)
 change C3 200 _ _ _ at a;rw[ds]at a;refine a.mono ?_;rintro e w' ⟨rfl,d',n,os,hp,hs,rfl⟩;rw[<-ds]at hp hs;have⟨h1,h2,h3⟩:=eY hp hs;have q:=Us (λx:{x:Tm // x∈L}=>tmC x.1) 2 hk (by decide) (n:=n) (os:=os) o' (by omega) h1;refine⟨rfl,d'.toList.map Subtype.val,?_,?_,?_,q.2⟩
 ·have:=h2.map Subtype.val;rw[hd,List.attach_map_subtype_val]at this;exact this
 ·rw[DV];refine h3.imp λ{x y} h=>?_;replace h:decide (Cr y.1.v x.1.v<0)=false:=h;rw[decide_eq_false_iff_not]at h;have:=Fz x.1.v y.1.v;omega
 ·have:=q.1;rw[ds]at this;unfold Gp;rw[List.flatMap_map];exact this
def sO{S:List Tm}{k:Nat}(h:k<S.length):∃h2:k<(S.map Tm.v).length,(S.map Tm.v)[k]=(S.getD k Tm.zero).v:=⟨by rw[AN];exact h,a2h h⟩
end Go.Proofs.YtdgbkpoickbidaaGreatDoor
