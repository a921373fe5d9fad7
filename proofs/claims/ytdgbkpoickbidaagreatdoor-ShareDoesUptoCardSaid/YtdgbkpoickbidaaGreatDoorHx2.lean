/- Parts of the proof. Conditions: as stated. -/
import Derived.Test.YtdgbkpoickbidaaGreatDoorHx1
import Derived.Deep.Slices
import Derived.Test.YtdgbkpoickbidaaGreatDoorProg
import Derived.Lib.ValidU
import Derived.Lib.IndexBytes
import Derived.Shelf.Unicode.ValidAny
import Derived.Ground.NamesProg
import Derived.Lib.LaidU8T
set_option maxRecDepth 100000
set_option maxHeartbeats 4000000
open Go.RowKit Go.Proofs.Tryz
set_option linter.defProp false
namespace Go.Proofs.YtdgbkpoickbidaaGreatDoor
variable{x y:Int}{xs:List Value}{B B' c g i lc n:Nat}{S:Nat->Prop}{A LA:Option Addr}{T e t:TypeId}{W w w' w1 w2 w4 wr:World}
structure Bq {α:Type} (cmp:α->α->Int):Prop where
 neg:∀x y,cmp x y = -cmp y x
 trans:∀x y z,cmp x y<=0->cmp y z<=0->cmp x z<=0
section
variable{α:Type}{cmp:α->α->Int}
def Bq.refl(h:Bq cmp)(x:α):cmp x x=0:=by have:=h.neg x x;omega
def Bq.lt_of_lt_le(h:Bq cmp){x y z:α}(h1:cmp x y<0)(h2:cmp y z<=0):cmp x z<0:=by
 have a:=h.trans x y z (by omega) h2;rcases GV a with q|q
 ·exact q
 ·have b:=h.trans y z x h2 (by rw[h.neg,q];decide);rw[h.neg]at b;omega
def Bq.lt_of_le_lt(h:Bq cmp){x y z:α}(h1:cmp x y<=0)(h2:cmp y z<0):cmp x z<0:=by
 have a:=h.trans x y z h1 (by omega);rcases GV a with q|q
 ·exact q
 ·have b:=h.trans z x y (by rw[h.neg,q];decide) h1;rw[h.neg]at b;omega
def Bq.eq_trans(h:Bq cmp){x y z:α}(h1:cmp x y=0)(h2:cmp y z=0):cmp x z=0:=by
 have a:=h.trans x y z (by omega) (by omega);have b:=h.trans z y x (by rw[h.neg,h2];decide) (by rw[h.neg,h1];decide);rw[h.neg]at b;omega
def Bq.eq_left(h:Bq cmp){x y z:α}(h1:cmp x y=0):cmp x z=0↔cmp y z=0 :=
 ⟨λq=>h.eq_trans (by rw[h.neg,h1];rfl) q,λq=>h.eq_trans h1 q⟩
def Ae(cmp:α->α->Int)(x:α)(l:List α):List α:=l.filter λy=>cmp x y==0
structure Af (cmp:α->α->Int) (l m:List α):Prop where
 sorted:m.Pairwise λx y=>cmp x y<=0
 same:∀x,Ae cmp x m=Ae cmp x l
def Af.nil:Af cmp [] ([]:List α):=⟨List.Pairwise.nil,λ_=>rfl⟩
def Af.one(x:α):Af cmp [x] [x]:=⟨BN _ _,λ_=>rfl⟩
def Ag(x:α)(l m:List α):Ae cmp x (l++m)=Ae cmp x l++Ae cmp x m:=CT _ _
def Af.join{l1 l2 m1 m2 n:List α}(h1:Af cmp l1 m1)(h2:Af cmp l2 m2)(h:Af cmp (m1++m2) n):Af cmp (l1++l2) n :=
 ⟨h.sorted,λx=>by rw[h.same,Ag,Ag,h1.same,h2.same]⟩
def Af.mem(T:Bq cmp){l m:List α}(h:Af cmp l m)(x:α):x∈m↔x∈l:=by
 have e:=h.same x;have key:∀n:List α,x∈Ae cmp x n↔x∈n:=λn=>by
  unfold Ae;rw[BI];exact⟨λq=>q.1,λq=>⟨q,by rw[beq_iff_eq];exact T.refl x⟩⟩
 rw[<-key m,<-key l,e]
def Af.insert(T:Bq cmp){l s1 s2:List α}{x:α}(h:Af cmp l (s1++s2))(h2:∀y∈s2,cmp x y<0)(h1:∀y,s1.getLast?=some y->¬cmp x y<0):Af cmp (l++[x]) (s1++x::s2):=by
 have hs:=BL.1 h.sorted;have hx:∀y∈s1,cmp y x<=0:=by
  intro y hy;rcases FQ s1 with rfl|⟨t,z,rfl⟩
  ·cases hy
  ·rw[FR]at hy hs h1;have hz:cmp z x<=0:=by
    have:=h1 z (by simp);rw[T.neg];omega
   rcases AQ.1 hy with q|q
   ·exact T.trans y z x ((BL.1 hs.1).2.2 y q z (by simp)) hz
   ·simp only[AE]at q;subst q;exact hz
 refine⟨BL.2 ⟨hs.1,BZ.2 ⟨λy hy=>DP (h2 y hy),hs.2.1⟩,λy hy z hz=>?_⟩,λc=>?_⟩
 ·rcases AY.1 hz with rfl|hz
  ·exact hx y hy
  ·exact hs.2.2 y hy z hz
 ·have e0:Ae cmp c (l++[x])=(Ae cmp c s1++Ae cmp c s2)++Ae cmp c [x]:=by rw[Ag,<-h.same c,Ag]
  rw[e0,Ag];by_cases hc:cmp c x=0
  ·have e2:Ae cmp c s2=[]:=by
    unfold Ae;rw[GK];intro y hy q;have q':cmp c y=0:=by simpa using q
    have:=h2 y hy;have:=(T.eq_left hc).1 q';omega
   have e3:Ae cmp c (x::s2)=[x]:=by
    show List.filter _ (x::s2)=_;rw[CR (by simpa using hc)];show x::Ae cmp c s2=_;rw[e2]
   have e4:Ae cmp c [x]=[x]:=by
    show List.filter _ [x]=_;rw[CR (by simpa using hc)];rfl
   rw[e3,e2,e4,AV]
  ·have e3:∀t:List α,Ae cmp c (x::t)=Ae cmp c t:=λt=>by
    show List.filter _ (x::t)=_;rw[CP (by simpa using hc)];rfl
   rw[e3,e3];show _=_++[];rw[AV]
def Af.unique(T:Bq cmp):∀{m n l:List α},Af cmp l m->Af cmp l n->m=n
 | [],[],_,_,_=>rfl
 | [],y::n,l,h,k=>absurd ((h.mem T y).2 ((k.mem T y).1 (BC ..))) (DA)
 | x::m,[],l,h,k=>absurd ((k.mem T x).2 ((h.mem T x).1 (BC ..))) (DA)
 | x::m,y::n,l,h,k=>by
  have hxy:cmp x y<=0:=by
   have:y∈x::m:=(h.mem T y).2 ((k.mem T y).1 (BC ..));rcases AY.1 this with rfl|q
   ·rw[T.refl];decide
   ·exact(BZ.1 h.sorted).1 y q
  have a:cmp y x<=0:=by
   have:x∈y::n:=(k.mem T x).2 ((h.mem T x).1 (BC ..));rcases AY.1 this with rfl|q
   ·rw[T.refl];decide
   ·exact(BZ.1 k.sorted).1 x q
  have h0:cmp x y=0:=by rw[T.neg]at a;omega
  have e:Ae cmp x (x::m)=Ae cmp x (y::n):=(h.same x).trans (k.same x).symm;have e1:Ae cmp x (x::m)=x::Ae cmp x m:=by
   show List.filter _ (x::m)=_;rw[CR (by simpa using T.refl x)];rfl
  have e2:Ae cmp x (y::n)=y::Ae cmp x n:=by
   show List.filter _ (y::n)=_;rw[CR (by simpa using h0)];rfl
  rw[e1,e2]at e;injection e with e3 _;subst e3;have hm:Af cmp m m:=⟨(BZ.1 h.sorted).2,λ_=>rfl⟩;have hn:Af cmp m n:=⟨(BZ.1 k.sorted).2,λc=>by
   have q:Ae cmp c (x::m)=Ae cmp c (x::n):=(h.same c).trans (k.same c).symm;unfold Ae at q ⊢;by_cases hc:cmp c x=0
   ·rw[CR (by simpa using hc),CR (by simpa using hc)]at q;injection q with _ q;exact q.symm
   ·rw[CP (by simpa using hc),CP (by simpa using hc)]at q;exact q.symm⟩
  rw[Af.unique T hm hn]
end
abbrev TV:=Int×List Int
def Cr(x y:TV):Int:=Gl x.1 x.2 y.1 y.2
def Fq(x y:TV):Bool:=Jn x.1 x.2 y.1 y.2
def Uf(x y:Int):By y x = -By x y:=by
 unfold By
 repeat' split
 all_goals omega
def Mg:By x y<0↔x<y:=by
 unfold By
 repeat' split
 all_goals omega
def dI:∀l m:List Int,Dx m l = -Dx l m
 | [],[]=>rfl
 | [],_::_=>rfl
 | _::_,[]=>rfl
 | x::l,y::m=>by
  simp only[Dx];rw[Uf x y];by_cases h:By x y=0
  ·rw[if_pos (by omega),if_pos h];exact dI l m
  ·rw[if_neg (by omega),if_neg h]
def Va:∀l m n:List Int,Dx l m<=0->Dx m n<=0->Dx l n<=0
 | [],[],n,_,h=>h
 | [],_::_,[],_,h=>by simp[Dx]at h
 | [],_::_,_::_,_,_=>by simp[Dx]
 | _::_,[],_,h,_=>by simp[Dx]at h
 | _::_,_::_,[],_,h=>by simp[Dx]at h
 | x::l,y::m,z::n,h,k=>by
  simp only[Dx]at h k ⊢;by_cases h1:By x y=0
  ·have e:=Gx.1 h1;subst e;rw[if_pos h1]at h;by_cases h2:By x z=0
   ·rw[if_pos h2]at k ⊢;exact Va l m n h k
   ·rw[if_neg h2]at k ⊢;exact k
  ·rw[if_neg h1]at h;have l1:x<y:=Mg.1 (by omega);by_cases h2:By y z=0
   ·have e:=Gx.1 h2;subst e;rw[if_neg h1];exact h
   ·rw[if_neg h2]at k;have l2:y<z:=Mg.1 (by omega);have l3:By x z<0:=Mg.2 (by omega);rw[if_neg (by omega)];omega
def a2e{a b c:Int}:orT a b c<=0↔a<0\/(a=0/\(b<0\/(b=0/\c<=0))):=by
 unfold orT;split
 ·split<;>omega
 ·omega
def Fz(x y:TV):Cr y x = -Cr x y:=by
 unfold Cr Gl;rw[Uf x.2.length,Uf x.1,dI x.2];unfold orT;by_cases h1:By x.2.length y.2.length=0
 ·rw[if_pos (by omega),if_pos h1];by_cases h2:By x.1 y.1=0
  ·rw[if_pos (by omega),if_pos h2]
  ·rw[if_neg (by omega),if_neg h2]
 ·rw[if_neg (by omega),if_neg h1]
def Of(x y z:TV)(h:Cr x y<=0)(k:Cr y z<=0):Cr x z<=0:=by
 unfold Cr Gl at h k ⊢;rw[a2e]at h k ⊢;rw[Mg,Gx,Mg,Gx]at h k ⊢;rcases h with h|⟨h1,h|⟨h2,h3⟩⟩<;>rcases k with k|⟨k1,k|⟨k2,k3⟩⟩
 ·exact .inl (by omega)
 ·exact .inl (by omega)
 ·exact .inl (by omega)
 ·exact .inl (by omega)
 ·exact .inr ⟨by omega,.inl (by omega)⟩
 ·exact .inr ⟨by omega,.inl (by omega)⟩
 ·exact .inl (by omega)
 ·exact .inr ⟨by omega,.inl (by omega)⟩
 ·exact .inr ⟨by omega,.inr ⟨by omega,Va _ _ _ h3 k3⟩⟩
def Co{x y:TV}:Cr x y=0↔x=y:=by
 unfold Cr;rw[eB];exact⟨λh=>Prod.ext h.1 h.2,λh=>by rw[h];exact⟨rfl,rfl⟩⟩
def Kb{x y z:TV}(h:Cr x y<0)(k:Cr y z<=0):Cr x z<0:=by
 have h1:=Of x y z (by omega) k;rcases GV h1 with h2|h2
 ·exact h2
 ·have e:=Co.1 h2;subst e;have:=Fz x y;omega
def Xl(x:TV):Fq x x=true:=Ts _ _
def Uo{x y z:TV}(h:Fq x y=true)(k:Fq y z=true):Fq x z=true:=pW h k
def cI{x y:TV}(h:Fq x y=true):Cr x y<=0:=a2o h
def nK{x y:TV}(h:Fq x y=true)(k:Fq y x=true):x=y:=Co.1 (xJ.1 ⟨h,k⟩)
def Je(l:List TV):Prop:=l.Pairwise λx y=>Cr x y<0
def Ux:∀{a b:List TV},Je a->Je b->(∀x,x∈a↔x∈b)->a=b
 | [],[],_,_,_=>rfl
 | [],y::b,_,_,h=>by have:=(h y).2 (by simp);simp at this
 | x::a,[],_,_,h=>by have:=(h x).1 (by simp);simp at this
 | x::a,y::b,ha,hb,h=>by
  unfold Je at ha hb;rw[BZ]at ha hb;have e:x=y:=by
   have h1:x∈y::b:=(h x).1 (by simp);have h2:y∈x::a:=(h y).2 (by simp);rcases AY.1 h1 with h1|h1
   ·exact h1
   ·rcases AY.1 h2 with h2|h2
    ·exact h2.symm
    ·have q1:=hb.1 x h1;have q2:=ha.1 y h2;have:=Fz x y;omega
  subst e;rw[Ux ha.2 hb.2 (λz=>by
   constructor
   ·intro hz;rcases AY.1 ((h z).1 (BM _ hz))with e|e
    ·have:=ha.1 z hz;rw[e,Co.2 rfl]at this;omega
    ·exact e
   ·intro hz;rcases AY.1 ((h z).2 (BM _ hz))with e|e
    ·have:=hb.1 z hz;rw[e,Co.2 rfl]at this;omega
    ·exact e)]
def Ny{α:Type}{p q:α->Bool}(h:∀z,p z=true->q z=true):∀l:List α,(l.filter p).length<=(l.filter q).length
 | []=>AD _
 | x::l=>by
  have ih:=Ny h l;rw[FU,FU];by_cases hp:p x=true
  ·rw[if_pos hp,if_pos (h x hp)];simpa using ih
  ·rw[if_neg hp];split
   ·exact Nat.le_succ_of_le ih
   ·exact ih
def Rn{α:Type}{p q:α->Bool}(h:∀z,p z=true->q z=true){a:α}:∀{l:List α},a∈l->p a=false->q a=true->(l.filter p).length<(l.filter q).length
 | x::l,ha,hp,hq=>by
  rw[FU,FU];rcases AY.1 ha with rfl|ha
  ·rw[if_neg (by rw[hp];decide),if_pos hq];exact Nat.lt_succ_of_le (Ny h l)
  ·have ih:=Rn h ha hp hq;by_cases hx:p x=true
   ·rw[if_pos hx,if_pos (h x hx)];simpa using ih
   ·rw[if_neg hx];split
    ·exact Nat.lt_succ_of_lt ih
    ·exact ih
def Qx(L:List TV)(v:TV):Prop:=v∈L/\∀u∈L,Fq u v=true->u=v
def Rl:∀(n:Nat) (L:List TV) (v:TV),(L.filter λu=>decide (Cr u v<0)).length<=n->v∈L->∃m,Qx L m/\Fq m v=true
 | n,L,v,hn,hv=>by
  by_cases h:∃u∈L,Fq u v=true/\u≠v
  ·obtain⟨u,hu,huv,hne⟩:=h;have hlt:Cr u v<0:=by
    have:=cI huv;have h0:Cr u v≠0:=λe=>hne (Co.1 e);omega
   have c:(L.filter λz=>decide (Cr z u<0)).length<(L.filter λz=>decide (Cr z v<0)).length:=by
    have a:∀z,decide (Cr z u<0)=true->decide (Cr z v<0)=true:=λz hz=>by
     rw[decide_eq_true_iff]at hz ⊢;exact Kb hz (by omega)
    exact Rn a hu (by rw[Co.2 rfl];decide) (by rw[decide_eq_true_iff];exact hlt)
   match n,hn with
   | 0,hn=>omega
   | n+1,hn =>
    have⟨m,h1,h2⟩:=Rl n L u (by omega) hu;exact⟨m,h1,Uo h2 huv⟩
  ·refine⟨v,⟨hv,λu hu huv=>?_⟩,Xl v⟩;by_cases e:u=v
   ·exact e
   ·exact absurd ⟨u,hu,huv,e⟩ h
structure hZ (L M:List TV):Prop where
 rising:Je M
 mem:∀v,v∈M↔Qx L v
def hZ.unique{L M N:List TV}(h:hZ L M)(k:hZ L N):M=N:=Ux h.rising k.rising λv=>(h.mem v).trans (k.mem v).symm
def Ak(M:List TV)(t:TV):Bool:=M.any λx=>Fq x t
def Ej{M:List TV}{t:TV}:Ak M t=true ↔ ∃x∈M,Fq x t=true:=by unfold Ak;exact EI
structure Ic (L S:List TV) (i:Nat) (M:List TV):Prop where
 rising:Je M
 mem:∀v,v∈M↔Qx L v/\v∈S.take i
def Ic.zero(L S:List TV):Ic L S 0 []:=⟨List.Pairwise.nil,λv=>by simp⟩
def Fc{α:Type}{l:List α}(h:i<l.length)(v:α):v∈l.take (i+1)↔v∈l.take i\/v=l[i]:=by
 rw[CC h,AQ,AE]
def Ic.skip{L S M:List TV}(h:Ic L S i M)(hi:i<S.length)(hb:Ak M S[i]=true):Ic L S (i+1) M:=by
 refine⟨h.rising,λv=>⟨λhv=>?_,λ⟨h1,h2⟩=>?_⟩⟩
 ·have:=(h.mem v).1 hv;exact⟨this.1,(Fc hi v).2 (.inl this.2)⟩
 ·rcases(Fc hi v).1 h2 with h2|rfl
  ·exact(h.mem v).2 ⟨h1,h2⟩
  ·have⟨x,hx,a⟩:=Ej.1 hb;have q:=(h.mem x).1 hx;have e:=h1.2 x q.1.1 a;rw[<-e];exact hx
def Ic.put{L S M:List TV}(h:Ic L S i M)(hi:i<S.length)(hs:S.Pairwise λx y=>Cr x y<=0)(hm:∀v,v∈S↔v∈L)(hb:Ak M S[i]=false):Ic L S (i+1) (M++[S[i]]):=by
 have f:∀x∈M,Fq x S[i]=false:=λx hx=>by
  by_cases e:Fq x S[i]=true
  ·rw[Ej.2 ⟨x,hx,e⟩]at hb;exact absurd hb (by decide)
  ·simpa using e
 have g:∀v,v∈S->Cr v S[i]<0->v∈S.take i:=λv hv c=>by
  obtain⟨j,hj,rfl⟩:=DK hv;by_cases hji:j<i
  ·exact List.mem_take_iff_getElem.2 ⟨j,by omega,rfl⟩
  ·exfalso;rcases Nat.lt_or_eq_of_le (Nat.le_of_not_lt hji)with q|q
   ·have:=DH.1 hs i j hi hj q;have:=Fz S[i] S[j];omega
   ·subst q;rw[Co.2 rfl]at c;omega
 have n:S[i]∈L:=(hm _).1 (BR hi);have a:Qx L S[i]:=by
  refine⟨n,λu hu huv=>?_⟩;have⟨m,h1,h2⟩:=Rl _ L u (AD _) hu;have d:=Uo h2 huv;by_cases e:m=S[i]
  ·exact nK huv (e▸h2)
  ·have c:Cr m S[i]<0:=by
    have:=cI d;have h0:Cr m S[i]≠0:=λq=>e (Co.1 q);omega
   have l:m∈M:=(h.mem m).2 ⟨h1,g m ((hm m).2 h1.1) c⟩;rw[f m l]at d;exact absurd d (by decide)
 refine⟨?_,λv=>⟨λhv=>?_,λ⟨h1,h2⟩=>?_⟩⟩
 ·unfold Je;refine BL.2 ⟨h.rising,BN _ _,λx hx y hy=>?_⟩;rw[AE]at hy;subst hy;have r:=((h.mem x).1 hx).2;have⟨j,hj,e⟩:=List.mem_take_iff_getElem.1 r;have q:=DH.1 hs j i (by omega) hi (by omega);rw[e]at q;have h0:Cr x S[i]≠0:=λz=>by
   have e2:=Co.1 z;have:=f x hx;rw[e2,Xl]at this;exact absurd this (by decide)
  omega
 ·rcases AQ.1 hv with hv|hv
  ·have:=(h.mem v).1 hv;exact⟨this.1,(Fc hi v).2 (.inl this.2)⟩
  ·rw[AE]at hv;subst hv;exact⟨a,(Fc hi _).2 (.inr rfl)⟩
 ·rcases(Fc hi v).1 h2 with h2|rfl
  ·exact BE _ ((h.mem v).2 ⟨h1,h2⟩)
  ·exact CD _ (by simp)
def Ic.done{L S M:List TV}(h:Ic L S S.length M)(hm:∀v,v∈S↔v∈L):hZ L M :=
 ⟨h.rising,λv=>by rw[h.mem v,EP,hm];exact⟨λq=>q.1,λq=>⟨q,q.1⟩⟩⟩
def Yz(v:TV):List TV->List TV
 | []=>[v]
 | m::r=>if Cr v m<0 then v::m::r else if Cr v m=0 then m::r else m::Yz v r
def Tv(v x:TV):∀M,x∈Yz v M↔x=v\/x∈M
 | []=>by simp[Yz]
 | m::r=>by
  unfold Yz;split
  ·simp
  ·split
   ·rename_i h;rw[Co.1 h];simp
   ·simp only[AY,Tv v x r];constructor
    ·rintro(h|h|h)
     ·exact .inr (.inl h)
     ·exact .inl h
     ·exact .inr (.inr h)
    ·rintro(h|h|h)
     ·exact .inr (.inl h)
     ·exact .inl h
     ·exact .inr (.inr h)
def Rm(v:TV):∀{M},Je M->Je (Yz v M)
 | [],_=>BN _ _
 | m::r,h=>by
  unfold Je at h;have⟨h1,h2⟩:=BZ.1 h;unfold Yz;split
  ·rename_i hv;exact BZ.2 ⟨λy hy=>by
    rcases AY.1 hy with rfl|hy
    ·exact hv
    ·exact Kb hv (by have:=h1 y hy;omega),h⟩
  ·split
   ·exact h
   ·rename_i q1 q2;have q3:=Fz m v;exact BZ.2 ⟨λy hy=>by
     rcases(Tv v y r).1 hy with rfl|hy
     ·omega
     ·exact h1 y hy,Rm v h2⟩
instance (L:List TV) (v:TV):Decidable (Qx L v):=by unfold Qx;exact inferInstance
def ofV(L:List TV):List TV:=(L.filter λv=>decide (Qx L v)).foldr Yz []
def Yg:∀(L:List TV),Je (L.foldr Yz [])/\∀x,x∈L.foldr Yz []↔x∈L
 | []=>⟨List.Pairwise.nil,λ_=>Iff.rfl⟩
 | v::L=>by
  have ih:=Yg L;rw[List.foldr_cons];refine⟨Rm v ih.1,λx=>?_⟩;rw[Tv,ih.2 x,AY]
def sM(L:List TV):hZ L (ofV L):=by
 have h:=Yg (L.filter λv=>decide (Qx L v));refine⟨h.1,λv=>?_⟩;unfold ofV;rw[h.2 v,BI,decide_eq_true_iff];exact⟨λq=>q.2,λq=>⟨q.1,q⟩⟩
def hZ.eq{L M:List TV}(h:hZ L M):M=ofV L:=h.unique (sM L)
def Vu{P:Program}(w:World){t ty e size bytes:Nat}{z:Value}(E:Gr P t e size bytes z)(base:Nat)
  (A0:Option Addr) (n c0:Nat) (xs:List Value) (hown:Own w base e size A0 n c0 xs)
  (A:Option Addr) (m c:Nat) (news:List Value) (hr:Sl w size A m c news) (h1:∀u∈news,u.oneCell'=true)
  (hbytes:(n+m)*bytes<=140737488355328) (hb1:0<bytes) (hbase:base<=w.heap.size) :
  ∃A' c' w',(Builtin.append_ #[t,t] ty #[.slice A0 n c0,.slice A m c]).run P w=.ok (.slice A' (n+m) c') w'/\Own w' base e size A' (n+m) c' (xs++news)/\w.grownBy w' (blk A0 c0) /\
   ((A'=A0/\c'=c0)\/(blk A' c'=some w.heap.size/\Ext w w')):=by
 have⟨i,hi,hz,hs,x⟩:=info_parts E.info;have h:n+m<=maxLen:=by
  have:n+m<=(n+m)*bytes:=Nat.le_mul_of_pos_right _ hb1;unfold maxLen;omega
 rcases CS m with hm|hm
 ·subst hm;have y:news=[]:=AH (by simpa using hr.1);subst y;exact⟨_,_,w,Fj w E A0 n c0 hown.le.1 A c,by simpa using hown,CM w _,.inl ⟨rfl,rfl⟩⟩
 ·obtain⟨ad,rfl,a⟩:=hr.2.2.2.2 hm;rcases hown.2 with ⟨rfl,rfl⟩|⟨g,cur,rfl,hb,hg,hnc,l,hcs,htake⟩
  ·have hx:xs=[]:=AH (by simpa using hown.1);subst hx;have r:=grownCap_ge w (0+m) 0 e;have l:grownCap w (0+m) 0 e<=maxLen:=grownCap_le_maxLen w (0+m) 0 e h;obtain⟨kk,hk⟩:∃k,grownCap w (0+m) 0 e=k+1:=⟨_,(FE (by omega)).symm⟩;have q:Own (w.drew.alloc (.cells ((#[]:Array Value)++news.toArray++Builtin.zeroCells z.cells (grownCap w (0+m) 0 e-(0+m))) e)) base e size (some ⟨w.heap.size,0,none⟩) (0+m) (grownCap w (0+m) 0 e) ([]++news):=by
    refine⟨by simpa using hr.1,.inr ⟨w.heap.size,_,rfl,hbase,heap_alloc_new w.drew _,r,l,?_,?_⟩⟩
    ·refine ET (Eq.symm ?_);simp only[FK,EL,size_zeroCells,E.zsize,hr.1,CB,BV,<-DM]
     congr 1
     simp only[BV]at r;omega
    ·have d:([]++news).length=(0+m)*size:=by simpa using hr.1
     simp only[FV,AK];rw[<-AK,<-d];exact DY
   cases A0 with
   | none =>
    have f:=run_append_nil (P:=P) w t ty e i z E.under hi hz ad m c news (by rw[hs];exact hr.1) a hm (by unfold maxLen at h;omega) (by rw[x];simp only[BV]at hbytes;omega);simp only[BV,BD,Array.empty_append]at q hk ⊢;refine⟨_,_,_,f,q,⟨rfl,rfl,rfl,by simp,λk hk _=>EN w.drew _ k hk⟩,.inr ⟨?_,((Ext.refl w).drew).alloc _⟩⟩;rw[hk];rfl
   | some b =>
    have f:=run_append_grow (P:=P) w t ty e i z E.under hi hz b 0 0 [] (by simp) (by simp) ad m c news (by rw[hs];exact hr.1) a (by omega) (by unfold maxLen at h;omega) (by rw[x];exact growslice_fits (by omega) hbytes);refine⟨_,_,_,f,q,⟨rfl,rfl,rfl,by simp,λk hk _=>EN w.drew _ k hk⟩,.inr ⟨?_,((Ext.refl w).drew).alloc _⟩⟩;rw[hk];rfl
  ·have d:(xs++news).length=(n+m)*size:=by rw[AA,hown.1,hr.1,DM]
   by_cases hroom:n+m<=c0
   ·have C:n*i.size+news.length<=cur.size:=by rw[hr.1,hs,<-DM];exact AR (DG _ hroom) hcs
    have f:=run_append_room (P:=P) w t ty e i E.under hi g n c0 cur hg ad m c news (by rw[hs];exact hr.1) a h1 hroom C;refine⟨_,_,_,f,⟨d,.inr ⟨g,_,rfl,hb,setRow_heap w g cur _ e _ hg,hroom,l,?_,?_⟩⟩,⟨rfl,rfl,rfl,by simp,λk _ hk=>setRow_other w g k _ (λe'=>hk (by
     obtain⟨c1,rfl⟩:∃c1,c0=c1+1:=⟨c0-1,by omega⟩;simp[blk,e']))⟩,.inl ⟨rfl,rfl⟩⟩
    ·simp only[EL,AA,CE,CZ,EF];omega
    ·rw[hs,htake,<-d];exact DY
   ·have B:∀j u,xs[j]?=some u->w.cell? ((⟨g,0,none⟩:Addr).add j)=some u:=Ve hg htake;have f:=run_append_grow (P:=P) w t ty e i z E.under hi hz ⟨g,0,none⟩ n c0 xs (by rw[hs];exact hown.1) B ad m c news (by rw[hs];exact hr.1) a (by omega) (by unfold maxLen at h;omega) (by rw[x];exact growslice_fits (by omega) hbytes);have r:=grownCap_ge w (n+m) c0 e;have l:grownCap w (n+m) c0 e<=maxLen:=grownCap_le_maxLen w (n+m) c0 e h;refine⟨_,_,_,f,⟨d,.inr ⟨w.heap.size,_,rfl,hbase,heap_alloc_new w.drew _,r,l,?_,?_⟩⟩,⟨rfl,rfl,rfl,by simp,λk hk _=>EN w.drew _ k hk⟩,.inr ⟨?_,((Ext.refl w).drew).alloc _⟩⟩
    ·refine ET (Eq.symm ?_);simp only[FK,EL,size_zeroCells,E.zsize,hr.1,hown.1,<-DM]
     congr 1
     omega
    ·simp only[FV,AK];rw[<-AK,<-d];exact DY
    ·obtain⟨kk,hk⟩:∃k,grownCap w (n+m) c0 e=k+1:=⟨_,(FE (by omega)).symm⟩;rw[hk];rfl
def Wf{P:Program}(w:World){o:Oper}{a:Act}{K:Act->World->Prop}{Q:Exit->Act->World->Prop}{t e size bytes:Nat}{z:Value}(E:Gr P t e size bytes z)(base:Nat)(s x:Operand)
  (ho:o.op=.call { callee:=.builtin .append,args:=#[s,x],argTypes:=#[t,t] })
  (A0:Option Addr) (n c0:Nat) (xs:List Value) (hs:a.eval s=.slice A0 n c0) (hown:Own w base e size A0 n c0 xs)
  (A:Option Addr) (m c:Nat) (news:List Value) (hx:a.eval x=.slice A m c) (hr:Sl w size A m c news) (h1:∀u∈news,u.oneCell'=true)
  (hbytes:(n+m)*bytes<=140737488355328) (hb1:0<bytes) (hbase:base<=w.heap.size)
  (h:∀A' c' w',Own w' base e size A' (n+m) c' (xs++news)->w.grownBy w' (blk A0 c0)->((A'=A0/\c'=c0)\/(blk A' c'=some w.heap.size/\Ext w w'))->K (a.put o.dst (.slice A' (n+m) c')) w'):o.wp P a w K Q:=by
 have⟨A',c',w',d,h2,h3,h4⟩:=Vu (P:=P) (ty:=o.type) w E base A0 n c0 xs hown A m c news hr h1 hbytes hb1 hbase;unfold Oper.wp execOp;simp only[ho,resolve,invoke,builtin,Sem.run_bind,Sem.run_pure,Result.andThen_ok,FT,CJ,FO,hs,hx,d];exact h A' c' w' h2 h3 h4
def Ab{P:Program}(w:World){ops:Array Oper}{rest:List Oper}{o:Oper}{a:Act}{Q:Exit->Act->World->Prop}{t e size bytes:Nat}{z:Value}(E:Gr P t e size bytes z)(base:Nat)(s x:Operand)
  (ho:o.op=.call { callee:=.builtin .append,args:=#[s,x],argTypes:=#[t,t] }) (hgd:o.guard=none)
  (A0:Option Addr) (n c0:Nat) (xs:List Value) (hs:a.eval s=.slice A0 n c0) (hown:Own w base e size A0 n c0 xs)
  (A:Option Addr) (m c:Nat) (news:List Value) (hx:a.eval x=.slice A m c) (hr:Sl w size A m c news) (h1:∀u∈news,u.oneCell'=true)
  (hbytes:(n+m)*bytes<=140737488355328) (hb1:0<bytes) (hbase:base<=w.heap.size)
  (h:∀A' c' w',Own w' base e size A' (n+m) c' (xs++news)->w.grownBy w' (blk A0 c0)->((A'=A0/\c'=c0)\/(blk A' c'=some w.heap.size/\Ext w w'))->wpList P ops Q rest (a.put o.dst (.slice A' (n+m) c')) w'):wpList P ops Q (o::rest) a w :=
 wpList_plain hgd λ_ hK=>Wf w E base s x ho A0 n c0 xs hs hown A m c news hx hr h1 hbytes hb1 hbase λA' c' w' h2 h3 h4=>hK _ _ (h A' c' w' h2 h3 h4)
structure Upd (S:Nat->Prop) (w w':World):Prop where
 os:w'.os=w.os
 tape:w'.tape=w.tape
 output:w'.output=w.output
 size:w.heap.size<=w'.heap.size
 block:∀k,k<w.heap.size->¬S k->w'.heap[k]?=w.heap[k]?
def Upd.refl(S:Nat->Prop)(w:World):Upd S w w:=⟨rfl,rfl,rfl,AD _,λ_ _ _=>rfl⟩
def Upd.ext(x:Ext w w'):Upd S w w':=⟨Below.os x,Below.tape x,Below.output x,Ext.size x,λk hk _=>Below.block x k hk⟩
def Upd.mono{T:Nat->Prop}(h:Upd S w w')(hs:∀k,k<w.heap.size->S k->T k):Upd T w w':=⟨h.os,h.tape,h.output,h.size,λk hk hn=>h.block k hk (λq=>hn (hs k hk q))⟩
def Upd.trans{a b c:World}(h:Upd S a b)(k:Upd S b c):Upd S a c :=
 ⟨k.os.trans h.os,k.tape.trans h.tape,k.output.trans h.output,AR h.size k.size,λq hq hn=>(k.block q (AZ hq h.size) hn).trans (h.block q hq hn)⟩
def Upd.setCell{a:World}(h:Upd S a w){p:Addr}(hp:S p.block\/a.heap.size<=p.block)(u:Value):Upd S a (w.setCell p u):=by
 refine⟨h.os,h.tape,h.output,by simpa using h.size,λk hk hn=>?_⟩;rw[GB _ _ _ _ (λe=>by
  rcases hp with hp|hp
  ·exact hn (e▸hp)
  ·omega)]
 exact h.block k hk hn
def Upd.alloc{a:World}(h:Upd S a w)(o:Obj):Upd S a (w.alloc o):=h.trans (Upd.ext ((Ext.refl w).alloc o))
def Upd.grown{a:World}{row:Option Nat}(h:Upd S a w)(g:w.grownBy w' row)(hr:∀k,row=some k->S k\/a.heap.size<=k):Upd S a w' :=
 ⟨g.os.trans h.os,g.tape.trans h.tape,g.output.trans h.output,AR h.size g.size,λk hk hn=>(g.block k (AZ hk h.size) (λe=>by
  rcases hr k e.symm with q|q
  ·exact hn q
  ·omega)).trans (h.block k hk hn)⟩
def bU{p:Addr}(h:w'.heap[p.block]?=w.heap[p.block]?):w'.cell? p=w.cell? p:=by unfold World.cell?;rw[h]
def Upd.cell(h:Upd S w w'){p:Addr}{u:Value}(hn:¬S p.block)(hc:w.cell? p=some u):w'.cell? p=some u :=
 (bU (h.block p.block (FD w p hc) hn)).trans hc
def Sl.upd{size:Nat}(h:Sl w size A n c xs)(x:Upd S w w')(hn:∀k,blk A c=some k->¬S k):Sl w' size A n c xs:=by
 refine⟨h.1,h.2.1,h.2.2.1,h.2.2.2.1,λh0=>?_⟩;obtain⟨ad,rfl,hc⟩:=h.2.2.2.2 h0;refine⟨ad,rfl,λj u hu=>x.cell ?_ (hc j u hu)⟩;rw[Ep];refine hn ad.block ?_;have:=h.2.1;cases c with
 | zero=>omega
 | succ c=>rfl
def Own.upd{size:Nat}(h:Own w B e size A n c xs)(x:Upd S w w')(hn:∀k,blk A c=some k->¬S k):Own w' B e size A n c xs:=by
 refine⟨h.1,?_⟩;rcases h.2 with hz|⟨g,cur,rfl,hb,hg,rest⟩
 ·exact .inl hz
 ·cases c with
  | zero =>
   obtain⟨h1,_⟩:=rest;exact .inl ⟨rfl,by omega⟩
  | succ c =>
   refine .inr ⟨g,cur,rfl,hb,?_,rest⟩;rw[x.block g (BP.1 hg).1 (hn g rfl)];exact hg
structure En where
 A:Option Addr
 n:Nat
 c:Nat
def En.v(x:En):Value:=.slice x.A x.n x.c
def En.b(x:En):Option Nat:=blk x.A x.c
def En.zero:En:=⟨none,0,0⟩
def El(L:List En):List Value:=L.map En.v
def wV(L:List En):(El L).length=L.length:=AN ..
def Hw(L:List En):∀u∈El L,u.oneCell'=true:=λu hu=>by obtain⟨x,_,rfl⟩:=AP.1 hu;rfl
def Hx(L M:List En):El (L++M)=El L++El M:=AI
def ena(L:List En)(i:Nat):En:=L.getD i En.zero
def zX{L:List En}(h:i<L.length):(El L)[i]?=some (ena L i).v:=by
 unfold El ena;rw[CG,AB,AC h];rfl
def Hu{L:List En}(h:Sl w 1 A n c (El L)){i:Nat}(hi:i<n):∃ad,A=some ad/\w.cell? (ad.add i)=some (ena L i).v:=by
 have hl:=h.1;rw[wV,FA]at hl;have⟨ad,e,hc⟩:=h.2.2.2.2 (by omega);exact⟨ad,e,hc i _ (zX (by omega))⟩
def Mr{L:List En}{x:En}(h:i<L.length):ena (L++[x]) i=ena L i:=by
 unfold ena;rw[AB,BS h,AB]
def Ms(L:List En)(x:En):ena (L++[x]) L.length=x:=by
 unfold ena;rw[AB,BF (AD _),DQ];rfl
section
variable(mk:Int->Nat->List Value)(size:Nat)
def Av(i:Int)(n:Nat):List Value:=(List.range n).flatMap (mk i)
variable{mk size}
def kA(i:Int):Av mk i 0=[]:=rfl
def Hc(i:Int)(n:Nat):Av mk i (n+1)=Av mk i n++mk i n:=by
 unfold Av;rw[List.range_succ,DF,List.flatMap_singleton]
def Cp(hs:∀i k,(mk i k).length=size)(i:Int):∀n,(Av mk i n).length=n*size
 | 0=>by simp[Av]
 | n+1=>by rw[Hc,AA,Cp hs i n,hs,Nat.succ_mul]
def Cq(hs:∀i k,(mk i k).length=size)(i:Int){q:Nat}(hq:q<size):∀(n k:Nat),k<n->(Av mk i n)[k*size+q]?=(mk i k)[q]?
 | 0,k,h=>by omega
 | n+1,k,h=>by
  rw[Hc];by_cases hk:k<n
  ·rw[BS,Cq hs i hq n k hk];rw[Cp hs];have:(k+1)*size<=n*size:=DG _ hk;rw[Nat.succ_mul]at this;omega
  ·have e:k=n:=by omega
   subst e;rw[BF (by rw[Cp hs];omega),Cp hs,DE]
end
structure Gn (w:World) (B:Nat) (e:TypeId) (size:Nat) (L:List En) (f:Nat->List Value):Prop where
 own:∀i,i<L.length->Own w B e size (ena L i).A (ena L i).n (ena L i).c (f i)
 apart:∀i j,i<L.length->j<L.length->i≠j->∀k,(ena L i).b=some k->(ena L j).b≠some k
def Cf(L:List En)(k:Nat):Prop:=∃i,i<L.length/\(ena L i).b=some k
def Gn.foot_lt{size:Nat}{L:List En}{f:Nat->List Value}(h:Gn w B e size L f){k:Nat}(hk:Cf L k):B<=k/\k<w.heap.size:=by
 obtain⟨i,hi,hb⟩:=hk;exact(h.own i hi).lt k hb
def Gn.upd{size:Nat}{L:List En}{f:Nat->List Value}(h:Gn w B e size L f)(x:Upd S w w')(hn:∀k,Cf L k->¬S k):Gn w' B e size L f :=
 ⟨λi hi=>(h.own i hi).upd x (λk hk=>hn k ⟨i,hi,hk⟩),h.apart⟩
structure Ph1 (mk:Int->Nat->List Value) (w wr:World) (B:Nat) (e:TypeId) (size:Nat) (L:List En) (i:Nat) (f:Nat->List Value):Prop where
 ls:Gn wr B e size L f
 done:∀j,j<i->j<L.length->f j=Av mk j (ena L j).n
 upd:Upd (Cf L) w wr
structure Kd (mk:Int->Nat->List Value) (w wr:World) (B:Nat) (e:TypeId) (size:Nat) (L:List En) (i k:Nat) (f:Nat->List Value):Prop where
 ph:Ph1 mk w wr B e size L i f
 part:(f i).take (k*size)=Av mk i k
def Ph1.enter{mk:Int->Nat->List Value}{size:Nat}{L:List En}{f:Nat->List Value}(h:Ph1 mk w wr B e size L i f):Kd mk w wr B e size L i 0 f:=⟨h,by rw[GC];rfl⟩
def Kd.leave{mk:Int->Nat->List Value}{size:Nat}{L:List En}{f:Nat->List Value}(h:Kd mk w wr B e size L i (ena L i).n f)(hi:i<L.length):Ph1 mk w wr B e size L (i+1) f:=by
 refine⟨h.ph.ls,λj hj hjl=>?_,h.ph.upd⟩;by_cases hij:j<i
 ·exact h.ph.done j hij hjl
 ·have:j=i:=by omega
  subst this;have hl:=(h.ph.ls.own j hi).1;have:=h.part
  rwa [<-hl,EP]at this
def Gn.put{size:Nat}{L:List En}{f:Nat->List Value}(h:Gn w B e size L f){i g:Nat}(hi:i<L.length)(hA:(ena L i).A=some ⟨g,0,none⟩)(hc:0<(ena L i).c)(q:Nat)(u:Value) :
  Gn (w.setCell ⟨g,q,none⟩ u) B e size L (λj=>if j=i then (f i).set q u else f j):=by
 have hb:(ena L i).b=some g:=by
  unfold En.b;rw[hA];generalize (ena L i).c=c at hc;cases c with
  | zero=>omega
  | succ c=>rfl
 refine⟨λj hj=>?_,h.apart⟩;by_cases hji:j=i
 ·subst hji;rw[if_pos rfl];have o:=h.own j hi;rw[hA]at o ⊢;exact o.put q u
 ·rw[if_neg hji];exact(h.own j hj).far (p:=⟨g,q,none⟩) (λe=>h.apart i j hi hj (Ne.symm hji) g hb e) u
def Jh{k:Nat}(h:k<xs.length)(u:Value):(xs.set k u).take (k+1)=xs.take k++[u]:=by
 rw[CC (by rw[ED];exact h),List.take_set_of_le (AD k),List.getElem_set_self]
def Kd.put1{mk:Int->Nat->List Value}{L:List En}{k:Nat}{f:Nat->List Value}(h:Kd mk w wr B e 1 L i k f)(hi:i<L.length)(hk:k<(ena L i).n)(hA:(ena L i).A=some ⟨g,0,none⟩)(hm:(ena L i).b=some g){u:Value}(hu:mk i k=[u]) :
  ∃f',Kd mk w (wr.setCell ⟨g,k,none⟩ u) B e 1 L i (k+1) f':=by
 have hl:=(h.ph.ls.own i hi).1;have hc:0<(ena L i).c:=by have:=(h.ph.ls.own i hi).le.1;omega
 refine⟨_,⟨h.ph.ls.put hi hA hc k u,λj hj hjl=>?_,h.ph.upd.setCell (.inl ⟨i,hi,hm⟩) u⟩,?_⟩
 ·rw[if_neg (by omega)];exact h.ph.done j hj hjl
 ·rw[if_pos rfl,FA,Jh (by rw[hl];omega),Hc,hu];have:=h.part;rw[FA]at this;rw[this]
def Kd.put2{mk:Int->Nat->List Value}{L:List En}{k:Nat}{f:Nat->List Value}(h:Kd mk w wr B e 2 L i k f)(hi:i<L.length)(hk:k<(ena L i).n)(hA:(ena L i).A=some ⟨g,0,none⟩)(hm:(ena L i).b=some g){u v:Value}(hu:mk i k=[u,v]) :
  ∃f',Kd mk w ((wr.setCell ⟨g,k*2,none⟩ u).setCell ⟨g,k*2+1,none⟩ v) B e 2 L i (k+1) f':=by
 have hl:=(h.ph.ls.own i hi).1;have hc:0<(ena L i).c:=by have:=(h.ph.ls.own i hi).le.1;omega
 refine⟨_,⟨(h.ph.ls.put hi hA hc (k*2) u).put hi hA hc (k*2+1) v,λj hj hjl=>?_,(h.ph.upd.setCell (.inl ⟨i,hi,hm⟩) u).setCell (.inl ⟨i,hi,hm⟩) v⟩,?_⟩
 ·rw[if_neg (by omega),if_neg (by omega)];exact h.ph.done j hj hjl
 ·rw[if_pos rfl,if_pos rfl,show(k+1)*2=k*2+1+1 by omega,Jh (by rw[ED,hl];omega),Jh (by rw[hl];omega),h.part,Hc,hu,AK];rfl
def Kd.put4{mk:Int->Nat->List Value}{L:List En}{k:Nat}{f:Nat->List Value}(h:Kd mk w wr B e 4 L i k f)(hi:i<L.length)(hk:k<(ena L i).n)(hA:(ena L i).A=some ⟨g,0,none⟩)(hm:(ena L i).b=some g){u v x y:Value}(hu:mk i k=[u,v,x,y]) :
  ∃f',Kd mk w ((((wr.setCell ⟨g,k*4,none⟩ u).setCell ⟨g,k*4+1,none⟩ v).setCell ⟨g,k*4+2,none⟩ x).setCell ⟨g,k*4+3,none⟩ y) B e 4 L i (k+1) f':=by
 have hl:=(h.ph.ls.own i hi).1;have hc:0<(ena L i).c:=by have:=(h.ph.ls.own i hi).le.1;omega
 refine⟨_,⟨(((h.ph.ls.put hi hA hc (k*4) u).put hi hA hc (k*4+1) v).put hi hA hc (k*4+2) x).put hi hA hc (k*4+3) y,λj hj hjl=>?_,(((h.ph.upd.setCell (.inl ⟨i,hi,hm⟩) u).setCell (.inl ⟨i,hi,hm⟩) v).setCell (.inl ⟨i,hi,hm⟩) x).setCell (.inl ⟨i,hi,hm⟩) y⟩,?_⟩
 ·rw[if_neg (by omega),if_neg (by omega),if_neg (by omega),if_neg (by omega)];exact h.ph.done j hj hjl
 ·simp only[↓reduceIte];rw[show(k+1)*4=k*4+3+1 by omega,Jh (by simp only[ED,hl];omega),Jh (by simp only[ED,hl];omega),Jh (by simp only[ED,hl];omega),Jh (by rw[hl];omega),h.part,Hc,hu];simp
structure Ph2 (mk:Int->Nat->List Value) (w1 wr:World) (B:Nat) (e T:TypeId) (size:Nat) (L:List En) (i:Nat) (G:List En) (LA:Option Addr) (lc:Nat):Prop where
 len:G.length=i
 lst:Own wr w1.heap.size T 1 LA i lc (El G)
 rest:∀j,i<=j->j<L.length->Own wr B e size (ena L j).A (ena L j).n (ena L j).c (Av mk j (ena L j).n)
 read:∀j,j<i->Sl wr size (ena L j).A (ena L j).n (ena L j).c (Av mk j (ena L j).n)
 long:∀j,j<i->(ena G j).n=(ena L j).n+8/\Own wr B e size (ena G j).A (ena G j).n (ena G j).c (Av mk j (ena L j).n++Av mk (-1-j) 8)
 at_:∀j,j<i->∀k,(ena G j).b=some k->(ena L j).b=some k\/(w1.heap.size<=k/\blk LA lc≠some k)
 foot:∀k,Cf L k->k<w1.heap.size
 apart:∀i j,i<L.length->j<L.length->i≠j->∀k,(ena L i).b=some k->(ena L j).b≠some k
 upd:Upd (Cf L) w1 wr
def Ph2.start{mk:Int->Nat->List Value}{size:Nat}{L:List En}{f:Nat->List Value}(T:TypeId)(h:Ph1 mk w wr B e size L L.length f):Ph2 mk wr wr B e T size L 0 [] none 0 :=
 ⟨rfl,Own.nil _ _ _ _,λj _ hj=>by have:=h.ls.own j hj;rwa [h.done j hj hj]at this,λj hj=>by omega,λj hj=>by omega,λj hj=>by omega,λk hk=>(h.ls.foot_lt hk).2,h.ls.apart,Upd.refl _ _⟩
structure Jy (mk:Int->Nat->List Value) (w2 wr:World) (B:Nat) (e:TypeId) (size:Nat) (L:List En) (i k:Nat) (A:Option Addr) (c:Nat):Prop where
 own:Own wr B e size A ((ena L i).n+k) c (Av mk i (ena L i).n++Av mk (-1-i) k)
 at_:(A=(ena L i).A/\c=(ena L i).c)\/∃q,blk A c=some q/\w2.heap.size<=q
 read:Sl wr size (ena L i).A (ena L i).n (ena L i).c (Av mk i (ena L i).n)
 lt:∀q,(ena L i).b=some q->q<w2.heap.size
 upd:Upd (λq=>(ena L i).b=some q) w2 wr
def Ph2.enter{mk:Int->Nat->List Value}{size:Nat}{L:List En}{G:List En}(h:Ph2 mk w1 wr B e T size L i G LA lc)(hi:i<L.length):Jy mk wr wr B e size L i 0 (ena L i).A (ena L i).c:=by
 have o:=h.rest i (AD _) hi;exact⟨by rw[kA,AV];exact o,.inl ⟨rfl,rfl⟩,o.sl,λq hq=>(o.lt q hq).2,Upd.refl _ _⟩
def Jy.step{mk:Int->Nat->List Value}{w2 wr w3:World}{B:Nat}{e:TypeId}{size:Nat}{L:List En}{i k:Nat}{A A3:Option Addr}{c c3:Nat}(h:Jy mk w2 wr B e size L i k A c)(hs:∀i k,(mk i k).length=size)(ob:Obj)
  (o3:Own w3 B e size A3 ((ena L i).n+k+1) c3 (Av mk i (ena L i).n++Av mk (-1-i) k++mk (-1-i) k)) (g3:(wr.alloc ob).grownBy w3 (blk A c)) (x3:(A3=A/\c3=c)\/(blk A3 c3=some (wr.alloc ob).heap.size/\Ext (wr.alloc ob) w3)):Jy mk w2 w3 B e size L i (k+1) A3 c3:=by
 have d:w2.heap.size<=(wr.alloc ob).heap.size:=AR h.upd.size ((Ext.refl wr).alloc ob).size;have a:∀q,blk A c=some q->(ena L i).b=some q\/w2.heap.size<=q:=λq hq=>by
  rcases h.at_ with ⟨rfl,rfl⟩|⟨q',h1,h2⟩
  ·exact .inl hq
  ·rw[h1]at hq;injection hq with hq;exact .inr (by omega)
 refine⟨by rw[Hc,<-AK];exact o3,?_,?_,h.lt,(h.upd.alloc ob).grown g3 a⟩
 ·rcases x3 with ⟨rfl,rfl⟩|⟨h1,_⟩
  ·exact h.at_
  ·exact .inr ⟨_,h1,d⟩
 ·have key:A3=(ena L i).A->c3=(ena L i).c->Sl w3 size (ena L i).A (ena L i).n (ena L i).c (Av mk i (ena L i).n):=λea ec=>by
   have:=Sl.take (k:=(ena L i).n) o3.sl (by omega);rw[AK,List.take_left' (Cp hs i _),ea,ec]at this;exact this
  rcases x3 with ⟨rfl,rfl⟩|⟨h1,x⟩
  ·rcases h.at_ with ⟨ea,ec⟩|⟨q',h1,h2⟩
   ·exact key ea ec
   ·refine Sl.upd (S:=λq=>blk A3 c3=some q) (h.read.ext ((Ext.refl wr).alloc ob)) ((Upd.refl _ _).grown g3 (λk hk=>.inl hk)) (λq hq hq2=>?_);rw[h1]at hq2;injection hq2 with hq2;have:=h.lt q hq;omega
  ·exact(h.read.ext ((Ext.refl wr).alloc ob)).ext x
def Ph2.next{mk:Int->Nat->List Value}{size:Nat}{L:List En}{G:List En}{LA4:Option Addr}{lc4:Nat}(h:Ph2 mk w1 w2 B e T size L i G LA lc)(hi:i<L.length)(hx:Jy mk w2 wr B e size L i 8 A c)(ob:Obj)
  (o4:Own w4 w1.heap.size T 1 LA4 (i+1) lc4 (El G++[.slice A ((ena L i).n+8) c])) (g4:(wr.alloc ob).grownBy w4 (blk LA lc)) (x4:(LA4=LA/\lc4=lc)\/(blk LA4 lc4=some (wr.alloc ob).heap.size/\Ext (wr.alloc ob) w4)):Ph2 mk w1 w4 B e T size L (i+1) (G++[⟨A,(ena L i).n+8,c⟩]) LA4 lc4:=by
 have a:∀q,(ena L i).b=some q->Cf L q:=λq hq=>⟨i,hi,hq⟩;have d:∀q,blk LA lc=some q->w1.heap.size<=q/\q<w2.heap.size:=λq hq=>h.lst.lt q hq;have u4:Upd (λq=>(ena L i).b=some q\/blk LA lc=some q) w2 w4:=((hx.upd.mono (λk _ q=>Or.inl q)).alloc ob).grown g4 (λk hk=>.inl (.inr hk));have u5:Upd (λq=>blk LA lc=some q) wr w4:=((Upd.refl _ _).alloc ob).grown g4 (λk hk=>.inl hk);have nl:∀q,Cf L q->blk LA lc≠some q:=λq hq e1=>by have:=h.foot q hq;have:=(d q e1).1;omega
 have ni:∀j,j<L.length->j≠i->∀q,(ena L j).b=some q->¬((ena L i).b=some q\/blk LA lc=some q):=λj hj hji q hq e1=>by
  rcases e1 with e1|e1
  ·exact h.apart j i hj hi hji q hq e1
  ·exact nl q ⟨j,hj,hq⟩ e1
 have f:=h.len;have l:∀q,blk A c=some q->(ena L i).b=some q\/w2.heap.size<=q:=λq hq=>by
  rcases hx.at_ with ⟨rfl,rfl⟩|⟨q',h1,h2⟩
  ·exact .inl hq
  ·rw[h1]at hq;injection hq with hq;exact .inr (by omega)
 have g:∀q,blk LA4 lc4=some q->blk LA lc=some q\/wr.heap.size<=q:=λq hq=>by
  rcases x4 with ⟨rfl,rfl⟩|⟨h1,_⟩
  ·exact .inl hq
  ·rw[h1]at hq;injection hq with hq;have:=((Ext.refl wr).alloc ob).size;exact .inr (by omega)
 refine⟨by rw[AA,f];rfl,by rw[Hx];exact o4,λj hj hjl=>(h.rest j (by omega) hjl).upd u4 (ni j hjl (by omega)),λj hj=>?_,λj hj=>?_,λj hj q hq=>?_,h.foot,h.apart,?_⟩
 ·by_cases hji:j<i
  ·exact(h.read j hji).upd u4 (ni j (by omega) (by omega))
  ·obtain rfl:j=i:=by omega
   exact hx.read.upd u5 (λq hq=>nl q (a q hq))
 ·by_cases hji:j<i
  ·rw[Mr (by omega)];have⟨h1,h2⟩:=h.long j hji;refine⟨h1,h2.upd u4 (λq hq e1=>?_)⟩;rcases h.at_ j hji q hq with h3|⟨h3,h4⟩
   ·exact ni j (by omega) (by omega) q h3 e1
   ·rcases e1 with e1|e1
    ·have:=h.foot q (a q e1);omega
    ·exact h4 e1
  ·obtain rfl:j=i:=by omega
   have e1:ena (G++[⟨A,(ena L j).n+8,c⟩]) j=⟨A,(ena L j).n+8,c⟩:=by rw[<-f];exact Ms G _
   rw[e1];refine⟨rfl,hx.own.upd u5 (λq hq e2=>?_)⟩;rcases l q hq with h3|h3
   ·exact nl q (a q h3) e2
   ·have:=(d q e2).2;omega
 ·by_cases hji:j<i
  ·rw[Mr (by omega)]at hq;rcases h.at_ j hji q hq with h3|⟨h3,h4⟩
   ·exact .inl h3
   ·refine .inr ⟨h3,λe1=>?_⟩;rcases g q e1 with h5|h5
    ·exact h4 h5
    ·have:=((h.long j hji).2.lt q hq).2;have:=hx.upd.size;omega
  ·obtain rfl:j=i:=by omega
   have e1:ena (G++[⟨A,(ena L j).n+8,c⟩]) j=⟨A,(ena L j).n+8,c⟩:=by rw[<-f];exact Ms G _
   rw[e1]at hq;rcases l q hq with h3|h3
   ·exact .inl h3
   ·refine .inr ⟨AR h.upd.size h3,λe2=>?_⟩;rcases g q e2 with h5|h5
    ·have:=(d q h5).2;omega
    ·have:=(hx.own.lt q hq).2;omega
 ·have hd:∀q,q<w2.heap.size->(ena L i).b=some q->Cf L q:=λq _ hq=>a q hq;exact(h.upd.trans ((hx.upd.mono hd).alloc ob)).grown g4 (λq hq=>.inr (d q hq).1)
def Ge(ad:Addr)(j q:Nat)(hq:0<q):ad.add (j+q)=⟨(ad.add j).block,(ad.add j).off+q,none⟩:=by
 rw[<-Ji];unfold Addr.add;rw[if_neg (by omega)]
def Zm(h:Sl w 1 A n c xs){k:Nat}(hk:k<n){l:List Value}{a:Value}(hl:l=[a])(hx:∀q,q<1->xs[k*1+q]?=l[q]?):∃ad,A=some ad/\w.cell? (ad.add k)=some a:=by
 subst hl;have⟨ad,e,hc⟩:=h.2.2.2.2 (by omega);exact⟨ad,e,hc k _ (by have:=hx 0 (by omega);rwa [FA,EH]at this)⟩
def Pb(h:Sl w 2 A n c xs){k:Nat}(hk:k<n){l:List Value}{a b:Value}(hl:l=[a,b])(hx:∀q,q<2->xs[k*2+q]?=l[q]?) :
  ∃ad,A=some ad/\w.cell? (ad.add (k*2))=some a/\w.cell? ⟨(ad.add (k*2)).block,(ad.add (k*2)).off+1,none⟩=some b:=by
 subst hl;have⟨ad,e,hc⟩:=h.2.2.2.2 (by omega);exact⟨ad,e,hc _ _ (hx 0 (by omega)),by rw[<-Ge _ _ 1 (by omega)];exact hc _ _ (hx 1 (by omega))⟩
def Jq(h:Sl w 4 A n c xs){k:Nat}(hk:k<n){l:List Value}{a b x y:Value}(hl:l=[a,b,x,y])(hx:∀q,q<4->xs[k*4+q]?=l[q]?) :
  ∃ad,A=some ad/\w.cell? (ad.add (k*4))=some a/\w.cell? ⟨(ad.add (k*4)).block,(ad.add (k*4)).off+1,none⟩=some b/\w.cell? ⟨(ad.add (k*4)).block,(ad.add (k*4)).off+2,none⟩=some x/\w.cell? ⟨(ad.add (k*4)).block,(ad.add (k*4)).off+3,none⟩=some y:=by
 subst hl;have⟨ad,e,hc⟩:=h.2.2.2.2 (by omega);exact⟨ad,e,hc _ _ (hx 0 (by omega)),by rw[<-Ge _ _ 1 (by omega)];exact hc _ _ (hx 1 (by omega)),by rw[<-Ge _ _ 2 (by omega)];exact hc _ _ (hx 2 (by omega)),by rw[<-Ge _ _ 3 (by omega)];exact hc _ _ (hx 3 (by omega))⟩
def Own.base{s:Nat}(h:Own w B e s A n c xs)(hb:∀k,blk A c=some k->B'<=k):Own w B' e s A n c xs:=by
 refine⟨h.1,?_⟩;rcases h.2 with hz|⟨g,cur,rfl,_,hg,hnc,rest⟩
 ·exact .inl hz
 ·cases c with
  | zero=>exact .inl ⟨rfl,by omega⟩
  | succ c=>exact .inr ⟨g,cur,rfl,hb g rfl,hg,hnc,rest⟩
def Hj{a:World}(h:Ext a w)(u:Upd S w w')(hS:∀k,S k->a.heap.size<=k):Ext a w' :=
 ⟨u.os.trans (Below.os h),u.tape.trans (Below.tape h),u.output.trans (Below.output h),AR h.size u.size,λk hk=>(u.block k (AZ hk h.size) (λq=>by have:=hS k q;omega)).trans (Below.block h k hk)⟩
def mZ(w:World)(B:Nat)(e:TypeId)(size:Nat)(P:List (En×List Value)):Prop:=∀p∈P,Own w B e size p.1.A p.1.n p.1.c p.2
def Far(P:List (En×List Value)):Prop:=P.Pairwise λp q=>∀k,p.1.b=some k->q.1.b≠some k
def Pk{size:Nat}{P:List (En×List Value)}(h:mZ w B e size P)(hf:Far P):Gn w B e size (P.map (·.1)) (λi=>(P.getD i (En.zero,[])).2):=by
 have key:∀i,(hi:i<(P.map (·.1)).length)->∃h2:i<P.length,ena (P.map (·.1)) i=P[i].1/\(P.getD i (En.zero,[])).2=P[i].2:=λi hi=>by
  have h2:i<P.length:=by rwa [AN]at hi
  refine⟨h2,?_,?_⟩
  ·unfold ena;rw[AB,CG,AC h2];rfl
  ·rw[AB,AC h2];rfl
 refine⟨λi hi=>?_,λi j hi hj hij k h1 h2=>?_⟩
 ·have⟨q,e1,e2⟩:=key i hi;rw[e1,e2];exact h _ (BR q)
 ·have⟨q1,e1,_⟩:=key i hi;have⟨q2,e2,_⟩:=key j hj;rw[e1]at h1;rw[e2]at h2;rcases Nat.lt_or_gt_of_ne hij with q|q
  ·exact DH.1 hf i j q1 q2 q k h1 h2
  ·exact DH.1 hf j i q2 q1 q k h2 h1
def dP{L:List En}{k:Nat}(h:Cf L k):∃x∈L,x.b=some k:=by
 obtain⟨i,hi,hb⟩:=h;refine⟨ena L i,?_,hb⟩;unfold ena;rw[AB,AC hi];exact BR hi
structure Tm where
 e:Int
 A:Option Addr
 c:Nat
 l:List Int
def Tm.zero:Tm:=⟨0,none,0,[]⟩
instance:Inhabited Tm:=⟨Tm.zero⟩
def Tm.v(x:Tm):TV:=(x.e,x.l)
def tmC(x:Tm):List Value:=[.int .u64 x.e,.slice x.A x.l.length x.c]
def tmV(x:Tm):Value:=.agg #[.int .u64 x.e,.slice x.A x.l.length x.c]
def Gp(L:List Tm):List Value:=L.flatMap tmC
def lN:∀(L:List Tm) (i j:Nat),i<L.length->j<2->(Gp L)[i*2+j]?=(tmC (L.getD i Tm.zero))[j]?
 | [],i,j,h,_=>absurd h (DR _)
 | d::l,0,j,_,hj=>by
  unfold Gp;rw[BQ,GC,BV,BS (by rw[show(tmC d).length=2 from rfl];exact hj)];rfl
 | d::l,i+1,j,h,hj=>by
  unfold Gp;rw[BQ,BF (by rw[show(tmC d).length=2 from rfl];omega),show(i+1)*2+j-(tmC d).length=i*2+j by rw[show(tmC d).length=2 from rfl];omega];exact lN l i j (ES h) hj
def eU(L M:List Tm):Gp (L++M)=Gp L++Gp M:=DF
def cH(L:List Tm):∀u∈Gp L,u.oneCell'=true:=by
 intro u hu;have⟨d,_,h⟩:=DC.1 hu;simp only[tmC,AY,DA,or_false]at h;rcases h with rfl|rfl<;>rfl
structure Tin (w:World) (A:Option Addr) (c:Nat) (L:List Tm):Prop where
 sl:Sl w 2 A L.length c (Gp L)
 ls:∀x∈L,Sl w 1 x.A x.l.length x.c (wds x.l)
section
variable{w w':World}{A:Option Addr}{c:Nat}{L:List Tm}
def Tin.ext(h:Tin w A c L)(x:Ext w w'):Tin w' A c L:=⟨h.sl.ext x,λy hy=>(h.ls y hy).ext x⟩
def Tin.nil(w:World):Tin w none 0 []:=⟨Sl.nil w 2,λx hx=>(nomatch hx)⟩
def Tin.at(h:Tin w A c L){i:Nat}(hi:i<L.length):∃ad,A=some ad/\w.cell? (ad.add (i*2))=some (.int .u64 (L.getD i Tm.zero).e)/\w.cell? ⟨(ad.add (i*2)).block,(ad.add (i*2)).off+1,none⟩=some (.slice (L.getD i Tm.zero).A (L.getD i Tm.zero).l.length (L.getD i Tm.zero).c):=
 Pb h.sl hi (show tmC (L.getD i Tm.zero)=[.int .u64 (L.getD i Tm.zero).e,.slice (L.getD i Tm.zero).A (L.getD i Tm.zero).l.length (L.getD i Tm.zero).c]from rfl) (λq hq=>lN L i q hi hq)
end
def Hs{L:List Tm}(h:i<L.length):L.getD i Tm.zero∈L:=by
 rw[AB,AC h];exact BR h
def a2h{L:List Tm}(h:i<L.length):(L.map Tm.v)[i]'(by rw[AN];exact h)=(L.getD i Tm.zero).v:=by
 rw[List.getElem_map,AB,AC h];rfl
def Yi:Gr prog 27 26 2 32 (.agg #[.int .u64 0,.slice none 0 0]):=⟨by kernel_rfl,by kernel_rfl,rfl,by decide⟩
structure Fs (w:World) (B:Nat) (A:Option Addr) (c:Nat) (L:List Tm):Prop where
 own:Own w B 26 2 A L.length c (Gp L)
 ls:∀x∈L,Own w B 180 1 x.A x.l.length x.c (wds x.l)/\∀k,blk x.A x.c=some k->blk A c≠some k
 apart:L.Pairwise λx y=>∀k,blk x.A x.c=some k->blk y.A y.c≠some k
section
variable{w w':World}{B:Nat}{A:Option Addr}{c:Nat}{L:List Tm}
def Fs.ext(h:Fs w B A c L)(x:Ext w w'):Fs w' B A c L:=⟨h.own.ext x,λy hy=>⟨(h.ls y hy).1.ext x,(h.ls y hy).2⟩,h.apart⟩
def Fs.mono(h:Fs w B A c L){B':Nat}(hb:B'<=B):Fs w B' A c L:=⟨h.own.mono hb,λy hy=>⟨(h.ls y hy).1.mono hb,(h.ls y hy).2⟩,h.apart⟩
def Fs.tin(h:Fs w B A c L):Tin w A c L:=⟨h.own.sl,λx hx=>(h.ls x hx).1.sl⟩
def Fs.nil(w:World)(B:Nat):Fs w B none 0 []:=⟨Own.nil _ _ _ _,λx hx=>(nomatch hx),List.Pairwise.nil⟩
end
open Go.ChangeShapes Go.WideShapes Go.ChangeAt Go.RowKit Go.WideElems
section
variable{H:Type}{enc:TypeId×Value->H}{W:World}
def a3o{α:Type}{l:List α}(h:l.length=2):∃a b,l=[a,b]:=by
 match l,h with
 | [a,b],_=>exact⟨a,b,rfl⟩
def zD:prog.cellsOf 23=1:=by kernel_rfl
def zC:prog.cellsOf 24=1:=by kernel_rfl
def sD:prog.cellsOf 26=2:=by kernel_rfl
structure a3g (x:Tm):Prop where
 u:U32 x.l
 e:0<=x.e/\x.e<=18446744073709551615
def kU{fuel:Nat}{cs:List Value}{y:DataW H×List MemPlace}(h:DataW.trod enc prog W 0 (λ_=>true) true fuel 26 cs=some y) :
  ∃x:Tm,cs=tmC x/\Sl W 1 x.A x.l.length x.c (wds x.l)/\a3g x:=by
 have⟨y0,y1,n,_,hl,h0,h1⟩:=Go.ChangeShapes.trod_struct2 Tryz.underlying26 h;rw[sD]at hl;obtain⟨c0,c1,rfl⟩:=a3o hl;have g0:DataW.trod enc prog W 0 (λ_=>true) true n 23 [c0]=some y0:=by
  have:DataW.trod enc prog W 0 (λ_=>true) true n 23 (([c0,c1].drop 0).take (prog.cellsOf 23))=some y0:=h0;rw[zD]at this;exact this
 have g1:DataW.trod enc prog W 0 (λ_=>true) true n 24 [c1]=some y1:=by
  have:DataW.trod enc prog W 0 (λ_=>true) true n 24 (([c0,c1].drop 1).take (prog.cellsOf 24))=some y1:=h1;rw[zC]at this;exact this
 have⟨k,e0,_,w0⟩:=DataW.trod_int Tryz.underlying23 g0;obtain⟨A,m,c,l,rfl,hs,hu⟩:=kT g1;obtain rfl:c0=.int .u64 k:=by simpa using e0
 have hm:=hs.wlen;subst hm;exact⟨⟨k,A,c,l⟩,rfl,hs,⟨hu,rY w0⟩⟩
end
open Go.ChangeShapes Go.WideShapes Go.ChangeAt Go.RowKit Go.WideElems
def xM{H:Type}(d:DataW H):1<=Rows.uptoBulk d:=by
 cases d with
 | lit l=>cases l<;>simp[Rows.uptoBulk]
 | nil=>simp[Rows.uptoBulk]
 | ptr d=>simp[Rows.uptoBulk]
 | slice elems spare=>simp[Rows.uptoBulk]
 | agg parts=>simp[Rows.uptoBulk]
 | iface t d=>simp[Rows.uptoBulk]
 | map entries=>simp[Rows.uptoBulk]
 | held h=>simp[Rows.uptoBulk]
def Iw{H:Type}{d:DataW H}:∀{l:List (DataW H)},d∈l->Rows.uptoBulk d<=Rows.uptoBulkAll l
 | x::r,h=>by
  simp only[Rows.uptoBulkAll];rcases AY.1 h with rfl|h
  ·omega
  ·have:=Iw h;omega
def eI{H:Type}:∀l:List (DataW H),l.length<=Rows.uptoBulkAll l
 | []=>AG _
 | x::r=>by
  have:=xM x;have:=eI r;simp only[Rows.uptoBulkAll,AJ];omega
def iY{H:Type}{enc:TypeId×Value->H}{sp:Nat->Bool}{held:Bool}{fuel:Nat}{y:DataW H×List MemPlace}(ht:prog.underlying t=some (.slice e))(h:DataW.trod enc prog W 0 sp held fuel t [.slice A n c]=some y):n<=Rows.uptoBulk y.1:=by
 rcases FJ ht h with ⟨hcs,_⟩|⟨a,n',c',m,fu,D,Pl,hcs,_,hnc,hcm,hm,hy,hx⟩
 ·have e:(Value.slice A n c)=.slice none 0 0:=by injection hcs
  injection e with _ e _;omega
 ·have e:(Value.slice A n c)=.slice (some a) n' c':=by injection hcs
  injection e with _ e _;subst e;have:=eI ((List.range n).map D);rw[AN,List.length_range]at this;rw[hy];show n<=Rows.uptoBulk (DataW.slice ((List.range n).map D) ((List.range (m-n)).map λj=>D (n+j)));simp only[Rows.uptoBulk];omega
open Go.ChangeShapes Go.WideShapes Go.ChangeAt Go.RowKit Go.WideElems
def Zz{n:Int}(h:(Lit.int .i64 n).wf=true) : -9223372036854775808<=n/\n<=9223372036854775807:=by
 simpa [Lit.wf,IntKind.min,IntKind.max,IntKind.signed,IntKind.bits] using h
def rS{n:Int}(h:(Lit.int .u8 n).wf=true):0<=n/\n<=255:=by
 simpa [Lit.wf,IntKind.min,IntKind.max,IntKind.signed,IntKind.bits] using h
def Ja(s:ByteArray):Bool:=Lib.validD s.data.toList
def lT{a b:Int}(h:a=b):Ending.returned (.int .u16 a)=.returned (.int .u16 b):=by rw[h]
def rT(k:Int)(b:Bool)(n:Int)(s:ByteArray):Bool :=
 decide ((k=1\/k=2\/k=3\/k=4)/\(k≠2->b=false)/\(k≠3->n=0)/\(k≠4->s=⟨#[]⟩))
def Ib(k:Int)(b:Bool)(n:Int)(s:ByteArray):Int :=
 if rT k b n s then (if Ja s then (if 1000<s.size then 12 else 0) else 13) else 13
def Aw{k n:Int}{b:Bool}{s:ByteArray}(h:¬((k=1\/k=2\/k=3\/k=4)/\(k≠2->b=false)/\(k≠3->n=0)/\(k≠4->s=⟨#[]⟩))):Ib k b n s=13:=by
 unfold Ib rT;rw[if_neg (by rw[decide_eq_true_iff];exact h)]
def Fm{k n:Int}{b:Bool}{s:ByteArray}(h:(k=1\/k=2\/k=3\/k=4)/\(k≠2->b=false)/\(k≠3->n=0)/\(k≠4->s=⟨#[]⟩)):Ib k b n s=if Ja s then (if 1000<s.size then 12 else 0) else 13:=by
 unfold Ib rT;rw[if_pos (by rw[decide_eq_true_iff];exact h)]
def Fn:Ja ⟨#[]⟩=true:=rfl
def Iu{s:ByteArray}:s.toList=[]↔s=⟨#[]⟩:=by
 rw[FY];constructor
 ·intro h;obtain⟨d⟩:=s;obtain⟨l⟩:=d;simp at h;rw[h]
 ·rintro rfl;rfl
structure Good (w:World):Prop where
 valid:∀(s:ByteArray) (W:World),s.size<=9223372036854775807->Ext w W->C3 248 #[.string s] W λe w'=>e=.returned (.bool (Ja s))/\Ext W w'
def Good.ext(h:Good w)(x:Ext w w'):Good w':=⟨λs W hs hx=>h.valid s W hs (x.trans hx)⟩
def Xj(s:ByteArray)(w:World)(hs:s.size<=9223372036854775807)(g:Good w) :
  C3 248 #[.string s] w λe w'=>e=.returned (.bool (Ja s))/\Ext w w':=g.valid s w hs (Ext.refl w)
end Go.Proofs.YtdgbkpoickbidaaGreatDoor
namespace Go.Proofs
open Go.Shelf
def Tryz.laysValid_ren:Go.Shelf.Ren:=⟨fun|196=>248|259=>278|n=>n,fun|9=>9|4=>4|3=>3|5=>5|12=>12|119=>332|0=>0|46=>267|139=>335|138=>334|53=>23|n=>n,fun|3=>0|4=>1|n=>n⟩
def Tryz.laysValid:Go.Proofs.Lays.n196 prog Tryz.laysValid_ren:={
 mixed:=by kernel_rfl
 f196:=func248.trans (congrArg some (by kernel_rfl))
 f259:=func278.trans (congrArg some (by kernel_rfl))
 t0:=Tryz.underlying0
 a0:=Tryz.isAgg0
 z0:=Tryz.sizeOf0
 v0:=Tryz.zeroValue0
 t3:=Tryz.underlying3
 a3:=Tryz.isAgg3
 z3:=Tryz.sizeOf3
 v3:=Tryz.zeroValue3
 t4:=Tryz.underlying4
 a4:=Tryz.isAgg4
 z4:=Tryz.sizeOf4
 v4:=Tryz.zeroValue4
 t5:=Tryz.underlying5
 a5:=Tryz.isAgg5
 z5:=Tryz.sizeOf5
 v5:=Tryz.zeroValue5
 t9:=Tryz.underlying9
 a9:=Tryz.isAgg9
 z9:=Tryz.sizeOf9
 v9:=Tryz.zeroValue9
 t12:=Tryz.underlying12
 a12:=Tryz.isAgg12
 z12:=Tryz.sizeOf12
 v12:=Tryz.zeroValue12
 t46:=Tryz.underlying267
 a46:=Tryz.isAgg267
 z46:=Tryz.sizeOf267
 v46:=Tryz.zeroValue267
 t53:=Tryz.underlying23
 a53:=Tryz.isAgg23
 z53:=Tryz.sizeOf23
 v53:=Tryz.zeroValue23
 t119:=Tryz.underlying332
 a119:=Tryz.isAgg332
 z119:=Tryz.sizeOf332
 t138:=Tryz.underlying334
 a138:=Tryz.isAgg334
 z138:=Tryz.sizeOf334
 v138:=Tryz.zeroValue334
 t139:=Tryz.underlying335
 a139:=Tryz.isAgg335
 z139:=Tryz.sizeOf335
 v139:=Tryz.zeroValue335
 g3:=by kernel_rfl
 g4:=by kernel_rfl }
end Go.Proofs
namespace Go.Proofs.YtdgbkpoickbidaaGreatDoor
variable{x y:Int}{xs:List Value}{B B' c g i lc n:Nat}{S:Nat->Prop}{A LA:Option Addr}{T e t:TypeId}{W w w' w1 w2 w4 wr:World}
open Go.ChangeShapes Go.WideShapes Go.ChangeAt Go.RowKit Go.WideElems
def tT:U8Extra prog Tryz.laysValid_ren:=⟨by kernel_rfl,by kernel_rfl,by kernel_rfl,by kernel_rfl,by kernel_rfl,by kernel_rfl,by kernel_rfl⟩
def wR:Rows.laid_unicode_utf8_first=Lib.firstData:=by kernel_rfl
def rL:(Rows.laid_unicode_utf8_acceptRanges:DataW Unit)=Lib.acceptData:=by kernel_rfl
def good_of{l:List (String×DataW Unit)}(h:laidMet prog l W)(h1:("unicode/utf8.first",Rows.laid_unicode_utf8_first)∈l)(h2:("unicode/utf8.acceptRanges",Rows.laid_unicode_utf8_acceptRanges)∈l):Good W:=by
 have a:=Lib.laidMet.reads h h1;have b:=Lib.laidMet.reads h h2;rw[wR]at a;rw[rL]at b;have t:=utf8Tabs_of_readsT (U8Types.of196 Tryz.laysValid) tT a b;exact⟨λs W' hs x=>Any.utf8_ValidString Tryz.laysValid s W' hs (Utf8Tabs_below t x)⟩
section
variable{H:Type}{enc:TypeId×Value->H}{W:World}
end
structure Dat where
 k:Int
 b:Bool
 n:Int
 s:ByteArray
def Dat.zero:Dat:=⟨0,false,0,⟨#[]⟩⟩
def Dat.check(d:Dat):Int:=Ib d.k d.b d.n d.s
def Fg(x y:Int):Int:=if x<y then -1 else if y<x then 1 else 0
def Fy(h:x<y):Fg x y = -1:=by unfold Fg;rw[if_pos h]
def Ik(h:y<x):Fg x y=1:=by unfold Fg;rw[if_neg (by omega),if_pos h]
def Iv(x:Int):Fg x x=0:=by unfold Fg;rw[if_neg (by omega),if_neg (by omega)]
def To(x:Int)(w:World):C3 279 #[.int .u8 x] w λe w'=>e=.returned (.bool false)/\w=w':=by
 have h:(x != x)=false:=by simp
 go_enter func279,ntmps279;go_wp2;go_ret;exact⟨rfl,rfl⟩
def bJ(x y:Int)(w:World):C3 250 #[.int .u8 x,.int .u8 y] w λe w'=>e=.returned (.int .i64 (Fg x y))/\w=w':=by
 rcases DN x y with h|h|h
 ·rw[Fy h];go_enter func250,ntmps250;go_wp2_with (go_at_call 279;refine(To _ _).mono ?_;rintro e w1 ⟨rfl,rfl⟩)
  go_ret;exact⟨rfl,rfl⟩
 ·subst h;rw[Iv];go_enter func250,ntmps250;go_wp2_with (go_at_call 279;refine(To _ _).mono ?_;rintro e w1 ⟨rfl,rfl⟩)
  go_ret;exact⟨rfl,rfl⟩
 ·rw[Ik h];go_enter func250,ntmps250;go_wp2_with (go_at_call 279;refine(To _ _).mono ?_;rintro e w1 ⟨rfl,rfl⟩)
  go_ret;exact⟨rfl,rfl⟩
def Uc(x:Int)(w:World):C3 235 #[.int .i64 x] w λe w'=>e=.returned (.bool false)/\w=w':=by
 have h:(x != x)=false:=by simp
 go_enter func235,ntmps235;go_wp2;go_ret;exact⟨rfl,rfl⟩
def bI(x y:Int)(w:World):C3 205 #[.int .i64 x,.int .i64 y] w λe w'=>e=.returned (.int .i64 (Fg x y))/\w=w':=by
 rcases DN x y with h|h|h
 ·rw[Fy h];go_enter func205,ntmps205;go_wp2_with (go_at_call 235;refine(Uc _ _).mono ?_;rintro e w1 ⟨rfl,rfl⟩)
  go_ret;exact⟨rfl,rfl⟩
 ·subst h;rw[Iv];go_enter func205,ntmps205;go_wp2_with (go_at_call 235;refine(Uc _ _).mono ?_;rintro e w1 ⟨rfl,rfl⟩)
  go_ret;exact⟨rfl,rfl⟩
 ·rw[Ik h];go_enter func205,ntmps205;go_wp2_with (go_at_call 235;refine(Uc _ _).mono ?_;rintro e w1 ⟨rfl,rfl⟩)
  go_ret;exact⟨rfl,rfl⟩
def Zs(x:Int)(w:World):C3 280 #[.int .i64 x] w λe w'=>e=.returned (.bool false)/\w=w':=by
 have h:(x != x)=false:=by simp
 go_enter func280,ntmps280;go_wp2;go_ret;exact⟨rfl,rfl⟩
def gM(x y:Int)(w:World):C3 252 #[.int .i64 x,.int .i64 y] w λe w'=>e=.returned (.int .i64 (Fg x y))/\w=w':=by
 rcases DN x y with h|h|h
 ·rw[Fy h];go_enter func252,ntmps252;go_wp2_with (go_at_call 280;refine(Zs _ _).mono ?_;rintro e w1 ⟨rfl,rfl⟩)
  go_ret;exact⟨rfl,rfl⟩
 ·subst h;rw[Iv];go_enter func252,ntmps252;go_wp2_with (go_at_call 280;refine(Zs _ _).mono ?_;rintro e w1 ⟨rfl,rfl⟩)
  go_ret;exact⟨rfl,rfl⟩
 ·rw[Ik h];go_enter func252,ntmps252;go_wp2_with (go_at_call 280;refine(Zs _ _).mono ?_;rintro e w1 ⟨rfl,rfl⟩)
  go_ret;exact⟨rfl,rfl⟩
def Ob(x y:ByteArray):Int:=if Op.bytesLess x.toList y.toList then -1 else if x.toList==y.toList then 0 else 1
def mC(x:ByteArray)(w:World):C3 281 #[.string x] w λe w'=>e=.returned (.bool false)/\w=w':=by
 go_enter func281,ntmps281;go_wp2;go_ret;exact⟨rfl,rfl⟩
def gL(x y:ByteArray)(w:World):C3 253 #[.string x,.string y] w λe w'=>e=.returned (.int .i64 (Ob x y))/\w=w':=by
 unfold Ob;cases h1:Op.bytesLess x.toList y.toList
 ·cases h2:(x.toList==y.toList);all_goals
   go_enter func253,ntmps253;go_wp2_with (go_at_call 281;refine(mC _ _).mono ?_;rintro e w1 ⟨rfl,rfl⟩)
   go_ret;exact⟨Bw (by simp),rfl⟩
 ·go_enter func253,ntmps253;go_wp2_with (go_at_call 281;refine(mC _ _).mono ?_;rintro e w1 ⟨rfl,rfl⟩)
  go_ret;exact⟨Bw (by simp),rfl⟩
def Ll(b:Bool):Int:=if b then 1 else 0
def Dk(a b:Dat):Int:=if a.k=b.k then (if a.k=2 then Fg (Ll a.b) (Ll b.b) else if a.k=3 then Fg a.n b.n else if a.k=4 then Ob a.s b.s else 0) else Fg a.k b.k
def cZ(k:Int)(b:Bool)(n:Int)(s:ByteArray)(w:World):C3 251 #[.agg #[.int .u8 k,.bool b,.int .i64 n,.string s]] w λe w'=>e=.returned (.int .i64 (Ll b))/\Ext w w':=by
 cases b;all_goals
  go_enter func251,ntmps251;go_wp2;go_ret;exact⟨rfl,(Ext.refl w).alloc _⟩
section
variable(ka na kb nb k:Int)(ba bb:Bool)(sa sb:ByteArray)(w:World)
def xH(h:¬ka=kb):C3 218 #[.agg #[.int .u8 ka,.bool ba,.int .i64 na,.string sa],.agg #[.int .u8 kb,.bool bb,.int .i64 nb,.string sb]] w λe w'=>e=.returned (.int .i64 (Fg ka kb))/\Ext w w':=by
 have z:(ka != kb)=true:=by simpa using h
 clear h;go_enter func218,ntmps218;go_wp2_with (go_at_call 250;refine(bJ _ _ _).mono ?_;rintro e w1 ⟨rfl,rfl⟩)
 go_ret;exact⟨rfl,((Ext.refl w).alloc _).alloc _⟩
def a0g:C3 218 #[.agg #[.int .u8 3,.bool ba,.int .i64 na,.string sa],.agg #[.int .u8 3,.bool bb,.int .i64 nb,.string sb]] w λe w'=>e=.returned (.int .i64 (Fg na nb))/\Ext w w':=by
 go_enter func218,ntmps218;go_wp2_with (go_at_call 252;refine(gM _ _ _).mono ?_;rintro e w1 ⟨rfl,rfl⟩)
 go_ret;exact⟨rfl,((Ext.refl w).alloc _).alloc _⟩
def xG:C3 218 #[.agg #[.int .u8 4,.bool ba,.int .i64 na,.string sa],.agg #[.int .u8 4,.bool bb,.int .i64 nb,.string sb]] w λe w'=>e=.returned (.int .i64 (Ob sa sb))/\Ext w w':=by
 go_enter func218,ntmps218;go_wp2_with (go_at_call 253;refine(gL _ _ _).mono ?_;rintro e w1 ⟨rfl,rfl⟩)
 go_ret;exact⟨rfl,((Ext.refl w).alloc _).alloc _⟩
def qZ(h2:¬k=2)(h3:¬k=3)(h4:¬k=4):C3 218 #[.agg #[.int .u8 k,.bool ba,.int .i64 na,.string sa],.agg #[.int .u8 k,.bool bb,.int .i64 nb,.string sb]] w λe w'=>e=.returned (.int .i64 0)/\Ext w w':=by
 have z:(k != k)=false:=by simp
 have z2:(k==2)=false:=by simpa using h2
 have z3:(k==3)=false:=by simpa using h3
 have z4:(k==4)=false:=by simpa using h4
 go_enter func218,ntmps218;go_wp2;go_ret;exact⟨rfl,((Ext.refl w).alloc _).alloc _⟩
def xK:C3 218 #[.agg #[.int .u8 2,.bool ba,.int .i64 na,.string sa],.agg #[.int .u8 2,.bool bb,.int .i64 nb,.string sb]] w λe w'=>e=.returned (.int .i64 (Fg (Ll ba) (Ll bb)))/\Ext w w':=by
 go_enter func218,ntmps218
 go_upto_region 6 with fail
 have a0:Bk ((w.alloc (.cells #[.int .u8 2,.bool ba,.int .i64 na,.string sa] 204)).alloc (.cells #[.int .u8 2,.bool bb,.int .i64 nb,.string sb] 204)) w.heap.size 204 #[.int .u8 2,.bool ba,.int .i64 na,.string sa]:=(Bk.new _ _ _).alloc _;have b0:Bk ((w.alloc (.cells #[.int .u8 2,.bool ba,.int .i64 na,.string sa] 204)).alloc (.cells #[.int .u8 2,.bool bb,.int .i64 nb,.string sb] 204)) (w.heap.size+1) 204 #[.int .u8 2,.bool bb,.int .i64 nb,.string sb]:=Bk.at (by simp);have E0:=((Ext.refl w).alloc (.cells #[.int .u8 2,.bool ba,.int .i64 na,.string sa] 204)).alloc (.cells #[.int .u8 2,.bool bb,.int .i64 nb,.string sb] 204);have⟨w0,c⟩:=E9 ((w.alloc (.cells #[.int .u8 2,.bool ba,.int .i64 na,.string sa] 204)).alloc (.cells #[.int .u8 2,.bool bb,.int .i64 nb,.string sb] 204));rw[<-c]at a0 b0 E0 ⊢;clear c;have X:Ext w0 w0.drew:=(Ext.refl w0).drew;have p0:∀y:Xt w0.drew,y.W.cell? ⟨w.heap.size,0,none⟩=some (.int .u8 2):=λy=>(a0.ext (X.trans y.x)).cell 0;have p1:∀y:Xt w0.drew,y.W.cell? ⟨w.heap.size,1,none⟩=some (.bool ba):=λy=>(a0.ext (X.trans y.x)).cell 1;have p2:∀y:Xt w0.drew,y.W.cell? ⟨w.heap.size,2,none⟩=some (.int .i64 na):=λy=>(a0.ext (X.trans y.x)).cell 2;have p3:∀y:Xt w0.drew,y.W.cell? ⟨w.heap.size,3,none⟩=some (.string sa):=λy=>(a0.ext (X.trans y.x)).cell 3;have q0:∀y:Xt w0.drew,y.W.cell? ⟨w.heap.size+1,0,none⟩=some (.int .u8 2):=λy=>(b0.ext (X.trans y.x)).cell 0;have q1:∀y:Xt w0.drew,y.W.cell? ⟨w.heap.size+1,1,none⟩=some (.bool bb):=λy=>(b0.ext (X.trans y.x)).cell 1;have q2:∀y:Xt w0.drew,y.W.cell? ⟨w.heap.size+1,2,none⟩=some (.int .i64 nb):=λy=>(b0.ext (X.trans y.x)).cell 2;have q3:∀y:Xt w0.drew,y.W.cell? ⟨w.heap.size+1,3,none⟩=some (.string sb):=λy=>(b0.ext (X.trans y.x)).cell 3;refine wro [0,0,3,0,0,31,63,127] (.flo [0,1,3,4] (.ext 2 (.one 5 (.one 6 (.flo [7] (.fin)))))) ?_
 (refine Aa (pks rfl) ?_;(repeat (go_big_quiet_step (fail)));refine oq ?_)
 refine Ar (pks rfl) ?_;intro K_ a;go_wp2_with (go_at_call 251;refine(cZ _ _ _ _ _).mono ?_;rintro e w1 ⟨rfl,x1⟩)
 refine An.mk x1 ?_;refine Ac (pks rfl) ?_;intro K_ a;go_wp2_with (go_at_call 251;refine(cZ _ _ _ _ _).mono ?_;rintro e w2 ⟨rfl,x2⟩)
 refine Ac (pks rfl) ?_;intro K_ a;go_wp2_with (go_at_call 205;refine(bI _ _ _).mono ?_;rintro e w3 ⟨rfl,rfl⟩)
 (refine Aa (pks rfl) ?_;(repeat (go_big_quiet_step (fail)));refine oq ?_)
 refine Ad ?_;go_wp2;go_ret;exact⟨rfl,((E0.trans X).trans x1).trans x2⟩
end
def xD(a b:Dat)(w:World):C3 218 #[.agg #[.int .u8 a.k,.bool a.b,.int .i64 a.n,.string a.s],.agg #[.int .u8 b.k,.bool b.b,.int .i64 b.n,.string b.s]] w λe w'=>e=.returned (.int .i64 (Dk a b))/\Ext w w':=by
 obtain⟨ka,ba,na,sa⟩:=a;obtain⟨kb,bb,nb,sb⟩:=b;unfold Dk;by_cases h:ka=kb
 ·subst h;rw[if_pos rfl];by_cases h2:ka=2
  ·subst h2;rw[if_pos rfl];exact xK na nb ba bb sa sb w
  ·rw[if_neg h2];by_cases h3:ka=3
   ·subst h3;rw[if_pos rfl];exact a0g na nb ba bb sa sb w
   ·rw[if_neg h3];by_cases h4:ka=4
    ·subst h4;rw[if_pos rfl];exact xG na nb ba bb sa sb w
    ·rw[if_neg h4];exact qZ na nb ka ba bb sa sb w h2 h3 h4
 ·rw[if_neg h];exact xH ka na kb nb ba bb sa sb w h
def Nl(d:Dat):List Value:=[.int .u8 d.k,.bool d.b,.int .i64 d.n,.string d.s]
def Dd(l:List Dat):List Value:=l.flatMap Nl
def Rw(w:World)(A:Option Addr)(c:Nat)(l:List Dat):Prop:=Sl w 4 A l.length c (Dd l)
def cV(l:List Dat):(Dd l).length=l.length*4:=by
 unfold Dd;induction l with
 | nil=>rfl
 | cons d l ih=>rw[BQ,AA,ih,AJ,show(Nl d).length=4 from rfl];omega
def Ks:∀(l:List Dat) (i j:Nat),i<l.length->j<4->(Dd l)[i*4+j]?=(Nl (l.getD i Dat.zero))[j]?
 | [],i,j,h,_=>absurd h (DR _)
 | d::l,0,j,_,hj=>by
  unfold Dd;rw[BQ,GC,BV,BS (by rw[show(Nl d).length=4 from rfl];exact hj)];rfl
 | d::l,i+1,j,h,hj=>by
  unfold Dd;rw[BQ,BF (by rw[show(Nl d).length=4 from rfl];omega),show(i+1)*4+j-(Nl d).length=i*4+j by rw[show(Nl d).length=4 from rfl];omega];exact Ks l i j (ES h) hj
def fF(l m:List Dat):Dd (l++m)=Dd l++Dd m:=DF
def Xs:∀(l:List Dat) (k:Nat),(Dd l).take (k*4)=Dd (l.take k)
 | [],k=>by simp[Dd]
 | d::l,0=>rfl
 | d::l,k+1=>by
  unfold Dd;rw[BQ,List.take_succ_cons,BQ,IA,show(Nl d).length=4 from rfl,AW (show(Nl d).length<=(k+1)*4 by rw[show(Nl d).length=4 from rfl];omega),show(k+1)*4-4=k*4 by omega];exact congrArg _ (Xs l k)
def Ti(l:List Dat):∀u∈Dd l,u.oneCell'=true:=by
 intro u hu;have⟨d,_,h⟩:=DC.1 hu;simp only[Nl,AY,DA,or_false]at h;rcases h with rfl|rfl|rfl|rfl<;>rfl
section
variable{w w':World}{A:Option Addr}{c:Nat}{l:List Dat}
def Rw.ext(h:Rw w A c l)(x:Ext w w'):Rw w' A c l:=Sl.ext h x
def Rw.le(h:Rw w A c l):l.length<=9223372036854775807:=Sl.le h
def Rw.nil(w:World):Rw w none 0 []:=Sl.nil w 4
def Sq(ad:Addr)(i j:Nat)(hj:j≠0):ad.add (i+j)=⟨(ad.add i).block,(ad.add i).off+j,none⟩:=by
 rw[<-Ji];generalize ad.add i=x;unfold Addr.add;rw[if_neg hj]
def Rw.at(h:Rw w A c l){i:Nat}(hi:i<l.length):∃ad,A=some ad/\w.cell? (ad.add (i*4))=some (.int .u8 (l.getD i Dat.zero).k)/\w.cell? ⟨(ad.add (i*4)).block,(ad.add (i*4)).off+1,none⟩=some (.bool (l.getD i Dat.zero).b) /\
  w.cell? ⟨(ad.add (i*4)).block,(ad.add (i*4)).off+2,none⟩=some (.int .i64 (l.getD i Dat.zero).n)/\w.cell? ⟨(ad.add (i*4)).block,(ad.add (i*4)).off+3,none⟩=some (.string (l.getD i Dat.zero).s):=by
 have⟨ad,e,hc⟩:=h.2.2.2.2 (by omega);refine⟨ad,e,hc _ _ (by rw[<-EH (i*4),Ks l i 0 hi (by omega)];rfl),?_,?_,?_⟩
 ·rw[<-Sq ad _ 1 (by decide)];exact hc _ _ (by rw[Ks l i 1 hi (by omega)];rfl)
 ·rw[<-Sq ad _ 2 (by decide)];exact hc _ _ (by rw[Ks l i 2 hi (by omega)];rfl)
 ·rw[<-Sq ad _ 3 (by decide)];exact hc _ _ (by rw[Ks l i 3 hi (by omega)];rfl)
end
def Lg{P:Program}(w:World){t ty e size bytes:Nat}{z:Value}(E:Gr P t e size bytes z)(base g n c0:Nat)(xs:List Value)(hown:Own w base e size (some ⟨g,0,none⟩) n c0 xs)(hc:0<c0)
  (ad:Addr) (m c:Nat) (news:List Value) (hr:Sl w size (some ad) m c news) (hm:0<m) (h1:∀u∈news,u.oneCell'=true) (hroom:n+m<=c0) :
  ∃w',(Builtin.append_ #[t,t] ty #[.slice (some ⟨g,0,none⟩) n c0,.slice (some ad) m c]).run P w=.ok (.slice (some ⟨g,0,none⟩) (n+m) c0) w'/\Own w' base e size (some ⟨g,0,none⟩) (n+m) c0 (xs++news)/\w.grownBy w' (some g):=by
 have⟨i,hi,hz,hs,l⟩:=info_parts E.info;have⟨j,e1,a⟩:=hr.2.2.2.2 hm;cases e1;rcases hown.2 with ⟨h2,_⟩|⟨g',cur,e2,hb,hg,hnc,hcm,hcs,htake⟩
 ·omega
 ·cases e2;have d:(xs++news).length=(n+m)*size:=by rw[AA,hown.1,hr.1,DM]
  have f:n*i.size+news.length<=cur.size:=by rw[hr.1,hs,<-DM];exact AR (DG _ hroom) hcs
  have h:=run_append_room (P:=P) w t ty e i E.under hi g n c0 cur hg ad m c news (by rw[hs];exact hr.1) a h1 hroom f;refine⟨_,h,⟨d,.inr ⟨g,_,rfl,hb,setRow_heap w g cur _ e _ hg,hroom,hcm,?_,?_⟩⟩,⟨rfl,rfl,rfl,by simp,λk _ hk=>setRow_other w g k _ (λe'=>hk (by rw[e']))⟩⟩
  ·simp only[EL,AA,CE,CZ,EF];omega
  ·rw[hs,htake,<-d];exact DY
def Vw{P:Program}(w:World){t ty e size bytes:Nat}{z:Value}(E:Gr P t e size bytes z)(base g n c0:Nat)(xs:List Value)(hown:Own w base e size (some ⟨g,0,none⟩) n c0 xs)(hc:0<c0)
  (A:Option Addr) (m c:Nat) (news:List Value) (hr:Sl w size A m c news) (h1:∀u∈news,u.oneCell'=true) (hroom:n+m<=c0) :
  ∃w',(Builtin.append_ #[t,t] ty #[.slice (some ⟨g,0,none⟩) n c0,.slice A m c]).run P w=.ok (.slice (some ⟨g,0,none⟩) (n+m) c0) w'/\Own w' base e size (some ⟨g,0,none⟩) (n+m) c0 (xs++news)/\w.grownBy w' (some g):=by
 rcases CS m with hm|hm
 ·subst hm;have a:news=[]:=AH (by simpa using hr.1);subst a;exact⟨w,Fj w E _ n c0 hown.le.1 A c,by simpa using hown,CM w _⟩
 ·obtain⟨ad,rfl,_⟩:=hr.2.2.2.2 hm;exact Lg w E base g n c0 xs hown hc ad m c news hr hm h1 hroom
def Wh{P:Program}(w:World){o:Oper}{a:Act}{K:Act->World->Prop}{Q:Exit->Act->World->Prop}{t e size bytes:Nat}{z:Value}(E:Gr P t e size bytes z)(base:Nat)(s x:Operand)
  (ho:o.op=.call { callee:=.builtin .append,args:=#[s,x],argTypes:=#[t,t] })
  (g n c0:Nat) (xs:List Value) (hs:a.eval s=.slice (some ⟨g,0,none⟩) n c0) (hown:Own w base e size (some ⟨g,0,none⟩) n c0 xs) (hc:0<c0)
  (A:Option Addr) (m c:Nat) (news:List Value) (hx:a.eval x=.slice A m c) (hr:Sl w size A m c news) (h1:∀u∈news,u.oneCell'=true) (hroom:n+m<=c0)
  (h:∀w',Own w' base e size (some ⟨g,0,none⟩) (n+m) c0 (xs++news)->w.grownBy w' (some g)->K (a.put o.dst (.slice (some ⟨g,0,none⟩) (n+m) c0)) w'):o.wp P a w K Q:=by
 have⟨w',d,h2,h3⟩:=Vw (P:=P) (ty:=o.type) w E base g n c0 xs hown hc A m c news hr h1 hroom;unfold Oper.wp execOp;simp only[ho,resolve,invoke,builtin,Sem.run_bind,Sem.run_pure,Result.andThen_ok,FT,CJ,FO,hs,hx,d];exact h w' h2 h3
def Bj{P:Program}(w:World){ops:Array Oper}{rest:List Oper}{o:Oper}{a:Act}{Q:Exit->Act->World->Prop}{t e size bytes:Nat}{z:Value}(E:Gr P t e size bytes z)(base:Nat)(s x:Operand)
  (ho:o.op=.call { callee:=.builtin .append,args:=#[s,x],argTypes:=#[t,t] }) (hgd:o.guard=none)
  (g n c0:Nat) (xs:List Value) (hs:a.eval s=.slice (some ⟨g,0,none⟩) n c0) (hown:Own w base e size (some ⟨g,0,none⟩) n c0 xs) (hc:0<c0)
  (A:Option Addr) (m c:Nat) (news:List Value) (hx:a.eval x=.slice A m c) (hr:Sl w size A m c news) (h1:∀u∈news,u.oneCell'=true) (hroom:n+m<=c0)
  (h:∀w',Own w' base e size (some ⟨g,0,none⟩) (n+m) c0 (xs++news)->w.grownBy w' (some g)->wpList P ops Q rest (a.put o.dst (.slice (some ⟨g,0,none⟩) (n+m) c0)) w'):wpList P ops Q (o::rest) a w :=
 wpList_plain hgd λ_ hK=>Wh w E base s x ho g n c0 xs hs hown hc A m c news hx hr h1 hroom λw' h2 h3=>hK _ _ (h w' h2 h3)
def Uj(w:World)(t:TypeId)(cs:Array Value)(j:Nat)(u:Value)(h:cs.toList[j]?=some u):(w.alloc (.cells cs t)).cell? ((⟨w.heap.size,0,none⟩:Addr).add j)=some u:=by
 rw[show(⟨w.heap.size,0,none⟩:Addr).add j=⟨w.heap.size,j,none⟩by unfold Addr.add;split<;>simp_all,(Bk.new w t cs).cell,<-FS];exact h
def Hq(w:World)(t:TypeId)(cs:Array Value)(xs:List Value)(size n:Nat)(hc:cs.toList=xs)(hl:xs.length=n*size)(hn:n<=1000):Sl (w.alloc (.cells cs t)) size (some ⟨w.heap.size,0,none⟩) n n xs :=
 ⟨hl,AD _,by unfold maxLen;omega,(λh=>nomatch h),λ_=>⟨_,rfl,λj x hx=>Uj w t cs j x (by rw[hc];exact hx)⟩⟩
end Go.Proofs.YtdgbkpoickbidaaGreatDoor
