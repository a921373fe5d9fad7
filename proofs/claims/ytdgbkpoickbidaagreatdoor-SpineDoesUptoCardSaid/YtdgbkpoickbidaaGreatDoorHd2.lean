/- Parts of the proof, put together. Conditions: each theorem states its own. -/
import Derived.Test.YtdgbkpoickbidaaGreatDoorHd1
import Derived.Deep.Slices
import Derived.Test.YtdgbkpoickbidaaGreatDoorProg
import Derived.Lib.ValidU
import Derived.Shelf.Unicode.ValidAny
import Derived.Ground.NamesProg
import Derived.Lib.LaidU8T
import Derived.Lib.IndexBytes
set_option maxRecDepth 100000
set_option maxHeartbeats 4000000
open Go.RowKit
namespace Go.Proofs.YtdgbkpoickbidaaGreatDoor
theorem Og(e1:Int)(l1:List Int)(e2:Int)(l2:List Int):Iq e1 l1 e2 l2=true↔l1.length=l2.length/\e1<=e2/\∀k,k<l1.length->l1.getD k 0<=l2.getD k 0:=by
 unfold Iq;exact decide_eq_true_iff
theorem Sx(e:Int)(l:List Int):Iq e l e l=true:=(Og _ _ _ _).2 ⟨rfl,EL _,fun _ _=>EL _⟩
theorem mW{e1 e2 e3:Int}{l1 l2 l3:List Int}(h:Iq e1 l1 e2 l2=true)(k:Iq e2 l2 e3 l3=true):Iq e1 l1 e3 l3=true:=by
 rw[Og]at *;obtain⟨a1,a2,a3⟩:=h;obtain⟨b1,b2,b3⟩:=k;exact⟨by omega,by omega,fun i hi=>Int.le_trans (a3 i hi) (b3 i (by omega))⟩
theorem pG:∀(l m:List Int),l.length=m.length->(∀k,k<l.length->l.getD k 0<=m.getD k 0)->Dy l m<=0
 | [],[],_,_=>EL _
 | [],_::_,h,_=>by simp at h
 | _::_,[],h,_=>by simp at h
 | x::l,y::m,h,hh=>by
  have h0:x<=y:=by simpa using hh 0 (by simp)
  have hr:=pG l m (by simpa using h) (fun k hk=>by simpa using hh (k+1) (by simpa using hk));unfold Dy;split
  ·exact hr
  ·unfold Bz;split
   ·omega
   ·split<;>omega
theorem bU:∀(l m:List Int),Dy l m=0->l=m
 | [],[],_=>rfl
 | [],_::_,h=>by simp[Dy]at h
 | _::_,[],h=>by simp[Dy]at h
 | x::l,y::m,h=>by
  unfold Dy at h;by_cases hc:Bz x y=0
  ·rw[if_pos hc]at h;rw[Gw.1 hc,bU l m h]
  ·rw[if_neg hc]at h;exact absurd h hc
theorem bV:∀l:List Int,Dy l l=0
 | []=>rfl
 | x::l=>by
  unfold Dy;rw[if_pos (Ej x)];exact bV l
theorem cT{e1 e2:Int}{l1 l2:List Int}:Gl e1 l1 e2 l2=0↔e1=e2/\l1=l2:=by
 constructor
 ·intro h;unfold Gl orT at h;by_cases h1:Bz (l1.length:Int) l2.length=0
  ·rw[if_pos h1]at h;by_cases h2:Bz e1 e2=0
   ·rw[if_pos h2]at h;exact⟨Gw.1 h2,bU _ _ h⟩
   ·rw[if_neg h2]at h;exact absurd h h2
  ·rw[if_neg h1]at h;exact absurd h h1
 ·rintro⟨rfl,rfl⟩;simp[Gl,orT,Ej,bV]
theorem yX{e1 e2:Int}{l1 l2:List Int}(h:Iq e1 l1 e2 l2=true):Gl e1 l1 e2 l2<=0:=by
 obtain⟨a1,a2,a3⟩:=(Og _ _ _ _).1 h;unfold Gl orT;rw[a1,Ej,if_pos rfl];split
 ·exact pG _ _ a1 a3
 ·unfold Bz;split
  ·omega
  ·split<;>omega
theorem nD{l1 l2:List Int}(hl:l1.length=l2.length)(h:∀k,k<l1.length->l1.getD k 0=l2.getD k 0):l1=l2:=(cE hl).1 h
theorem tN{e1 e2:Int}{l1 l2:List Int}:(Iq e1 l1 e2 l2=true/\Iq e2 l2 e1 l1=true)↔Gl e1 l1 e2 l2=0:=by
 rw[cT];constructor
 ·rintro⟨h,k⟩;rw[Og]at h k;obtain⟨a1,a2,a3⟩:=h;obtain⟨b1,b2,b3⟩:=k;exact⟨by omega,nD a1 fun i hi=>Int.le_antisymm (a3 i hi) (b3 i (by omega))⟩
 ·rintro⟨rfl,rfl⟩;exact⟨Sx _ _,Sx _ _⟩
structure Bs {α:Type} (cmp:α->α->Int):Prop where
 neg:∀x y,cmp x y = -cmp y x
 trans:∀x y z,cmp x y<=0->cmp y z<=0->cmp x z<=0
section
variable{α:Type}{cmp:α->α->Int}
theorem Bs.refl(h:Bs cmp)(x:α):cmp x x=0:=by have:=h.neg x x;omega
theorem Bs.lt_of_lt_le(h:Bs cmp){x y z:α}(h1:cmp x y<0)(h2:cmp y z<=0):cmp x z<0:=by
 have a:=h.trans x y z (by omega) h2;rcases GS a with q|q
 ·exact q
 ·have b:=h.trans y z x h2 (by rw[h.neg,q];decide);rw[h.neg]at b;omega
theorem Bs.lt_of_le_lt(h:Bs cmp){x y z:α}(h1:cmp x y<=0)(h2:cmp y z<0):cmp x z<0:=by
 have a:=h.trans x y z h1 (by omega);rcases GS a with q|q
 ·exact q
 ·have b:=h.trans z x y (by rw[h.neg,q];decide) h1;rw[h.neg]at b;omega
theorem Bs.eq_trans(h:Bs cmp){x y z:α}(h1:cmp x y=0)(h2:cmp y z=0):cmp x z=0:=by
 have a:=h.trans x y z (by omega) (by omega);have b:=h.trans z y x (by rw[h.neg,h2];decide) (by rw[h.neg,h1];decide);rw[h.neg]at b;omega
theorem Bs.eq_left(h:Bs cmp){x y z:α}(h1:cmp x y=0):cmp x z=0↔cmp y z=0 :=
 ⟨fun q=>h.eq_trans (by rw[h.neg,h1];rfl) q,fun q=>h.eq_trans h1 q⟩
def Af(cmp:α->α->Int)(x:α)(l:List α):List α:=l.filter fun y=>cmp x y==0
structure Ae (cmp:α->α->Int) (l m:List α):Prop where
 sorted:m.Pairwise fun x y=>cmp x y<=0
 same:∀x,Af cmp x m=Af cmp x l
theorem Ae.nil:Ae cmp [] ([]:List α):=⟨List.Pairwise.nil,fun _=>rfl⟩
theorem Ae.one(x:α):Ae cmp [x] [x]:=⟨BL _ _,fun _=>rfl⟩
theorem Ag(x:α)(l m:List α):Af cmp x (l++m)=Af cmp x l++Af cmp x m:=DR _ _
theorem Ae.join{l1 l2 m1 m2 n:List α}(h1:Ae cmp l1 m1)(h2:Ae cmp l2 m2)(h:Ae cmp (m1++m2) n):Ae cmp (l1++l2) n :=
 ⟨h.sorted,fun x=>by rw[h.same,Ag,Ag,h1.same,h2.same]⟩
theorem Ae.mem(T:Bs cmp){l m:List α}(h:Ae cmp l m)(x:α):x∈m↔x∈l:=by
 have e:=h.same x;have key:∀n:List α,x∈Af cmp x n↔x∈n:=fun n=>by
  unfold Af;rw[BV];exact⟨fun q=>q.1,fun q=>⟨q,by rw[beq_iff_eq];exact T.refl x⟩⟩
 rw[<-key m,<-key l,e]
theorem Ae.insert(T:Bs cmp){l s1 s2:List α}{x:α}(h:Ae cmp l (s1++s2))(h2:∀y∈s2,cmp x y<0)(h1:∀y,s1.getLast?=some y->¬cmp x y<0):Ae cmp (l++[x]) (s1++x::s2):=by
 have hs:=BG.1 h.sorted;have hx:∀y∈s1,cmp y x<=0:=by
  intro y hy;rcases FJ s1 with rfl|⟨t,z,rfl⟩
  ·cases hy
  ·rw[FK]at hy hs h1;have hz:cmp z x<=0:=by
    have:=h1 z (by simp);rw[T.neg];omega
   rcases AR.1 hy with q|q
   ·exact T.trans y z x ((BG.1 hs.1).2.2 y q z (by simp)) hz
   ·simp only[AH]at q;subst q;exact hz
 refine⟨BG.2 ⟨hs.1,BS.2 ⟨fun y hy=>EB (h2 y hy),hs.2.1⟩,fun y hy z hz=>?_⟩,fun c=>?_⟩
 ·rcases AZ.1 hz with rfl|hz
  ·exact hx y hy
  ·exact hs.2.2 y hy z hz
 ·have e0:Af cmp c (l++[x])=(Af cmp c s1++Af cmp c s2)++Af cmp c [x]:=by rw[Ag,<-h.same c,Ag]
  rw[e0,Ag];by_cases hc:cmp c x=0
  ·have e2:Af cmp c s2=[]:=by
    unfold Af;rw[GC];intro y hy q;have q':cmp c y=0:=by simpa using q
    have:=h2 y hy;have:=(T.eq_left hc).1 q';omega
   have e3:Af cmp c (x::s2)=[x]:=by
    show List.filter _ (x::s2)=_;rw[CY (by simpa using hc)];show x::Af cmp c s2=_;rw[e2]
   have e4:Af cmp c [x]=[x]:=by
    show List.filter _ [x]=_;rw[CY (by simpa using hc)];rfl
   rw[e3,e2,e4,AP]
  ·have e3:∀t:List α,Af cmp c (x::t)=Af cmp c t:=fun t=>by
    show List.filter _ (x::t)=_;rw[DC (by simpa using hc)];rfl
   rw[e3,e3];show _=_++[];rw[AP]
theorem Ae.unique(T:Bs cmp):∀{m n l:List α},Ae cmp l m->Ae cmp l n->m=n
 | [],[],_,_,_=>rfl
 | [],y::n,l,h,k=>absurd ((h.mem T y).2 ((k.mem T y).1 (BE ..))) (CU)
 | x::m,[],l,h,k=>absurd ((k.mem T x).2 ((h.mem T x).1 (BE ..))) (CU)
 | x::m,y::n,l,h,k=>by
  have hxy:cmp x y<=0:=by
   have:y∈x::m:=(h.mem T y).2 ((k.mem T y).1 (BE ..));rcases AZ.1 this with rfl|q
   ·rw[T.refl];decide
   ·exact(BS.1 h.sorted).1 y q
  have hyx:cmp y x<=0:=by
   have:x∈y::n:=(k.mem T x).2 ((h.mem T x).1 (BE ..));rcases AZ.1 this with rfl|q
   ·rw[T.refl];decide
   ·exact(BS.1 k.sorted).1 x q
  have h0:cmp x y=0:=by rw[T.neg]at hyx;omega
  have e:Af cmp x (x::m)=Af cmp x (y::n):=(h.same x).trans (k.same x).symm;have e1:Af cmp x (x::m)=x::Af cmp x m:=by
   show List.filter _ (x::m)=_;rw[CY (by simpa using T.refl x)];rfl
  have e2:Af cmp x (y::n)=y::Af cmp x n:=by
   show List.filter _ (y::n)=_;rw[CY (by simpa using h0)];rfl
  rw[e1,e2]at e;injection e with e3 _;subst e3;have hm:Ae cmp m m:=⟨(BS.1 h.sorted).2,fun _=>rfl⟩;have hn:Ae cmp m n:=⟨(BS.1 k.sorted).2,fun c=>by
   have q:Af cmp c (x::m)=Af cmp c (x::n):=(h.same c).trans (k.same c).symm;unfold Af at q ⊢;by_cases hc:cmp c x=0
   ·rw[CY (by simpa using hc),CY (by simpa using hc)]at q;injection q with _ q;exact q.symm
   ·rw[DC (by simpa using hc),DC (by simpa using hc)]at q;exact q.symm⟩
  rw[Ae.unique T hm hn]
end
abbrev TV:=Int×List Int
def Cp(x y:TV):Int:=Gl x.1 x.2 y.1 y.2
def Gp(x y:TV):Bool:=Iq x.1 x.2 y.1 y.2
theorem Th(x y:Int):Bz y x = -Bz x y:=by
 unfold Bz
 repeat' split
 all_goals omega
theorem Lk{x y:Int}:Bz x y<0↔x<y:=by
 unfold Bz
 repeat' split
 all_goals omega
theorem bW:∀l m:List Int,Dy m l = -Dy l m
 | [],[]=>rfl
 | [],_::_=>rfl
 | _::_,[]=>rfl
 | x::l,y::m=>by
  simp only[Dy];rw[Th x y];by_cases h:Bz x y=0
  ·rw[if_pos (by omega),if_pos h];exact bW l m
  ·rw[if_neg (by omega),if_neg h]
theorem Uf:∀l m n:List Int,Dy l m<=0->Dy m n<=0->Dy l n<=0
 | [],[],n,_,h=>h
 | [],_::_,[],_,h=>by simp[Dy]at h
 | [],_::_,_::_,_,_=>by simp[Dy]
 | _::_,[],_,h,_=>by simp[Dy]at h
 | _::_,_::_,[],_,h=>by simp[Dy]at h
 | x::l,y::m,z::n,h,k=>by
  simp only[Dy]at h k ⊢;by_cases h1:Bz x y=0
  ·have e:=Gw.1 h1;subst e;rw[if_pos h1]at h;by_cases h2:Bz x z=0
   ·rw[if_pos h2]at k ⊢;exact Uf l m n h k
   ·rw[if_neg h2]at k ⊢;exact k
  ·rw[if_neg h1]at h;have l1:x<y:=Lk.1 (by omega);by_cases h2:Bz y z=0
   ·have e:=Gw.1 h2;subst e;rw[if_neg h1];exact h
   ·rw[if_neg h2]at k;have l2:y<z:=Lk.1 (by omega);have l3:Bz x z<0:=Lk.2 (by omega);rw[if_neg (by omega)];omega
theorem yM{a b c:Int}:orT a b c<=0↔a<0\/(a=0/\(b<0\/(b=0/\c<=0))):=by
 unfold orT;split
 ·split<;>omega
 ·omega
theorem Gd(x y:TV):Cp y x = -Cp x y:=by
 unfold Cp Gl;rw[Th x.2.length,Th x.1,bW x.2];unfold orT;by_cases h1:Bz x.2.length y.2.length=0
 ·rw[if_pos (by omega),if_pos h1];by_cases h2:Bz x.1 y.1=0
  ·rw[if_pos (by omega),if_pos h2]
  ·rw[if_neg (by omega),if_neg h2]
 ·rw[if_neg (by omega),if_neg h1]
theorem Nn(x y z:TV)(h:Cp x y<=0)(k:Cp y z<=0):Cp x z<=0:=by
 unfold Cp Gl at h k ⊢;rw[yM]at h k ⊢;rw[Lk,Gw,Lk,Gw]at h k ⊢;rcases h with h|⟨h1,h|⟨h2,h3⟩⟩<;>rcases k with k|⟨k1,k|⟨k2,k3⟩⟩
 ·exact .inl (by omega)
 ·exact .inl (by omega)
 ·exact .inl (by omega)
 ·exact .inl (by omega)
 ·exact .inr ⟨by omega,.inl (by omega)⟩
 ·exact .inr ⟨by omega,.inl (by omega)⟩
 ·exact .inl (by omega)
 ·exact .inr ⟨by omega,.inl (by omega)⟩
 ·exact .inr ⟨by omega,.inr ⟨by omega,Uf _ _ _ h3 k3⟩⟩
theorem Co{x y:TV}:Cp x y=0↔x=y:=by
 unfold Cp;rw[cT];exact⟨fun h=>Prod.ext h.1 h.2,fun h=>by rw[h];exact⟨rfl,rfl⟩⟩
theorem Jj{x y z:TV}(h:Cp x y<0)(k:Cp y z<=0):Cp x z<0:=by
 have h1:=Nn x y z (by omega) k;rcases GS h1 with h2|h2
 ·exact h2
 ·have e:=Co.1 h2;subst e;have:=Gd x y;omega
theorem Wk(x:TV):Gp x x=true:=Sx _ _
theorem Tt{x y z:TV}(h:Gp x y=true)(k:Gp y z=true):Gp x z=true:=mW h k
theorem bF{x y:TV}(h:Gp x y=true):Cp x y<=0:=yX h
theorem kX{x y:TV}(h:Gp x y=true)(k:Gp y x=true):x=y:=Co.1 (tN.1 ⟨h,k⟩)
def Ik(l:List TV):Prop:=l.Pairwise fun x y=>Cp x y<0
theorem Ue:∀{a b:List TV},Ik a->Ik b->(∀x,x∈a↔x∈b)->a=b
 | [],[],_,_,_=>rfl
 | [],y::b,_,_,h=>by have:=(h y).2 (by simp);simp at this
 | x::a,[],_,_,h=>by have:=(h x).1 (by simp);simp at this
 | x::a,y::b,ha,hb,h=>by
  unfold Ik at ha hb;rw[BS]at ha hb;have e:x=y:=by
   have h1:x∈y::b:=(h x).1 (by simp);have h2:y∈x::a:=(h y).2 (by simp);rcases AZ.1 h1 with h1|h1
   ·exact h1
   ·rcases AZ.1 h2 with h2|h2
    ·exact h2.symm
    ·have q1:=hb.1 x h1;have q2:=ha.1 y h2;have:=Gd x y;omega
  subst e;rw[Ue ha.2 hb.2 (fun z=>by
   constructor
   ·intro hz;rcases AZ.1 ((h z).1 (BN _ hz))with e|e
    ·have:=ha.1 z hz;rw[e,Co.2 rfl]at this;omega
    ·exact e
   ·intro hz;rcases AZ.1 ((h z).2 (BN _ hz))with e|e
    ·have:=hb.1 z hz;rw[e,Co.2 rfl]at this;omega
    ·exact e)]
theorem Na{α:Type}{p q:α->Bool}(h:∀z,p z=true->q z=true):∀l:List α,(l.filter p).length<=(l.filter q).length
 | []=>AD _
 | x::l=>by
  have ih:=Na h l;rw[FO,FO];by_cases hp:p x=true
  ·rw[if_pos hp,if_pos (h x hp)];simpa using ih
  ·rw[if_neg hp];split
   ·exact Nat.le_succ_of_le ih
   ·exact ih
theorem Qu{α:Type}{p q:α->Bool}(h:∀z,p z=true->q z=true){a:α}:∀{l:List α},a∈l->p a=false->q a=true->(l.filter p).length<(l.filter q).length
 | x::l,ha,hp,hq=>by
  rw[FO,FO];rcases AZ.1 ha with rfl|ha
  ·rw[if_neg (by rw[hp];decide),if_pos hq];exact Nat.lt_succ_of_le (Na h l)
  ·have ih:=Qu h ha hp hq;by_cases hx:p x=true
   ·rw[if_pos hx,if_pos (h x hx)];simpa using ih
   ·rw[if_neg hx];split
    ·exact Nat.lt_succ_of_lt ih
    ·exact ih
def Qg(L:List TV)(v:TV):Prop:=v∈L/\∀u∈L,Gp u v=true->u=v
theorem Qs:∀(n:Nat) (L:List TV) (v:TV),(L.filter fun u=>decide (Cp u v<0)).length<=n->v∈L->∃m,Qg L m/\Gp m v=true
 | n,L,v,hn,hv=>by
  by_cases h:∃u∈L,Gp u v=true/\u≠v
  ·obtain⟨u,hu,huv,hne⟩:=h;have hlt:Cp u v<0:=by
    have:=bF huv;have h0:Cp u v≠0:=fun e=>hne (Co.1 e);omega
   have hlen:(L.filter fun z=>decide (Cp z u<0)).length<(L.filter fun z=>decide (Cp z v<0)).length:=by
    have hsub:∀z,decide (Cp z u<0)=true->decide (Cp z v<0)=true:=fun z hz=>by
     rw[decide_eq_true_iff]at hz ⊢;exact Jj hz (by omega)
    exact Qu hsub hu (by rw[Co.2 rfl];decide) (by rw[decide_eq_true_iff];exact hlt)
   match n,hn with
   | 0,hn=>omega
   | n+1,hn =>
    obtain⟨m,h1,h2⟩:=Qs n L u (by omega) hu;exact⟨m,h1,Tt h2 huv⟩
  ·refine⟨v,⟨hv,fun u hu huv=>?_⟩,Wk v⟩;by_cases e:u=v
   ·exact e
   ·exact absurd ⟨u,hu,huv,e⟩ h
structure fQ (L M:List TV):Prop where
 rising:Ik M
 mem:∀v,v∈M↔Qg L v
theorem fQ.unique{L M N:List TV}(h:fQ L M)(k:fQ L N):M=N:=Ue h.rising k.rising fun v=>(h.mem v).trans (k.mem v).symm
def Aj(M:List TV)(t:TV):Bool:=M.any fun x=>Gp x t
theorem Ki{M:List TV}{t:TV}:Aj M t=true ↔ ∃x∈M,Gp x t=true:=by unfold Aj;exact ED
structure Ht (L S:List TV) (i:Nat) (M:List TV):Prop where
 rising:Ik M
 mem:∀v,v∈M↔Qg L v/\v∈S.take i
theorem Ht.zero(L S:List TV):Ht L S 0 []:=⟨List.Pairwise.nil,fun v=>by simp⟩
theorem Fc{α:Type}{l:List α}{i:Nat}(h:i<l.length)(v:α):v∈l.take (i+1)↔v∈l.take i\/v=l[i]:=by
 rw[BQ h,AR,AH]
theorem Ht.skip{L S M:List TV}{i:Nat}(h:Ht L S i M)(hi:i<S.length)(hb:Aj M S[i]=true):Ht L S (i+1) M:=by
 refine⟨h.rising,fun v=>⟨fun hv=>?_,fun ⟨h1,h2⟩=>?_⟩⟩
 ·have:=(h.mem v).1 hv;exact⟨this.1,(Fc hi v).2 (.inl this.2)⟩
 ·rcases(Fc hi v).1 h2 with h2|rfl
  ·exact(h.mem v).2 ⟨h1,h2⟩
  ·obtain⟨x,hx,hxv⟩:=Ki.1 hb;have q:=(h.mem x).1 hx;have e:=h1.2 x q.1.1 hxv;rw[<-e];exact hx
theorem Ht.put{L S M:List TV}{i:Nat}(h:Ht L S i M)(hi:i<S.length)(hs:S.Pairwise fun x y=>Cp x y<=0)(hm:∀v,v∈S↔v∈L)(hb:Aj M S[i]=false):Ht L S (i+1) (M++[S[i]]):=by
 have hno:∀x∈M,Gp x S[i]=false:=fun x hx=>by
  by_cases e:Gp x S[i]=true
  ·rw[Ki.2 ⟨x,hx,e⟩]at hb;exact absurd hb (by decide)
  ·simpa using e
 have hat:∀v,v∈S->Cp v S[i]<0->v∈S.take i:=fun v hv hlt=>by
  obtain⟨j,hj,rfl⟩:=DI hv;by_cases hji:j<i
  ·exact List.mem_take_iff_getElem.2 ⟨j,by omega,rfl⟩
  ·exfalso;rcases Nat.lt_or_eq_of_le (Nat.le_of_not_lt hji)with q|q
   ·have:=CZ.1 hs i j hi hj q;have:=Gd S[i] S[j];omega
   ·subst q;rw[Co.2 rfl]at hlt;omega
 have hti:S[i]∈L:=(hm _).1 (BP hi);have hleast:Qg L S[i]:=by
  refine⟨hti,fun u hu huv=>?_⟩;obtain⟨m,h1,h2⟩:=Qs _ L u (AD _) hu;have hmv:=Tt h2 huv;by_cases e:m=S[i]
  ·exact kX huv (e▸h2)
  ·have hlt:Cp m S[i]<0:=by
    have:=bF hmv;have h0:Cp m S[i]≠0:=fun q=>e (Co.1 q);omega
   have hmM:m∈M:=(h.mem m).2 ⟨h1,hat m ((hm m).2 h1.1) hlt⟩;rw[hno m hmM]at hmv;exact absurd hmv (by decide)
 refine⟨?_,fun v=>⟨fun hv=>?_,fun ⟨h1,h2⟩=>?_⟩⟩
 ·unfold Ik;refine BG.2 ⟨h.rising,BL _ _,fun x hx y hy=>?_⟩;rw[AH]at hy;subst hy;have hxt:=((h.mem x).1 hx).2;obtain⟨j,hj,e⟩:=List.mem_take_iff_getElem.1 hxt;have q:=CZ.1 hs j i (by omega) hi (by omega);rw[e]at q;have h0:Cp x S[i]≠0:=fun z=>by
   have e2:=Co.1 z;have:=hno x hx;rw[e2,Wk]at this;exact absurd this (by decide)
  omega
 ·rcases AR.1 hv with hv|hv
  ·have:=(h.mem v).1 hv;exact⟨this.1,(Fc hi v).2 (.inl this.2)⟩
  ·rw[AH]at hv;subst hv;exact⟨hleast,(Fc hi _).2 (.inr rfl)⟩
 ·rcases(Fc hi v).1 h2 with h2|rfl
  ·exact BH _ ((h.mem v).2 ⟨h1,h2⟩)
  ·exact CC _ (by simp)
theorem Ht.done{L S M:List TV}(h:Ht L S S.length M)(hm:∀v,v∈S↔v∈L):fQ L M :=
 ⟨h.rising,fun v=>by rw[h.mem v,DU,hm];exact⟨fun q=>q.1,fun q=>⟨q,q.1⟩⟩⟩
def Xs(v:TV):List TV->List TV
 | []=>[v]
 | m::r=>if Cp v m<0 then v::m::r else if Cp v m=0 then m::r else m::Xs v r
theorem Ta(v x:TV):∀M,x∈Xs v M↔x=v\/x∈M
 | []=>by simp[Xs]
 | m::r=>by
  unfold Xs;split
  ·simp
  ·split
   ·rename_i h;rw[Co.1 h];simp
   ·simp only[AZ,Ta v x r];constructor
    ·rintro(h|h|h)
     ·exact .inr (.inl h)
     ·exact .inl h
     ·exact .inr (.inr h)
    ·rintro(h|h|h)
     ·exact .inr (.inl h)
     ·exact .inl h
     ·exact .inr (.inr h)
theorem Qt(v:TV):∀{M},Ik M->Ik (Xs v M)
 | [],_=>BL _ _
 | m::r,h=>by
  unfold Ik at h;obtain⟨h1,h2⟩:=BS.1 h;unfold Xs;split
  ·rename_i hv;exact BS.2 ⟨fun y hy=>by
    rcases AZ.1 hy with rfl|hy
    ·exact hv
    ·exact Jj hv (by have:=h1 y hy;omega),h⟩
  ·split
   ·exact h
   ·rename_i q1 q2;have q3:=Gd m v;exact BS.2 ⟨fun y hy=>by
     rcases(Ta v y r).1 hy with rfl|hy
     ·omega
     ·exact h1 y hy,Qt v h2⟩
instance (L:List TV) (v:TV):Decidable (Qg L v):=by unfold Qg;exact inferInstance
def ofV(L:List TV):List TV:=(L.filter fun v=>decide (Qg L v)).foldr Xs []
theorem Wx:∀(L:List TV),Ik (L.foldr Xs [])/\∀x,x∈L.foldr Xs []↔x∈L
 | []=>⟨List.Pairwise.nil,fun _=>Iff.rfl⟩
 | v::L=>by
  have ih:=Wx L;rw[List.foldr_cons];refine⟨Qt v ih.1,fun x=>?_⟩;rw[Ta,ih.2 x,AZ]
theorem pE(L:List TV):fQ L (ofV L):=by
 have h:=Wx (L.filter fun v=>decide (Qg L v));refine⟨h.1,fun v=>?_⟩;unfold ofV;rw[h.2 v,BV,decide_eq_true_iff];exact⟨fun q=>q.2,fun q=>⟨q.1,q⟩⟩
theorem fQ.eq{L M:List TV}(h:fQ L M):M=ofV L:=h.unique (pE L)
theorem Va{P:Program}(w:World){t ty e size bytes:Nat}{z:Value}(E:Gj P t e size bytes z)(base:Nat)
  (A0:Option Addr) (n c0:Nat) (xs:List Value) (hown:Own w base e size A0 n c0 xs)
  (A:Option Addr) (m c:Nat) (news:List Value) (hr:Sl w size A m c news) (h1:∀u∈news,u.oneCell'=true)
  (hbytes:(n+m)*bytes<=140737488355328) (hb1:0<bytes) (hbase:base<=w.heap.size) :
  ∃A' c' w',(Builtin.append_ #[t,t] ty #[.slice A0 n c0,.slice A m c]).run P w=.ok (.slice A' (n+m) c') w'/\Own w' base e size A' (n+m) c' (xs++news)/\w.grownBy w' (blk A0 c0) /\
   ((A'=A0/\c'=c0)\/(blk A' c'=some w.heap.size/\Ext w w')):=by
 obtain⟨i,hi,hz,hs,hby⟩:=info_parts E.info;have h63:n+m<=maxLen:=by
  have:n+m<=(n+m)*bytes:=Nat.le_mul_of_pos_right _ hb1;unfold maxLen;omega
 rcases CL m with hm|hm
 ·subst hm;have hnews:news=[]:=AG (by simpa using hr.1);subst hnews;exact⟨_,_,w,Fk w E A0 n c0 hown.le.1 A c,by simpa using hown,CH w _,.inl ⟨rfl,rfl⟩⟩
 ·obtain⟨ad,rfl,hcells⟩:=hr.2.2.2.2 hm;rcases hown.2 with ⟨rfl,rfl⟩|⟨g,cur,rfl,hb,hg,hnc,hcm,hcs,htake⟩
  ·have hx:xs=[]:=AG (by simpa using hown.1);subst hx;have hge:=grownCap_ge w (0+m) 0 e;have hcm:grownCap w (0+m) 0 e<=maxLen:=grownCap_le_maxLen w (0+m) 0 e h63;obtain⟨kk,hk⟩:∃k,grownCap w (0+m) 0 e=k+1:=⟨_,(FA (by omega)).symm⟩;have hfin:Own (w.drew.alloc (.cells ((#[]:Array Value)++news.toArray++Builtin.zeroCells z.cells (grownCap w (0+m) 0 e-(0+m))) e)) base e size (some ⟨w.heap.size,0,none⟩) (0+m) (grownCap w (0+m) 0 e) ([]++news):=by
    refine⟨by simpa using hr.1,.inr ⟨w.heap.size,_,rfl,hbase,heap_alloc_new w.drew _,hge,hcm,?_,?_⟩⟩
    ·refine EF (Eq.symm ?_);simp only[FF,EI,size_zeroCells,E.zsize,hr.1,CB,BR,<-DE]
     congr 1
     simp only[BR]at hge;omega
    ·have hlen:([]++news).length=(0+m)*size:=by simpa using hr.1
     simp only[FQ,AJ];rw[<-AJ,<-hlen];exact DS
   cases A0 with
   | none =>
    have hr2:=run_append_nil (P:=P) w t ty e i z E.under hi hz ad m c news (by rw[hs];exact hr.1) hcells hm (by unfold maxLen at h63;omega) (by rw[hby];simp only[BR]at hbytes;omega);simp only[BR,BC,Array.empty_append]at hfin hk ⊢;refine⟨_,_,_,hr2,hfin,⟨rfl,rfl,rfl,by simp,fun k hk _=>EJ w.drew _ k hk⟩,.inr ⟨?_,((Ext.refl w).drew).alloc _⟩⟩;rw[hk];rfl
   | some b =>
    have hr2:=run_append_grow (P:=P) w t ty e i z E.under hi hz b 0 0 [] (by simp) (by simp) ad m c news (by rw[hs];exact hr.1) hcells (by omega) (by unfold maxLen at h63;omega) (by rw[hby];exact growslice_fits (by omega) hbytes);refine⟨_,_,_,hr2,hfin,⟨rfl,rfl,rfl,by simp,fun k hk _=>EJ w.drew _ k hk⟩,.inr ⟨?_,((Ext.refl w).drew).alloc _⟩⟩;rw[hk];rfl
  ·have hlen:(xs++news).length=(n+m)*size:=by rw[AA,hown.1,hr.1,DE]
   by_cases hroom:n+m<=c0
   ·have hfit:n*i.size+news.length<=cur.size:=by rw[hr.1,hs,<-DE];exact AQ (CT _ hroom) hcs
    have hr2:=run_append_room (P:=P) w t ty e i E.under hi g n c0 cur hg ad m c news (by rw[hs];exact hr.1) hcells h1 hroom hfit;refine⟨_,_,_,hr2,⟨hlen,.inr ⟨g,_,rfl,hb,setRow_heap w g cur _ e _ hg,hroom,hcm,?_,?_⟩⟩,⟨rfl,rfl,rfl,by simp,fun k _ hk=>setRow_other w g k _ (fun e'=>hk (by
     obtain⟨c1,rfl⟩:∃c1,c0=c1+1:=⟨c0-1,by omega⟩;simp[blk,e']))⟩,.inl ⟨rfl,rfl⟩⟩
    ·simp only[EI,AA,CA,CQ,DZ];omega
    ·rw[hs,htake,<-hlen];exact DS
   ·have holds:∀j u,xs[j]?=some u->w.cell? ((⟨g,0,none⟩:Addr).add j)=some u:=Uk hg htake;have hr2:=run_append_grow (P:=P) w t ty e i z E.under hi hz ⟨g,0,none⟩ n c0 xs (by rw[hs];exact hown.1) holds ad m c news (by rw[hs];exact hr.1) hcells (by omega) (by unfold maxLen at h63;omega) (by rw[hby];exact growslice_fits (by omega) hbytes);have hge:=grownCap_ge w (n+m) c0 e;have hcm:grownCap w (n+m) c0 e<=maxLen:=grownCap_le_maxLen w (n+m) c0 e h63;refine⟨_,_,_,hr2,⟨hlen,.inr ⟨w.heap.size,_,rfl,hbase,heap_alloc_new w.drew _,hge,hcm,?_,?_⟩⟩,⟨rfl,rfl,rfl,by simp,fun k hk _=>EJ w.drew _ k hk⟩,.inr ⟨?_,((Ext.refl w).drew).alloc _⟩⟩
    ·refine EF (Eq.symm ?_);simp only[FF,EI,size_zeroCells,E.zsize,hr.1,hown.1,<-DE]
     congr 1
     omega
    ·simp only[FQ,AJ];rw[<-AJ,<-hlen];exact DS
    ·obtain⟨kk,hk⟩:∃k,grownCap w (n+m) c0 e=k+1:=⟨_,(FA (by omega)).symm⟩;rw[hk];rfl
theorem Vl{P:Program}(w:World){o:Oper}{a:Act}{K:Act->World->Prop}{Q:Exit->Act->World->Prop}{t e size bytes:Nat}{z:Value}(E:Gj P t e size bytes z)(base:Nat)(s x:Operand)
  (ho:o.op=.call { callee:=.builtin .append,args:=#[s,x],argTypes:=#[t,t] })
  (A0:Option Addr) (n c0:Nat) (xs:List Value) (hs:a.eval s=.slice A0 n c0) (hown:Own w base e size A0 n c0 xs)
  (A:Option Addr) (m c:Nat) (news:List Value) (hx:a.eval x=.slice A m c) (hr:Sl w size A m c news) (h1:∀u∈news,u.oneCell'=true)
  (hbytes:(n+m)*bytes<=140737488355328) (hb1:0<bytes) (hbase:base<=w.heap.size)
  (h:∀A' c' w',Own w' base e size A' (n+m) c' (xs++news)->w.grownBy w' (blk A0 c0)->((A'=A0/\c'=c0)\/(blk A' c'=some w.heap.size/\Ext w w'))->K (a.put o.dst (.slice A' (n+m) c')) w'):o.wp P a w K Q:=by
 obtain⟨A',c',w',hrun,h2,h3,h4⟩:=Va (P:=P) (ty:=o.type) w E base A0 n c0 xs hown A m c news hr h1 hbytes hb1 hbase;unfold Oper.wp execOp;simp only[ho,resolve,invoke,builtin,Sem.run_bind,Sem.run_pure,Result.andThen_ok,FN,CN,EM,hs,hx,hrun];exact h A' c' w' h2 h3 h4
theorem Ab{P:Program}(w:World){ops:Array Oper}{rest:List Oper}{o:Oper}{a:Act}{Q:Exit->Act->World->Prop}{t e size bytes:Nat}{z:Value}(E:Gj P t e size bytes z)(base:Nat)(s x:Operand)
  (ho:o.op=.call { callee:=.builtin .append,args:=#[s,x],argTypes:=#[t,t] }) (hgd:o.guard=none)
  (A0:Option Addr) (n c0:Nat) (xs:List Value) (hs:a.eval s=.slice A0 n c0) (hown:Own w base e size A0 n c0 xs)
  (A:Option Addr) (m c:Nat) (news:List Value) (hx:a.eval x=.slice A m c) (hr:Sl w size A m c news) (h1:∀u∈news,u.oneCell'=true)
  (hbytes:(n+m)*bytes<=140737488355328) (hb1:0<bytes) (hbase:base<=w.heap.size)
  (h:∀A' c' w',Own w' base e size A' (n+m) c' (xs++news)->w.grownBy w' (blk A0 c0)->((A'=A0/\c'=c0)\/(blk A' c'=some w.heap.size/\Ext w w'))->wpList P ops Q rest (a.put o.dst (.slice A' (n+m) c')) w'):wpList P ops Q (o::rest) a w :=
 wpList_plain hgd fun _ hK=>Vl w E base s x ho A0 n c0 xs hs hown A m c news hx hr h1 hbytes hb1 hbase fun A' c' w' h2 h3 h4=>hK _ _ (h A' c' w' h2 h3 h4)
structure Upd (S:Nat->Prop) (w w':World):Prop where
 os:w'.os=w.os
 tape:w'.tape=w.tape
 output:w'.output=w.output
 size:w.heap.size<=w'.heap.size
 block:∀k,k<w.heap.size->¬S k->w'.heap[k]?=w.heap[k]?
theorem Upd.refl(S:Nat->Prop)(w:World):Upd S w w:=⟨rfl,rfl,rfl,AD _,fun _ _ _=>rfl⟩
theorem Upd.ext{S:Nat->Prop}{w w':World}(x:Ext w w'):Upd S w w':=⟨Below.os x,Below.tape x,Below.output x,Ext.size x,fun k hk _=>Below.block x k hk⟩
theorem Upd.mono{S T:Nat->Prop}{w w':World}(h:Upd S w w')(hs:∀k,k<w.heap.size->S k->T k):Upd T w w':=⟨h.os,h.tape,h.output,h.size,fun k hk hn=>h.block k hk (fun q=>hn (hs k hk q))⟩
theorem Upd.trans{S:Nat->Prop}{a b c:World}(h:Upd S a b)(k:Upd S b c):Upd S a c :=
 ⟨k.os.trans h.os,k.tape.trans h.tape,k.output.trans h.output,AQ h.size k.size,fun q hq hn=>(k.block q (BF hq h.size) hn).trans (h.block q hq hn)⟩
theorem Upd.setCell{S:Nat->Prop}{a w:World}(h:Upd S a w){p:Addr}(hp:S p.block\/a.heap.size<=p.block)(u:Value):Upd S a (w.setCell p u):=by
 refine⟨h.os,h.tape,h.output,by simpa using h.size,fun k hk hn=>?_⟩;rw[FV _ _ _ _ (fun e=>by
  rcases hp with hp|hp
  ·exact hn (e▸hp)
  ·omega)]
 exact h.block k hk hn
theorem Upd.alloc{S:Nat->Prop}{a w:World}(h:Upd S a w)(o:Obj):Upd S a (w.alloc o):=h.trans (Upd.ext ((Ext.refl w).alloc o))
theorem Upd.grown{S:Nat->Prop}{a w w':World}{row:Option Nat}(h:Upd S a w)(g:w.grownBy w' row)(hr:∀k,row=some k->S k\/a.heap.size<=k):Upd S a w' :=
 ⟨g.os.trans h.os,g.tape.trans h.tape,g.output.trans h.output,AQ h.size g.size,fun k hk hn=>(g.block k (BF hk h.size) (fun e=>by
  rcases hr k e.symm with q|q
  ·exact hn q
  ·omega)).trans (h.block k hk hn)⟩
theorem aO{w w':World}{p:Addr}(h:w'.heap[p.block]?=w.heap[p.block]?):w'.cell? p=w.cell? p:=by unfold World.cell?;rw[h]
theorem Upd.cell{S:Nat->Prop}{w w':World}(h:Upd S w w'){p:Addr}{u:Value}(hn:¬S p.block)(hc:w.cell? p=some u):w'.cell? p=some u :=
 (aO (h.block p.block (EZ w p hc) hn)).trans hc
theorem Sl.upd{S:Nat->Prop}{w w':World}{size n c:Nat}{A:Option Addr}{xs:List Value}(h:Sl w size A n c xs)(x:Upd S w w')(hn:∀k,blk A c=some k->¬S k):Sl w' size A n c xs:=by
 refine⟨h.1,h.2.1,h.2.2.1,h.2.2.2.1,fun h0=>?_⟩;obtain⟨ad,rfl,hc⟩:=h.2.2.2.2 h0;refine⟨ad,rfl,fun j u hu=>x.cell ?_ (hc j u hu)⟩;rw[De];refine hn ad.block ?_;have:=h.2.1;cases c with
 | zero=>omega
 | succ c=>rfl
theorem Own.upd{S:Nat->Prop}{w w':World}{B size n c:Nat}{e:TypeId}{A:Option Addr}{xs:List Value}(h:Own w B e size A n c xs)(x:Upd S w w')(hn:∀k,blk A c=some k->¬S k):Own w' B e size A n c xs:=by
 refine⟨h.1,?_⟩;rcases h.2 with hz|⟨g,cur,rfl,hb,hg,rest⟩
 ·exact .inl hz
 ·cases c with
  | zero =>
   obtain⟨h1,_⟩:=rest;exact .inl ⟨rfl,by omega⟩
  | succ c =>
   refine .inr ⟨g,cur,rfl,hb,?_,rest⟩;rw[x.block g (BJ.1 hg).1 (hn g rfl)];exact hg
structure En where
 A:Option Addr
 n:Nat
 c:Nat
def En.v(x:En):Value:=.slice x.A x.n x.c
def En.b(x:En):Option Nat:=blk x.A x.c
def En.zero:En:=⟨none,0,0⟩
def Di(L:List En):List Value:=L.map En.v
theorem sS(L:List En):(Di L).length=L.length:=AN ..
theorem Fa(L:List En):∀u∈Di L,u.oneCell'=true:=fun u hu=>by obtain⟨x,_,rfl⟩:=AW.1 hu;rfl
theorem Fo(L M:List En):Di (L++M)=Di L++Di M:=AO
def ena(L:List En)(i:Nat):En:=L.getD i En.zero
theorem vZ{L:List En}{i:Nat}(h:i<L.length):(Di L)[i]?=some (ena L i).v:=by
 unfold Di ena;rw[CI,AB,AC h];rfl
theorem Ez{w:World}{A:Option Addr}{n c:Nat}{L:List En}(h:Sl w 1 A n c (Di L)){i:Nat}(hi:i<n):∃ad,A=some ad/\w.cell? (ad.add i)=some (ena L i).v:=by
 have hl:=h.1;rw[sS,EU]at hl;obtain⟨ad,e,hc⟩:=h.2.2.2.2 (by omega);exact⟨ad,e,hc i _ (vZ (by omega))⟩
theorem Ly{L:List En}{x:En}{i:Nat}(h:i<L.length):ena (L++[x]) i=ena L i:=by
 unfold ena;rw[AB,BI h,AB]
theorem Lz(L:List En)(x:En):ena (L++[x]) L.length=x:=by
 unfold ena;rw[AB,BD (AD _),DG];rfl
section
variable(mk:Int->Nat->List Value)(size:Nat)
def Ap(i:Int)(n:Nat):List Value:=(List.range n).flatMap (mk i)
variable{mk size}
theorem iH(i:Int):Ap mk i 0=[]:=rfl
theorem Gy(i:Int)(n:Nat):Ap mk i (n+1)=Ap mk i n++mk i n:=by
 unfold Ap;rw[List.range_succ,CS,List.flatMap_singleton]
theorem Ce(hs:∀i k,(mk i k).length=size)(i:Int):∀n,(Ap mk i n).length=n*size
 | 0=>by simp[Ap]
 | n+1=>by rw[Gy,AA,Ce hs i n,hs,Nat.succ_mul]
theorem Bx(hs:∀i k,(mk i k).length=size)(i:Int){q:Nat}(hq:q<size):∀(n k:Nat),k<n->(Ap mk i n)[k*size+q]?=(mk i k)[q]?
 | 0,k,h=>by omega
 | n+1,k,h=>by
  rw[Gy];by_cases hk:k<n
  ·rw[BI,Bx hs i hq n k hk];rw[Ce hs];have:(k+1)*size<=n*size:=CT _ hk;rw[Nat.succ_mul]at this;omega
  ·have e:k=n:=by omega
   subst e;rw[BD (by rw[Ce hs];omega),Ce hs,CR]
end
structure Ew (w:World) (B:Nat) (e:TypeId) (size:Nat) (L:List En) (f:Nat->List Value):Prop where
 own:∀i,i<L.length->Own w B e size (ena L i).A (ena L i).n (ena L i).c (f i)
 apart:∀i j,i<L.length->j<L.length->i≠j->∀k,(ena L i).b=some k->(ena L j).b≠some k
def Bm(L:List En)(k:Nat):Prop:=∃i,i<L.length/\(ena L i).b=some k
theorem Ew.foot_lt{w:World}{B:Nat}{e:TypeId}{size:Nat}{L:List En}{f:Nat->List Value}(h:Ew w B e size L f){k:Nat}(hk:Bm L k):B<=k/\k<w.heap.size:=by
 obtain⟨i,hi,hb⟩:=hk;exact(h.own i hi).lt k hb
theorem Ew.upd{S:Nat->Prop}{w w':World}{B:Nat}{e:TypeId}{size:Nat}{L:List En}{f:Nat->List Value}(h:Ew w B e size L f)(x:Upd S w w')(hn:∀k,Bm L k->¬S k):Ew w' B e size L f :=
 ⟨fun i hi=>(h.own i hi).upd x (fun k hk=>hn k ⟨i,hi,hk⟩),h.apart⟩
structure Ph1 (mk:Int->Nat->List Value) (w wr:World) (B:Nat) (e:TypeId) (size:Nat) (L:List En) (i:Nat) (f:Nat->List Value):Prop where
 ls:Ew wr B e size L f
 done:∀j,j<i->j<L.length->f j=Ap mk j (ena L j).n
 upd:Upd (Bm L) w wr
structure It (mk:Int->Nat->List Value) (w wr:World) (B:Nat) (e:TypeId) (size:Nat) (L:List En) (i k:Nat) (f:Nat->List Value):Prop where
 ph:Ph1 mk w wr B e size L i f
 part:(f i).take (k*size)=Ap mk i k
theorem Ph1.enter{mk:Int->Nat->List Value}{w wr:World}{B:Nat}{e:TypeId}{size:Nat}{L:List En}{i:Nat}{f:Nat->List Value}(h:Ph1 mk w wr B e size L i f):It mk w wr B e size L i 0 f:=⟨h,by rw[FL];rfl⟩
theorem It.leave{mk:Int->Nat->List Value}{w wr:World}{B:Nat}{e:TypeId}{size:Nat}{L:List En}{i:Nat}{f:Nat->List Value}(h:It mk w wr B e size L i (ena L i).n f)(hi:i<L.length):Ph1 mk w wr B e size L (i+1) f:=by
 refine⟨h.ph.ls,fun j hj hjl=>?_,h.ph.upd⟩;by_cases hij:j<i
 ·exact h.ph.done j hij hjl
 ·have:j=i:=by omega
  subst this;have hl:=(h.ph.ls.own j hi).1;have:=h.part
  rwa [<-hl,DU]at this
theorem Ew.put{w:World}{B:Nat}{e:TypeId}{size:Nat}{L:List En}{f:Nat->List Value}(h:Ew w B e size L f){i g:Nat}(hi:i<L.length)(hA:(ena L i).A=some ⟨g,0,none⟩)(hc:0<(ena L i).c)(q:Nat)(u:Value) :
  Ew (w.setCell ⟨g,q,none⟩ u) B e size L (fun j=>if j=i then (f i).set q u else f j):=by
 have hb:(ena L i).b=some g:=by
  unfold En.b;rw[hA];generalize (ena L i).c=c at hc;cases c with
  | zero=>omega
  | succ c=>rfl
 refine⟨fun j hj=>?_,h.apart⟩;by_cases hji:j=i
 ·subst hji;rw[if_pos rfl];have o:=h.own j hi;rw[hA]at o ⊢;exact o.put q u
 ·rw[if_neg hji];exact(h.own j hj).far (p:=⟨g,q,none⟩) (fun e=>h.apart i j hi hj (Ne.symm hji) g hb e) u
theorem Im{xs:List Value}{k:Nat}(h:k<xs.length)(u:Value):(xs.set k u).take (k+1)=xs.take k++[u]:=by
 rw[BQ (by rw[DY];exact h),List.take_set_of_le (AD k),List.getElem_set_self]
theorem It.put1{mk:Int->Nat->List Value}{w wr:World}{B:Nat}{e:TypeId}{L:List En}{i k g:Nat}{f:Nat->List Value}(h:It mk w wr B e 1 L i k f)(hi:i<L.length)(hk:k<(ena L i).n)(hA:(ena L i).A=some ⟨g,0,none⟩)(hm:(ena L i).b=some g){u:Value}(hu:mk i k=[u]) :
  ∃f',It mk w (wr.setCell ⟨g,k,none⟩ u) B e 1 L i (k+1) f':=by
 have hl:=(h.ph.ls.own i hi).1;have hc:0<(ena L i).c:=by have:=(h.ph.ls.own i hi).le.1;omega
 refine⟨_,⟨h.ph.ls.put hi hA hc k u,fun j hj hjl=>?_,h.ph.upd.setCell (.inl ⟨i,hi,hm⟩) u⟩,?_⟩
 ·rw[if_neg (by omega)];exact h.ph.done j hj hjl
 ·rw[if_pos rfl,EU,Im (by rw[hl];omega),Gy,hu];have:=h.part;rw[EU]at this;rw[this]
theorem It.put2{mk:Int->Nat->List Value}{w wr:World}{B:Nat}{e:TypeId}{L:List En}{i k g:Nat}{f:Nat->List Value}(h:It mk w wr B e 2 L i k f)(hi:i<L.length)(hk:k<(ena L i).n)(hA:(ena L i).A=some ⟨g,0,none⟩)(hm:(ena L i).b=some g){u v:Value}(hu:mk i k=[u,v]) :
  ∃f',It mk w ((wr.setCell ⟨g,k*2,none⟩ u).setCell ⟨g,k*2+1,none⟩ v) B e 2 L i (k+1) f':=by
 have hl:=(h.ph.ls.own i hi).1;have hc:0<(ena L i).c:=by have:=(h.ph.ls.own i hi).le.1;omega
 refine⟨_,⟨(h.ph.ls.put hi hA hc (k*2) u).put hi hA hc (k*2+1) v,fun j hj hjl=>?_,(h.ph.upd.setCell (.inl ⟨i,hi,hm⟩) u).setCell (.inl ⟨i,hi,hm⟩) v⟩,?_⟩
 ·rw[if_neg (by omega),if_neg (by omega)];exact h.ph.done j hj hjl
 ·rw[if_pos rfl,if_pos rfl,show(k+1)*2=k*2+1+1 by omega,Im (by rw[DY,hl];omega),Im (by rw[hl];omega),h.part,Gy,hu,AJ];rfl
theorem It.put4{mk:Int->Nat->List Value}{w wr:World}{B:Nat}{e:TypeId}{L:List En}{i k g:Nat}{f:Nat->List Value}(h:It mk w wr B e 4 L i k f)(hi:i<L.length)(hk:k<(ena L i).n)(hA:(ena L i).A=some ⟨g,0,none⟩)(hm:(ena L i).b=some g){u v x y:Value}(hu:mk i k=[u,v,x,y]) :
  ∃f',It mk w ((((wr.setCell ⟨g,k*4,none⟩ u).setCell ⟨g,k*4+1,none⟩ v).setCell ⟨g,k*4+2,none⟩ x).setCell ⟨g,k*4+3,none⟩ y) B e 4 L i (k+1) f':=by
 have hl:=(h.ph.ls.own i hi).1;have hc:0<(ena L i).c:=by have:=(h.ph.ls.own i hi).le.1;omega
 refine⟨_,⟨(((h.ph.ls.put hi hA hc (k*4) u).put hi hA hc (k*4+1) v).put hi hA hc (k*4+2) x).put hi hA hc (k*4+3) y,fun j hj hjl=>?_,(((h.ph.upd.setCell (.inl ⟨i,hi,hm⟩) u).setCell (.inl ⟨i,hi,hm⟩) v).setCell (.inl ⟨i,hi,hm⟩) x).setCell (.inl ⟨i,hi,hm⟩) y⟩,?_⟩
 ·rw[if_neg (by omega),if_neg (by omega),if_neg (by omega),if_neg (by omega)];exact h.ph.done j hj hjl
 ·simp only[↓reduceIte];rw[show(k+1)*4=k*4+3+1 by omega,Im (by simp only[DY,hl];omega),Im (by simp only[DY,hl];omega),Im (by simp only[DY,hl];omega),Im (by rw[hl];omega),h.part,Gy,hu];simp
structure Ph2 (mk:Int->Nat->List Value) (w1 wr:World) (B:Nat) (e T:TypeId) (size:Nat) (L:List En) (i:Nat) (G:List En) (LA:Option Addr) (lc:Nat):Prop where
 len:G.length=i
 lst:Own wr w1.heap.size T 1 LA i lc (Di G)
 rest:∀j,i<=j->j<L.length->Own wr B e size (ena L j).A (ena L j).n (ena L j).c (Ap mk j (ena L j).n)
 read:∀j,j<i->Sl wr size (ena L j).A (ena L j).n (ena L j).c (Ap mk j (ena L j).n)
 long:∀j,j<i->(ena G j).n=(ena L j).n+8/\Own wr B e size (ena G j).A (ena G j).n (ena G j).c (Ap mk j (ena L j).n++Ap mk (-1-j) 8)
 at_:∀j,j<i->∀k,(ena G j).b=some k->(ena L j).b=some k\/(w1.heap.size<=k/\blk LA lc≠some k)
 foot:∀k,Bm L k->k<w1.heap.size
 apart:∀i j,i<L.length->j<L.length->i≠j->∀k,(ena L i).b=some k->(ena L j).b≠some k
 upd:Upd (Bm L) w1 wr
theorem Ph2.start{mk:Int->Nat->List Value}{w wr:World}{B:Nat}{e:TypeId}{size:Nat}{L:List En}{f:Nat->List Value}(T:TypeId)(h:Ph1 mk w wr B e size L L.length f):Ph2 mk wr wr B e T size L 0 [] none 0 :=
 ⟨rfl,Own.nil _ _ _ _,fun j _ hj=>by have:=h.ls.own j hj;rwa [h.done j hj hj]at this,fun j hj=>by omega,fun j hj=>by omega,fun j hj=>by omega,fun k hk=>(h.ls.foot_lt hk).2,h.ls.apart,Upd.refl _ _⟩
structure Hq (mk:Int->Nat->List Value) (w2 wr:World) (B:Nat) (e:TypeId) (size:Nat) (L:List En) (i k:Nat) (A:Option Addr) (c:Nat):Prop where
 own:Own wr B e size A ((ena L i).n+k) c (Ap mk i (ena L i).n++Ap mk (-1-i) k)
 at_:(A=(ena L i).A/\c=(ena L i).c)\/∃q,blk A c=some q/\w2.heap.size<=q
 read:Sl wr size (ena L i).A (ena L i).n (ena L i).c (Ap mk i (ena L i).n)
 lt:∀q,(ena L i).b=some q->q<w2.heap.size
 upd:Upd (fun q=>(ena L i).b=some q) w2 wr
theorem Ph2.enter{mk:Int->Nat->List Value}{w1 wr:World}{B:Nat}{e T:TypeId}{size:Nat}{L:List En}{i:Nat}{G:List En}{LA:Option Addr}{lc:Nat}(h:Ph2 mk w1 wr B e T size L i G LA lc)(hi:i<L.length):Hq mk wr wr B e size L i 0 (ena L i).A (ena L i).c:=by
 have o:=h.rest i (AD _) hi;exact⟨by rw[iH,AP];exact o,.inl ⟨rfl,rfl⟩,o.sl,fun q hq=>(o.lt q hq).2,Upd.refl _ _⟩
theorem Hq.step{mk:Int->Nat->List Value}{w2 wr w3:World}{B:Nat}{e:TypeId}{size:Nat}{L:List En}{i k:Nat}{A A3:Option Addr}{c c3:Nat}(h:Hq mk w2 wr B e size L i k A c)(hs:∀i k,(mk i k).length=size)(ob:Obj)
  (o3:Own w3 B e size A3 ((ena L i).n+k+1) c3 (Ap mk i (ena L i).n++Ap mk (-1-i) k++mk (-1-i) k)) (g3:(wr.alloc ob).grownBy w3 (blk A c)) (x3:(A3=A/\c3=c)\/(blk A3 c3=some (wr.alloc ob).heap.size/\Ext (wr.alloc ob) w3)):Hq mk w2 w3 B e size L i (k+1) A3 c3:=by
 have hsz:w2.heap.size<=(wr.alloc ob).heap.size:=AQ h.upd.size ((Ext.refl wr).alloc ob).size;have hin:∀q,blk A c=some q->(ena L i).b=some q\/w2.heap.size<=q:=fun q hq=>by
  rcases h.at_ with ⟨rfl,rfl⟩|⟨q',h1,h2⟩
  ·exact .inl hq
  ·rw[h1]at hq;injection hq with hq;exact .inr (by omega)
 refine⟨by rw[Gy,<-AJ];exact o3,?_,?_,h.lt,(h.upd.alloc ob).grown g3 hin⟩
 ·rcases x3 with ⟨rfl,rfl⟩|⟨h1,_⟩
  ·exact h.at_
  ·exact .inr ⟨_,h1,hsz⟩
 ·have key:A3=(ena L i).A->c3=(ena L i).c->Sl w3 size (ena L i).A (ena L i).n (ena L i).c (Ap mk i (ena L i).n):=fun ea ec=>by
   have:=Sl.take (k:=(ena L i).n) o3.sl (by omega);rw[AJ,List.take_left' (Ce hs i _),ea,ec]at this;exact this
  rcases x3 with ⟨rfl,rfl⟩|⟨h1,x⟩
  ·rcases h.at_ with ⟨ea,ec⟩|⟨q',h1,h2⟩
   ·exact key ea ec
   ·refine Sl.upd (S:=fun q=>blk A3 c3=some q) (h.read.ext ((Ext.refl wr).alloc ob)) ((Upd.refl _ _).grown g3 (fun k hk=>.inl hk)) (fun q hq hq2=>?_);rw[h1]at hq2;injection hq2 with hq2;have:=h.lt q hq;omega
  ·exact(h.read.ext ((Ext.refl wr).alloc ob)).ext x
theorem Ph2.next{mk:Int->Nat->List Value}{w1 w2 wr w4:World}{B:Nat}{e T:TypeId}{size:Nat}{L:List En}{i:Nat}{G:List En}{LA LA4:Option Addr}{lc lc4:Nat}{A:Option Addr}{c:Nat}(h:Ph2 mk w1 w2 B e T size L i G LA lc)(hi:i<L.length)(hx:Hq mk w2 wr B e size L i 8 A c)(ob:Obj)
  (o4:Own w4 w1.heap.size T 1 LA4 (i+1) lc4 (Di G++[.slice A ((ena L i).n+8) c])) (g4:(wr.alloc ob).grownBy w4 (blk LA lc)) (x4:(LA4=LA/\lc4=lc)\/(blk LA4 lc4=some (wr.alloc ob).heap.size/\Ext (wr.alloc ob) w4)):Ph2 mk w1 w4 B e T size L (i+1) (G++[⟨A,(ena L i).n+8,c⟩]) LA4 lc4:=by
 have hfi:∀q,(ena L i).b=some q->Bm L q:=fun q hq=>⟨i,hi,hq⟩;have hlt:∀q,blk LA lc=some q->w1.heap.size<=q/\q<w2.heap.size:=fun q hq=>h.lst.lt q hq;have u4:Upd (fun q=>(ena L i).b=some q\/blk LA lc=some q) w2 w4:=((hx.upd.mono (fun k _ q=>Or.inl q)).alloc ob).grown g4 (fun k hk=>.inl (.inr hk));have u5:Upd (fun q=>blk LA lc=some q) wr w4:=((Upd.refl _ _).alloc ob).grown g4 (fun k hk=>.inl hk);have nl:∀q,Bm L q->blk LA lc≠some q:=fun q hq e1=>by have:=h.foot q hq;have:=(hlt q e1).1;omega
 have ni:∀j,j<L.length->j≠i->∀q,(ena L j).b=some q->¬((ena L i).b=some q\/blk LA lc=some q):=fun j hj hji q hq e1=>by
  rcases e1 with e1|e1
  ·exact h.apart j i hj hi hji q hq e1
  ·exact nl q ⟨j,hj,hq⟩ e1
 have hgl:=h.len;have hxb:∀q,blk A c=some q->(ena L i).b=some q\/w2.heap.size<=q:=fun q hq=>by
  rcases hx.at_ with ⟨rfl,rfl⟩|⟨q',h1,h2⟩
  ·exact .inl hq
  ·rw[h1]at hq;injection hq with hq;exact .inr (by omega)
 have hll:∀q,blk LA4 lc4=some q->blk LA lc=some q\/wr.heap.size<=q:=fun q hq=>by
  rcases x4 with ⟨rfl,rfl⟩|⟨h1,_⟩
  ·exact .inl hq
  ·rw[h1]at hq;injection hq with hq;have:=((Ext.refl wr).alloc ob).size;exact .inr (by omega)
 refine⟨by rw[AA,hgl];rfl,by rw[Fo];exact o4,fun j hj hjl=>(h.rest j (by omega) hjl).upd u4 (ni j hjl (by omega)),fun j hj=>?_,fun j hj=>?_,fun j hj q hq=>?_,h.foot,h.apart,?_⟩
 ·by_cases hji:j<i
  ·exact(h.read j hji).upd u4 (ni j (by omega) (by omega))
  ·obtain rfl:j=i:=by omega
   exact hx.read.upd u5 (fun q hq=>nl q (hfi q hq))
 ·by_cases hji:j<i
  ·rw[Ly (by omega)];obtain⟨h1,h2⟩:=h.long j hji;refine⟨h1,h2.upd u4 (fun q hq e1=>?_)⟩;rcases h.at_ j hji q hq with h3|⟨h3,h4⟩
   ·exact ni j (by omega) (by omega) q h3 e1
   ·rcases e1 with e1|e1
    ·have:=h.foot q (hfi q e1);omega
    ·exact h4 e1
  ·obtain rfl:j=i:=by omega
   have e1:ena (G++[⟨A,(ena L j).n+8,c⟩]) j=⟨A,(ena L j).n+8,c⟩:=by rw[<-hgl];exact Lz G _
   rw[e1];refine⟨rfl,hx.own.upd u5 (fun q hq e2=>?_)⟩;rcases hxb q hq with h3|h3
   ·exact nl q (hfi q h3) e2
   ·have:=(hlt q e2).2;omega
 ·by_cases hji:j<i
  ·rw[Ly (by omega)]at hq;rcases h.at_ j hji q hq with h3|⟨h3,h4⟩
   ·exact .inl h3
   ·refine .inr ⟨h3,fun e1=>?_⟩;rcases hll q e1 with h5|h5
    ·exact h4 h5
    ·have:=((h.long j hji).2.lt q hq).2;have:=hx.upd.size;omega
  ·obtain rfl:j=i:=by omega
   have e1:ena (G++[⟨A,(ena L j).n+8,c⟩]) j=⟨A,(ena L j).n+8,c⟩:=by rw[<-hgl];exact Lz G _
   rw[e1]at hq;rcases hxb q hq with h3|h3
   ·exact .inl h3
   ·refine .inr ⟨AQ h.upd.size h3,fun e2=>?_⟩;rcases hll q e2 with h5|h5
    ·have:=(hlt q h5).2;omega
    ·have:=(hx.own.lt q hq).2;omega
 ·have hd:∀q,q<w2.heap.size->(ena L i).b=some q->Bm L q:=fun q _ hq=>hfi q hq;exact(h.upd.trans ((hx.upd.mono hd).alloc ob)).grown g4 (fun q hq=>.inr (hlt q hq).1)
theorem Ds(ad:Addr)(j q:Nat)(hq:0<q):ad.add (j+q)=⟨(ad.add j).block,(ad.add j).off+q,none⟩:=by
 rw[<-Hn];unfold Addr.add;rw[if_neg (by omega)]
theorem Yi{w:World}{n c:Nat}{A:Option Addr}{xs:List Value}(h:Sl w 1 A n c xs){k:Nat}(hk:k<n){l:List Value}{a:Value}(hl:l=[a])(hx:∀q,q<1->xs[k*1+q]?=l[q]?):∃ad,A=some ad/\w.cell? (ad.add k)=some a:=by
 subst hl;obtain⟨ad,e,hc⟩:=h.2.2.2.2 (by omega);exact⟨ad,e,hc k _ (by have:=hx 0 (by omega);rwa [EU,DV]at this)⟩
theorem Hw{w:World}{n c:Nat}{A:Option Addr}{xs:List Value}(h:Sl w 2 A n c xs){k:Nat}(hk:k<n){l:List Value}{a b:Value}(hl:l=[a,b])(hx:∀q,q<2->xs[k*2+q]?=l[q]?) :
  ∃ad,A=some ad/\w.cell? (ad.add (k*2))=some a/\w.cell? ⟨(ad.add (k*2)).block,(ad.add (k*2)).off+1,none⟩=some b:=by
 subst hl;obtain⟨ad,e,hc⟩:=h.2.2.2.2 (by omega);exact⟨ad,e,hc _ _ (hx 0 (by omega)),by rw[<-Ds _ _ 1 (by omega)];exact hc _ _ (hx 1 (by omega))⟩
theorem Iv{w:World}{n c:Nat}{A:Option Addr}{xs:List Value}(h:Sl w 4 A n c xs){k:Nat}(hk:k<n){l:List Value}{a b x y:Value}(hl:l=[a,b,x,y])(hx:∀q,q<4->xs[k*4+q]?=l[q]?) :
  ∃ad,A=some ad/\w.cell? (ad.add (k*4))=some a/\w.cell? ⟨(ad.add (k*4)).block,(ad.add (k*4)).off+1,none⟩=some b/\w.cell? ⟨(ad.add (k*4)).block,(ad.add (k*4)).off+2,none⟩=some x/\w.cell? ⟨(ad.add (k*4)).block,(ad.add (k*4)).off+3,none⟩=some y:=by
 subst hl;obtain⟨ad,e,hc⟩:=h.2.2.2.2 (by omega);exact⟨ad,e,hc _ _ (hx 0 (by omega)),by rw[<-Ds _ _ 1 (by omega)];exact hc _ _ (hx 1 (by omega)),by rw[<-Ds _ _ 2 (by omega)];exact hc _ _ (hx 2 (by omega)),by rw[<-Ds _ _ 3 (by omega)];exact hc _ _ (hx 3 (by omega))⟩
theorem Own.base{w:World}{B B' s n c:Nat}{e:TypeId}{A:Option Addr}{xs:List Value}(h:Own w B e s A n c xs)(hb:∀k,blk A c=some k->B'<=k):Own w B' e s A n c xs:=by
 refine⟨h.1,?_⟩;rcases h.2 with hz|⟨g,cur,rfl,_,hg,hnc,rest⟩
 ·exact .inl hz
 ·cases c with
  | zero=>exact .inl ⟨rfl,by omega⟩
  | succ c=>exact .inr ⟨g,cur,rfl,hb g rfl,hg,hnc,rest⟩
theorem Ix{S:Nat->Prop}{a w w':World}(h:Ext a w)(u:Upd S w w')(hS:∀k,S k->a.heap.size<=k):Ext a w' :=
 ⟨u.os.trans (Below.os h),u.tape.trans (Below.tape h),u.output.trans (Below.output h),AQ h.size u.size,fun k hk=>(u.block k (BF hk h.size) (fun q=>by have:=hS k q;omega)).trans (Below.block h k hk)⟩
def kK(w:World)(B:Nat)(e:TypeId)(size:Nat)(P:List (En×List Value)):Prop:=∀p∈P,Own w B e size p.1.A p.1.n p.1.c p.2
def Far(P:List (En×List Value)):Prop:=P.Pairwise fun p q=>∀k,p.1.b=some k->q.1.b≠some k
theorem Lj{w:World}{B:Nat}{e:TypeId}{size:Nat}{P:List (En×List Value)}(h:kK w B e size P)(hf:Far P):Ew w B e size (P.map (·.1)) (fun i=>(P.getD i (En.zero,[])).2):=by
 have key:∀i,(hi:i<(P.map (·.1)).length)->∃h2:i<P.length,ena (P.map (·.1)) i=P[i].1/\(P.getD i (En.zero,[])).2=P[i].2:=fun i hi=>by
  have h2:i<P.length:=by rwa [AN]at hi
  refine⟨h2,?_,?_⟩
  ·unfold ena;rw[AB,CI,AC h2];rfl
  ·rw[AB,AC h2];rfl
 refine⟨fun i hi=>?_,fun i j hi hj hij k h1 h2=>?_⟩
 ·obtain⟨q,e1,e2⟩:=key i hi;rw[e1,e2];exact h _ (BP q)
 ·obtain⟨q1,e1,_⟩:=key i hi;obtain⟨q2,e2,_⟩:=key j hj;rw[e1]at h1;rw[e2]at h2;rcases Nat.lt_or_gt_of_ne hij with q|q
  ·exact CZ.1 hf i j q1 q2 q k h1 h2
  ·exact CZ.1 hf j i q2 q1 q k h2 h1
theorem cH{L:List En}{k:Nat}(h:Bm L k):∃x∈L,x.b=some k:=by
 obtain⟨i,hi,hb⟩:=h;refine⟨ena L i,?_,hb⟩;unfold ena;rw[AB,AC hi];exact BP hi
structure Tm where
 e:Int
 A:Option Addr
 c:Nat
 l:List Int
def Tm.zero:Tm:=⟨0,none,0,[]⟩
instance:Inhabited Tm:=⟨Tm.zero⟩
def Tm.v(x:Tm):TV:=(x.e,x.l)
def tmC(x:Tm):List Value:=[.int .u64 x.e,.slice x.A x.l.length x.c]
def tmV(x:Tm):Value:=.agg #[.int .u64 x.e,.slice x.A x.l.length x.c]
def Db(L:List Tm):List Value:=L.flatMap tmC
theorem Sk(L:List Tm):(Db L).length=L.length*2:=by
 unfold Db;induction L with
 | nil=>rfl
 | cons d l ih=>rw[BM,AA,ih,AI,show(tmC d).length=2 from rfl];omega
theorem Me:∀(L:List Tm) (i j:Nat),i<L.length->j<2->(Db L)[i*2+j]?=(tmC (L.getD i Tm.zero))[j]?
 | [],i,j,h,_=>absurd h (DQ _)
 | d::l,0,j,_,hj=>by
  unfold Db;rw[BM,FL,BR,BI (by rw[show(tmC d).length=2 from rfl];exact hj)];rfl
 | d::l,i+1,j,h,hj=>by
  unfold Db;rw[BM,BD (by rw[show(tmC d).length=2 from rfl];omega),show(i+1)*2+j-(tmC d).length=i*2+j by rw[show(tmC d).length=2 from rfl];omega];exact Me l i j (EC h) hj
theorem Jb(L M:List Tm):Db (L++M)=Db L++Db M:=CS
theorem bD(L:List Tm):∀u∈Db L,u.oneCell'=true:=by
 intro u hu;obtain⟨d,_,h⟩:=DH.1 hu;simp only[tmC,AZ,CU,or_false]at h;rcases h with rfl|rfl<;>rfl
structure Tin (w:World) (A:Option Addr) (c:Nat) (L:List Tm):Prop where
 sl:Sl w 2 A L.length c (Db L)
 ls:∀x∈L,Sl w 1 x.A x.l.length x.c (wds x.l)
section
variable{w w':World}{A:Option Addr}{c:Nat}{L:List Tm}
theorem Tin.ext(h:Tin w A c L)(x:Ext w w'):Tin w' A c L:=⟨h.sl.ext x,fun y hy=>(h.ls y hy).ext x⟩
theorem Tin.nil(w:World):Tin w none 0 []:=⟨Sl.nil w 2,fun x hx=>(nomatch hx)⟩
theorem Tin.at(h:Tin w A c L){i:Nat}(hi:i<L.length):∃ad,A=some ad/\w.cell? (ad.add (i*2))=some (.int .u64 (L.getD i Tm.zero).e)/\w.cell? ⟨(ad.add (i*2)).block,(ad.add (i*2)).off+1,none⟩=some (.slice (L.getD i Tm.zero).A (L.getD i Tm.zero).l.length (L.getD i Tm.zero).c):=
 Hw h.sl hi (show tmC (L.getD i Tm.zero)=[.int .u64 (L.getD i Tm.zero).e,.slice (L.getD i Tm.zero).A (L.getD i Tm.zero).l.length (L.getD i Tm.zero).c]from rfl) (fun q hq=>Me L i q hi hq)
end
theorem Bj{L:List Tm}{i:Nat}(h:i<L.length):L.getD i Tm.zero∈L:=by
 rw[AB,AC h];exact BP h
theorem Nk{L:List Tm}{i:Nat}(h:i<L.length):(L.map Tm.v)[i]'(by rw[AN];exact h)=(L.getD i Tm.zero).v:=by
 rw[List.getElem_map,AB,AC h];rfl
theorem Gv:Gj Tryz.prog 27 26 2 32 (.agg #[.int .u64 0,.slice none 0 0]):=⟨by kernel_rfl,by kernel_rfl,rfl,by decide⟩
structure Ev (w:World) (B:Nat) (A:Option Addr) (c:Nat) (L:List Tm):Prop where
 own:Own w B 26 2 A L.length c (Db L)
 ls:∀x∈L,Own w B 180 1 x.A x.l.length x.c (wds x.l)/\∀k,blk x.A x.c=some k->blk A c≠some k
 apart:L.Pairwise fun x y=>∀k,blk x.A x.c=some k->blk y.A y.c≠some k
section
variable{w w':World}{B:Nat}{A:Option Addr}{c:Nat}{L:List Tm}
theorem Ev.ext(h:Ev w B A c L)(x:Ext w w'):Ev w' B A c L:=⟨h.own.ext x,fun y hy=>⟨(h.ls y hy).1.ext x,(h.ls y hy).2⟩,h.apart⟩
theorem Ev.mono(h:Ev w B A c L){B':Nat}(hb:B'<=B):Ev w B' A c L:=⟨h.own.mono hb,fun y hy=>⟨(h.ls y hy).1.mono hb,(h.ls y hy).2⟩,h.apart⟩
theorem Ev.tin(h:Ev w B A c L):Tin w A c L:=⟨h.own.sl,fun x hx=>(h.ls x hx).1.sl⟩
theorem Ev.nil(w:World)(B:Nat):Ev w B none 0 []:=⟨Own.nil _ _ _ _,fun x hx=>(nomatch hx),List.Pairwise.nil⟩
end
open Go.ChangeShapes Go.WideShapes Go.ChangeAt Go.RowKit Go.WideElems
section
variable{H:Type}{enc:TypeId×Value->H}{W:World}
theorem zV{α:Type}{l:List α}(h:l.length=2):∃a b,l=[a,b]:=by
 match l,h with
 | [a,b],_=>exact⟨a,b,rfl⟩
theorem vI:Tryz.prog.cellsOf 23=1:=by kernel_rfl
theorem vG:Tryz.prog.cellsOf 24=1:=by kernel_rfl
theorem Xw:Tryz.prog.cellsOf 26=2:=by kernel_rfl
structure aT (x:Tm):Prop where
 u:U32 x.l
 e:0<=x.e/\x.e<=18446744073709551615
theorem Nr{fuel:Nat}{cs:List Value}{y:DataW H×List MemPlace}(h:DataW.trod enc Tryz.prog W 0 (fun _=>true) true fuel 26 cs=some y) :
  ∃x:Tm,cs=tmC x/\Sl W 1 x.A x.l.length x.c (wds x.l)/\aT x:=by
 obtain⟨y0,y1,n,_,hl,h0,h1⟩:=Go.ChangeShapes.trod_struct2 Tryz.underlying26 h;rw[Xw]at hl;obtain⟨c0,c1,rfl⟩:=zV hl;have g0:DataW.trod enc Tryz.prog W 0 (fun _=>true) true n 23 [c0]=some y0:=by
  have:DataW.trod enc Tryz.prog W 0 (fun _=>true) true n 23 (([c0,c1].drop 0).take (Tryz.prog.cellsOf 23))=some y0:=h0;rw[vI]at this;exact this
 have g1:DataW.trod enc Tryz.prog W 0 (fun _=>true) true n 24 [c1]=some y1:=by
  have:DataW.trod enc Tryz.prog W 0 (fun _=>true) true n 24 (([c0,c1].drop 1).take (Tryz.prog.cellsOf 24))=some y1:=h1;rw[vG]at this;exact this
 obtain⟨k,e0,_,w0⟩:=DataW.trod_int Tryz.underlying23 g0;obtain⟨A,m,c,l,rfl,hs,hu⟩:=iV g1;obtain rfl:c0=.int .u64 k:=by simpa using e0
 have hm:=hs.wlen;subst hm;exact⟨⟨k,A,c,l⟩,rfl,hs,⟨hu,yB w0⟩⟩
theorem fB{fuel:Nat}{cs:List Value}{y:DataW H×List MemPlace}(h:DataW.trod enc Tryz.prog W 0 (fun _=>true) true fuel 27 cs=some y) :
  ∃A c L,cs=[.slice A (List.length L) c]/\Tin W A c L/\∀x∈L,aT x:=by
 rcases EN Tryz.underlying27 h with ⟨hcs,_⟩|⟨a,n,c,m,fu,D,Pl,hcs,_,hnc,hcm,hm,_,hx⟩
 ·exact⟨none,0,[],hcs,Tin.nil W,fun x hx=>(nomatch hx)⟩
 ·rw[Xw]at hx;have hmn:n<=m:=by rw[hm];split<;>omega
  obtain⟨F,hF⟩:=FY (α:=Tm) (n:=n) (p:=fun i d=>(∀j,j<2->W.cell? (a.add (i*2+j))=(tmC d)[j]?)/\Sl W 1 d.A d.l.length d.c (wds d.l)/\aT d) (fun i hi=>by
   obtain⟨cs',h1,h2⟩:=hx i (by omega);obtain⟨_,_,h3⟩:=FG h1;obtain⟨d,rfl,h4⟩:=Nr h2;exact⟨d,fun j hj=>by rw[<-Hn];exact h3 j hj,h4⟩)
  have hlen:((List.range n).map F).length=n:=by simp
  have hmem:∀d∈(List.range n).map F,Sl W 1 d.A d.l.length d.c (wds d.l)/\aT d:=fun d hd=>by
   obtain⟨i,hi,rfl⟩:=AW.1 hd;exact(hF i (DM.1 hi)).2
  refine⟨some a,c,(List.range n).map F,by rw[hlen];exact hcs,⟨⟨by rw[Sk],by rw[hlen];exact hnc,hcm,(fun h=>nomatch h),fun _=>⟨a,rfl,fun j u hu=>?_⟩⟩,fun d hd=>(hmem d hd).1⟩,fun d hd=>(hmem d hd).2⟩;have hj:j<n*2:=by
   rcases DP j (n*2)with q|q
   ·exact q
   ·rw[DJ (by rw[Sk,hlen];exact q)]at hu;cases hu
  have e:j=j / 2*2+j % 2:=by omega
  rw[e,Me _ _ _ (by rw[hlen];omega) (by omega)]at hu;have e2:((List.range n).map F).getD (j / 2) Tm.zero=F (j / 2):=by
   rw[AB,CI,FR (by omega)];rfl
  rw[e2]at hu;rw[e,(hF (j / 2) (by omega)).1 (j % 2) (by omega)];exact hu
end
open Go.ChangeShapes Go.WideShapes Go.ChangeAt Go.RowKit Go.WideElems
theorem tQ{H:Type}(d:DataW H):1<=Rows.uptoBulk d:=by
 cases d with
 | lit l=>cases l<;>simp[Rows.uptoBulk]
 | nil=>simp[Rows.uptoBulk]
 | ptr d=>simp[Rows.uptoBulk]
 | slice elems spare=>simp[Rows.uptoBulk]
 | agg parts=>simp[Rows.uptoBulk]
 | iface t d=>simp[Rows.uptoBulk]
 | map entries=>simp[Rows.uptoBulk]
 | held h=>simp[Rows.uptoBulk]
theorem Gx{H:Type}{d:DataW H}:∀{l:List (DataW H)},d∈l->Rows.uptoBulk d<=Rows.uptoBulkAll l
 | x::r,h=>by
  simp only[Rows.uptoBulkAll];rcases AZ.1 h with rfl|h
  ·omega
  ·have:=Gx h;omega
theorem dA{H:Type}:∀l:List (DataW H),l.length<=Rows.uptoBulkAll l
 | []=>AE _
 | x::r=>by
  have:=tQ x;have:=dA r;simp only[Rows.uptoBulkAll,AI];omega
theorem Tx{H:Type}{enc:TypeId×Value->H}{W:World}{sp:Nat->Bool}{held:Bool}{t e:TypeId}{fuel n c:Nat}{A:Option Addr}{y:DataW H×List MemPlace}(ht:Tryz.prog.underlying t=some (.slice e))(h:DataW.trod enc Tryz.prog W 0 sp held fuel t [.slice A n c]=some y):n<=Rows.uptoBulk y.1:=by
 rcases EN ht h with ⟨hcs,_⟩|⟨a,n',c',m,fu,D,Pl,hcs,_,hnc,hcm,hm,hy,hx⟩
 ·have e:(Value.slice A n c)=.slice none 0 0:=by injection hcs
  injection e with _ e _;omega
 ·have e:(Value.slice A n c)=.slice (some a) n' c':=by injection hcs
  injection e with _ e _;subst e;have:=dA ((List.range n).map D);rw[AN,List.length_range]at this;rw[hy];show n<=Rows.uptoBulk (DataW.slice ((List.range n).map D) ((List.range (m-n)).map fun j=>D (n+j)));simp only[Rows.uptoBulk];omega
def Ih(s:ByteArray):Bool:=Lib.validD s.data.toList
structure Good (w:World):Prop where
 valid:∀(s:ByteArray) (W:World),s.size<=9223372036854775807->Ext w W->Calls Tryz.prog 248 #[.string s] W fun e w'=>e=.returned (.bool (Ih s))/\Ext W w'
theorem Good.ext{w w':World}(h:Good w)(x:Ext w w'):Good w':=⟨fun s W hs hx=>h.valid s W hs (x.trans hx)⟩
theorem Wi(s:ByteArray)(w:World)(hs:s.size<=9223372036854775807)(g:Good w) :
  Calls Tryz.prog 248 #[.string s] w fun e w'=>e=.returned (.bool (Ih s))/\Ext w w':=g.valid s w hs (Ext.refl w)
end Go.Proofs.YtdgbkpoickbidaaGreatDoor
namespace Go.Proofs
open Go.Shelf
def Tryz.laysValid_ren:Go.Shelf.Ren:=⟨fun|196=>248|259=>278|n=>n,fun|9=>9|4=>4|3=>3|5=>5|12=>12|119=>332|0=>0|46=>267|139=>335|138=>334|53=>23|n=>n,fun|3=>0|4=>1|n=>n⟩
theorem Tryz.laysValid:Go.Proofs.Lays.n196 Tryz.prog Tryz.laysValid_ren:={
 mixed:=by kernel_rfl
 f196:=Tryz.func248.trans (congrArg some (by kernel_rfl))
 f259:=Tryz.func278.trans (congrArg some (by kernel_rfl))
 t0:=Tryz.underlying0
 a0:=Tryz.isAgg0
 z0:=Tryz.sizeOf0
 v0:=Tryz.zeroValue0
 t3:=Tryz.underlying3
 a3:=Tryz.isAgg3
 z3:=Tryz.sizeOf3
 v3:=Tryz.zeroValue3
 t4:=Tryz.underlying4
 a4:=Tryz.isAgg4
 z4:=Tryz.sizeOf4
 v4:=Tryz.zeroValue4
 t5:=Tryz.underlying5
 a5:=Tryz.isAgg5
 z5:=Tryz.sizeOf5
 v5:=Tryz.zeroValue5
 t9:=Tryz.underlying9
 a9:=Tryz.isAgg9
 z9:=Tryz.sizeOf9
 v9:=Tryz.zeroValue9
 t12:=Tryz.underlying12
 a12:=Tryz.isAgg12
 z12:=Tryz.sizeOf12
 v12:=Tryz.zeroValue12
 t46:=Tryz.underlying267
 a46:=Tryz.isAgg267
 z46:=Tryz.sizeOf267
 v46:=Tryz.zeroValue267
 t53:=Tryz.underlying23
 a53:=Tryz.isAgg23
 z53:=Tryz.sizeOf23
 v53:=Tryz.zeroValue23
 t119:=Tryz.underlying332
 a119:=Tryz.isAgg332
 z119:=Tryz.sizeOf332
 t138:=Tryz.underlying334
 a138:=Tryz.isAgg334
 z138:=Tryz.sizeOf334
 v138:=Tryz.zeroValue334
 t139:=Tryz.underlying335
 a139:=Tryz.isAgg335
 z139:=Tryz.sizeOf335
 v139:=Tryz.zeroValue335
 g3:=by kernel_rfl
 g4:=by kernel_rfl }
end Go.Proofs
namespace Go.Proofs.YtdgbkpoickbidaaGreatDoor
open Go.ChangeShapes Go.WideShapes Go.ChangeAt Go.RowKit Go.WideElems
theorem Yv{n:Int}(h:(Lit.int .i64 n).wf=true) : -9223372036854775808<=n/\n<=9223372036854775807:=by
 simpa [Lit.wf,IntKind.min,IntKind.max,IntKind.signed,IntKind.bits] using h
theorem xI{n:Int}(h:(Lit.int .u8 n).wf=true):0<=n/\n<=255:=by
 simpa [Lit.wf,IntKind.min,IntKind.max,IntKind.signed,IntKind.bits] using h
theorem qK:U8Extra Tryz.prog Tryz.laysValid_ren:=⟨by kernel_rfl,by kernel_rfl,by kernel_rfl,by kernel_rfl,by kernel_rfl,by kernel_rfl,by kernel_rfl⟩
theorem sP:Rows.laid_unicode_utf8_first=Lib.firstData:=by kernel_rfl
theorem oI:(Rows.laid_unicode_utf8_acceptRanges:DataW Unit)=Lib.acceptData:=by kernel_rfl
theorem good_of{W:World}{l:List (String×DataW Unit)}(h:laidMet Tryz.prog l W)(h1:("unicode/utf8.first",Rows.laid_unicode_utf8_first)∈l)(h2:("unicode/utf8.acceptRanges",Rows.laid_unicode_utf8_acceptRanges)∈l):Good W:=by
 have a:=Lib.laidMet.reads h h1;have b:=Lib.laidMet.reads h h2;rw[sP]at a;rw[oI]at b;have t:=utf8Tabs_of_readsT (U8Types.of196 Tryz.laysValid) qK a b;exact⟨fun s W' hs x=>Any.utf8_ValidString Tryz.laysValid s W' hs (Utf8Tabs_below t x)⟩
section
variable{H:Type}{enc:TypeId×Value->H}{W:World}
end
theorem jN{a b:Int}(h:a=b):Ending.returned (.int .u16 a)=.returned (.int .u16 b):=by rw[h]
def oR(k:Int)(b:Bool)(n:Int)(s:ByteArray):Bool :=
 decide ((k=1\/k=2\/k=3\/k=4)/\(k≠2->b=false)/\(k≠3->n=0)/\(k≠4->s=⟨#[]⟩))
def Hs(k:Int)(b:Bool)(n:Int)(s:ByteArray):Int :=
 if oR k b n s then (if Ih s then (if 1000<s.size then 12 else 0) else 13) else 13
theorem Az{k n:Int}{b:Bool}{s:ByteArray}(h:¬((k=1\/k=2\/k=3\/k=4)/\(k≠2->b=false)/\(k≠3->n=0)/\(k≠4->s=⟨#[]⟩))):Hs k b n s=13:=by
 unfold Hs oR;rw[if_neg (by rw[decide_eq_true_iff];exact h)]
theorem Fl{k n:Int}{b:Bool}{s:ByteArray}(h:(k=1\/k=2\/k=3\/k=4)/\(k≠2->b=false)/\(k≠3->n=0)/\(k≠4->s=⟨#[]⟩)):Hs k b n s=if Ih s then (if 1000<s.size then 12 else 0) else 13:=by
 unfold Hs oR;rw[if_pos (by rw[decide_eq_true_iff];exact h)]
theorem Fm:Ih ⟨#[]⟩=true:=rfl
theorem Id{s:ByteArray}:s.toList=[]↔s=⟨#[]⟩:=by
 rw[FU];constructor
 ·intro h;obtain⟨d⟩:=s;obtain⟨l⟩:=d;simp at h;rw[h]
 ·rintro rfl;rfl
theorem Nm(w:World)(g:Good w):Calls Tryz.prog 248 #[.string ⟨#[]⟩] w fun e w'=>e=.returned (.bool true)/\Ext w w':=Wi ⟨#[]⟩ w (by simp[ByteArray.size]) g
theorem aM(b:Bool)(n:Int)(s:ByteArray)(hn:¬n=0)(w:World):Calls Tryz.prog 211 #[.agg #[.int .u8 2,.bool b,.int .i64 n,.string s]] w fun e w'=>e=.returned (.int .u16 13)/\Ext w w':=by
 go_enter Tryz.func211,Tryz.ntmps211;go_wp2_with fail
 all_goals go_ret
 all_goals exact⟨rfl,((Ext.refl w).alloc _).alloc _⟩
theorem aL(b:Bool)(s:ByteArray)(hs:¬s=⟨#[]⟩)(w:World):Calls Tryz.prog 211 #[.agg #[.int .u8 2,.bool b,.int .i64 0,.string s]] w fun e w'=>e=.returned (.int .u16 13)/\Ext w w':=by
 have hz:¬s.toList=[]:=fun h=>hs (Id.1 h);have hz2:s.toList.isEmpty=false:=by simpa using hz
 clear hs;go_enter Tryz.func211,Tryz.ntmps211;go_wp2_with fail
 all_goals go_ret
 all_goals exact⟨rfl,((Ext.refl w).alloc _).alloc _⟩
theorem fF(n:Int)(s:ByteArray)(w:World):Calls Tryz.prog 211 #[.agg #[.int .u8 3,.bool true,.int .i64 n,.string s]] w fun e w'=>e=.returned (.int .u16 13)/\Ext w w':=by
 go_enter Tryz.func211,Tryz.ntmps211;go_wp2_with fail
 all_goals go_ret
 all_goals exact⟨rfl,((Ext.refl w).alloc _).alloc _⟩
theorem fE(n:Int)(s:ByteArray)(hs:¬s=⟨#[]⟩)(w:World):Calls Tryz.prog 211 #[.agg #[.int .u8 3,.bool false,.int .i64 n,.string s]] w fun e w'=>e=.returned (.int .u16 13)/\Ext w w':=by
 have hz:¬s.toList=[]:=fun h=>hs (Id.1 h);have hz2:s.toList.isEmpty=false:=by simpa using hz
 clear hs;go_enter Tryz.func211,Tryz.ntmps211;go_wp2_with fail
 all_goals go_ret
 all_goals exact⟨rfl,((Ext.refl w).alloc _).alloc _⟩
theorem aG(n:Int)(s:ByteArray)(w:World):Calls Tryz.prog 211 #[.agg #[.int .u8 4,.bool true,.int .i64 n,.string s]] w fun e w'=>e=.returned (.int .u16 13)/\Ext w w':=by
 go_enter Tryz.func211,Tryz.ntmps211;go_wp2_with fail
 all_goals go_ret
 all_goals exact⟨rfl,((Ext.refl w).alloc _).alloc _⟩
theorem aF(n:Int)(s:ByteArray)(hn:¬n=0)(w:World):Calls Tryz.prog 211 #[.agg #[.int .u8 4,.bool false,.int .i64 n,.string s]] w fun e w'=>e=.returned (.int .u16 13)/\Ext w w':=by
 go_enter Tryz.func211,Tryz.ntmps211;go_wp2_with fail
 all_goals go_ret
 all_goals exact⟨rfl,((Ext.refl w).alloc _).alloc _⟩
theorem aJ(n:Int)(s:ByteArray)(w:World):Calls Tryz.prog 211 #[.agg #[.int .u8 1,.bool true,.int .i64 n,.string s]] w fun e w'=>e=.returned (.int .u16 13)/\Ext w w':=by
 go_enter Tryz.func211,Tryz.ntmps211;go_wp2_with fail
 all_goals go_ret
 all_goals exact⟨rfl,((Ext.refl w).alloc _).alloc _⟩
theorem aI(n:Int)(s:ByteArray)(hn:¬n=0)(w:World):Calls Tryz.prog 211 #[.agg #[.int .u8 1,.bool false,.int .i64 n,.string s]] w fun e w'=>e=.returned (.int .u16 13)/\Ext w w':=by
 go_enter Tryz.func211,Tryz.ntmps211;go_wp2_with fail
 all_goals go_ret
 all_goals exact⟨rfl,((Ext.refl w).alloc _).alloc _⟩
theorem aH(s:ByteArray)(hs:¬s=⟨#[]⟩)(w:World):Calls Tryz.prog 211 #[.agg #[.int .u8 1,.bool false,.int .i64 0,.string s]] w fun e w'=>e=.returned (.int .u16 13)/\Ext w w':=by
 have hz:¬s.toList=[]:=fun h=>hs (Id.1 h);have hz2:s.toList.isEmpty=false:=by simpa using hz
 clear hs;go_enter Tryz.func211,Tryz.ntmps211;go_wp2_with fail
 all_goals go_ret
 all_goals exact⟨rfl,((Ext.refl w).alloc _).alloc _⟩
theorem fD(k:Int)(b:Bool)(n:Int)(s:ByteArray)(w:World)(h1:¬k=1)(h2:¬k=2)(h3:¬k=3)(h4:¬k=4):Calls Tryz.prog 211 #[.agg #[.int .u8 k,.bool b,.int .i64 n,.string s]] w fun e w'=>e=.returned (.int .u16 13)/\Ext w w':=by
 have q1:(k==1)=false:=by simpa using h1
 have q2:(k==2)=false:=by simpa using h2
 have q3:(k==3)=false:=by simpa using h3
 have q4:(k==4)=false:=by simpa using h4
 go_enter Tryz.func211,Tryz.ntmps211;go_wp2_with fail
 all_goals go_ret
 all_goals exact⟨rfl,((Ext.refl w).alloc _).alloc _⟩
theorem Vy(b:Bool)(w:World)(g:Good w):Calls Tryz.prog 211 #[.agg #[.int .u8 2,.bool b,.int .i64 0,.string ⟨#[]⟩]] w fun e w'=>e=.returned (.int .u16 0)/\Ext w w':=by
 go_enter Tryz.func211,Tryz.ntmps211;go_wp2_with (refine(Nm _ (g.ext (((Ext.refl w).alloc _).alloc _))).mono ?_;rintro e w1 ⟨rfl,x1⟩;have b0:=((Bk.new w 204 #[.int .u8 2,.bool b,.int .i64 0,.string ⟨#[]⟩]).alloc (.cells #[.int .u8 2,.bool false,.int .i64 0,.string ⟨#[]⟩] 204)).ext x1;have b3:w1.cell? ⟨w.heap.size,3,none⟩=some (.string ⟨#[]⟩):=b0.cell 3)
 go_ret;exact⟨rfl,(((Ext.refl w).alloc _).alloc _).trans x1⟩
theorem aK(n:Int)(w:World)(g:Good w):Calls Tryz.prog 211 #[.agg #[.int .u8 3,.bool false,.int .i64 n,.string ⟨#[]⟩]] w fun e w'=>e=.returned (.int .u16 0)/\Ext w w':=by
 go_enter Tryz.func211,Tryz.ntmps211;go_wp2_with (refine(Nm _ (g.ext (((Ext.refl w).alloc _).alloc _))).mono ?_;rintro e w1 ⟨rfl,x1⟩;have b0:=((Bk.new w 204 #[.int .u8 3,.bool false,.int .i64 n,.string ⟨#[]⟩]).alloc (.cells #[.int .u8 3,.bool false,.int .i64 0,.string ⟨#[]⟩] 204)).ext x1;have b3:w1.cell? ⟨w.heap.size,3,none⟩=some (.string ⟨#[]⟩):=b0.cell 3)
 go_ret;exact⟨rfl,(((Ext.refl w).alloc _).alloc _).trans x1⟩
theorem Vx(w:World)(g:Good w):Calls Tryz.prog 211 #[.agg #[.int .u8 1,.bool false,.int .i64 0,.string ⟨#[]⟩]] w fun e w'=>e=.returned (.int .u16 0)/\Ext w w':=by
 go_enter Tryz.func211,Tryz.ntmps211;go_wp2_with (refine(Nm _ (g.ext (((Ext.refl w).alloc _).alloc _))).mono ?_;rintro e w1 ⟨rfl,x1⟩;have b0:=((Bk.new w 204 #[.int .u8 1,.bool false,.int .i64 0,.string ⟨#[]⟩]).alloc (.cells #[.int .u8 1,.bool false,.int .i64 0,.string ⟨#[]⟩] 204)).ext x1;have b3:w1.cell? ⟨w.heap.size,3,none⟩=some (.string ⟨#[]⟩):=b0.cell 3)
 go_ret;exact⟨rfl,(((Ext.refl w).alloc _).alloc _).trans x1⟩
theorem Vw(s:ByteArray)(w:World)(hs:s.size<=9223372036854775807)(g:Good w):Calls Tryz.prog 211 #[.agg #[.int .u8 4,.bool false,.int .i64 0,.string s]] w fun e w'=>e=.returned (.int .u16 (if Ih s then (if 1000<s.size then 12 else 0) else 13))/\Ext w w':=by
 obtain⟨v,hv⟩:∃v,Ih s=v:=⟨_,rfl⟩;have hc:=Wi s;rw[hv]at hc ⊢;have HC:=hid hc;clear hc hv;cases v
 ·go_enter Tryz.func211,Tryz.ntmps211;go_wp2_with (refine(HC.out _ hs (g.ext (((Ext.refl w).alloc _).alloc _))).mono ?_;rintro e w1 ⟨rfl,x1⟩)
  go_ret;exact⟨rfl,(((Ext.refl w).alloc _).alloc _).trans x1⟩
 ·by_cases hl:1000<s.size
  ·go_enter Tryz.func211,Tryz.ntmps211;go_wp2_with (refine(HC.out _ hs (g.ext (((Ext.refl w).alloc _).alloc _))).mono ?_;rintro e w1 ⟨rfl,x1⟩;have b0:=((Bk.new w 204 #[.int .u8 4,.bool false,.int .i64 0,.string s]).alloc (.cells #[.int .u8 4,.bool false,.int .i64 0,.string ⟨#[]⟩] 204)).ext x1;have b3:w1.cell? ⟨w.heap.size,3,none⟩=some (.string s):=b0.cell 3)
   go_ret;exact⟨jN (by simp),(((Ext.refl w).alloc _).alloc _).trans x1⟩
  ·go_enter Tryz.func211,Tryz.ntmps211;go_wp2_with (refine(HC.out _ hs (g.ext (((Ext.refl w).alloc _).alloc _))).mono ?_;rintro e w1 ⟨rfl,x1⟩;have b0:=((Bk.new w 204 #[.int .u8 4,.bool false,.int .i64 0,.string s]).alloc (.cells #[.int .u8 4,.bool false,.int .i64 0,.string ⟨#[]⟩] 204)).ext x1;have b3:w1.cell? ⟨w.heap.size,3,none⟩=some (.string s):=b0.cell 3)
   go_ret;exact⟨jN (by simp),(((Ext.refl w).alloc _).alloc _).trans x1⟩
theorem oA(k:Int)(b:Bool)(n:Int)(s:ByteArray)(w:World)(hs:s.size<=9223372036854775807)(g:Good w) :
  Calls Tryz.prog 211 #[.agg #[.int .u8 k,.bool b,.int .i64 n,.string s]] w fun e w'=>e=.returned (.int .u16 (Hs k b n s))/\Ext w w':=by
 by_cases h2:k=2
 ·subst h2;by_cases hn:n=0
  ·subst hn;by_cases hz:s=⟨#[]⟩
   ·subst hz;rw[Fl (by simp),Fm];exact Vy b w g
   ·rw[Az (by simp[hz])];exact aL b s hz w
  ·rw[Az (by simp[hn])];exact aM b n s hn w
 by_cases h3:k=3
 ·subst h3;cases b
  ·by_cases hz:s=⟨#[]⟩
   ·subst hz;rw[Fl (by simp),Fm];exact aK n w g
   ·rw[Az (by simp[hz])];exact fE n s hz w
  ·rw[Az (by simp)];exact fF n s w
 by_cases h4:k=4
 ·subst h4;cases b
  ·by_cases hn:n=0
   ·subst hn;rw[Fl (by simp)];exact Vw s w hs g
   ·rw[Az (by simp[hn])];exact aF n s hn w
  ·rw[Az (by simp)];exact aG n s w
 by_cases h1:k=1
 ·subst h1;cases b
  ·by_cases hn:n=0
   ·subst hn;by_cases hz:s=⟨#[]⟩
    ·subst hz;rw[Fl (by simp),Fm];exact Vx w g
    ·rw[Az (by simp[hz])];exact aH s hz w
   ·rw[Az (by simp[hn])];exact aI n s hn w
  ·rw[Az (by simp)];exact aJ n s w
 ·rw[Az (by simp[h1,h2,h3,h4])];exact fD k b n s w h1 h2 h3 h4
structure Dat where
 k:Int
 b:Bool
 n:Int
 s:ByteArray
def Dat.zero:Dat:=⟨0,false,0,⟨#[]⟩⟩
def Dat.check(d:Dat):Int:=Hs d.k d.b d.n d.s
def Ff(x y:Int):Int:=if x<y then -1 else if y<x then 1 else 0
theorem Ga{x y:Int}(h:x<y):Ff x y = -1:=by unfold Ff;rw[if_pos h]
theorem Hy{x y:Int}(h:y<x):Ff x y=1:=by unfold Ff;rw[if_neg (by omega),if_pos h]
theorem Ie(x:Int):Ff x x=0:=by unfold Ff;rw[if_neg (by omega),if_neg (by omega)]
theorem St(x:Int)(w:World):Calls Tryz.prog 279 #[.int .u8 x] w fun e w'=>e=.returned (.bool false)/\w=w':=by
 have h:(x != x)=false:=by simp
 go_enter Tryz.func279,Tryz.ntmps279;go_wp2;go_ret;exact⟨rfl,rfl⟩
theorem aC(x y:Int)(w:World):Calls Tryz.prog 250 #[.int .u8 x,.int .u8 y] w fun e w'=>e=.returned (.int .i64 (Ff x y))/\w=w':=by
 rcases DK x y with h|h|h
 ·rw[Ga h];go_enter Tryz.func250,Tryz.ntmps250;go_wp2_with (go_at_call 279;refine(St _ _).mono ?_;rintro e w1 ⟨rfl,rfl⟩)
  go_ret;exact⟨rfl,rfl⟩
 ·subst h;rw[Ie];go_enter Tryz.func250,Tryz.ntmps250;go_wp2_with (go_at_call 279;refine(St _ _).mono ?_;rintro e w1 ⟨rfl,rfl⟩)
  go_ret;exact⟨rfl,rfl⟩
 ·rw[Hy h];go_enter Tryz.func250,Tryz.ntmps250;go_wp2_with (go_at_call 279;refine(St _ _).mono ?_;rintro e w1 ⟨rfl,rfl⟩)
  go_ret;exact⟨rfl,rfl⟩
theorem Tf(x:Int)(w:World):Calls Tryz.prog 235 #[.int .i64 x] w fun e w'=>e=.returned (.bool false)/\w=w':=by
 have h:(x != x)=false:=by simp
 go_enter Tryz.func235,Tryz.ntmps235;go_wp2;go_ret;exact⟨rfl,rfl⟩
theorem aB(x y:Int)(w:World):Calls Tryz.prog 205 #[.int .i64 x,.int .i64 y] w fun e w'=>e=.returned (.int .i64 (Ff x y))/\w=w':=by
 rcases DK x y with h|h|h
 ·rw[Ga h];go_enter Tryz.func205,Tryz.ntmps205;go_wp2_with (go_at_call 235;refine(Tf _ _).mono ?_;rintro e w1 ⟨rfl,rfl⟩)
  go_ret;exact⟨rfl,rfl⟩
 ·subst h;rw[Ie];go_enter Tryz.func205,Tryz.ntmps205;go_wp2_with (go_at_call 235;refine(Tf _ _).mono ?_;rintro e w1 ⟨rfl,rfl⟩)
  go_ret;exact⟨rfl,rfl⟩
 ·rw[Hy h];go_enter Tryz.func205,Tryz.ntmps205;go_wp2_with (go_at_call 235;refine(Tf _ _).mono ?_;rintro e w1 ⟨rfl,rfl⟩)
  go_ret;exact⟨rfl,rfl⟩
theorem Yp(x:Int)(w:World):Calls Tryz.prog 280 #[.int .i64 x] w fun e w'=>e=.returned (.bool false)/\w=w':=by
 have h:(x != x)=false:=by simp
 go_enter Tryz.func280,Tryz.ntmps280;go_wp2;go_ret;exact⟨rfl,rfl⟩
theorem fA(x y:Int)(w:World):Calls Tryz.prog 252 #[.int .i64 x,.int .i64 y] w fun e w'=>e=.returned (.int .i64 (Ff x y))/\w=w':=by
 rcases DK x y with h|h|h
 ·rw[Ga h];go_enter Tryz.func252,Tryz.ntmps252;go_wp2_with (go_at_call 280;refine(Yp _ _).mono ?_;rintro e w1 ⟨rfl,rfl⟩)
  go_ret;exact⟨rfl,rfl⟩
 ·subst h;rw[Ie];go_enter Tryz.func252,Tryz.ntmps252;go_wp2_with (go_at_call 280;refine(Yp _ _).mono ?_;rintro e w1 ⟨rfl,rfl⟩)
  go_ret;exact⟨rfl,rfl⟩
 ·rw[Hy h];go_enter Tryz.func252,Tryz.ntmps252;go_wp2_with (go_at_call 280;refine(Yp _ _).mono ?_;rintro e w1 ⟨rfl,rfl⟩)
  go_ret;exact⟨rfl,rfl⟩
def Ng(x y:ByteArray):Int:=if Op.bytesLess x.toList y.toList then -1 else if x.toList==y.toList then 0 else 1
theorem jR(x:ByteArray)(w:World):Calls Tryz.prog 281 #[.string x] w fun e w'=>e=.returned (.bool false)/\w=w':=by
 go_enter Tryz.func281,Tryz.ntmps281;go_wp2;go_ret;exact⟨rfl,rfl⟩
theorem eZ(x y:ByteArray)(w:World):Calls Tryz.prog 253 #[.string x,.string y] w fun e w'=>e=.returned (.int .i64 (Ng x y))/\w=w':=by
 unfold Ng;cases h1:Op.bytesLess x.toList y.toList
 ·cases h2:(x.toList==y.toList);all_goals
   go_enter Tryz.func253,Tryz.ntmps253;go_wp2_with (go_at_call 281;refine(jR _ _).mono ?_;rintro e w1 ⟨rfl,rfl⟩)
   go_ret;exact⟨Bu (by simp),rfl⟩
 ·go_enter Tryz.func253,Tryz.ntmps253;go_wp2_with (go_at_call 281;refine(jR _ _).mono ?_;rintro e w1 ⟨rfl,rfl⟩)
  go_ret;exact⟨Bu (by simp),rfl⟩
end Go.Proofs.YtdgbkpoickbidaaGreatDoor
