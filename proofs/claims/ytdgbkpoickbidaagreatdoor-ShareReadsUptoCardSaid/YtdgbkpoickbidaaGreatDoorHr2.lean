/- The plain law of StampOrder: times of one depth are ordered in part, with least and greatest bounds. The plain law of a stable sort. Times as values; antichains: which lists they are. Plain. append, once more: it stays where it was, or nothing that was there has turned. The Book's lists: what it means that each has memory of its own; what stays under writes to some blocks. What is new memory, from where to where; lists of lists out of such. Lists of times in memory. What comes in: lists of times. How much a reading holds. Worlds in which the library's functions that read tables answer as their contracts say. Contracts of library functions at this seat, laid by a tool of the kit. What comes in at this seat: data, texts, integers; and that the tables which are laid make the library's functions answer. datum.Check: what it answers of any datum. A datum, field by field. cmp.Compare at kinds, ints and numbers: what they answer. Conditions: each theorem states its own. -/
import Derived.Test.YtdgbkpoickbidaaGreatDoorHr1
import Derived.Deep.Slices
import Derived.Test.YtdgbkpoickbidaaGreatDoorProg
import Derived.Lib.ValidU
import Derived.Shelf.Unicode.ValidAny
import Derived.Ground.NamesProg
import Derived.Lib.LaidU8T
import Derived.Lib.IndexBytes
namespace Go.Proofs.YtdgbkpoickbidaaGreatDoor

theorem leq_iff (e1:Int) (l1:List Int) (e2:Int) (l2:List Int):leqT e1 l1 e2 l2=true↔l1.length=l2.length∧e1≤e2 ∧ ∀ k,k<l1.length→l1.getD k 0≤l2.getD k 0:=by
 unfold leqT
 exact decide_eq_true_iff
theorem leq_refl (e:Int) (l:List Int):leqT e l e l=true:=(leq_iff _ _ _ _).2 ⟨rfl,Int.le_refl _,fun _ _=>Int.le_refl _⟩
theorem leq_trans {e1 e2 e3:Int} {l1 l2 l3:List Int} (h:leqT e1 l1 e2 l2=true) (k:leqT e2 l2 e3 l3=true):leqT e1 l1 e3 l3=true:=by
 rw [leq_iff] at *
 obtain ⟨a1,a2,a3⟩:=h
 obtain ⟨b1,b2,b3⟩:=k
 exact ⟨by omega,by omega,fun i hi=>Int.le_trans (a3 i hi) (b3 i (by omega))⟩
theorem lex_le : ∀ (l m:List Int),l.length=m.length→(∀ k,k<l.length→l.getD k 0≤m.getD k 0)→lexT l m≤0
 | [],[],_,_=>Int.le_refl _
 | [],_ :: _,h,_=>by simp at h
 | _ :: _,[],h,_=>by simp at h
 | x :: l,y :: m,h,hh=>by
  have h0:x≤y:=by simpa using hh 0 (by simp)
  have hr:=lex_le l m (by simpa using h) (fun k hk=>by simpa using hh (k+1) (by simpa using hk))
  unfold lexT
  split
  ·exact hr
  ·unfold cmpT
   split
   ·omega
   ·split<;>omega
theorem lex_zero : ∀ (l m:List Int),lexT l m=0→l=m
 | [],[],_=>rfl
 | [],_ :: _,h=>by simp [lexT] at h
 | _ :: _,[],h=>by simp [lexT] at h
 | x :: l,y :: m,h=>by
  unfold lexT at h
  by_cases hc:cmpT x y=0
  ·rw [if_pos hc] at h
   rw [cmpT_zero.1 hc,lex_zero l m h]
  ·rw [if_neg hc] at h
   exact absurd h hc
theorem lex_self : ∀ l:List Int,lexT l l=0
 | []=>rfl
 | x :: l=>by
  unfold lexT
  rw [if_pos (cmpT_self x)]
  exact lex_self l

theorem cmp_zero {e1 e2:Int} {l1 l2:List Int}:cmpTT e1 l1 e2 l2=0↔e1=e2∧l1=l2:=by
 constructor
 ·intro h
  unfold cmpTT orT at h
  by_cases h1:cmpT (l1.length:Int) l2.length=0
  ·rw [if_pos h1] at h
   by_cases h2:cmpT e1 e2=0
   ·rw [if_pos h2] at h
    exact ⟨cmpT_zero.1 h2,lex_zero _ _ h⟩
   ·rw [if_neg h2] at h
    exact absurd h h2
  ·rw [if_neg h1] at h
   exact absurd h h1
 ·rintro ⟨rfl,rfl⟩
  simp [cmpTT,orT,cmpT_self,lex_self]
theorem cmp_le {e1 e2:Int} {l1 l2:List Int} (h:leqT e1 l1 e2 l2=true):cmpTT e1 l1 e2 l2≤0:=by
 obtain ⟨a1,a2,a3⟩:=(leq_iff _ _ _ _).1 h
 unfold cmpTT orT
 rw [a1,cmpT_self,if_pos rfl]
 split
 ·exact lex_le _ _ a1 a3
 ·unfold cmpT
  split
  ·omega
  ·split<;>omega
theorem getD_ext' {l1 l2:List Int} (hl:l1.length=l2.length) (h : ∀ k,k<l1.length→l1.getD k 0=l2.getD k 0):l1=l2:=(getD_ext hl).1 h
theorem cmp_both {e1 e2:Int} {l1 l2:List Int}:(leqT e1 l1 e2 l2=true∧leqT e2 l2 e1 l1=true)↔cmpTT e1 l1 e2 l2=0:=by
 rw [cmp_zero]
 constructor
 ·rintro ⟨h,k⟩
  rw [leq_iff] at h k
  obtain ⟨a1,a2,a3⟩:=h
  obtain ⟨b1,b2,b3⟩:=k
  exact ⟨by omega,getD_ext' a1 fun i hi=>Int.le_antisymm (a3 i hi) (b3 i (by omega))⟩
 ·rintro ⟨rfl,rfl⟩
  exact ⟨leq_refl _ _,leq_refl _ _⟩

theorem zip_getD (g:Int→Int→Int) (l1 l2:List Int) (k:Nat) (h1:k<l1.length) (h2:k<l2.length):(List.zipWith g l1 l2).getD k 0=g (l1.getD k 0) (l2.getD k 0):=by
 simp [List.getD_eq_getElem?_getD,List.getElem?_zipWith,List.getElem?_eq_getElem h1,List.getElem?_eq_getElem h2]
theorem join_up1 {e1 e2:Int} {l1 l2:List Int} (hl:l1.length=l2.length):leqT e1 l1 (max e1 e2) (List.zipWith max l1 l2)=true :=
 (leq_iff _ _ _ _).2 ⟨by simp;omega,by omega,fun k hk=>by rw [zip_getD _ _ _ _ hk (by omega)];omega⟩
theorem join_up2 {e1 e2:Int} {l1 l2:List Int} (hl:l1.length=l2.length):leqT e2 l2 (max e1 e2) (List.zipWith max l1 l2)=true :=
 (leq_iff _ _ _ _).2 ⟨by simp;omega,by omega,fun k hk=>by rw [zip_getD _ _ _ _ (by omega) hk];omega⟩
theorem meet_low1 {e1 e2:Int} {l1 l2:List Int} (hl:l1.length=l2.length):leqT (min e1 e2) (List.zipWith min l1 l2) e1 l1=true :=
 (leq_iff _ _ _ _).2 ⟨by simp;omega,by omega,fun k hk=>by simp at hk;rw [zip_getD _ _ _ _ (by omega) (by omega)];omega⟩
theorem meet_low2 {e1 e2:Int} {l1 l2:List Int} (hl:l1.length=l2.length):leqT (min e1 e2) (List.zipWith min l1 l2) e2 l2=true :=
 (leq_iff _ _ _ _).2 ⟨by simp;omega,by omega,fun k hk=>by simp at hk;rw [zip_getD _ _ _ _ (by omega) (by omega)];omega⟩
theorem join_least {e1 e2 e3:Int} {l1 l2 l3:List Int} (hl:l1.length=l2.length):leqT (max e1 e2) (List.zipWith max l1 l2) e3 l3=(leqT e1 l1 e3 l3&&leqT e2 l2 e3 l3):=by
 rw [Bool.eq_iff_iff,Bool.and_eq_true]
 constructor
 ·intro h
  exact ⟨leq_trans (join_up1 hl) h,leq_trans (join_up2 hl) h⟩
 ·rintro ⟨h,k⟩
  rw [leq_iff] at *
  obtain ⟨a1,a2,a3⟩:=h
  obtain ⟨b1,b2,b3⟩:=k
  refine ⟨by simp;omega,by omega,fun i hi=>?_⟩
  simp at hi
  rw [zip_getD _ _ _ _ (by omega) (by omega)]
  have:=a3 i (by omega)
  have:=b3 i (by omega)
  omega
theorem meet_greatest {e1 e2 e3:Int} {l1 l2 l3:List Int} (hl:l1.length=l2.length):leqT e3 l3 (min e1 e2) (List.zipWith min l1 l2)=(leqT e3 l3 e1 l1&&leqT e3 l3 e2 l2):=by
 rw [Bool.eq_iff_iff,Bool.and_eq_true]
 constructor
 ·intro h
  exact ⟨leq_trans h (meet_low1 hl),leq_trans h (meet_low2 hl)⟩
 ·rintro ⟨h,k⟩
  rw [leq_iff] at *
  obtain ⟨a1,a2,a3⟩:=h
  obtain ⟨b1,b2,b3⟩:=k
  refine ⟨by simp;omega,by omega,fun i hi=>?_⟩
  rw [zip_getD _ _ _ _ (by omega) (by omega)]
  have:=a3 i (by omega)
  have:=b3 i (by omega)
  omega
open Go.RowKit
structure TotPre {α:Type} (cmp:α→α→Int):Prop where
 neg : ∀ x y,cmp x y = -cmp y x
 trans : ∀ x y z,cmp x y≤0→cmp y z≤0→cmp x z≤0
section
variable {α:Type} {cmp:α→α→Int}
theorem TotPre.refl (h:TotPre cmp) (x:α):cmp x x=0:=by have:=h.neg x x;omega
theorem TotPre.lt_of_lt_le (h:TotPre cmp) {x y z:α} (h1:cmp x y<0) (h2:cmp y z≤0):cmp x z<0:=by
 have a:=h.trans x y z (by omega) h2
 rcases Int.lt_or_eq_of_le a with q | q
 ·exact q
 ·have b:=h.trans y z x h2 (by rw [h.neg,q];decide)
  rw [h.neg] at b
  omega
theorem TotPre.lt_of_le_lt (h:TotPre cmp) {x y z:α} (h1:cmp x y≤0) (h2:cmp y z<0):cmp x z<0:=by
 have a:=h.trans x y z h1 (by omega)
 rcases Int.lt_or_eq_of_le a with q | q
 ·exact q
 ·have b:=h.trans z x y (by rw [h.neg,q];decide) h1
  rw [h.neg] at b
  omega
theorem TotPre.eq_trans (h:TotPre cmp) {x y z:α} (h1:cmp x y=0) (h2:cmp y z=0):cmp x z=0:=by
 have a:=h.trans x y z (by omega) (by omega)
 have b:=h.trans z y x (by rw [h.neg,h2];decide) (by rw [h.neg,h1];decide)
 rw [h.neg] at b
 omega
theorem TotPre.eq_left (h:TotPre cmp) {x y z:α} (h1:cmp x y=0):cmp x z=0↔cmp y z=0 :=
 ⟨fun q=>h.eq_trans (by rw [h.neg,h1];rfl) q,fun q=>h.eq_trans h1 q⟩
/-- those alike x -/
def alike (cmp:α→α→Int) (x:α) (l:List α):List α:=l.filter fun y=>cmp x y==0
/-- m is l, sorted, those that are alike in their order -/
structure Stable (cmp:α→α→Int) (l m:List α):Prop where
 sorted:m.Pairwise fun x y=>cmp x y≤0
 same : ∀ x,alike cmp x m=alike cmp x l
theorem Stable.nil:Stable cmp [] ([]:List α):=⟨List.Pairwise.nil,fun _=>rfl⟩
theorem Stable.one (x:α):Stable cmp [x] [x]:=⟨List.pairwise_singleton _ _,fun _=>rfl⟩
theorem alike_append (x:α) (l m:List α):alike cmp x (l++m)=alike cmp x l++alike cmp x m:=List.filter_append _ _
/-- what is sorted twice -/
theorem Stable.trans {l m n:List α} (h:Stable cmp l m) (k:Stable cmp m n):Stable cmp l n:=⟨k.sorted,fun x=>(k.same x).trans (h.same x)⟩
/-- parts that are sorted by themselves, then together -/
theorem Stable.join {l1 l2 m1 m2 n:List α} (h1:Stable cmp l1 m1) (h2:Stable cmp l2 m2) (h:Stable cmp (m1++m2) n):Stable cmp (l1++l2) n :=
 ⟨h.sorted,fun x=>by rw [h.same,alike_append,alike_append,h1.same,h2.same]⟩
theorem Stable.mem (T:TotPre cmp) {l m:List α} (h:Stable cmp l m) (x:α):x∈m↔x∈l:=by
 have e:=h.same x
 have key : ∀ n:List α,x∈alike cmp x n↔x∈n:=fun n=>by
  unfold alike
  rw [List.mem_filter]
  exact ⟨fun q=>q.1,fun q=>⟨q,by rw [beq_iff_eq];exact T.refl x⟩⟩
 rw [← key m, ← key l,e]
/-- one more, put into its place -/
theorem Stable.insert (T:TotPre cmp) {l s1 s2:List α} {x:α} (h:Stable cmp l (s1++s2)) (h2 : ∀ y∈s2,cmp x y<0) (h1 : ∀ y,s1.getLast?=some y → ¬ cmp x y<0):Stable cmp (l++[x]) (s1++x :: s2):=by
 have hs:=List.pairwise_append.1 h.sorted
 have hx : ∀ y∈s1,cmp y x≤0:=by
  intro y hy
  rcases List.eq_nil_or_concat s1 with rfl | ⟨t,z,rfl⟩
  ·cases hy
  ·rw [List.concat_eq_append] at hy hs h1
   have hz:cmp z x≤0:=by
    have:=h1 z (by simp)
    rw [T.neg]
    omega
   rcases List.mem_append.1 hy with q | q
   ·exact T.trans y z x ((List.pairwise_append.1 hs.1).2.2 y q z (by simp)) hz
   ·simp only [List.mem_singleton] at q
    subst q
    exact hz
 refine ⟨List.pairwise_append.2 ⟨hs.1,List.pairwise_cons.2 ⟨fun y hy=>Int.le_of_lt (h2 y hy),hs.2.1⟩,fun y hy z hz=>?_⟩,fun c=>?_⟩
 ·rcases List.mem_cons.1 hz with rfl | hz
  ·exact hx y hy
  ·exact hs.2.2 y hy z hz
 ·have e0:alike cmp c (l++[x])=(alike cmp c s1++alike cmp c s2)++alike cmp c [x]:=by rw [alike_append, ← h.same c,alike_append]
  rw [e0,alike_append]
  by_cases hc:cmp c x=0
  ·have e2:alike cmp c s2=[]:=by
    unfold alike
    rw [List.filter_eq_nil_iff]
    intro y hy q
    have q':cmp c y=0:=by simpa using q
    have:=h2 y hy
    have:=(T.eq_left hc).1 q'
    omega
   have e3:alike cmp c (x :: s2)=[x]:=by
    show List.filter _ (x :: s2)=_
    rw [List.filter_cons_of_pos (by simpa using hc)]
    show x :: alike cmp c s2=_
    rw [e2]
   have e4:alike cmp c [x]=[x]:=by
    show List.filter _ [x]=_
    rw [List.filter_cons_of_pos (by simpa using hc)]
    rfl
   rw [e3,e2,e4,List.append_nil]
  ·have e3 : ∀ t:List α,alike cmp c (x :: t)=alike cmp c t:=fun t=>by
    show List.filter _ (x :: t)=_
    rw [List.filter_cons_of_neg (by simpa using hc)]
    rfl
   rw [e3,e3]
   show _=_++[]
   rw [List.append_nil]
/-- there is one such list alone -/
theorem Stable.unique (T:TotPre cmp) : ∀ {m n l:List α},Stable cmp l m→Stable cmp l n→m=n
 | [],[],_,_,_=>rfl
 | [],y :: n,l,h,k=>absurd ((h.mem T y).2 ((k.mem T y).1 (List.mem_cons_self ..))) (List.not_mem_nil)
 | x :: m,[],l,h,k=>absurd ((k.mem T x).2 ((h.mem T x).1 (List.mem_cons_self ..))) (List.not_mem_nil)
 | x :: m,y :: n,l,h,k=>by
  have hxy:cmp x y≤0:=by
   have:y∈x :: m:=(h.mem T y).2 ((k.mem T y).1 (List.mem_cons_self ..))
   rcases List.mem_cons.1 this with rfl | q
   ·rw [T.refl];decide
   ·exact (List.pairwise_cons.1 h.sorted).1 y q
  have hyx:cmp y x≤0:=by
   have:x∈y :: n:=(k.mem T x).2 ((h.mem T x).1 (List.mem_cons_self ..))
   rcases List.mem_cons.1 this with rfl | q
   ·rw [T.refl];decide
   ·exact (List.pairwise_cons.1 k.sorted).1 x q
  have h0:cmp x y=0:=by rw [T.neg] at hyx;omega
  have e:alike cmp x (x :: m)=alike cmp x (y :: n):=(h.same x).trans (k.same x).symm
  have e1:alike cmp x (x :: m)=x :: alike cmp x m:=by
   show List.filter _ (x :: m)=_
   rw [List.filter_cons_of_pos (by simpa using T.refl x)]
   rfl
  have e2:alike cmp x (y :: n)=y :: alike cmp x n:=by
   show List.filter _ (y :: n)=_
   rw [List.filter_cons_of_pos (by simpa using h0)]
   rfl
  rw [e1,e2] at e
  injection e with e3 _
  subst e3
  have hm:Stable cmp m m:=⟨(List.pairwise_cons.1 h.sorted).2,fun _=>rfl⟩
  have hn:Stable cmp m n:=⟨(List.pairwise_cons.1 k.sorted).2,fun c=>by
   have q:alike cmp c (x :: m)=alike cmp c (x :: n):=(h.same c).trans (k.same c).symm
   unfold alike at q ⊢
   by_cases hc:cmp c x=0
   ·rw [List.filter_cons_of_pos (by simpa using hc),List.filter_cons_of_pos (by simpa using hc)] at q
    injection q with _ q
    exact q.symm
   ·rw [List.filter_cons_of_neg (by simpa using hc),List.filter_cons_of_neg (by simpa using hc)] at q
    exact q.symm⟩
  rw [Stable.unique T hm hn]
end
end Go.Proofs.YtdgbkpoickbidaaGreatDoor
namespace Go.Proofs.YtdgbkpoickbidaaGreatDoor

abbrev TV:=Int × List Int
def tcmp (x y:TV):Int:=cmpTT x.1 x.2 y.1 y.2
def tleq (x y:TV):Bool:=leqT x.1 x.2 y.1 y.2
theorem cmpT_neg (x y:Int):cmpT y x = -cmpT x y:=by
 unfold cmpT
 repeat' split
 all_goals omega
theorem cmpT_pos {x y:Int}:cmpT x y<0↔x<y:=by
 unfold cmpT
 repeat' split
 all_goals omega
theorem lexT_neg : ∀ l m:List Int,lexT m l = -lexT l m
 | [],[]=>rfl
 | [],_ :: _=>rfl
 | _ :: _,[]=>rfl
 | x :: l,y :: m=>by
  simp only [lexT]
  rw [cmpT_neg x y]
  by_cases h:cmpT x y=0
  ·rw [if_pos (by omega),if_pos h];exact lexT_neg l m
  ·rw [if_neg (by omega),if_neg h]
theorem lexT_trans : ∀ l m n:List Int,lexT l m≤0→lexT m n≤0→lexT l n≤0
 | [],[],n,_,h=>h
 | [],_ :: _,[],_,h=>by simp [lexT] at h
 | [],_ :: _,_ :: _,_,_=>by simp [lexT]
 | _ :: _,[],_,h,_=>by simp [lexT] at h
 | _ :: _,_ :: _,[],_,h=>by simp [lexT] at h
 | x :: l,y :: m,z :: n,h,k=>by
  simp only [lexT] at h k ⊢
  by_cases h1:cmpT x y=0
  ·have e:=cmpT_zero.1 h1
   subst e
   rw [if_pos h1] at h
   by_cases h2:cmpT x z=0
   ·rw [if_pos h2] at k ⊢
    exact lexT_trans l m n h k
   ·rw [if_neg h2] at k ⊢
    exact k
  ·rw [if_neg h1] at h
   have l1:x<y:=cmpT_pos.1 (by omega)
   by_cases h2:cmpT y z=0
   ·have e:=cmpT_zero.1 h2
    subst e
    rw [if_neg h1]
    exact h
   ·rw [if_neg h2] at k
    have l2:y<z:=cmpT_pos.1 (by omega)
    have l3:cmpT x z<0:=cmpT_pos.2 (by omega)
    rw [if_neg (by omega)]
    omega
theorem orT_le {a b c:Int}:orT a b c≤0↔a<0∨(a=0∧(b<0∨(b=0∧c≤0))):=by
 unfold orT
 split
 ·split<;>omega
 ·omega
theorem tcmp_neg (x y:TV):tcmp y x = -tcmp x y:=by
 unfold tcmp cmpTT
 rw [cmpT_neg x.2.length,cmpT_neg x.1,lexT_neg x.2]
 unfold orT
 by_cases h1:cmpT x.2.length y.2.length=0
 ·rw [if_pos (by omega),if_pos h1]
  by_cases h2:cmpT x.1 y.1=0
  ·rw [if_pos (by omega),if_pos h2]
  ·rw [if_neg (by omega),if_neg h2]
 ·rw [if_neg (by omega),if_neg h1]
theorem tcmp_trans (x y z:TV) (h:tcmp x y≤0) (k:tcmp y z≤0):tcmp x z≤0:=by
 unfold tcmp cmpTT at h k ⊢
 rw [orT_le] at h k ⊢
 rw [cmpT_pos,cmpT_zero,cmpT_pos,cmpT_zero] at h k ⊢
 rcases h with h | ⟨h1,h | ⟨h2,h3⟩⟩<;>rcases k with k | ⟨k1,k | ⟨k2,k3⟩⟩
 ·exact .inl (by omega)
 ·exact .inl (by omega)
 ·exact .inl (by omega)
 ·exact .inl (by omega)
 ·exact .inr ⟨by omega, .inl (by omega)⟩
 ·exact .inr ⟨by omega, .inl (by omega)⟩
 ·exact .inl (by omega)
 ·exact .inr ⟨by omega, .inl (by omega)⟩
 ·exact .inr ⟨by omega, .inr ⟨by omega,lexT_trans _ _ _ h3 k3⟩⟩
theorem tcmp_zero {x y:TV}:tcmp x y=0↔x=y:=by
 unfold tcmp
 rw [cmp_zero]
 exact ⟨fun h=>Prod.ext h.1 h.2,fun h=>by rw [h];exact ⟨rfl,rfl⟩⟩
theorem tcmp_lt_trans {x y z:TV} (h:tcmp x y<0) (k:tcmp y z≤0):tcmp x z<0:=by
 have h1:=tcmp_trans x y z (by omega) k
 rcases Int.lt_or_eq_of_le h1 with h2 | h2
 ·exact h2
 ·have e:=tcmp_zero.1 h2
  subst e
  have:=tcmp_neg x y
  omega
theorem tleq_refl (x:TV):tleq x x=true:=leq_refl _ _
theorem tleq_trans {x y z:TV} (h:tleq x y=true) (k:tleq y z=true):tleq x z=true:=leq_trans h k
theorem tleq_cmp {x y:TV} (h:tleq x y=true):tcmp x y≤0:=cmp_le h
theorem tleq_anti {x y:TV} (h:tleq x y=true) (k:tleq y x=true):x=y:=tcmp_zero.1 (cmp_both.1 ⟨h,k⟩)

/-! ### lists that rise -/
def Rising (l:List TV):Prop:=l.Pairwise fun x y=>tcmp x y<0
theorem rising_ext : ∀ {a b:List TV},Rising a→Rising b→(∀ x,x∈a↔x∈b)→a=b
 | [],[],_,_,_=>rfl
 | [],y :: b,_,_,h=>by have:=(h y).2 (by simp);simp at this
 | x :: a,[],_,_,h=>by have:=(h x).1 (by simp);simp at this
 | x :: a,y :: b,ha,hb,h=>by
  unfold Rising at ha hb
  rw [List.pairwise_cons] at ha hb
  have e:x=y:=by
   have h1:x∈y :: b:=(h x).1 (by simp)
   have h2:y∈x :: a:=(h y).2 (by simp)
   rcases List.mem_cons.1 h1 with h1 | h1
   ·exact h1
   ·rcases List.mem_cons.1 h2 with h2 | h2
    ·exact h2.symm
    ·have q1:=hb.1 x h1
     have q2:=ha.1 y h2
     have:=tcmp_neg x y
     omega
  subst e
  rw [rising_ext ha.2 hb.2 (fun z=>by
   constructor
   ·intro hz
    rcases List.mem_cons.1 ((h z).1 (List.mem_cons_of_mem _ hz)) with e | e
    ·have:=ha.1 z hz
     rw [e,tcmp_zero.2 rfl] at this
     omega
    ·exact e
   ·intro hz
    rcases List.mem_cons.1 ((h z).2 (List.mem_cons_of_mem _ hz)) with e | e
    ·have:=hb.1 z hz
     rw [e,tcmp_zero.2 rfl] at this
     omega
    ·exact e)]
theorem filter_len_le {α:Type} {p q:α→Bool} (h : ∀ z,p z=true→q z=true) : ∀ l:List α,(l.filter p).length≤(l.filter q).length
 | []=>Nat.le_refl _
 | x :: l=>by
  have ih:=filter_len_le h l
  rw [List.filter_cons,List.filter_cons]
  by_cases hp:p x=true
  ·rw [if_pos hp,if_pos (h x hp)];simpa using ih
  ·rw [if_neg hp]
   split
   ·exact Nat.le_succ_of_le ih
   ·exact ih
theorem filter_less {α:Type} {p q:α→Bool} (h : ∀ z,p z=true→q z=true) {a:α} : ∀ {l:List α},a∈l→p a=false→q a=true→(l.filter p).length<(l.filter q).length
 | x :: l,ha,hp,hq=>by
  rw [List.filter_cons,List.filter_cons]
  rcases List.mem_cons.1 ha with rfl | ha
  ·rw [if_neg (by rw [hp];decide),if_pos hq]
   exact Nat.lt_succ_of_le (filter_len_le h l)
  ·have ih:=filter_less h ha hp hq
   by_cases hx:p x=true
   ·rw [if_pos hx,if_pos (h x hx)];simpa using ih
   ·rw [if_neg hx]
    split
    ·exact Nat.lt_succ_of_lt ih
    ·exact ih
/-- a time of the list that none of the list is ahead of -/
def Least (L:List TV) (v:TV):Prop:=v∈L ∧ ∀ u∈L,tleq u v=true→u=v
theorem least_below : ∀ (n:Nat) (L:List TV) (v:TV),(L.filter fun u=>decide (tcmp u v<0)).length≤n→v∈L → ∃ m,Least L m∧tleq m v=true
 | n,L,v,hn,hv=>by
  by_cases h : ∃ u∈L,tleq u v=true∧u≠v
  ·obtain ⟨u,hu,huv,hne⟩:=h
   have hlt:tcmp u v<0:=by
    have:=tleq_cmp huv
    have h0:tcmp u v≠0:=fun e=>hne (tcmp_zero.1 e)
    omega
   have hlen:(L.filter fun z=>decide (tcmp z u<0)).length<(L.filter fun z=>decide (tcmp z v<0)).length:=by
    have hsub : ∀ z,decide (tcmp z u<0)=true→decide (tcmp z v<0)=true:=fun z hz=>by
     rw [decide_eq_true_iff] at hz ⊢
     exact tcmp_lt_trans hz (by omega)
    exact filter_less hsub hu (by rw [tcmp_zero.2 rfl];decide) (by rw [decide_eq_true_iff];exact hlt)
   match n,hn with
   | 0,hn=>omega
   | n+1,hn =>
    obtain ⟨m,h1,h2⟩:=least_below n L u (by omega) hu
    exact ⟨m,h1,tleq_trans h2 huv⟩
  ·refine ⟨v,⟨hv,fun u hu huv=>?_⟩,tleq_refl v⟩
   by_cases e:u=v
   ·exact e
   ·exact absurd ⟨u,hu,huv,e⟩ h
/-- M is the antichain of L -/
structure IsOf (L M:List TV):Prop where
 rising:Rising M
 mem : ∀ v,v∈M↔Least L v
theorem IsOf.unique {L M N:List TV} (h:IsOf L M) (k:IsOf L N):M=N:=rising_ext h.rising k.rising fun v=>(h.mem v).trans (k.mem v).symm
theorem Least.congr {L L':List TV} (h : ∀ v,v∈L↔v∈L') (v:TV):Least L v↔Least L' v :=
 ⟨fun q=>⟨(h v).1 q.1,fun u hu=>q.2 u ((h u).2 hu)⟩,fun q=>⟨(h v).2 q.1,fun u hu=>q.2 u ((h u).1 hu)⟩⟩
theorem IsOf.congr {L L' M:List TV} (h : ∀ v,v∈L↔v∈L') (k:IsOf L M):IsOf L' M:=⟨k.rising,fun v=>(k.mem v).trans (Least.congr h v)⟩
/-- beyond -/
def beyondV (M:List TV) (t:TV):Bool:=M.any fun x=>tleq x t
theorem beyond_iff {M:List TV} {t:TV}:beyondV M t=true ↔ ∃ x∈M,tleq x t=true:=by unfold beyondV;exact List.any_eq_true
/-- what the program has, when it has looked at so many of the sorted list -/
structure OfUpto (L S:List TV) (i:Nat) (M:List TV):Prop where
 rising:Rising M
 mem : ∀ v,v∈M↔Least L v∧v∈S.take i
theorem OfUpto.zero (L S:List TV):OfUpto L S 0 []:=⟨List.Pairwise.nil,fun v=>by simp⟩
theorem take_mem_succ {α:Type} {l:List α} {i:Nat} (h:i<l.length) (v:α):v∈l.take (i+1)↔v∈l.take i∨v=l[i]:=by
 rw [List.take_succ_eq_append_getElem h,List.mem_append,List.mem_singleton]
theorem OfUpto.skip {L S M:List TV} {i:Nat} (h:OfUpto L S i M) (hi:i<S.length) (hb:beyondV M S[i]=true):OfUpto L S (i+1) M:=by
 refine ⟨h.rising,fun v=>⟨fun hv=>?_,fun ⟨h1,h2⟩=>?_⟩⟩
 ·have:=(h.mem v).1 hv
  exact ⟨this.1,(take_mem_succ hi v).2 (.inl this.2)⟩
 ·rcases (take_mem_succ hi v).1 h2 with h2 | rfl
  ·exact (h.mem v).2 ⟨h1,h2⟩
  ·obtain ⟨x,hx,hxv⟩:=beyond_iff.1 hb
   have q:=(h.mem x).1 hx
   have e:=h1.2 x q.1.1 hxv
   rw [← e]
   exact hx
theorem OfUpto.put {L S M:List TV} {i:Nat} (h:OfUpto L S i M) (hi:i<S.length) (hs:S.Pairwise fun x y=>tcmp x y≤0) (hm : ∀ v,v∈S↔v∈L) (hb:beyondV M S[i]=false):OfUpto L S (i+1) (M++[S[i]]):=by
 have hno : ∀ x∈M,tleq x S[i]=false:=fun x hx=>by
  by_cases e:tleq x S[i]=true
  ·rw [beyond_iff.2 ⟨x,hx,e⟩] at hb;exact absurd hb (by decide)
  ·simpa using e
 have hat : ∀ v,v∈S→tcmp v S[i]<0→v∈S.take i:=fun v hv hlt=>by
  obtain ⟨j,hj,rfl⟩:=List.getElem_of_mem hv
  by_cases hji:j<i
  ·exact List.mem_take_iff_getElem.2 ⟨j,by omega,rfl⟩
  ·exfalso
   rcases Nat.lt_or_eq_of_le (Nat.le_of_not_lt hji) with q | q
   ·have:=List.pairwise_iff_getElem.1 hs i j hi hj q
    have:=tcmp_neg S[i] S[j]
    omega
   ·subst q
    rw [tcmp_zero.2 rfl] at hlt
    omega
 have hti:S[i]∈L:=(hm _).1 (List.getElem_mem hi)
 have hleast:Least L S[i]:=by
  refine ⟨hti,fun u hu huv=>?_⟩
  obtain ⟨m,h1,h2⟩:=least_below _ L u (Nat.le_refl _) hu
  have hmv:=tleq_trans h2 huv
  by_cases e:m=S[i]
  ·exact tleq_anti huv (e ▸ h2)
  ·have hlt:tcmp m S[i]<0:=by
    have:=tleq_cmp hmv
    have h0:tcmp m S[i]≠0:=fun q=>e (tcmp_zero.1 q)
    omega
   have hmM:m∈M:=(h.mem m).2 ⟨h1,hat m ((hm m).2 h1.1) hlt⟩
   rw [hno m hmM] at hmv
   exact absurd hmv (by decide)
 refine ⟨?_,fun v=>⟨fun hv=>?_,fun ⟨h1,h2⟩=>?_⟩⟩
 ·unfold Rising
  refine List.pairwise_append.2 ⟨h.rising,List.pairwise_singleton _ _,fun x hx y hy=>?_⟩
  rw [List.mem_singleton] at hy
  subst hy
  have hxt:=((h.mem x).1 hx).2
  obtain ⟨j,hj,e⟩:=List.mem_take_iff_getElem.1 hxt
  have q:=List.pairwise_iff_getElem.1 hs j i (by omega) hi (by omega)
  rw [e] at q
  have h0:tcmp x S[i]≠0:=fun z=>by
   have e2:=tcmp_zero.1 z
   have:=hno x hx
   rw [e2,tleq_refl] at this
   exact absurd this (by decide)
  omega
 ·rcases List.mem_append.1 hv with hv | hv
  ·have:=(h.mem v).1 hv
   exact ⟨this.1,(take_mem_succ hi v).2 (.inl this.2)⟩
  ·rw [List.mem_singleton] at hv
   subst hv
   exact ⟨hleast,(take_mem_succ hi _).2 (.inr rfl)⟩
 ·rcases (take_mem_succ hi v).1 h2 with h2 | rfl
  ·exact List.mem_append_left _ ((h.mem v).2 ⟨h1,h2⟩)
  ·exact List.mem_append_right _ (by simp)
theorem OfUpto.done {L S M:List TV} (h:OfUpto L S S.length M) (hm : ∀ v,v∈S↔v∈L):IsOf L M :=
 ⟨h.rising,fun v=>by rw [h.mem v,List.take_length,hm];exact ⟨fun q=>q.1,fun q=>⟨q,q.1⟩⟩⟩
/-! ### the antichain as a function -/
def insT (v:TV):List TV→List TV
 | []=>[v]
 | m :: r=>if tcmp v m<0 then v :: m :: r else if tcmp v m=0 then m :: r else m :: insT v r
theorem insT_mem (v x:TV) : ∀ M,x∈insT v M↔x=v∨x∈M
 | []=>by simp [insT]
 | m :: r=>by
  unfold insT
  split
  ·simp
  ·split
   ·rename_i h
    rw [tcmp_zero.1 h]
    simp
   ·simp only [List.mem_cons,insT_mem v x r]
    constructor
    ·rintro (h | h | h)
     ·exact .inr (.inl h)
     ·exact .inl h
     ·exact .inr (.inr h)
    ·rintro (h | h | h)
     ·exact .inr (.inl h)
     ·exact .inl h
     ·exact .inr (.inr h)
theorem insT_rising (v:TV) : ∀ {M},Rising M→Rising (insT v M)
 | [],_=>List.pairwise_singleton _ _
 | m :: r,h=>by
  unfold Rising at h
  obtain ⟨h1,h2⟩:=List.pairwise_cons.1 h
  unfold insT
  split
  ·rename_i hv
   exact List.pairwise_cons.2 ⟨fun y hy=>by
    rcases List.mem_cons.1 hy with rfl | hy
    ·exact hv
    ·exact tcmp_lt_trans hv (by have:=h1 y hy;omega),h⟩
  ·split
   ·exact h
   ·rename_i q1 q2
    have q3:=tcmp_neg m v
    exact List.pairwise_cons.2 ⟨fun y hy=>by
     rcases (insT_mem v y r).1 hy with rfl | hy
     ·omega
     ·exact h1 y hy,insT_rising v h2⟩
instance (L:List TV) (v:TV):Decidable (Least L v):=by unfold Least;exact inferInstance
def ofV (L:List TV):List TV:=(L.filter fun v=>decide (Least L v)).foldr insT []
theorem foldr_ins : ∀ (L:List TV),Rising (L.foldr insT []) ∧ ∀ x,x∈L.foldr insT []↔x∈L
 | []=>⟨List.Pairwise.nil,fun _=>Iff.rfl⟩
 | v :: L=>by
  have ih:=foldr_ins L
  rw [List.foldr_cons]
  refine ⟨insT_rising v ih.1,fun x=>?_⟩
  rw [insT_mem,ih.2 x,List.mem_cons]
theorem ofV_is (L:List TV):IsOf L (ofV L):=by
 have h:=foldr_ins (L.filter fun v=>decide (Least L v))
 refine ⟨h.1,fun v=>?_⟩
 unfold ofV
 rw [h.2 v,List.mem_filter,decide_eq_true_iff]
 exact ⟨fun q=>q.2,fun q=>⟨q.1,q⟩⟩
theorem IsOf.eq {L M:List TV} (h:IsOf L M):M=ofV L:=h.unique (ofV_is L)
open Go.RowKit
theorem run_append_two {P:Program} (w:World) {t ty e size bytes:Nat} {z:Value} (E:Elem P t e size bytes z) (base:Nat)
  (A0:Option Addr) (n c0:Nat) (xs:List Value) (hown:Own w base e size A0 n c0 xs)
  (A:Option Addr) (m c:Nat) (news:List Value) (hr:Sl w size A m c news) (h1 : ∀ u∈news,u.oneCell'=true)
  (hbytes:(n+m) * bytes≤140737488355328) (hb1:0<bytes) (hbase:base≤w.heap.size) :
  ∃ A' c' w',(Builtin.append_ #[t,t] ty #[.slice A0 n c0, .slice A m c]).run P w = .ok (.slice A' (n+m) c') w'∧Own w' base e size A' (n+m) c' (xs++news)∧w.grownBy w' (blk A0 c0) ∧
   ((A'=A0∧c'=c0)∨(blk A' c'=some w.heap.size∧Ext w w')):=by
 obtain ⟨i,hi,hz,hs,hby⟩:=info_parts E.info
 have h63:n+m≤maxLen:=by
  have:n+m≤(n+m) * bytes:=Nat.le_mul_of_pos_right _ hb1
  unfold maxLen;omega
 rcases Nat.eq_zero_or_pos m with hm | hm
 ·subst hm
  have hnews:news=[]:=List.eq_nil_of_length_eq_zero (by simpa using hr.1)
  subst hnews
  exact ⟨_,_,w,run_append_nothing w E A0 n c0 hown.le.1 A c,by simpa using hown,World.grownBy.refl w _, .inl ⟨rfl,rfl⟩⟩
 ·obtain ⟨ad,rfl,hcells⟩:=hr.2.2.2.2 hm
  rcases hown.2 with ⟨rfl,rfl⟩ | ⟨g,cur,rfl,hb,hg,hnc,hcm,hcs,htake⟩
  ·have hx:xs=[]:=List.eq_nil_of_length_eq_zero (by simpa using hown.1)
   subst hx
   have hge:=grownCap_ge w (0+m) 0 e
   have hcm:grownCap w (0+m) 0 e≤maxLen:=grownCap_le_maxLen w (0+m) 0 e h63
   obtain ⟨kk,hk⟩ : ∃ k,grownCap w (0+m) 0 e=k+1:=⟨_,(Nat.succ_pred_eq_of_pos (by omega)).symm⟩
   have hfin:Own (w.drew.alloc (.cells ((#[]:Array Value)++news.toArray++Builtin.zeroCells z.cells (grownCap w (0+m) 0 e - (0+m))) e)) base e size (some ⟨w.heap.size,0,none⟩) (0+m) (grownCap w (0+m) 0 e) ([]++news):=by
    refine ⟨by simpa using hr.1, .inr ⟨w.heap.size,_,rfl,hbase,heap_alloc_new w.drew _,hge,hcm,?_,?_⟩⟩
    ·refine Nat.le_of_eq (Eq.symm ?_)
     simp only [Array.size_append,List.size_toArray,size_zeroCells,E.zsize,hr.1,List.length_nil,Nat.zero_add, ← Nat.add_mul]
     congr 1
     simp only [Nat.zero_add] at hge
     omega
    ·have hlen:([]++news).length=(0+m) * size:=by simpa using hr.1
     simp only [Array.toList_append,List.append_assoc]
     rw [← List.append_assoc, ← hlen]
     exact List.take_left
   cases A0 with
   | none =>
    have hr2:=run_append_nil (P:=P) w t ty e i z E.under hi hz ad m c news (by rw [hs];exact hr.1) hcells hm (by unfold maxLen at h63;omega) (by rw [hby];simp only [Nat.zero_add] at hbytes;omega)
    simp only [Nat.zero_add,List.nil_append,Array.empty_append] at hfin hk ⊢
    refine ⟨_,_,_,hr2,hfin,⟨rfl,rfl,rfl,by simp,fun k hk _=>Below.heap_alloc w.drew _ k hk⟩, .inr ⟨?_,((Ext.refl w).drew).alloc _⟩⟩
    rw [hk];rfl
   | some b =>
    have hr2:=run_append_grow (P:=P) w t ty e i z E.under hi hz b 0 0 [] (by simp) (by simp) ad m c news (by rw [hs];exact hr.1) hcells (by omega) (by unfold maxLen at h63;omega) (by rw [hby];exact growslice_fits (by omega) hbytes)
    refine ⟨_,_,_,hr2,hfin,⟨rfl,rfl,rfl,by simp,fun k hk _=>Below.heap_alloc w.drew _ k hk⟩, .inr ⟨?_,((Ext.refl w).drew).alloc _⟩⟩
    rw [hk];rfl
  ·have hlen:(xs++news).length=(n+m) * size:=by rw [List.length_append,hown.1,hr.1,Nat.add_mul]
   by_cases hroom:n+m≤c0
   ·have hfit:n * i.size+news.length≤cur.size:=by rw [hr.1,hs, ← Nat.add_mul];exact Nat.le_trans (Nat.mul_le_mul_right _ hroom) hcs
    have hr2:=run_append_room (P:=P) w t ty e i E.under hi g n c0 cur hg ad m c news (by rw [hs];exact hr.1) hcells h1 hroom hfit
    refine ⟨_,_,_,hr2,⟨hlen, .inr ⟨g,_,rfl,hb,setRow_heap w g cur _ e _ hg,hroom,hcm,?_,?_⟩⟩,⟨rfl,rfl,rfl,by simp,fun k _ hk=>setRow_other w g k _ (fun e'=>hk (by
     obtain ⟨c1,rfl⟩ : ∃ c1,c0=c1+1:=⟨c0 - 1,by omega⟩
     simp [blk,e']))⟩, .inl ⟨rfl,rfl⟩⟩
    ·simp only [List.size_toArray,List.length_append,List.length_take,List.length_drop,Array.length_toList]
     omega
    ·rw [hs,htake, ← hlen]
     exact List.take_left
   ·have holds : ∀ j u,xs[j]?=some u→w.cell? ((⟨g,0,none⟩:Addr).add j)=some u:=head_cells hg htake
    have hr2:=run_append_grow (P:=P) w t ty e i z E.under hi hz ⟨g,0,none⟩ n c0 xs (by rw [hs];exact hown.1) holds ad m c news (by rw [hs];exact hr.1) hcells (by omega) (by unfold maxLen at h63;omega) (by rw [hby];exact growslice_fits (by omega) hbytes)
    have hge:=grownCap_ge w (n+m) c0 e
    have hcm:grownCap w (n+m) c0 e≤maxLen:=grownCap_le_maxLen w (n+m) c0 e h63
    refine ⟨_,_,_,hr2,⟨hlen, .inr ⟨w.heap.size,_,rfl,hbase,heap_alloc_new w.drew _,hge,hcm,?_,?_⟩⟩,⟨rfl,rfl,rfl,by simp,fun k hk _=>Below.heap_alloc w.drew _ k hk⟩, .inr ⟨?_,((Ext.refl w).drew).alloc _⟩⟩
    ·refine Nat.le_of_eq (Eq.symm ?_)
     simp only [Array.size_append,List.size_toArray,size_zeroCells,E.zsize,hr.1,hown.1, ← Nat.add_mul]
     congr 1
     omega
    ·simp only [Array.toList_append,List.append_assoc]
     rw [← List.append_assoc, ← hlen]
     exact List.take_left
    ·obtain ⟨kk,hk⟩ : ∃ k,grownCap w (n+m) c0 e=k+1:=⟨_,(Nat.succ_pred_eq_of_pos (by omega)).symm⟩
     rw [hk];rfl

theorem wp_append_two {P:Program} (w:World) {o:Oper} {a:Act} {K:Act→World→Prop} {Q:Exit→Act→World→Prop} {t e size bytes:Nat} {z:Value} (E:Elem P t e size bytes z) (base:Nat) (s x:Operand)
  (ho:o.op = .call { callee := .builtin .append,args := #[s,x],argTypes := #[t,t] })
  (A0:Option Addr) (n c0:Nat) (xs:List Value) (hs:a.eval s = .slice A0 n c0) (hown:Own w base e size A0 n c0 xs)
  (A:Option Addr) (m c:Nat) (news:List Value) (hx:a.eval x = .slice A m c) (hr:Sl w size A m c news) (h1 : ∀ u∈news,u.oneCell'=true)
  (hbytes:(n+m) * bytes≤140737488355328) (hb1:0<bytes) (hbase:base≤w.heap.size)
  (h : ∀ A' c' w',Own w' base e size A' (n+m) c' (xs++news)→w.grownBy w' (blk A0 c0)→((A'=A0∧c'=c0)∨(blk A' c'=some w.heap.size∧Ext w w'))→K (a.put o.dst (.slice A' (n+m) c')) w'):o.wp P a w K Q:=by
 obtain ⟨A',c',w',hrun,h2,h3,h4⟩:=run_append_two (P:=P) (ty:=o.type) w E base A0 n c0 xs hown A m c news hr h1 hbytes hb1 hbase
 unfold Oper.wp execOp
 simp only [ho,resolve,invoke,builtin,Sem.run_bind,Sem.run_pure,Result.andThen_ok,List.map_toArray,List.map_cons,List.map_nil,hs,hx,hrun]
 exact h A' c' w' h2 h3 h4

/-- append, in a plain region -/
theorem wpList_append_two {P:Program} (w:World) {ops:Array Oper} {rest:List Oper} {o:Oper} {a:Act} {Q:Exit→Act→World→Prop} {t e size bytes:Nat} {z:Value} (E:Elem P t e size bytes z) (base:Nat) (s x:Operand)
  (ho:o.op = .call { callee := .builtin .append,args := #[s,x],argTypes := #[t,t] }) (hgd:o.guard=none)
  (A0:Option Addr) (n c0:Nat) (xs:List Value) (hs:a.eval s = .slice A0 n c0) (hown:Own w base e size A0 n c0 xs)
  (A:Option Addr) (m c:Nat) (news:List Value) (hx:a.eval x = .slice A m c) (hr:Sl w size A m c news) (h1 : ∀ u∈news,u.oneCell'=true)
  (hbytes:(n+m) * bytes≤140737488355328) (hb1:0<bytes) (hbase:base≤w.heap.size)
  (h : ∀ A' c' w',Own w' base e size A' (n+m) c' (xs++news)→w.grownBy w' (blk A0 c0)→((A'=A0∧c'=c0)∨(blk A' c'=some w.heap.size∧Ext w w'))→wpList P ops Q rest (a.put o.dst (.slice A' (n+m) c')) w'):wpList P ops Q (o :: rest) a w :=
 wpList_plain hgd fun _ hK=>wp_append_two w E base s x ho A0 n c0 xs hs hown A m c news hx hr h1 hbytes hb1 hbase fun A' c' w' h2 h3 h4=>hK _ _ (h A' c' w' h2 h3 h4)

open Go.RowKit
/-! ### writes to some blocks -/
/-- w' is w but for the blocks that S tells, and new ones -/
structure Upd (S:Nat→Prop) (w w':World):Prop where
 os:w'.os=w.os
 tape:w'.tape=w.tape
 output:w'.output=w.output
 size:w.heap.size≤w'.heap.size
 block : ∀ k,k<w.heap.size → ¬ S k→w'.heap[k]?=w.heap[k]?
theorem Upd.refl (S:Nat→Prop) (w:World):Upd S w w:=⟨rfl,rfl,rfl,Nat.le_refl _,fun _ _ _=>rfl⟩
theorem Upd.ext {S:Nat→Prop} {w w':World} (x:Ext w w'):Upd S w w':=⟨Below.os x,Below.tape x,Below.output x,Ext.size x,fun k hk _=>Below.block x k hk⟩
theorem Upd.mono {S T:Nat→Prop} {w w':World} (h:Upd S w w') (hs : ∀ k,k<w.heap.size→S k→T k):Upd T w w':=⟨h.os,h.tape,h.output,h.size,fun k hk hn=>h.block k hk (fun q=>hn (hs k hk q))⟩
theorem Upd.trans {S:Nat→Prop} {a b c:World} (h:Upd S a b) (k:Upd S b c):Upd S a c :=
 ⟨k.os.trans h.os,k.tape.trans h.tape,k.output.trans h.output,Nat.le_trans h.size k.size,fun q hq hn=>(k.block q (Nat.lt_of_lt_of_le hq h.size) hn).trans (h.block q hq hn)⟩
theorem Upd.setCell {S:Nat→Prop} {a w:World} (h:Upd S a w) {p:Addr} (hp:S p.block∨a.heap.size≤p.block) (u:Value):Upd S a (w.setCell p u):=by
 refine ⟨h.os,h.tape,h.output,by simpa using h.size,fun k hk hn=>?_⟩
 rw [Below.heap_setCell _ _ _ _ (fun e=>by
  rcases hp with hp | hp
  ·exact hn (e ▸ hp)
  ·omega)]
 exact h.block k hk hn
theorem Upd.alloc {S:Nat→Prop} {a w:World} (h:Upd S a w) (o:Obj):Upd S a (w.alloc o):=h.trans (Upd.ext ((Ext.refl w).alloc o))
theorem Upd.grown {S:Nat→Prop} {a w w':World} {row:Option Nat} (h:Upd S a w) (g:w.grownBy w' row) (hr : ∀ k,row=some k→S k∨a.heap.size≤k):Upd S a w' :=
 ⟨g.os.trans h.os,g.tape.trans h.tape,g.output.trans h.output,Nat.le_trans h.size g.size,fun k hk hn=>(g.block k (Nat.lt_of_lt_of_le hk h.size) (fun e=>by
  rcases hr k e.symm with q | q
  ·exact hn q
  ·omega)).trans (h.block k hk hn)⟩
theorem cell_of_heap {w w':World} {p:Addr} (h:w'.heap[p.block]?=w.heap[p.block]?):w'.cell? p=w.cell? p:=by unfold World.cell?;rw [h]
theorem Upd.cell {S:Nat→Prop} {w w':World} (h:Upd S w w') {p:Addr} {u:Value} (hn : ¬ S p.block) (hc:w.cell? p=some u):w'.cell? p=some u :=
 (cell_of_heap (h.block p.block (World.block_lt_of_cell? w p hc) hn)).trans hc
theorem Sl.upd {S:Nat→Prop} {w w':World} {size n c:Nat} {A:Option Addr} {xs:List Value} (h:Sl w size A n c xs) (x:Upd S w w') (hn : ∀ k,blk A c=some k → ¬ S k):Sl w' size A n c xs:=by
 refine ⟨h.1,h.2.1,h.2.2.1,h.2.2.2.1,fun h0=>?_⟩
 obtain ⟨ad,rfl,hc⟩:=h.2.2.2.2 h0
 refine ⟨ad,rfl,fun j u hu=>x.cell ?_ (hc j u hu)⟩
 rw [block_add]
 refine hn ad.block ?_
 have:=h.2.1
 cases c with
 | zero=>omega
 | succ c=>rfl
theorem Own.upd {S:Nat→Prop} {w w':World} {B size n c:Nat} {e:TypeId} {A:Option Addr} {xs:List Value} (h:Own w B e size A n c xs) (x:Upd S w w') (hn : ∀ k,blk A c=some k → ¬ S k):Own w' B e size A n c xs:=by
 refine ⟨h.1,?_⟩
 rcases h.2 with hz | ⟨g,cur,rfl,hb,hg,rest⟩
 ·exact .inl hz
 ·cases c with
  | zero =>
   obtain ⟨h1,_⟩:=rest
   exact .inl ⟨rfl,by omega⟩
  | succ c =>
   refine .inr ⟨g,cur,rfl,hb,?_,rest⟩
   rw [x.block g (Array.getElem?_eq_some_iff.1 hg).1 (hn g rfl)]
   exact hg
/-! ### lists of lists -/
/-- a slice's header -/
structure En where
 A:Option Addr
 n:Nat
 c:Nat
def En.v (x:En):Value := .slice x.A x.n x.c
def En.b (x:En):Option Nat:=blk x.A x.c
def En.zero:En:=⟨none,0,0⟩
def ensC (L:List En):List Value:=L.map En.v
theorem ensC_append (L M:List En):ensC (L++M)=ensC L++ensC M:=List.map_append
def ena (L:List En) (i:Nat):En:=L.getD i En.zero
theorem ena_append_old {L:List En} {x:En} {i:Nat} (h:i<L.length):ena (L++[x]) i=ena L i:=by
 unfold ena
 rw [List.getD_eq_getElem?_getD,List.getElem?_append_left h,List.getD_eq_getElem?_getD]
theorem ena_append_new (L:List En) (x:En):ena (L++[x]) L.length=x:=by
 unfold ena
 rw [List.getD_eq_getElem?_getD,List.getElem?_append_right (Nat.le_refl _),Nat.sub_self]
 rfl
section
variable (mk:Int→Nat→List Value) (size:Nat)
/-- so many marks -/
def marks_ (i:Int) (n:Nat):List Value:=(List.range n).flatMap (mk i)
variable {mk size}
theorem marks_zero (i:Int):marks_ mk i 0=[]:=rfl
theorem marks_succ (i:Int) (n:Nat):marks_ mk i (n+1)=marks_ mk i n++mk i n:=by
 unfold marks_
 rw [List.range_succ,List.flatMap_append,List.flatMap_singleton]
theorem marks_len (hs : ∀ i k,(mk i k).length=size) (i:Int) : ∀ n,(marks_ mk i n).length=n * size
 | 0=>by simp [marks_]
 | n+1=>by rw [marks_succ,List.length_append,marks_len hs i n,hs,Nat.succ_mul]
end
/-- the lists, each in a block of its own that lies from B on -/
structure Lists (w:World) (B:Nat) (e:TypeId) (size:Nat) (L:List En) (f:Nat→List Value):Prop where
 own : ∀ i,i<L.length→Own w B e size (ena L i).A (ena L i).n (ena L i).c (f i)
 apart : ∀ i j,i<L.length→j<L.length→i≠j → ∀ k,(ena L i).b=some k→(ena L j).b≠some k
/-- the blocks that the lists lie in -/
def Foot (L:List En) (k:Nat):Prop := ∃ i,i<L.length∧(ena L i).b=some k
theorem Lists.foot_lt {w:World} {B:Nat} {e:TypeId} {size:Nat} {L:List En} {f:Nat→List Value} (h:Lists w B e size L f) {k:Nat} (hk:Foot L k):B≤k∧k<w.heap.size:=by
 obtain ⟨i,hi,hb⟩:=hk
 exact (h.own i hi).lt k hb
theorem Lists.upd {S:Nat→Prop} {w w':World} {B:Nat} {e:TypeId} {size:Nat} {L:List En} {f:Nat→List Value} (h:Lists w B e size L f) (x:Upd S w w') (hn : ∀ k,Foot L k → ¬ S k):Lists w' B e size L f :=
 ⟨fun i hi=>(h.own i hi).upd x (fun k hk=>hn k ⟨i,hi,hk⟩),h.apart⟩
theorem Lists.nil (w:World) (B:Nat) (e:TypeId) (size:Nat) (f:Nat→List Value):Lists w B e size [] f:=⟨fun i hi=>by simp at hi,fun i j hi=>by simp at hi⟩
/-! ### the first phase: marks are written -/
structure Ph1 (mk:Int→Nat→List Value) (w wr:World) (B:Nat) (e:TypeId) (size:Nat) (L:List En) (i:Nat) (f:Nat→List Value):Prop where
 ls:Lists wr B e size L f
 done : ∀ j,j<i→j<L.length→f j=marks_ mk j (ena L j).n
 upd:Upd (Foot L) w wr
/-- within an entry -/
structure Ph1I (mk:Int→Nat→List Value) (w wr:World) (B:Nat) (e:TypeId) (size:Nat) (L:List En) (i k:Nat) (f:Nat→List Value):Prop where
 ph:Ph1 mk w wr B e size L i f
 part:(f i).take (k * size)=marks_ mk i k
theorem Ph1.enter {mk:Int→Nat→List Value} {w wr:World} {B:Nat} {e:TypeId} {size:Nat} {L:List En} {i:Nat} {f:Nat→List Value} (h:Ph1 mk w wr B e size L i f):Ph1I mk w wr B e size L i 0 f:=⟨h,by rw [Nat.zero_mul];rfl⟩
theorem Ph1I.leave {mk:Int→Nat→List Value} {w wr:World} {B:Nat} {e:TypeId} {size:Nat} {L:List En} {i:Nat} {f:Nat→List Value} (h:Ph1I mk w wr B e size L i (ena L i).n f) (hi:i<L.length):Ph1 mk w wr B e size L (i+1) f:=by
 refine ⟨h.ph.ls,fun j hj hjl=>?_,h.ph.upd⟩
 by_cases hij:j<i
 ·exact h.ph.done j hij hjl
 ·have:j=i:=by omega
  subst this
  have hl:=(h.ph.ls.own j hi).1
  have:=h.part
  rwa [← hl,List.take_length] at this
/-- a store into one of the lists -/
theorem Lists.put {w:World} {B:Nat} {e:TypeId} {size:Nat} {L:List En} {f:Nat→List Value} (h:Lists w B e size L f) {i g:Nat} (hi:i<L.length) (hA:(ena L i).A=some ⟨g,0,none⟩) (hc:0<(ena L i).c) (q:Nat) (u:Value) :
  Lists (w.setCell ⟨g,q,none⟩ u) B e size L (fun j=>if j=i then (f i).set q u else f j):=by
 have hb:(ena L i).b=some g:=by
  unfold En.b
  rw [hA]
  generalize (ena L i).c=c at hc
  cases c with
  | zero=>omega
  | succ c=>rfl
 refine ⟨fun j hj=>?_,h.apart⟩
 by_cases hji:j=i
 ·subst hji
  rw [if_pos rfl]
  have o:=h.own j hi
  rw [hA] at o ⊢
  exact o.put q u
 ·rw [if_neg hji]
  exact (h.own j hj).far (p:=⟨g,q,none⟩) (fun e=>h.apart i j hi hj (Ne.symm hji) g hb e) u
theorem set_take {xs:List Value} {k:Nat} (h:k<xs.length) (u:Value):(xs.set k u).take (k+1)=xs.take k++[u]:=by
 rw [List.take_succ_eq_append_getElem (by rw [List.length_set];exact h),List.take_set_of_le (Nat.le_refl k),List.getElem_set_self]
theorem Ph1I.put4 {mk:Int→Nat→List Value} {w wr:World} {B:Nat} {e:TypeId} {L:List En} {i k g:Nat} {f:Nat→List Value} (h:Ph1I mk w wr B e 4 L i k f) (hi:i<L.length) (hk:k<(ena L i).n) (hA:(ena L i).A=some ⟨g,0,none⟩) (hm:(ena L i).b=some g) {u v x y:Value} (hu:mk i k=[u,v,x,y]) :
  ∃ f',Ph1I mk w ((((wr.setCell ⟨g,k * 4,none⟩ u).setCell ⟨g,k * 4+1,none⟩ v).setCell ⟨g,k * 4+2,none⟩ x).setCell ⟨g,k * 4+3,none⟩ y) B e 4 L i (k+1) f':=by
 have hl:=(h.ph.ls.own i hi).1
 have hc:0<(ena L i).c:=by have:=(h.ph.ls.own i hi).le.1;omega
 refine ⟨_,⟨(((h.ph.ls.put hi hA hc (k * 4) u).put hi hA hc (k * 4+1) v).put hi hA hc (k * 4+2) x).put hi hA hc (k * 4+3) y,fun j hj hjl=>?_,(((h.ph.upd.setCell (.inl ⟨i,hi,hm⟩) u).setCell (.inl ⟨i,hi,hm⟩) v).setCell (.inl ⟨i,hi,hm⟩) x).setCell (.inl ⟨i,hi,hm⟩) y⟩,?_⟩
 ·rw [if_neg (by omega),if_neg (by omega),if_neg (by omega),if_neg (by omega)]
  exact h.ph.done j hj hjl
 ·simp only [↓reduceIte]
  rw [show (k+1) * 4=k * 4+3+1 by omega,set_take (by simp only [List.length_set,hl];omega),set_take (by simp only [List.length_set,hl];omega),set_take (by simp only [List.length_set,hl];omega),set_take (by rw [hl];omega),h.part,marks_succ,hu]
  simp
/-! ### the second phase: each grows -/
structure Ph2 (mk:Int→Nat→List Value) (w1 wr:World) (B:Nat) (e T:TypeId) (size:Nat) (L:List En) (i:Nat) (G:List En) (LA:Option Addr) (lc:Nat):Prop where
 len:G.length=i
 lst:Own wr w1.heap.size T 1 LA i lc (ensC G)
 rest : ∀ j,i≤j→j<L.length→Own wr B e size (ena L j).A (ena L j).n (ena L j).c (marks_ mk j (ena L j).n)
 read : ∀ j,j<i→Sl wr size (ena L j).A (ena L j).n (ena L j).c (marks_ mk j (ena L j).n)
 long : ∀ j,j<i→(ena G j).n=(ena L j).n+8∧Own wr B e size (ena G j).A (ena G j).n (ena G j).c (marks_ mk j (ena L j).n++marks_ mk (-1 - j) 8)
 at_ : ∀ j,j<i → ∀ k,(ena G j).b=some k→(ena L j).b=some k∨(w1.heap.size≤k∧blk LA lc≠some k)
 foot : ∀ k,Foot L k→k<w1.heap.size
 apart : ∀ i j,i<L.length→j<L.length→i≠j → ∀ k,(ena L i).b=some k→(ena L j).b≠some k
 upd:Upd (Foot L) w1 wr
theorem Ph2.start {mk:Int→Nat→List Value} {w wr:World} {B:Nat} {e:TypeId} {size:Nat} {L:List En} {f:Nat→List Value} (T:TypeId) (h:Ph1 mk w wr B e size L L.length f):Ph2 mk wr wr B e T size L 0 [] none 0 :=
 ⟨rfl,Own.nil _ _ _ _,fun j _ hj=>by have:=h.ls.own j hj;rwa [h.done j hj hj] at this,fun j hj=>by omega,fun j hj=>by omega,fun j hj=>by omega,fun k hk=>(h.ls.foot_lt hk).2,h.ls.apart,Upd.refl _ _⟩
/-- within an entry: x is being grown -/
structure Ph2I (mk:Int→Nat→List Value) (w2 wr:World) (B:Nat) (e:TypeId) (size:Nat) (L:List En) (i k:Nat) (A:Option Addr) (c:Nat):Prop where
 own:Own wr B e size A ((ena L i).n+k) c (marks_ mk i (ena L i).n++marks_ mk (-1 - i) k)
 at_:(A=(ena L i).A∧c=(ena L i).c) ∨ ∃ q,blk A c=some q∧w2.heap.size≤q
 read:Sl wr size (ena L i).A (ena L i).n (ena L i).c (marks_ mk i (ena L i).n)
 lt : ∀ q,(ena L i).b=some q→q<w2.heap.size
 upd:Upd (fun q=>(ena L i).b=some q) w2 wr
theorem Ph2.enter {mk:Int→Nat→List Value} {w1 wr:World} {B:Nat} {e T:TypeId} {size:Nat} {L:List En} {i:Nat} {G:List En} {LA:Option Addr} {lc:Nat} (h:Ph2 mk w1 wr B e T size L i G LA lc) (hi:i<L.length):Ph2I mk wr wr B e size L i 0 (ena L i).A (ena L i).c:=by
 have o:=h.rest i (Nat.le_refl _) hi
 exact ⟨by rw [marks_zero,List.append_nil];exact o, .inl ⟨rfl,rfl⟩,o.sl,fun q hq=>(o.lt q hq).2,Upd.refl _ _⟩
theorem Ph2I.step {mk:Int→Nat→List Value} {w2 wr w3:World} {B:Nat} {e:TypeId} {size:Nat} {L:List En} {i k:Nat} {A A3:Option Addr} {c c3:Nat} (h:Ph2I mk w2 wr B e size L i k A c) (hs : ∀ i k,(mk i k).length=size) (ob:Obj)
  (o3:Own w3 B e size A3 ((ena L i).n+k+1) c3 (marks_ mk i (ena L i).n++marks_ mk (-1 - i) k++mk (-1 - i) k)) (g3:(wr.alloc ob).grownBy w3 (blk A c)) (x3:(A3=A∧c3=c)∨(blk A3 c3=some (wr.alloc ob).heap.size∧Ext (wr.alloc ob) w3)):Ph2I mk w2 w3 B e size L i (k+1) A3 c3:=by
 have hsz:w2.heap.size≤(wr.alloc ob).heap.size:=Nat.le_trans h.upd.size ((Ext.refl wr).alloc ob).size
 have hin : ∀ q,blk A c=some q→(ena L i).b=some q∨w2.heap.size≤q:=fun q hq=>by
  rcases h.at_ with ⟨rfl,rfl⟩ | ⟨q',h1,h2⟩
  ·exact .inl hq
  ·rw [h1] at hq;injection hq with hq;exact .inr (by omega)
 refine ⟨by rw [marks_succ, ← List.append_assoc];exact o3,?_,?_,h.lt,(h.upd.alloc ob).grown g3 hin⟩
 ·rcases x3 with ⟨rfl,rfl⟩ | ⟨h1,_⟩
  ·exact h.at_
  ·exact .inr ⟨_,h1,hsz⟩
 ·have key:A3=(ena L i).A→c3=(ena L i).c→Sl w3 size (ena L i).A (ena L i).n (ena L i).c (marks_ mk i (ena L i).n):=fun ea ec=>by
   have:=Sl.take (k:=(ena L i).n) o3.sl (by omega)
   rw [List.append_assoc,List.take_left' (marks_len hs i _),ea,ec] at this
   exact this
  rcases x3 with ⟨rfl,rfl⟩ | ⟨h1,x⟩
  ·rcases h.at_ with ⟨ea,ec⟩ | ⟨q',h1,h2⟩
   ·exact key ea ec
   ·refine Sl.upd (S:=fun q=>blk A3 c3=some q) (h.read.ext ((Ext.refl wr).alloc ob)) ((Upd.refl _ _).grown g3 (fun k hk => .inl hk)) (fun q hq hq2=>?_)
    rw [h1] at hq2
    injection hq2 with hq2
    have:=h.lt q hq
    omega
  ·exact (h.read.ext ((Ext.refl wr).alloc ob)).ext x
/-- the entry is done: it is put to the long ones -/
theorem Ph2.next {mk:Int→Nat→List Value} {w1 w2 wr w4:World} {B:Nat} {e T:TypeId} {size:Nat} {L:List En} {i:Nat} {G:List En} {LA LA4:Option Addr} {lc lc4:Nat} {A:Option Addr} {c:Nat} (h:Ph2 mk w1 w2 B e T size L i G LA lc) (hi:i<L.length) (hx:Ph2I mk w2 wr B e size L i 8 A c) (ob:Obj)
  (o4:Own w4 w1.heap.size T 1 LA4 (i+1) lc4 (ensC G++[.slice A ((ena L i).n+8) c])) (g4:(wr.alloc ob).grownBy w4 (blk LA lc)) (x4:(LA4=LA∧lc4=lc)∨(blk LA4 lc4=some (wr.alloc ob).heap.size∧Ext (wr.alloc ob) w4)):Ph2 mk w1 w4 B e T size L (i+1) (G++[⟨A,(ena L i).n+8,c⟩]) LA4 lc4:=by
 have hfi : ∀ q,(ena L i).b=some q→Foot L q:=fun q hq=>⟨i,hi,hq⟩
 -- from w2 to w4 only entry i's block, and the long ones' list, have turned
 have hlt : ∀ q,blk LA lc=some q→w1.heap.size≤q∧q<w2.heap.size:=fun q hq=>h.lst.lt q hq
 have u4:Upd (fun q=>(ena L i).b=some q∨blk LA lc=some q) w2 w4:=((hx.upd.mono (fun k _ q=>Or.inl q)).alloc ob).grown g4 (fun k hk => .inl (.inr hk))
 have u5:Upd (fun q=>blk LA lc=some q) wr w4:=((Upd.refl _ _).alloc ob).grown g4 (fun k hk => .inl hk)
 have nl : ∀ q,Foot L q→blk LA lc≠some q:=fun q hq e1=>by have:=h.foot q hq;have:=(hlt q e1).1;omega
 have ni : ∀ j,j<L.length→j≠i → ∀ q,(ena L j).b=some q → ¬ ((ena L i).b=some q∨blk LA lc=some q):=fun j hj hji q hq e1=>by
  rcases e1 with e1 | e1
  ·exact h.apart j i hj hi hji q hq e1
  ·exact nl q ⟨j,hj,hq⟩ e1
 have hgl:=h.len
 have hxb : ∀ q,blk A c=some q→(ena L i).b=some q∨w2.heap.size≤q:=fun q hq=>by
  rcases hx.at_ with ⟨rfl,rfl⟩ | ⟨q',h1,h2⟩
  ·exact .inl hq
  ·rw [h1] at hq;injection hq with hq;exact .inr (by omega)
 have hll : ∀ q,blk LA4 lc4=some q→blk LA lc=some q∨wr.heap.size≤q:=fun q hq=>by
  rcases x4 with ⟨rfl,rfl⟩ | ⟨h1,_⟩
  ·exact .inl hq
  ·rw [h1] at hq;injection hq with hq;have:=((Ext.refl wr).alloc ob).size;exact .inr (by omega)
 refine ⟨by rw [List.length_append,hgl];rfl,by rw [ensC_append];exact o4,fun j hj hjl=>(h.rest j (by omega) hjl).upd u4 (ni j hjl (by omega)),fun j hj=>?_,fun j hj=>?_,fun j hj q hq=>?_,h.foot,h.apart,?_⟩
 ·by_cases hji:j<i
  ·exact (h.read j hji).upd u4 (ni j (by omega) (by omega))
  ·obtain rfl:j=i:=by omega
   exact hx.read.upd u5 (fun q hq=>nl q (hfi q hq))
 ·by_cases hji:j<i
  ·rw [ena_append_old (by omega)]
   obtain ⟨h1,h2⟩:=h.long j hji
   refine ⟨h1,h2.upd u4 (fun q hq e1=>?_)⟩
   rcases h.at_ j hji q hq with h3 | ⟨h3,h4⟩
   ·exact ni j (by omega) (by omega) q h3 e1
   ·rcases e1 with e1 | e1
    ·have:=h.foot q (hfi q e1);omega
    ·exact h4 e1
  ·obtain rfl:j=i:=by omega
   have e1:ena (G++[⟨A,(ena L j).n+8,c⟩]) j=⟨A,(ena L j).n+8,c⟩:=by rw [← hgl];exact ena_append_new G _
   rw [e1]
   refine ⟨rfl,hx.own.upd u5 (fun q hq e2=>?_)⟩
   rcases hxb q hq with h3 | h3
   ·exact nl q (hfi q h3) e2
   ·have:=(hlt q e2).2;omega
 ·by_cases hji:j<i
  ·rw [ena_append_old (by omega)] at hq
   rcases h.at_ j hji q hq with h3 | ⟨h3,h4⟩
   ·exact .inl h3
   ·refine .inr ⟨h3,fun e1=>?_⟩
    rcases hll q e1 with h5 | h5
    ·exact h4 h5
    ·have:=((h.long j hji).2.lt q hq).2
     have:=hx.upd.size
     omega
  ·obtain rfl:j=i:=by omega
   have e1:ena (G++[⟨A,(ena L j).n+8,c⟩]) j=⟨A,(ena L j).n+8,c⟩:=by rw [← hgl];exact ena_append_new G _
   rw [e1] at hq
   rcases hxb q hq with h3 | h3
   ·exact .inl h3
   ·refine .inr ⟨Nat.le_trans h.upd.size h3,fun e2=>?_⟩
    rcases hll q e2 with h5 | h5
    ·have:=(hlt q h5).2;omega
    ·have:=(hx.own.lt q hq).2;omega
 ·have hd : ∀ q,q<w2.heap.size→(ena L i).b=some q→Foot L q:=fun q _ hq=>hfi q hq
  exact (h.upd.trans ((hx.upd.mono hd).alloc ob)).grown g4 (fun q hq => .inr (hlt q hq).1)
/-! ### reading elements -/
theorem addr_off (ad:Addr) (j q:Nat) (hq:0<q):ad.add (j+q)=⟨(ad.add j).block,(ad.add j).off+q,none⟩:=by
 rw [← add_add']
 unfold Addr.add
 rw [if_neg (by omega)]
theorem own_at2 {w:World} {n c:Nat} {A:Option Addr} {xs:List Value} (h:Sl w 2 A n c xs) {k:Nat} (hk:k<n) {l:List Value} {a b:Value} (hl:l=[a,b]) (hx : ∀ q,q<2→xs[k * 2+q]?=l[q]?) :
  ∃ ad,A=some ad∧w.cell? (ad.add (k * 2))=some a∧w.cell? ⟨(ad.add (k * 2)).block,(ad.add (k * 2)).off+1,none⟩=some b:=by
 subst hl
 obtain ⟨ad,e,hc⟩:=h.2.2.2.2 (by omega)
 exact ⟨ad,e,hc _ _ (hx 0 (by omega)),by rw [← addr_off _ _ 1 (by omega)];exact hc _ _ (hx 1 (by omega))⟩
theorem own_at4 {w:World} {n c:Nat} {A:Option Addr} {xs:List Value} (h:Sl w 4 A n c xs) {k:Nat} (hk:k<n) {l:List Value} {a b x y:Value} (hl:l=[a,b,x,y]) (hx : ∀ q,q<4→xs[k * 4+q]?=l[q]?) :
  ∃ ad,A=some ad∧w.cell? (ad.add (k * 4))=some a∧w.cell? ⟨(ad.add (k * 4)).block,(ad.add (k * 4)).off+1,none⟩=some b∧w.cell? ⟨(ad.add (k * 4)).block,(ad.add (k * 4)).off+2,none⟩=some x∧w.cell? ⟨(ad.add (k * 4)).block,(ad.add (k * 4)).off+3,none⟩=some y:=by
 subst hl
 obtain ⟨ad,e,hc⟩:=h.2.2.2.2 (by omega)
 exact ⟨ad,e,hc _ _ (hx 0 (by omega)),by rw [← addr_off _ _ 1 (by omega)];exact hc _ _ (hx 1 (by omega)),by rw [← addr_off _ _ 2 (by omega)];exact hc _ _ (hx 2 (by omega)),by rw [← addr_off _ _ 3 (by omega)];exact hc _ _ (hx 3 (by omega))⟩
open Go.RowKit
theorem Own.base {w:World} {B B' s n c:Nat} {e:TypeId} {A:Option Addr} {xs:List Value} (h:Own w B e s A n c xs) (hb : ∀ k,blk A c=some k→B'≤k):Own w B' e s A n c xs:=by
 refine ⟨h.1,?_⟩
 rcases h.2 with hz | ⟨g,cur,rfl,_,hg,hnc,rest⟩
 ·exact .inl hz
 ·cases c with
  | zero=>exact .inl ⟨rfl,by omega⟩
  | succ c=>exact .inr ⟨g,cur,rfl,hb g rfl,hg,hnc,rest⟩
/-- new memory from lo on, below hi -/
structure KP (w:World) (lo hi:Nat) (e:TypeId) (size:Nat) (x:En) (xs:List Value):Prop where
 own:Own w lo e size x.A x.n x.c xs
 top : ∀ k,x.b=some k→k<hi
theorem KP.ext {w w':World} {lo hi:Nat} {e:TypeId} {size:Nat} {x:En} {xs:List Value} (h:KP w lo hi e size x xs) (y:Ext w w'):KP w' lo hi e size x xs:=⟨h.own.ext y,h.top⟩
theorem KP.upd {S:Nat→Prop} {w w':World} {lo hi:Nat} {e:TypeId} {size:Nat} {x:En} {xs:List Value} (h:KP w lo hi e size x xs) (y:Upd S w w') (hS : ∀ k,lo≤k→k<hi → ¬ S k):KP w' lo hi e size x xs :=
 ⟨h.own.upd y (fun k hk=>hS k (h.own.lt k hk).1 (h.top k hk)),h.top⟩
theorem KP.of {w:World} {lo:Nat} {e:TypeId} {size n c:Nat} {A:Option Addr} {xs:List Value} (h:Own w lo e size A n c xs):KP w lo w.heap.size e size ⟨A,n,c⟩ xs:=⟨h,fun k hk=>(h.lt k hk).2⟩
theorem KP.iv {w w':World} {lo hi:Nat} {e:TypeId} {size:Nat} {x:En} {xs:List Value} (h:KP w lo hi e size x xs) (u:Upd (fun k=>blk x.A x.c=some k) w w'):Upd (fun k=>lo≤k∧k<hi) w w' :=
 u.mono (fun k _ hk=>⟨(h.own.lt k hk).1,h.top k hk⟩)
theorem ext_upd {S:Nat→Prop} {a w w':World} (h:Ext a w) (u:Upd S w w') (hS : ∀ k,S k→a.heap.size≤k):Ext a w' :=
 ⟨u.os.trans (Below.os h),u.tape.trans (Below.tape h),u.output.trans (Below.output h),Nat.le_trans h.size u.size,fun k hk=>(u.block k (Nat.lt_of_lt_of_le hk h.size) (fun q=>by have:=hS k q;omega)).trans (Below.block h k hk)⟩
open Go.RowKit
/-- a time that lies in memory -/
structure Tm where
 e:Int
 A:Option Addr
 c:Nat
 l:List Int
def Tm.zero:Tm:=⟨0,none,0,[]⟩
instance:Inhabited Tm:=⟨Tm.zero⟩
def Tm.v (x:Tm):TV:=(x.e,x.l)
def tmC (x:Tm):List Value:=[.int .u64 x.e, .slice x.A x.l.length x.c]
def tmV (x:Tm):Value := .agg #[.int .u64 x.e, .slice x.A x.l.length x.c]
def tmsC (L:List Tm):List Value:=L.flatMap tmC
theorem tmsC_at : ∀ (L:List Tm) (i j:Nat),i<L.length→j<2→(tmsC L)[i * 2+j]?=(tmC (L.getD i Tm.zero))[j]?
 | [],i,j,h,_=>absurd h (Nat.not_lt_zero _)
 | d :: l,0,j,_,hj=>by
  unfold tmsC
  rw [List.flatMap_cons,Nat.zero_mul,Nat.zero_add,List.getElem?_append_left (by rw [show (tmC d).length=2 from rfl];exact hj)]
  rfl
 | d :: l,i+1,j,h,hj=>by
  unfold tmsC
  rw [List.flatMap_cons,List.getElem?_append_right (by rw [show (tmC d).length=2 from rfl];omega),show (i+1) * 2+j - (tmC d).length=i * 2+j by rw [show (tmC d).length=2 from rfl];omega]
  exact tmsC_at l i j (Nat.lt_of_succ_lt_succ h) hj
theorem tmsC_append (L M:List Tm):tmsC (L++M)=tmsC L++tmsC M:=List.flatMap_append
theorem tmsC_one (L:List Tm) : ∀ u∈tmsC L,u.oneCell'=true:=by
 intro u hu
 obtain ⟨d,_,h⟩:=List.mem_flatMap.1 hu
 simp only [tmC,List.mem_cons,List.not_mem_nil,or_false] at h
 rcases h with rfl | rfl<;>rfl
theorem tmsC_take (L:List Tm) (k:Nat):(tmsC L).take (k * 2)=tmsC (L.take k):=by
 induction L generalizing k with
 | nil=>simp [tmsC]
 | cons x L ih =>
  cases k with
  | zero=>simp [tmsC]
  | succ k =>
   show (tmC x++tmsC L).take _=tmC x++tmsC (L.take k)
   rw [List.take_append,show (tmC x).length=2 from rfl,show (k+1) * 2 - 2=k * 2 by omega,ih,List.take_of_length_le (by show 2≤_;omega)]
/-- a list of times as readings give it -/
structure Tin (w:World) (A:Option Addr) (c:Nat) (L:List Tm):Prop where
 sl:Sl w 2 A L.length c (tmsC L)
 ls : ∀ x∈L,Sl w 1 x.A x.l.length x.c (wds x.l)
section
variable {w w':World} {A:Option Addr} {c:Nat} {L:List Tm}
theorem Tin.ext (h:Tin w A c L) (x:Ext w w'):Tin w' A c L:=⟨h.sl.ext x,fun y hy=>(h.ls y hy).ext x⟩
theorem Tin.nil (w:World):Tin w none 0 []:=⟨Sl.nil w 2,fun x hx=>(nomatch hx)⟩
theorem Tin.at (h:Tin w A c L) {i:Nat} (hi:i<L.length) : ∃ ad,A=some ad∧w.cell? (ad.add (i * 2))=some (.int .u64 (L.getD i Tm.zero).e)∧w.cell? ⟨(ad.add (i * 2)).block,(ad.add (i * 2)).off+1,none⟩=some (.slice (L.getD i Tm.zero).A (L.getD i Tm.zero).l.length (L.getD i Tm.zero).c) :=
 own_at2 h.sl hi (show tmC (L.getD i Tm.zero)=[.int .u64 (L.getD i Tm.zero).e, .slice (L.getD i Tm.zero).A (L.getD i Tm.zero).l.length (L.getD i Tm.zero).c] from rfl) (fun q hq=>tmsC_at L i q hi hq)
theorem Tin.take (h:Tin w A c L) {k:Nat} (hk:k≤L.length):Tin w A c (L.take k):=by
 have:=Sl.take (k:=k) h.sl hk
 rw [tmsC_take] at this
 exact ⟨by rw [List.length_take,Nat.min_eq_left hk];exact this,fun x hx=>h.ls x (List.mem_of_mem_take hx)⟩
end
theorem getT_mem {L:List Tm} {i:Nat} (h:i<L.length):L.getD i Tm.zero∈L:=by
 rw [List.getD_eq_getElem?_getD,List.getElem?_eq_getElem h]
 exact List.getElem_mem h
theorem getT_v {L:List Tm} {i:Nat} (h:i<L.length):(L.map Tm.v)[i]'(by rw [List.length_map];exact h)=(L.getD i Tm.zero).v:=by
 rw [List.getElem_map,List.getD_eq_getElem?_getD,List.getElem?_eq_getElem h]
 rfl
theorem elemTimes:Elem Tryz.prog 27 26 2 32 (.agg #[.int .u64 0, .slice none 0 0]):=⟨by kernel_rfl,by kernel_rfl,rfl,by decide⟩
/-- a list of times that a call has made, from block B on, each with counters of its own -/
structure Tout (w:World) (B:Nat) (A:Option Addr) (c:Nat) (L:List Tm):Prop where
 own:Own w B 26 2 A L.length c (tmsC L)
 ls : ∀ x∈L,Own w B 180 1 x.A x.l.length x.c (wds x.l) ∧ ∀ k,blk x.A x.c=some k→blk A c≠some k
 apart:L.Pairwise fun x y => ∀ k,blk x.A x.c=some k→blk y.A y.c≠some k
section
variable {w w':World} {B:Nat} {A:Option Addr} {c:Nat} {L:List Tm}
theorem Tout.ext (h:Tout w B A c L) (x:Ext w w'):Tout w' B A c L:=⟨h.own.ext x,fun y hy=>⟨(h.ls y hy).1.ext x,(h.ls y hy).2⟩,h.apart⟩
theorem Tout.mono (h:Tout w B A c L) {B':Nat} (hb:B'≤B):Tout w B' A c L:=⟨h.own.mono hb,fun y hy=>⟨(h.ls y hy).1.mono hb,(h.ls y hy).2⟩,h.apart⟩
theorem Tout.tin (h:Tout w B A c L):Tin w A c L:=⟨h.own.sl,fun x hx=>(h.ls x hx).1.sl⟩
theorem Tout.nil (w:World) (B:Nat):Tout w B none 0 []:=⟨Own.nil _ _ _ _,fun x hx=>(nomatch hx),List.Pairwise.nil⟩
theorem Tout.upd {S:Nat→Prop} (h:Tout w B A c L) (x:Upd S w w') (hn : ∀ k,B≤k → ¬ S k):Tout w' B A c L :=
 ⟨h.own.upd x (fun k hk=>hn k (h.own.lt k hk).1),fun y hy=>⟨(h.ls y hy).1.upd x (fun k hk=>hn k ((h.ls y hy).1.lt k hk).1),(h.ls y hy).2⟩,h.apart⟩
end
end Go.Proofs.YtdgbkpoickbidaaGreatDoor
namespace Go.Proofs.YtdgbkpoickbidaaGreatDoor
open Go.ChangeShapes Go.WideShapes Go.ChangeAt Go.RowKit Go.WideElems

section
variable {H:Type} {enc:TypeId × Value→H} {W:World}
theorem list2 {α:Type} {l:List α} (h:l.length=2) : ∃ a b,l=[a,b]:=by
 match l,h with
 | [a,b],_=>exact ⟨a,b,rfl⟩
theorem one_u64:Tryz.prog.cellsOf 23=1:=by kernel_rfl
theorem one_wds:Tryz.prog.cellsOf 24=1:=by kernel_rfl
theorem two_tm:Tryz.prog.cellsOf 26=2:=by kernel_rfl
/-- what is known of a time that comes in -/
structure TmIn (x:Tm):Prop where
 u:U32 x.l
 e:0≤x.e∧x.e≤18446744073709551615
theorem come_timeC {fuel:Nat} {cs:List Value} {y:DataW H × List MemPlace} (h:DataW.trod enc Tryz.prog W 0 (fun _=>true) true fuel 26 cs=some y) :
  ∃ x:Tm,cs=tmC x∧Sl W 1 x.A x.l.length x.c (wds x.l)∧TmIn x:=by
 obtain ⟨y0,y1,n,_,hl,h0,h1⟩:=Go.ChangeShapes.trod_struct2 Tryz.underlying26 h
 rw [two_tm] at hl
 obtain ⟨c0,c1,rfl⟩:=list2 hl
 have g0:DataW.trod enc Tryz.prog W 0 (fun _=>true) true n 23 [c0]=some y0:=by
  have:DataW.trod enc Tryz.prog W 0 (fun _=>true) true n 23 (([c0,c1].drop 0).take (Tryz.prog.cellsOf 23))=some y0:=h0
  rw [one_u64] at this
  exact this
 have g1:DataW.trod enc Tryz.prog W 0 (fun _=>true) true n 24 [c1]=some y1:=by
  have:DataW.trod enc Tryz.prog W 0 (fun _=>true) true n 24 (([c0,c1].drop 1).take (Tryz.prog.cellsOf 24))=some y1:=h1
  rw [one_wds] at this
  exact this
 obtain ⟨k,e0,_,w0⟩:=DataW.trod_int Tryz.underlying23 g0
 obtain ⟨A,m,c,l,rfl,hs,hu⟩:=come_words g1
 obtain rfl:c0 = .int .u64 k:=by simpa using e0
 have hm:=hs.wlen
 subst hm
 exact ⟨⟨k,A,c,l⟩,rfl,hs,⟨hu,wf_u64 w0⟩⟩
end
end Go.Proofs.YtdgbkpoickbidaaGreatDoor
namespace Go.Proofs.YtdgbkpoickbidaaGreatDoor
open Go.ChangeShapes Go.WideShapes Go.ChangeAt Go.RowKit Go.WideElems

theorem bulk_one {H:Type} (d:DataW H):1≤Rows.uptoBulk d:=by
 cases d with
 | lit l=>cases l<;>simp [Rows.uptoBulk]
 | nil=>simp [Rows.uptoBulk]
 | ptr d=>simp [Rows.uptoBulk]
 | slice elems spare=>simp [Rows.uptoBulk]
 | agg parts=>simp [Rows.uptoBulk]
 | iface t d=>simp [Rows.uptoBulk]
 | map entries=>simp [Rows.uptoBulk]
 | held h=>simp [Rows.uptoBulk]
theorem bulk_part {H:Type} {d:DataW H} : ∀ {l:List (DataW H)},d∈l→Rows.uptoBulk d≤Rows.uptoBulkAll l
 | x :: r,h=>by
  simp only [Rows.uptoBulkAll]
  rcases List.mem_cons.1 h with rfl | h
  ·omega
  ·have:=bulk_part h
   omega
theorem bulk_len {H:Type} : ∀ l:List (DataW H),l.length≤Rows.uptoBulkAll l
 | []=>Nat.zero_le _
 | x :: r=>by
  have:=bulk_one x
  have:=bulk_len r
  simp only [Rows.uptoBulkAll,List.length_cons]
  omega
theorem slice_bulk {H:Type} {enc:TypeId × Value→H} {W:World} {sp:Nat→Bool} {held:Bool} {t e:TypeId} {fuel n c:Nat} {A:Option Addr} {y:DataW H × List MemPlace} (ht:Tryz.prog.underlying t=some (.slice e)) (h:DataW.trod enc Tryz.prog W 0 sp held fuel t [.slice A n c]=some y):n≤Rows.uptoBulk y.1:=by
 rcases Go.Deep.open_slice ht h with ⟨hcs,_⟩ | ⟨a,n',c',m,fu,D,Pl,hcs,_,hnc,hcm,hm,hy,hx⟩
 ·have e:(Value.slice A n c) = .slice none 0 0:=by injection hcs
  injection e with _ e _
  omega
 ·have e:(Value.slice A n c) = .slice (some a) n' c':=by injection hcs
  injection e with _ e _
  subst e
  have:=bulk_len ((List.range n).map D)
  rw [List.length_map,List.length_range] at this
  rw [hy]
  show n≤Rows.uptoBulk (DataW.slice ((List.range n).map D) ((List.range (m - n)).map fun j=>D (n+j)))
  simp only [Rows.uptoBulk]
  omega
open Go.RowKit
def validB (s:ByteArray):Bool:=Lib.validD s.data.toList
/-- from here on the library's tables stand as they were laid: told by what its functions answer -/
structure Good (w:World):Prop where
 valid : ∀ (s:ByteArray) (W:World),s.size≤9223372036854775807→Ext w W→Calls Tryz.prog 248 #[.string s] W fun e w'=>e = .returned (.bool (validB s))∧Ext W w'
theorem Good.ext {w w':World} (h:Good w) (x:Ext w w'):Good w':=⟨fun s W hs hx=>h.valid s W hs (x.trans hx)⟩

theorem valid_any (s:ByteArray) (w:World) (hs:s.size≤9223372036854775807) (g:Good w) :
  Calls Tryz.prog 248 #[.string s] w fun e w'=>e = .returned (.bool (validB s))∧Ext w w':=g.valid s w hs (Ext.refl w)
end Go.Proofs.YtdgbkpoickbidaaGreatDoor
namespace Go.Proofs
open Go.Shelf
def Tryz.laysValid_ren:Go.Shelf.Ren:=⟨fun | 196=>248 | 259=>278 | n=>n,fun | 9=>9 | 4=>4 | 3=>3 | 5=>5 | 12=>12 | 119=>332 | 0=>0 | 46=>267 | 139=>335 | 138=>334 | 53=>23 | n=>n,fun | 3=>0 | 4=>1 | n=>n⟩
theorem Tryz.laysValid:Go.Proofs.Lays.n196 Tryz.prog Tryz.laysValid_ren:={
 mixed:=by kernel_rfl
 f196:=Tryz.func248.trans (congrArg some (by kernel_rfl))
 f259:=Tryz.func278.trans (congrArg some (by kernel_rfl))
 t0:=Tryz.underlying0
 a0:=Tryz.isAgg0
 z0:=Tryz.sizeOf0
 v0:=Tryz.zeroValue0
 t3:=Tryz.underlying3
 a3:=Tryz.isAgg3
 z3:=Tryz.sizeOf3
 v3:=Tryz.zeroValue3
 t4:=Tryz.underlying4
 a4:=Tryz.isAgg4
 z4:=Tryz.sizeOf4
 v4:=Tryz.zeroValue4
 t5:=Tryz.underlying5
 a5:=Tryz.isAgg5
 z5:=Tryz.sizeOf5
 v5:=Tryz.zeroValue5
 t9:=Tryz.underlying9
 a9:=Tryz.isAgg9
 z9:=Tryz.sizeOf9
 v9:=Tryz.zeroValue9
 t12:=Tryz.underlying12
 a12:=Tryz.isAgg12
 z12:=Tryz.sizeOf12
 v12:=Tryz.zeroValue12
 t46:=Tryz.underlying267
 a46:=Tryz.isAgg267
 z46:=Tryz.sizeOf267
 v46:=Tryz.zeroValue267
 t53:=Tryz.underlying23
 a53:=Tryz.isAgg23
 z53:=Tryz.sizeOf23
 v53:=Tryz.zeroValue23
 t119:=Tryz.underlying332
 a119:=Tryz.isAgg332
 z119:=Tryz.sizeOf332
 t138:=Tryz.underlying334
 a138:=Tryz.isAgg334
 z138:=Tryz.sizeOf334
 v138:=Tryz.zeroValue334
 t139:=Tryz.underlying335
 a139:=Tryz.isAgg335
 z139:=Tryz.sizeOf335
 v139:=Tryz.zeroValue335
 g3:=by kernel_rfl
 g4:=by kernel_rfl }
end Go.Proofs
namespace Go.Proofs.YtdgbkpoickbidaaGreatDoor
open Go.ChangeShapes Go.WideShapes Go.ChangeAt Go.RowKit Go.WideElems

theorem dwf_i64 {n:Int} (h:(Lit.int .i64 n).wf=true) : -9223372036854775808≤n∧n≤9223372036854775807:=by
 simpa [Lit.wf,IntKind.min,IntKind.max,IntKind.signed,IntKind.bits] using h
theorem wf_u8 {n:Int} (h:(Lit.int .u8 n).wf=true):0≤n∧n≤255:=by
 simpa [Lit.wf,IntKind.min,IntKind.max,IntKind.signed,IntKind.bits] using h

theorem u8_extra:U8Extra Tryz.prog Tryz.laysValid_ren:=⟨by kernel_rfl,by kernel_rfl,by kernel_rfl,by kernel_rfl,by kernel_rfl,by kernel_rfl,by kernel_rfl⟩
theorem first_is:Rows.laid_unicode_utf8_first=Lib.firstData:=by kernel_rfl
theorem accept_is:(Rows.laid_unicode_utf8_acceptRanges:DataW Unit)=Lib.acceptData:=by kernel_rfl
theorem good_of {W:World} {l:List (String × DataW Unit)} (h:laidMet Tryz.prog l W) (h1:("unicode/utf8.first",Rows.laid_unicode_utf8_first)∈l) (h2:("unicode/utf8.acceptRanges",Rows.laid_unicode_utf8_acceptRanges)∈l):Good W:=by
 have a:=Lib.laidMet.reads h h1
 have b:=Lib.laidMet.reads h h2
 rw [first_is] at a
 rw [accept_is] at b
 have t:=utf8Tabs_of_readsT (U8Types.of196 Tryz.laysValid) u8_extra a b
 exact ⟨fun s W' hs x=>Any.utf8_ValidString Tryz.laysValid s W' hs (Utf8Tabs_below t x)⟩

section
variable {H:Type} {enc:TypeId × Value→H} {W:World}
end
open Go.RowKit
theorem ret_u16 {a b:Int} (h:a=b):Ending.returned (.int .u16 a) = .returned (.int .u16 b):=by rw [h]
/-- no field is set but the kind's own -/
def formB (k:Int) (b:Bool) (n:Int) (s:ByteArray):Bool :=
 decide ((k=1∨k=2∨k=3∨k=4)∧(k≠2→b=false)∧(k≠3→n=0)∧(k≠4→s=⟨#[]⟩))
def checkT (k:Int) (b:Bool) (n:Int) (s:ByteArray):Int :=
 if formB k b n s then (if validB s then (if 1000<s.size then 12 else 0) else 13) else 13
theorem checkT_off {k n:Int} {b:Bool} {s:ByteArray} (h : ¬ ((k=1∨k=2∨k=3∨k=4)∧(k≠2→b=false)∧(k≠3→n=0)∧(k≠4→s=⟨#[]⟩))):checkT k b n s=13:=by
 unfold checkT formB
 rw [if_neg (by rw [decide_eq_true_iff];exact h)]
theorem checkT_on {k n:Int} {b:Bool} {s:ByteArray} (h:(k=1∨k=2∨k=3∨k=4)∧(k≠2→b=false)∧(k≠3→n=0)∧(k≠4→s=⟨#[]⟩)):checkT k b n s=if validB s then (if 1000<s.size then 12 else 0) else 13:=by
 unfold checkT formB
 rw [if_pos (by rw [decide_eq_true_iff];exact h)]
theorem valid_empty:validB ⟨#[]⟩=true:=rfl
theorem empty_iff {s:ByteArray}:s.toList=[]↔s=⟨#[]⟩:=by
 rw [Lib.toList_data]
 constructor
 ·intro h
  obtain ⟨d⟩:=s
  obtain ⟨l⟩:=d
  simp at h
  rw [h]
 ·rintro rfl;rfl
theorem valid_none (w:World) (g:Good w):Calls Tryz.prog 248 #[.string ⟨#[]⟩] w fun e w'=>e = .returned (.bool true)∧Ext w w':=valid_any ⟨#[]⟩ w (by simp [ByteArray.size]) g

set_option maxRecDepth 100000 in
set_option maxHeartbeats 800000 in
theorem check_bool_n (b:Bool) (n:Int) (s:ByteArray) (hn : ¬ n=0) (w:World):Calls Tryz.prog 211 #[.agg #[.int .u8 2, .bool b, .int .i64 n, .string s]] w fun e w'=>e = .returned (.int .u16 13)∧Ext w w':=by
 go_enter Tryz.func211,Tryz.ntmps211
 go_wp2_with fail
 all_goals go_ret
 all_goals exact ⟨rfl,((Ext.refl w).alloc _).alloc _⟩
set_option maxRecDepth 100000 in
set_option maxHeartbeats 800000 in
theorem check_bool_s (b:Bool) (s:ByteArray) (hs : ¬ s=⟨#[]⟩) (w:World):Calls Tryz.prog 211 #[.agg #[.int .u8 2, .bool b, .int .i64 0, .string s]] w fun e w'=>e = .returned (.int .u16 13)∧Ext w w':=by
 have hz : ¬ s.toList=[]:=fun h=>hs (empty_iff.1 h)
 have hz2:s.toList.isEmpty=false:=by simpa using hz
 clear hs
 go_enter Tryz.func211,Tryz.ntmps211
 go_wp2_with fail
 all_goals go_ret
 all_goals exact ⟨rfl,((Ext.refl w).alloc _).alloc _⟩
set_option maxRecDepth 100000 in
set_option maxHeartbeats 800000 in
theorem check_int_b (n:Int) (s:ByteArray) (w:World):Calls Tryz.prog 211 #[.agg #[.int .u8 3, .bool true, .int .i64 n, .string s]] w fun e w'=>e = .returned (.int .u16 13)∧Ext w w':=by
 go_enter Tryz.func211,Tryz.ntmps211
 go_wp2_with fail
 all_goals go_ret
 all_goals exact ⟨rfl,((Ext.refl w).alloc _).alloc _⟩
set_option maxRecDepth 100000 in
set_option maxHeartbeats 800000 in
theorem check_int_s (n:Int) (s:ByteArray) (hs : ¬ s=⟨#[]⟩) (w:World):Calls Tryz.prog 211 #[.agg #[.int .u8 3, .bool false, .int .i64 n, .string s]] w fun e w'=>e = .returned (.int .u16 13)∧Ext w w':=by
 have hz : ¬ s.toList=[]:=fun h=>hs (empty_iff.1 h)
 have hz2:s.toList.isEmpty=false:=by simpa using hz
 clear hs
 go_enter Tryz.func211,Tryz.ntmps211
 go_wp2_with fail
 all_goals go_ret
 all_goals exact ⟨rfl,((Ext.refl w).alloc _).alloc _⟩
set_option maxRecDepth 100000 in
set_option maxHeartbeats 800000 in
theorem check_text_b (n:Int) (s:ByteArray) (w:World):Calls Tryz.prog 211 #[.agg #[.int .u8 4, .bool true, .int .i64 n, .string s]] w fun e w'=>e = .returned (.int .u16 13)∧Ext w w':=by
 go_enter Tryz.func211,Tryz.ntmps211
 go_wp2_with fail
 all_goals go_ret
 all_goals exact ⟨rfl,((Ext.refl w).alloc _).alloc _⟩
set_option maxRecDepth 100000 in
set_option maxHeartbeats 800000 in
theorem check_text_n (n:Int) (s:ByteArray) (hn : ¬ n=0) (w:World):Calls Tryz.prog 211 #[.agg #[.int .u8 4, .bool false, .int .i64 n, .string s]] w fun e w'=>e = .returned (.int .u16 13)∧Ext w w':=by
 go_enter Tryz.func211,Tryz.ntmps211
 go_wp2_with fail
 all_goals go_ret
 all_goals exact ⟨rfl,((Ext.refl w).alloc _).alloc _⟩
set_option maxRecDepth 100000 in
set_option maxHeartbeats 800000 in
theorem check_null_b (n:Int) (s:ByteArray) (w:World):Calls Tryz.prog 211 #[.agg #[.int .u8 1, .bool true, .int .i64 n, .string s]] w fun e w'=>e = .returned (.int .u16 13)∧Ext w w':=by
 go_enter Tryz.func211,Tryz.ntmps211
 go_wp2_with fail
 all_goals go_ret
 all_goals exact ⟨rfl,((Ext.refl w).alloc _).alloc _⟩
set_option maxRecDepth 100000 in
set_option maxHeartbeats 800000 in
theorem check_null_n (n:Int) (s:ByteArray) (hn : ¬ n=0) (w:World):Calls Tryz.prog 211 #[.agg #[.int .u8 1, .bool false, .int .i64 n, .string s]] w fun e w'=>e = .returned (.int .u16 13)∧Ext w w':=by
 go_enter Tryz.func211,Tryz.ntmps211
 go_wp2_with fail
 all_goals go_ret
 all_goals exact ⟨rfl,((Ext.refl w).alloc _).alloc _⟩
set_option maxRecDepth 100000 in
set_option maxHeartbeats 800000 in
theorem check_null_s (s:ByteArray) (hs : ¬ s=⟨#[]⟩) (w:World):Calls Tryz.prog 211 #[.agg #[.int .u8 1, .bool false, .int .i64 0, .string s]] w fun e w'=>e = .returned (.int .u16 13)∧Ext w w':=by
 have hz : ¬ s.toList=[]:=fun h=>hs (empty_iff.1 h)
 have hz2:s.toList.isEmpty=false:=by simpa using hz
 clear hs
 go_enter Tryz.func211,Tryz.ntmps211
 go_wp2_with fail
 all_goals go_ret
 all_goals exact ⟨rfl,((Ext.refl w).alloc _).alloc _⟩
set_option maxRecDepth 100000 in
set_option maxHeartbeats 800000 in
theorem check_other (k:Int) (b:Bool) (n:Int) (s:ByteArray) (w:World) (h1 : ¬ k=1) (h2 : ¬ k=2) (h3 : ¬ k=3) (h4 : ¬ k=4):Calls Tryz.prog 211 #[.agg #[.int .u8 k, .bool b, .int .i64 n, .string s]] w fun e w'=>e = .returned (.int .u16 13)∧Ext w w':=by
 have q1:(k==1)=false:=by simpa using h1
 have q2:(k==2)=false:=by simpa using h2
 have q3:(k==3)=false:=by simpa using h3
 have q4:(k==4)=false:=by simpa using h4
 go_enter Tryz.func211,Tryz.ntmps211
 go_wp2_with fail
 all_goals go_ret
 all_goals exact ⟨rfl,((Ext.refl w).alloc _).alloc _⟩
set_option maxRecDepth 100000 in
set_option maxHeartbeats 800000 in
theorem check_bool_on (b:Bool) (w:World) (g:Good w):Calls Tryz.prog 211 #[.agg #[.int .u8 2, .bool b, .int .i64 0, .string ⟨#[]⟩]] w fun e w'=>e = .returned (.int .u16 0)∧Ext w w':=by
 go_enter Tryz.func211,Tryz.ntmps211
 go_wp2_with (refine (valid_none _ (g.ext (((Ext.refl w).alloc _).alloc _))).mono ?_;rintro e w1 ⟨rfl,x1⟩;have b0:=((Bk.new w 204 #[.int .u8 2, .bool b, .int .i64 0, .string ⟨#[]⟩]).alloc (.cells #[.int .u8 2, .bool false, .int .i64 0, .string ⟨#[]⟩] 204)).ext x1;have b3:w1.cell? ⟨w.heap.size,3,none⟩=some (.string ⟨#[]⟩):=b0.cell 3)
 go_ret
 exact ⟨rfl,(((Ext.refl w).alloc _).alloc _).trans x1⟩
set_option maxRecDepth 100000 in
set_option maxHeartbeats 800000 in
theorem check_int_on (n:Int) (w:World) (g:Good w):Calls Tryz.prog 211 #[.agg #[.int .u8 3, .bool false, .int .i64 n, .string ⟨#[]⟩]] w fun e w'=>e = .returned (.int .u16 0)∧Ext w w':=by
 go_enter Tryz.func211,Tryz.ntmps211
 go_wp2_with (refine (valid_none _ (g.ext (((Ext.refl w).alloc _).alloc _))).mono ?_;rintro e w1 ⟨rfl,x1⟩;have b0:=((Bk.new w 204 #[.int .u8 3, .bool false, .int .i64 n, .string ⟨#[]⟩]).alloc (.cells #[.int .u8 3, .bool false, .int .i64 0, .string ⟨#[]⟩] 204)).ext x1;have b3:w1.cell? ⟨w.heap.size,3,none⟩=some (.string ⟨#[]⟩):=b0.cell 3)
 go_ret
 exact ⟨rfl,(((Ext.refl w).alloc _).alloc _).trans x1⟩
set_option maxRecDepth 100000 in
set_option maxHeartbeats 800000 in
theorem check_null_on (w:World) (g:Good w):Calls Tryz.prog 211 #[.agg #[.int .u8 1, .bool false, .int .i64 0, .string ⟨#[]⟩]] w fun e w'=>e = .returned (.int .u16 0)∧Ext w w':=by
 go_enter Tryz.func211,Tryz.ntmps211
 go_wp2_with (refine (valid_none _ (g.ext (((Ext.refl w).alloc _).alloc _))).mono ?_;rintro e w1 ⟨rfl,x1⟩;have b0:=((Bk.new w 204 #[.int .u8 1, .bool false, .int .i64 0, .string ⟨#[]⟩]).alloc (.cells #[.int .u8 1, .bool false, .int .i64 0, .string ⟨#[]⟩] 204)).ext x1;have b3:w1.cell? ⟨w.heap.size,3,none⟩=some (.string ⟨#[]⟩):=b0.cell 3)
 go_ret
 exact ⟨rfl,(((Ext.refl w).alloc _).alloc _).trans x1⟩
set_option maxRecDepth 100000 in
set_option maxHeartbeats 800000 in
theorem check_text_on (s:ByteArray) (w:World) (hs:s.size≤9223372036854775807) (g:Good w):Calls Tryz.prog 211 #[.agg #[.int .u8 4, .bool false, .int .i64 0, .string s]] w fun e w'=>e = .returned (.int .u16 (if validB s then (if 1000<s.size then 12 else 0) else 13))∧Ext w w':=by
 obtain ⟨v,hv⟩ : ∃ v,validB s=v:=⟨_,rfl⟩
 have hc:=valid_any s
 rw [hv] at hc ⊢
 have HC:=Lib.hid hc
 clear hc hv
 cases v
 ·go_enter Tryz.func211,Tryz.ntmps211
  go_wp2_with (refine (HC.out _ hs (g.ext (((Ext.refl w).alloc _).alloc _))).mono ?_;rintro e w1 ⟨rfl,x1⟩)
  go_ret
  exact ⟨rfl,(((Ext.refl w).alloc _).alloc _).trans x1⟩
 ·by_cases hl:1000<s.size
  ·go_enter Tryz.func211,Tryz.ntmps211
   go_wp2_with (refine (HC.out _ hs (g.ext (((Ext.refl w).alloc _).alloc _))).mono ?_;rintro e w1 ⟨rfl,x1⟩;have b0:=((Bk.new w 204 #[.int .u8 4, .bool false, .int .i64 0, .string s]).alloc (.cells #[.int .u8 4, .bool false, .int .i64 0, .string ⟨#[]⟩] 204)).ext x1;have b3:w1.cell? ⟨w.heap.size,3,none⟩=some (.string s):=b0.cell 3)
   go_ret
   exact ⟨ret_u16 (by simp),(((Ext.refl w).alloc _).alloc _).trans x1⟩
  ·go_enter Tryz.func211,Tryz.ntmps211
   go_wp2_with (refine (HC.out _ hs (g.ext (((Ext.refl w).alloc _).alloc _))).mono ?_;rintro e w1 ⟨rfl,x1⟩;have b0:=((Bk.new w 204 #[.int .u8 4, .bool false, .int .i64 0, .string s]).alloc (.cells #[.int .u8 4, .bool false, .int .i64 0, .string ⟨#[]⟩] 204)).ext x1;have b3:w1.cell? ⟨w.heap.size,3,none⟩=some (.string s):=b0.cell 3)
   go_ret
   exact ⟨ret_u16 (by simp),(((Ext.refl w).alloc _).alloc _).trans x1⟩

theorem check_any (k:Int) (b:Bool) (n:Int) (s:ByteArray) (w:World) (hs:s.size≤9223372036854775807) (g:Good w) :
  Calls Tryz.prog 211 #[.agg #[.int .u8 k, .bool b, .int .i64 n, .string s]] w fun e w'=>e = .returned (.int .u16 (checkT k b n s))∧Ext w w':=by
 by_cases h2:k=2
 ·subst h2
  by_cases hn:n=0
  ·subst hn
   by_cases hz:s=⟨#[]⟩
   ·subst hz
    rw [checkT_on (by simp),valid_empty]
    exact check_bool_on b w g
   ·rw [checkT_off (by simp [hz])];exact check_bool_s b s hz w
  ·rw [checkT_off (by simp [hn])];exact check_bool_n b n s hn w
 by_cases h3:k=3
 ·subst h3
  cases b
  ·by_cases hz:s=⟨#[]⟩
   ·subst hz
    rw [checkT_on (by simp),valid_empty]
    exact check_int_on n w g
   ·rw [checkT_off (by simp [hz])];exact check_int_s n s hz w
  ·rw [checkT_off (by simp)];exact check_int_b n s w
 by_cases h4:k=4
 ·subst h4
  cases b
  ·by_cases hn:n=0
   ·subst hn
    rw [checkT_on (by simp)]
    exact check_text_on s w hs g
   ·rw [checkT_off (by simp [hn])];exact check_text_n n s hn w
  ·rw [checkT_off (by simp)];exact check_text_b n s w
 by_cases h1:k=1
 ·subst h1
  cases b
  ·by_cases hn:n=0
   ·subst hn
    by_cases hz:s=⟨#[]⟩
    ·subst hz
     rw [checkT_on (by simp),valid_empty]
     exact check_null_on w g
    ·rw [checkT_off (by simp [hz])];exact check_null_s s hz w
   ·rw [checkT_off (by simp [hn])];exact check_null_n n s hn w
  ·rw [checkT_off (by simp)];exact check_null_b n s w
 ·rw [checkT_off (by simp [h1,h2,h3,h4])]
  exact check_other k b n s w h1 h2 h3 h4
open Go.RowKit
/-- a datum, field by field -/
structure Dat where
 k:Int
 b:Bool
 n:Int
 s:ByteArray
def Dat.zero:Dat:=⟨0,false,0,⟨#[]⟩⟩
def Dat.check (d:Dat):Int:=checkT d.k d.b d.n d.s
open Go.RowKit
def cmpI (x y:Int):Int:=if x<y then -1 else if y<x then 1 else 0
theorem cmpI_lt {x y:Int} (h:x<y):cmpI x y = -1:=by unfold cmpI;rw [if_pos h]
theorem cmpI_gt {x y:Int} (h:y<x):cmpI x y=1:=by unfold cmpI;rw [if_neg (by omega),if_pos h]
theorem cmpI_self (x:Int):cmpI x x=0:=by unfold cmpI;rw [if_neg (by omega),if_neg (by omega)]

set_option maxRecDepth 100000 in
set_option maxHeartbeats 400000 in
theorem nan_kind (x:Int) (w:World):Calls Tryz.prog 279 #[.int .u8 x] w fun e w'=>e = .returned (.bool false)∧w=w':=by
 have h:(x != x)=false:=by simp
 go_enter Tryz.func279,Tryz.ntmps279
 go_wp2
 go_ret
 exact ⟨rfl,rfl⟩
set_option maxRecDepth 100000 in
set_option maxHeartbeats 400000 in
theorem compare_kind (x y:Int) (w:World):Calls Tryz.prog 250 #[.int .u8 x, .int .u8 y] w fun e w'=>e = .returned (.int .i64 (cmpI x y))∧w=w':=by
 rcases Int.lt_trichotomy x y with h | h | h
 ·rw [cmpI_lt h]
  go_enter Tryz.func250,Tryz.ntmps250
  go_wp2_with (go_at_call 279;refine (nan_kind _ _).mono ?_;rintro e w1 ⟨rfl,rfl⟩)
  go_ret
  exact ⟨rfl,rfl⟩
 ·subst h
  rw [cmpI_self]
  go_enter Tryz.func250,Tryz.ntmps250
  go_wp2_with (go_at_call 279;refine (nan_kind _ _).mono ?_;rintro e w1 ⟨rfl,rfl⟩)
  go_ret
  exact ⟨rfl,rfl⟩
 ·rw [cmpI_gt h]
  go_enter Tryz.func250,Tryz.ntmps250
  go_wp2_with (go_at_call 279;refine (nan_kind _ _).mono ?_;rintro e w1 ⟨rfl,rfl⟩)
  go_ret
  exact ⟨rfl,rfl⟩

set_option maxRecDepth 100000 in
set_option maxHeartbeats 400000 in
theorem dnan_int (x:Int) (w:World):Calls Tryz.prog 235 #[.int .i64 x] w fun e w'=>e = .returned (.bool false)∧w=w':=by
 have h:(x != x)=false:=by simp
 go_enter Tryz.func235,Tryz.ntmps235
 go_wp2
 go_ret
 exact ⟨rfl,rfl⟩
set_option maxRecDepth 100000 in
set_option maxHeartbeats 400000 in
theorem dcompare_int (x y:Int) (w:World):Calls Tryz.prog 205 #[.int .i64 x, .int .i64 y] w fun e w'=>e = .returned (.int .i64 (cmpI x y))∧w=w':=by
 rcases Int.lt_trichotomy x y with h | h | h
 ·rw [cmpI_lt h]
  go_enter Tryz.func205,Tryz.ntmps205
  go_wp2_with (go_at_call 235;refine (dnan_int _ _).mono ?_;rintro e w1 ⟨rfl,rfl⟩)
  go_ret
  exact ⟨rfl,rfl⟩
 ·subst h
  rw [cmpI_self]
  go_enter Tryz.func205,Tryz.ntmps205
  go_wp2_with (go_at_call 235;refine (dnan_int _ _).mono ?_;rintro e w1 ⟨rfl,rfl⟩)
  go_ret
  exact ⟨rfl,rfl⟩
 ·rw [cmpI_gt h]
  go_enter Tryz.func205,Tryz.ntmps205
  go_wp2_with (go_at_call 235;refine (dnan_int _ _).mono ?_;rintro e w1 ⟨rfl,rfl⟩)
  go_ret
  exact ⟨rfl,rfl⟩

set_option maxRecDepth 100000 in
set_option maxHeartbeats 400000 in
theorem nan_i64 (x:Int) (w:World):Calls Tryz.prog 280 #[.int .i64 x] w fun e w'=>e = .returned (.bool false)∧w=w':=by
 have h:(x != x)=false:=by simp
 go_enter Tryz.func280,Tryz.ntmps280
 go_wp2
 go_ret
 exact ⟨rfl,rfl⟩
set_option maxRecDepth 100000 in
set_option maxHeartbeats 400000 in
theorem compare_i64 (x y:Int) (w:World):Calls Tryz.prog 252 #[.int .i64 x, .int .i64 y] w fun e w'=>e = .returned (.int .i64 (cmpI x y))∧w=w':=by
 rcases Int.lt_trichotomy x y with h | h | h
 ·rw [cmpI_lt h]
  go_enter Tryz.func252,Tryz.ntmps252
  go_wp2_with (go_at_call 280;refine (nan_i64 _ _).mono ?_;rintro e w1 ⟨rfl,rfl⟩)
  go_ret
  exact ⟨rfl,rfl⟩
 ·subst h
  rw [cmpI_self]
  go_enter Tryz.func252,Tryz.ntmps252
  go_wp2_with (go_at_call 280;refine (nan_i64 _ _).mono ?_;rintro e w1 ⟨rfl,rfl⟩)
  go_ret
  exact ⟨rfl,rfl⟩
 ·rw [cmpI_gt h]
  go_enter Tryz.func252,Tryz.ntmps252
  go_wp2_with (go_at_call 280;refine (nan_i64 _ _).mono ?_;rintro e w1 ⟨rfl,rfl⟩)
  go_ret
  exact ⟨rfl,rfl⟩

/-! ### texts -/
def cmpS (x y:ByteArray):Int:=if Op.bytesLess x.toList y.toList then -1 else if x.toList==y.toList then 0 else 1
set_option maxRecDepth 100000 in
set_option maxHeartbeats 400000 in
theorem nan_str (x:ByteArray) (w:World):Calls Tryz.prog 281 #[.string x] w fun e w'=>e = .returned (.bool false)∧w=w':=by
 go_enter Tryz.func281,Tryz.ntmps281
 go_wp2
 go_ret
 exact ⟨rfl,rfl⟩
set_option maxRecDepth 100000 in
set_option maxHeartbeats 400000 in
theorem compare_str (x y:ByteArray) (w:World):Calls Tryz.prog 253 #[.string x, .string y] w fun e w'=>e = .returned (.int .i64 (cmpS x y))∧w=w':=by
 unfold cmpS
 cases h1:Op.bytesLess x.toList y.toList
 ·cases h2:(x.toList==y.toList)
  all_goals
   go_enter Tryz.func253,Tryz.ntmps253
   go_wp2_with (go_at_call 281;refine (nan_str _ _).mono ?_;rintro e w1 ⟨rfl,rfl⟩)
   go_ret
   exact ⟨ret_int (by simp),rfl⟩
 ·go_enter Tryz.func253,Tryz.ntmps253
  go_wp2_with (go_at_call 281;refine (nan_str _ _).mono ?_;rintro e w1 ⟨rfl,rfl⟩)
  go_ret
  exact ⟨ret_int (by simp),rfl⟩
end Go.Proofs.YtdgbkpoickbidaaGreatDoor
