/- Times as values; antichains: which lists they are. Plain. append, once more: it stays where it was, or nothing that was there has turned. The Book's lists: what it means that each has memory of its own; what stays under writes to some blocks. What is new memory, from where to where; lists of lists out of such. Lists of times in memory. Whether a datum may be, by its fields. A datum, field by field. cmp.Compare at kinds, ints and numbers: what they answer. datum.Cmp: what it answers of any two data. Rows in memory: a slice of data, read. row.Cmp: what it answers of any two rows. The plain law of DatumOrder: the order of texts, of data. Rows with counts in memory. Conditions: each theorem states its own. -/
import Derived.Test.YtdgbkpoickbidaaHz1
import Derived.Test.YtdgbkpoickbidaaProg
import Derived.Lib.ValidU
import Derived.Lib.IndexBytes
namespace Go.Proofs.Ytdgbkpoickbidaa

abbrev TV:=Int × List Int
def tcmp (x y:TV):Int:=cmpTT x.1 x.2 y.1 y.2
def tleq (x y:TV):Bool:=leqT x.1 x.2 y.1 y.2
theorem cmpT_neg (x y:Int):cmpT y x = -cmpT x y:=by
 unfold cmpT
 repeat' split
 all_goals omega
theorem cmpT_pos {x y:Int}:cmpT x y<0↔x<y:=by
 unfold cmpT
 repeat' split
 all_goals omega
theorem lexT_neg : ∀ l m:List Int,lexT m l = -lexT l m
 | [],[]=>rfl
 | [],_ :: _=>rfl
 | _ :: _,[]=>rfl
 | x :: l,y :: m=>by
  simp only [lexT]
  rw [cmpT_neg x y]
  by_cases h:cmpT x y=0
  ·rw [if_pos (by omega),if_pos h];exact lexT_neg l m
  ·rw [if_neg (by omega),if_neg h]
theorem lexT_trans : ∀ l m n:List Int,lexT l m≤0→lexT m n≤0→lexT l n≤0
 | [],[],n,_,h=>h
 | [],_ :: _,[],_,h=>by simp [lexT] at h
 | [],_ :: _,_ :: _,_,_=>by simp [lexT]
 | _ :: _,[],_,h,_=>by simp [lexT] at h
 | _ :: _,_ :: _,[],_,h=>by simp [lexT] at h
 | x :: l,y :: m,z :: n,h,k=>by
  simp only [lexT] at h k ⊢
  by_cases h1:cmpT x y=0
  ·have e:=cmpT_zero.1 h1
   subst e
   rw [if_pos h1] at h
   by_cases h2:cmpT x z=0
   ·rw [if_pos h2] at k ⊢
    exact lexT_trans l m n h k
   ·rw [if_neg h2] at k ⊢
    exact k
  ·rw [if_neg h1] at h
   have l1:x<y:=cmpT_pos.1 (by omega)
   by_cases h2:cmpT y z=0
   ·have e:=cmpT_zero.1 h2
    subst e
    rw [if_neg h1]
    exact h
   ·rw [if_neg h2] at k
    have l2:y<z:=cmpT_pos.1 (by omega)
    have l3:cmpT x z<0:=cmpT_pos.2 (by omega)
    rw [if_neg (by omega)]
    omega
theorem orT_le {a b c:Int}:orT a b c≤0↔a<0∨(a=0∧(b<0∨(b=0∧c≤0))):=by
 unfold orT
 split
 ·split<;>omega
 ·omega
theorem tcmp_neg (x y:TV):tcmp y x = -tcmp x y:=by
 unfold tcmp cmpTT
 rw [cmpT_neg x.2.length,cmpT_neg x.1,lexT_neg x.2]
 unfold orT
 by_cases h1:cmpT x.2.length y.2.length=0
 ·rw [if_pos (by omega),if_pos h1]
  by_cases h2:cmpT x.1 y.1=0
  ·rw [if_pos (by omega),if_pos h2]
  ·rw [if_neg (by omega),if_neg h2]
 ·rw [if_neg (by omega),if_neg h1]
theorem tcmp_trans (x y z:TV) (h:tcmp x y≤0) (k:tcmp y z≤0):tcmp x z≤0:=by
 unfold tcmp cmpTT at h k ⊢
 rw [orT_le] at h k ⊢
 rw [cmpT_pos,cmpT_zero,cmpT_pos,cmpT_zero] at h k ⊢
 rcases h with h | ⟨h1,h | ⟨h2,h3⟩⟩<;>rcases k with k | ⟨k1,k | ⟨k2,k3⟩⟩
 ·exact .inl (by omega)
 ·exact .inl (by omega)
 ·exact .inl (by omega)
 ·exact .inl (by omega)
 ·exact .inr ⟨by omega, .inl (by omega)⟩
 ·exact .inr ⟨by omega, .inl (by omega)⟩
 ·exact .inl (by omega)
 ·exact .inr ⟨by omega, .inl (by omega)⟩
 ·exact .inr ⟨by omega, .inr ⟨by omega,lexT_trans _ _ _ h3 k3⟩⟩
theorem tcmp_zero {x y:TV}:tcmp x y=0↔x=y:=by
 unfold tcmp
 rw [cmp_zero]
 exact ⟨fun h=>Prod.ext h.1 h.2,fun h=>by rw [h];exact ⟨rfl,rfl⟩⟩
theorem tcmp_lt_trans {x y z:TV} (h:tcmp x y<0) (k:tcmp y z≤0):tcmp x z<0:=by
 have h1:=tcmp_trans x y z (by omega) k
 rcases Int.lt_or_eq_of_le h1 with h2 | h2
 ·exact h2
 ·have e:=tcmp_zero.1 h2
  subst e
  have:=tcmp_neg x y
  omega
theorem tleq_refl (x:TV):tleq x x=true:=leq_refl _ _
theorem tleq_trans {x y z:TV} (h:tleq x y=true) (k:tleq y z=true):tleq x z=true:=leq_trans h k
theorem tleq_cmp {x y:TV} (h:tleq x y=true):tcmp x y≤0:=cmp_le h
theorem tleq_anti {x y:TV} (h:tleq x y=true) (k:tleq y x=true):x=y:=tcmp_zero.1 (cmp_both.1 ⟨h,k⟩)

/-! ### lists that rise -/
def Rising (l:List TV):Prop:=l.Pairwise fun x y=>tcmp x y<0
theorem rising_ext : ∀ {a b:List TV},Rising a→Rising b→(∀ x,x∈a↔x∈b)→a=b
 | [],[],_,_,_=>rfl
 | [],y :: b,_,_,h=>by have:=(h y).2 (by simp);simp at this
 | x :: a,[],_,_,h=>by have:=(h x).1 (by simp);simp at this
 | x :: a,y :: b,ha,hb,h=>by
  unfold Rising at ha hb
  rw [List.pairwise_cons] at ha hb
  have e:x=y:=by
   have h1:x∈y :: b:=(h x).1 (by simp)
   have h2:y∈x :: a:=(h y).2 (by simp)
   rcases List.mem_cons.1 h1 with h1 | h1
   ·exact h1
   ·rcases List.mem_cons.1 h2 with h2 | h2
    ·exact h2.symm
    ·have q1:=hb.1 x h1
     have q2:=ha.1 y h2
     have:=tcmp_neg x y
     omega
  subst e
  rw [rising_ext ha.2 hb.2 (fun z=>by
   constructor
   ·intro hz
    rcases List.mem_cons.1 ((h z).1 (List.mem_cons_of_mem _ hz)) with e | e
    ·have:=ha.1 z hz
     rw [e,tcmp_zero.2 rfl] at this
     omega
    ·exact e
   ·intro hz
    rcases List.mem_cons.1 ((h z).2 (List.mem_cons_of_mem _ hz)) with e | e
    ·have:=hb.1 z hz
     rw [e,tcmp_zero.2 rfl] at this
     omega
    ·exact e)]
theorem filter_len_le {α:Type} {p q:α→Bool} (h : ∀ z,p z=true→q z=true) : ∀ l:List α,(l.filter p).length≤(l.filter q).length
 | []=>Nat.le_refl _
 | x :: l=>by
  have ih:=filter_len_le h l
  rw [List.filter_cons,List.filter_cons]
  by_cases hp:p x=true
  ·rw [if_pos hp,if_pos (h x hp)];simpa using ih
  ·rw [if_neg hp]
   split
   ·exact Nat.le_succ_of_le ih
   ·exact ih
theorem filter_less {α:Type} {p q:α→Bool} (h : ∀ z,p z=true→q z=true) {a:α} : ∀ {l:List α},a∈l→p a=false→q a=true→(l.filter p).length<(l.filter q).length
 | x :: l,ha,hp,hq=>by
  rw [List.filter_cons,List.filter_cons]
  rcases List.mem_cons.1 ha with rfl | ha
  ·rw [if_neg (by rw [hp];decide),if_pos hq]
   exact Nat.lt_succ_of_le (filter_len_le h l)
  ·have ih:=filter_less h ha hp hq
   by_cases hx:p x=true
   ·rw [if_pos hx,if_pos (h x hx)];simpa using ih
   ·rw [if_neg hx]
    split
    ·exact Nat.lt_succ_of_lt ih
    ·exact ih
/-- a time of the list that none of the list is ahead of -/
def Least (L:List TV) (v:TV):Prop:=v∈L ∧ ∀ u∈L,tleq u v=true→u=v
theorem least_below : ∀ (n:Nat) (L:List TV) (v:TV),(L.filter fun u=>decide (tcmp u v<0)).length≤n→v∈L → ∃ m,Least L m∧tleq m v=true
 | n,L,v,hn,hv=>by
  by_cases h : ∃ u∈L,tleq u v=true∧u≠v
  ·obtain ⟨u,hu,huv,hne⟩:=h
   have hlt:tcmp u v<0:=by
    have:=tleq_cmp huv
    have h0:tcmp u v≠0:=fun e=>hne (tcmp_zero.1 e)
    omega
   have hlen:(L.filter fun z=>decide (tcmp z u<0)).length<(L.filter fun z=>decide (tcmp z v<0)).length:=by
    have hsub : ∀ z,decide (tcmp z u<0)=true→decide (tcmp z v<0)=true:=fun z hz=>by
     rw [decide_eq_true_iff] at hz ⊢
     exact tcmp_lt_trans hz (by omega)
    exact filter_less hsub hu (by rw [tcmp_zero.2 rfl];decide) (by rw [decide_eq_true_iff];exact hlt)
   match n,hn with
   | 0,hn=>omega
   | n+1,hn =>
    obtain ⟨m,h1,h2⟩:=least_below n L u (by omega) hu
    exact ⟨m,h1,tleq_trans h2 huv⟩
  ·refine ⟨v,⟨hv,fun u hu huv=>?_⟩,tleq_refl v⟩
   by_cases e:u=v
   ·exact e
   ·exact absurd ⟨u,hu,huv,e⟩ h
/-- M is the antichain of L -/
structure IsOf (L M:List TV):Prop where
 rising:Rising M
 mem : ∀ v,v∈M↔Least L v
theorem IsOf.unique {L M N:List TV} (h:IsOf L M) (k:IsOf L N):M=N:=rising_ext h.rising k.rising fun v=>(h.mem v).trans (k.mem v).symm
theorem Least.congr {L L':List TV} (h : ∀ v,v∈L↔v∈L') (v:TV):Least L v↔Least L' v :=
 ⟨fun q=>⟨(h v).1 q.1,fun u hu=>q.2 u ((h u).2 hu)⟩,fun q=>⟨(h v).2 q.1,fun u hu=>q.2 u ((h u).1 hu)⟩⟩
theorem IsOf.congr {L L' M:List TV} (h : ∀ v,v∈L↔v∈L') (k:IsOf L M):IsOf L' M:=⟨k.rising,fun v=>(k.mem v).trans (Least.congr h v)⟩
/-- beyond -/
def beyondV (M:List TV) (t:TV):Bool:=M.any fun x=>tleq x t
theorem beyond_iff {M:List TV} {t:TV}:beyondV M t=true ↔ ∃ x∈M,tleq x t=true:=by unfold beyondV;exact List.any_eq_true
/-- what the program has, when it has looked at so many of the sorted list -/
structure OfUpto (L S:List TV) (i:Nat) (M:List TV):Prop where
 rising:Rising M
 mem : ∀ v,v∈M↔Least L v∧v∈S.take i
theorem OfUpto.zero (L S:List TV):OfUpto L S 0 []:=⟨List.Pairwise.nil,fun v=>by simp⟩
theorem take_mem_succ {α:Type} {l:List α} {i:Nat} (h:i<l.length) (v:α):v∈l.take (i+1)↔v∈l.take i∨v=l[i]:=by
 rw [List.take_succ_eq_append_getElem h,List.mem_append,List.mem_singleton]
theorem OfUpto.skip {L S M:List TV} {i:Nat} (h:OfUpto L S i M) (hi:i<S.length) (hb:beyondV M S[i]=true):OfUpto L S (i+1) M:=by
 refine ⟨h.rising,fun v=>⟨fun hv=>?_,fun ⟨h1,h2⟩=>?_⟩⟩
 ·have:=(h.mem v).1 hv
  exact ⟨this.1,(take_mem_succ hi v).2 (.inl this.2)⟩
 ·rcases (take_mem_succ hi v).1 h2 with h2 | rfl
  ·exact (h.mem v).2 ⟨h1,h2⟩
  ·obtain ⟨x,hx,hxv⟩:=beyond_iff.1 hb
   have q:=(h.mem x).1 hx
   have e:=h1.2 x q.1.1 hxv
   rw [← e]
   exact hx
theorem OfUpto.put {L S M:List TV} {i:Nat} (h:OfUpto L S i M) (hi:i<S.length) (hs:S.Pairwise fun x y=>tcmp x y≤0) (hm : ∀ v,v∈S↔v∈L) (hb:beyondV M S[i]=false):OfUpto L S (i+1) (M++[S[i]]):=by
 have hno : ∀ x∈M,tleq x S[i]=false:=fun x hx=>by
  by_cases e:tleq x S[i]=true
  ·rw [beyond_iff.2 ⟨x,hx,e⟩] at hb;exact absurd hb (by decide)
  ·simpa using e
 have hat : ∀ v,v∈S→tcmp v S[i]<0→v∈S.take i:=fun v hv hlt=>by
  obtain ⟨j,hj,rfl⟩:=List.getElem_of_mem hv
  by_cases hji:j<i
  ·exact List.mem_take_iff_getElem.2 ⟨j,by omega,rfl⟩
  ·exfalso
   rcases Nat.lt_or_eq_of_le (Nat.le_of_not_lt hji) with q | q
   ·have:=List.pairwise_iff_getElem.1 hs i j hi hj q
    have:=tcmp_neg S[i] S[j]
    omega
   ·subst q
    rw [tcmp_zero.2 rfl] at hlt
    omega
 have hti:S[i]∈L:=(hm _).1 (List.getElem_mem hi)
 have hleast:Least L S[i]:=by
  refine ⟨hti,fun u hu huv=>?_⟩
  obtain ⟨m,h1,h2⟩:=least_below _ L u (Nat.le_refl _) hu
  have hmv:=tleq_trans h2 huv
  by_cases e:m=S[i]
  ·exact tleq_anti huv (e ▸ h2)
  ·have hlt:tcmp m S[i]<0:=by
    have:=tleq_cmp hmv
    have h0:tcmp m S[i]≠0:=fun q=>e (tcmp_zero.1 q)
    omega
   have hmM:m∈M:=(h.mem m).2 ⟨h1,hat m ((hm m).2 h1.1) hlt⟩
   rw [hno m hmM] at hmv
   exact absurd hmv (by decide)
 refine ⟨?_,fun v=>⟨fun hv=>?_,fun ⟨h1,h2⟩=>?_⟩⟩
 ·unfold Rising
  refine List.pairwise_append.2 ⟨h.rising,List.pairwise_singleton _ _,fun x hx y hy=>?_⟩
  rw [List.mem_singleton] at hy
  subst hy
  have hxt:=((h.mem x).1 hx).2
  obtain ⟨j,hj,e⟩:=List.mem_take_iff_getElem.1 hxt
  have q:=List.pairwise_iff_getElem.1 hs j i (by omega) hi (by omega)
  rw [e] at q
  have h0:tcmp x S[i]≠0:=fun z=>by
   have e2:=tcmp_zero.1 z
   have:=hno x hx
   rw [e2,tleq_refl] at this
   exact absurd this (by decide)
  omega
 ·rcases List.mem_append.1 hv with hv | hv
  ·have:=(h.mem v).1 hv
   exact ⟨this.1,(take_mem_succ hi v).2 (.inl this.2)⟩
  ·rw [List.mem_singleton] at hv
   subst hv
   exact ⟨hleast,(take_mem_succ hi _).2 (.inr rfl)⟩
 ·rcases (take_mem_succ hi v).1 h2 with h2 | rfl
  ·exact List.mem_append_left _ ((h.mem v).2 ⟨h1,h2⟩)
  ·exact List.mem_append_right _ (by simp)
theorem OfUpto.done {L S M:List TV} (h:OfUpto L S S.length M) (hm : ∀ v,v∈S↔v∈L):IsOf L M :=
 ⟨h.rising,fun v=>by rw [h.mem v,List.take_length,hm];exact ⟨fun q=>q.1,fun q=>⟨q,q.1⟩⟩⟩
/-! ### the antichain as a function -/
instance (L:List TV) (v:TV):Decidable (Least L v):=by unfold Least;exact inferInstance
open Go.RowKit
theorem run_append_two {P:Program} (w:World) {t ty e size bytes:Nat} {z:Value} (E:Elem P t e size bytes z) (base:Nat)
  (A0:Option Addr) (n c0:Nat) (xs:List Value) (hown:Own w base e size A0 n c0 xs)
  (A:Option Addr) (m c:Nat) (news:List Value) (hr:Sl w size A m c news) (h1 : ∀ u∈news,u.oneCell'=true)
  (hbytes:(n+m) * bytes≤140737488355328) (hb1:0<bytes) (hbase:base≤w.heap.size) :
  ∃ A' c' w',(Builtin.append_ #[t,t] ty #[.slice A0 n c0, .slice A m c]).run P w = .ok (.slice A' (n+m) c') w'∧Own w' base e size A' (n+m) c' (xs++news)∧w.grownBy w' (blk A0 c0) ∧
   ((A'=A0∧c'=c0)∨(blk A' c'=some w.heap.size∧Ext w w')):=by
 obtain ⟨i,hi,hz,hs,hby⟩:=info_parts E.info
 have h63:n+m≤maxLen:=by
  have:n+m≤(n+m) * bytes:=Nat.le_mul_of_pos_right _ hb1
  unfold maxLen;omega
 rcases Nat.eq_zero_or_pos m with hm | hm
 ·subst hm
  have hnews:news=[]:=List.eq_nil_of_length_eq_zero (by simpa using hr.1)
  subst hnews
  exact ⟨_,_,w,run_append_nothing w E A0 n c0 hown.le.1 A c,by simpa using hown,World.grownBy.refl w _, .inl ⟨rfl,rfl⟩⟩
 ·obtain ⟨ad,rfl,hcells⟩:=hr.2.2.2.2 hm
  rcases hown.2 with ⟨rfl,rfl⟩ | ⟨g,cur,rfl,hb,hg,hnc,hcm,hcs,htake⟩
  ·have hx:xs=[]:=List.eq_nil_of_length_eq_zero (by simpa using hown.1)
   subst hx
   have hge:=grownCap_ge w (0+m) 0 e
   have hcm:grownCap w (0+m) 0 e≤maxLen:=grownCap_le_maxLen w (0+m) 0 e h63
   obtain ⟨kk,hk⟩ : ∃ k,grownCap w (0+m) 0 e=k+1:=⟨_,(Nat.succ_pred_eq_of_pos (by omega)).symm⟩
   have hfin:Own (w.drew.alloc (.cells ((#[]:Array Value)++news.toArray++Builtin.zeroCells z.cells (grownCap w (0+m) 0 e - (0+m))) e)) base e size (some ⟨w.heap.size,0,none⟩) (0+m) (grownCap w (0+m) 0 e) ([]++news):=by
    refine ⟨by simpa using hr.1, .inr ⟨w.heap.size,_,rfl,hbase,heap_alloc_new w.drew _,hge,hcm,?_,?_⟩⟩
    ·refine Nat.le_of_eq (Eq.symm ?_)
     simp only [Array.size_append,List.size_toArray,size_zeroCells,E.zsize,hr.1,List.length_nil,Nat.zero_add, ← Nat.add_mul]
     congr 1
     simp only [Nat.zero_add] at hge
     omega
    ·have hlen:([]++news).length=(0+m) * size:=by simpa using hr.1
     simp only [Array.toList_append,List.append_assoc]
     rw [← List.append_assoc, ← hlen]
     exact List.take_left
   cases A0 with
   | none =>
    have hr2:=run_append_nil (P:=P) w t ty e i z E.under hi hz ad m c news (by rw [hs];exact hr.1) hcells hm (by unfold maxLen at h63;omega) (by rw [hby];simp only [Nat.zero_add] at hbytes;omega)
    simp only [Nat.zero_add,List.nil_append,Array.empty_append] at hfin hk ⊢
    refine ⟨_,_,_,hr2,hfin,⟨rfl,rfl,rfl,by simp,fun k hk _=>Below.heap_alloc w.drew _ k hk⟩, .inr ⟨?_,((Ext.refl w).drew).alloc _⟩⟩
    rw [hk];rfl
   | some b =>
    have hr2:=run_append_grow (P:=P) w t ty e i z E.under hi hz b 0 0 [] (by simp) (by simp) ad m c news (by rw [hs];exact hr.1) hcells (by omega) (by unfold maxLen at h63;omega) (by rw [hby];exact growslice_fits (by omega) hbytes)
    refine ⟨_,_,_,hr2,hfin,⟨rfl,rfl,rfl,by simp,fun k hk _=>Below.heap_alloc w.drew _ k hk⟩, .inr ⟨?_,((Ext.refl w).drew).alloc _⟩⟩
    rw [hk];rfl
  ·have hlen:(xs++news).length=(n+m) * size:=by rw [List.length_append,hown.1,hr.1,Nat.add_mul]
   by_cases hroom:n+m≤c0
   ·have hfit:n * i.size+news.length≤cur.size:=by rw [hr.1,hs, ← Nat.add_mul];exact Nat.le_trans (Nat.mul_le_mul_right _ hroom) hcs
    have hr2:=run_append_room (P:=P) w t ty e i E.under hi g n c0 cur hg ad m c news (by rw [hs];exact hr.1) hcells h1 hroom hfit
    refine ⟨_,_,_,hr2,⟨hlen, .inr ⟨g,_,rfl,hb,setRow_heap w g cur _ e _ hg,hroom,hcm,?_,?_⟩⟩,⟨rfl,rfl,rfl,by simp,fun k _ hk=>setRow_other w g k _ (fun e'=>hk (by
     obtain ⟨c1,rfl⟩ : ∃ c1,c0=c1+1:=⟨c0 - 1,by omega⟩
     simp [blk,e']))⟩, .inl ⟨rfl,rfl⟩⟩
    ·simp only [List.size_toArray,List.length_append,List.length_take,List.length_drop,Array.length_toList]
     omega
    ·rw [hs,htake, ← hlen]
     exact List.take_left
   ·have holds : ∀ j u,xs[j]?=some u→w.cell? ((⟨g,0,none⟩:Addr).add j)=some u:=head_cells hg htake
    have hr2:=run_append_grow (P:=P) w t ty e i z E.under hi hz ⟨g,0,none⟩ n c0 xs (by rw [hs];exact hown.1) holds ad m c news (by rw [hs];exact hr.1) hcells (by omega) (by unfold maxLen at h63;omega) (by rw [hby];exact growslice_fits (by omega) hbytes)
    have hge:=grownCap_ge w (n+m) c0 e
    have hcm:grownCap w (n+m) c0 e≤maxLen:=grownCap_le_maxLen w (n+m) c0 e h63
    refine ⟨_,_,_,hr2,⟨hlen, .inr ⟨w.heap.size,_,rfl,hbase,heap_alloc_new w.drew _,hge,hcm,?_,?_⟩⟩,⟨rfl,rfl,rfl,by simp,fun k hk _=>Below.heap_alloc w.drew _ k hk⟩, .inr ⟨?_,((Ext.refl w).drew).alloc _⟩⟩
    ·refine Nat.le_of_eq (Eq.symm ?_)
     simp only [Array.size_append,List.size_toArray,size_zeroCells,E.zsize,hr.1,hown.1, ← Nat.add_mul]
     congr 1
     omega
    ·simp only [Array.toList_append,List.append_assoc]
     rw [← List.append_assoc, ← hlen]
     exact List.take_left
    ·obtain ⟨kk,hk⟩ : ∃ k,grownCap w (n+m) c0 e=k+1:=⟨_,(Nat.succ_pred_eq_of_pos (by omega)).symm⟩
     rw [hk];rfl

theorem wp_append_two {P:Program} (w:World) {o:Oper} {a:Act} {K:Act→World→Prop} {Q:Exit→Act→World→Prop} {t e size bytes:Nat} {z:Value} (E:Elem P t e size bytes z) (base:Nat) (s x:Operand)
  (ho:o.op = .call { callee := .builtin .append,args := #[s,x],argTypes := #[t,t] })
  (A0:Option Addr) (n c0:Nat) (xs:List Value) (hs:a.eval s = .slice A0 n c0) (hown:Own w base e size A0 n c0 xs)
  (A:Option Addr) (m c:Nat) (news:List Value) (hx:a.eval x = .slice A m c) (hr:Sl w size A m c news) (h1 : ∀ u∈news,u.oneCell'=true)
  (hbytes:(n+m) * bytes≤140737488355328) (hb1:0<bytes) (hbase:base≤w.heap.size)
  (h : ∀ A' c' w',Own w' base e size A' (n+m) c' (xs++news)→w.grownBy w' (blk A0 c0)→((A'=A0∧c'=c0)∨(blk A' c'=some w.heap.size∧Ext w w'))→K (a.put o.dst (.slice A' (n+m) c')) w'):o.wp P a w K Q:=by
 obtain ⟨A',c',w',hrun,h2,h3,h4⟩:=run_append_two (P:=P) (ty:=o.type) w E base A0 n c0 xs hown A m c news hr h1 hbytes hb1 hbase
 unfold Oper.wp execOp
 simp only [ho,resolve,invoke,builtin,Sem.run_bind,Sem.run_pure,Result.andThen_ok,List.map_toArray,List.map_cons,List.map_nil,hs,hx,hrun]
 exact h A' c' w' h2 h3 h4

/-- append, in a plain region -/
theorem wpList_append_two {P:Program} (w:World) {ops:Array Oper} {rest:List Oper} {o:Oper} {a:Act} {Q:Exit→Act→World→Prop} {t e size bytes:Nat} {z:Value} (E:Elem P t e size bytes z) (base:Nat) (s x:Operand)
  (ho:o.op = .call { callee := .builtin .append,args := #[s,x],argTypes := #[t,t] }) (hgd:o.guard=none)
  (A0:Option Addr) (n c0:Nat) (xs:List Value) (hs:a.eval s = .slice A0 n c0) (hown:Own w base e size A0 n c0 xs)
  (A:Option Addr) (m c:Nat) (news:List Value) (hx:a.eval x = .slice A m c) (hr:Sl w size A m c news) (h1 : ∀ u∈news,u.oneCell'=true)
  (hbytes:(n+m) * bytes≤140737488355328) (hb1:0<bytes) (hbase:base≤w.heap.size)
  (h : ∀ A' c' w',Own w' base e size A' (n+m) c' (xs++news)→w.grownBy w' (blk A0 c0)→((A'=A0∧c'=c0)∨(blk A' c'=some w.heap.size∧Ext w w'))→wpList P ops Q rest (a.put o.dst (.slice A' (n+m) c')) w'):wpList P ops Q (o :: rest) a w :=
 wpList_plain hgd fun _ hK=>wp_append_two w E base s x ho A0 n c0 xs hs hown A m c news hx hr h1 hbytes hb1 hbase fun A' c' w' h2 h3 h4=>hK _ _ (h A' c' w' h2 h3 h4)

open Go.RowKit
/-! ### writes to some blocks -/
/-- w' is w but for the blocks that S tells, and new ones -/
structure Upd (S:Nat→Prop) (w w':World):Prop where
 os:w'.os=w.os
 tape:w'.tape=w.tape
 output:w'.output=w.output
 size:w.heap.size≤w'.heap.size
 block : ∀ k,k<w.heap.size → ¬ S k→w'.heap[k]?=w.heap[k]?
theorem Upd.refl (S:Nat→Prop) (w:World):Upd S w w:=⟨rfl,rfl,rfl,Nat.le_refl _,fun _ _ _=>rfl⟩
theorem Upd.ext {S:Nat→Prop} {w w':World} (x:Ext w w'):Upd S w w':=⟨Below.os x,Below.tape x,Below.output x,Ext.size x,fun k hk _=>Below.block x k hk⟩
theorem Upd.mono {S T:Nat→Prop} {w w':World} (h:Upd S w w') (hs : ∀ k,k<w.heap.size→S k→T k):Upd T w w':=⟨h.os,h.tape,h.output,h.size,fun k hk hn=>h.block k hk (fun q=>hn (hs k hk q))⟩
theorem Upd.trans {S:Nat→Prop} {a b c:World} (h:Upd S a b) (k:Upd S b c):Upd S a c :=
 ⟨k.os.trans h.os,k.tape.trans h.tape,k.output.trans h.output,Nat.le_trans h.size k.size,fun q hq hn=>(k.block q (Nat.lt_of_lt_of_le hq h.size) hn).trans (h.block q hq hn)⟩
theorem Upd.setCell {S:Nat→Prop} {a w:World} (h:Upd S a w) {p:Addr} (hp:S p.block∨a.heap.size≤p.block) (u:Value):Upd S a (w.setCell p u):=by
 refine ⟨h.os,h.tape,h.output,by simpa using h.size,fun k hk hn=>?_⟩
 rw [Below.heap_setCell _ _ _ _ (fun e=>by
  rcases hp with hp | hp
  ·exact hn (e ▸ hp)
  ·omega)]
 exact h.block k hk hn
theorem Upd.alloc {S:Nat→Prop} {a w:World} (h:Upd S a w) (o:Obj):Upd S a (w.alloc o):=h.trans (Upd.ext ((Ext.refl w).alloc o))
theorem Upd.grown {S:Nat→Prop} {a w w':World} {row:Option Nat} (h:Upd S a w) (g:w.grownBy w' row) (hr : ∀ k,row=some k→S k∨a.heap.size≤k):Upd S a w' :=
 ⟨g.os.trans h.os,g.tape.trans h.tape,g.output.trans h.output,Nat.le_trans h.size g.size,fun k hk hn=>(g.block k (Nat.lt_of_lt_of_le hk h.size) (fun e=>by
  rcases hr k e.symm with q | q
  ·exact hn q
  ·omega)).trans (h.block k hk hn)⟩
theorem cell_of_heap {w w':World} {p:Addr} (h:w'.heap[p.block]?=w.heap[p.block]?):w'.cell? p=w.cell? p:=by unfold World.cell?;rw [h]
theorem Upd.cell {S:Nat→Prop} {w w':World} (h:Upd S w w') {p:Addr} {u:Value} (hn : ¬ S p.block) (hc:w.cell? p=some u):w'.cell? p=some u :=
 (cell_of_heap (h.block p.block (World.block_lt_of_cell? w p hc) hn)).trans hc
theorem Sl.upd {S:Nat→Prop} {w w':World} {size n c:Nat} {A:Option Addr} {xs:List Value} (h:Sl w size A n c xs) (x:Upd S w w') (hn : ∀ k,blk A c=some k → ¬ S k):Sl w' size A n c xs:=by
 refine ⟨h.1,h.2.1,h.2.2.1,h.2.2.2.1,fun h0=>?_⟩
 obtain ⟨ad,rfl,hc⟩:=h.2.2.2.2 h0
 refine ⟨ad,rfl,fun j u hu=>x.cell ?_ (hc j u hu)⟩
 rw [block_add]
 refine hn ad.block ?_
 have:=h.2.1
 cases c with
 | zero=>omega
 | succ c=>rfl
theorem Own.upd {S:Nat→Prop} {w w':World} {B size n c:Nat} {e:TypeId} {A:Option Addr} {xs:List Value} (h:Own w B e size A n c xs) (x:Upd S w w') (hn : ∀ k,blk A c=some k → ¬ S k):Own w' B e size A n c xs:=by
 refine ⟨h.1,?_⟩
 rcases h.2 with hz | ⟨g,cur,rfl,hb,hg,rest⟩
 ·exact .inl hz
 ·cases c with
  | zero =>
   obtain ⟨h1,_⟩:=rest
   exact .inl ⟨rfl,by omega⟩
  | succ c =>
   refine .inr ⟨g,cur,rfl,hb,?_,rest⟩
   rw [x.block g (Array.getElem?_eq_some_iff.1 hg).1 (hn g rfl)]
   exact hg
/-! ### lists of lists -/
/-- a slice's header -/
structure En where
 A:Option Addr
 n:Nat
 c:Nat
def En.v (x:En):Value := .slice x.A x.n x.c
def En.b (x:En):Option Nat:=blk x.A x.c
def En.zero:En:=⟨none,0,0⟩
def ensC (L:List En):List Value:=L.map En.v
def ena (L:List En) (i:Nat):En:=L.getD i En.zero
section
variable (mk:Int→Nat→List Value) (size:Nat)
/-- so many marks -/
def marks_ (i:Int) (n:Nat):List Value:=(List.range n).flatMap (mk i)
variable {mk size}
theorem marks_zero (i:Int):marks_ mk i 0=[]:=rfl
theorem marks_succ (i:Int) (n:Nat):marks_ mk i (n+1)=marks_ mk i n++mk i n:=by
 unfold marks_
 rw [List.range_succ,List.flatMap_append,List.flatMap_singleton]
theorem marks_len (hs : ∀ i k,(mk i k).length=size) (i:Int) : ∀ n,(marks_ mk i n).length=n * size
 | 0=>by simp [marks_]
 | n+1=>by rw [marks_succ,List.length_append,marks_len hs i n,hs,Nat.succ_mul]
end
/-- the lists, each in a block of its own that lies from B on -/
structure Lists (w:World) (B:Nat) (e:TypeId) (size:Nat) (L:List En) (f:Nat→List Value):Prop where
 own : ∀ i,i<L.length→Own w B e size (ena L i).A (ena L i).n (ena L i).c (f i)
 apart : ∀ i j,i<L.length→j<L.length→i≠j → ∀ k,(ena L i).b=some k→(ena L j).b≠some k
/-- the blocks that the lists lie in -/
def Foot (L:List En) (k:Nat):Prop := ∃ i,i<L.length∧(ena L i).b=some k
theorem Lists.foot_lt {w:World} {B:Nat} {e:TypeId} {size:Nat} {L:List En} {f:Nat→List Value} (h:Lists w B e size L f) {k:Nat} (hk:Foot L k):B≤k∧k<w.heap.size:=by
 obtain ⟨i,hi,hb⟩:=hk
 exact (h.own i hi).lt k hb
theorem Lists.upd {S:Nat→Prop} {w w':World} {B:Nat} {e:TypeId} {size:Nat} {L:List En} {f:Nat→List Value} (h:Lists w B e size L f) (x:Upd S w w') (hn : ∀ k,Foot L k → ¬ S k):Lists w' B e size L f :=
 ⟨fun i hi=>(h.own i hi).upd x (fun k hk=>hn k ⟨i,hi,hk⟩),h.apart⟩
theorem Lists.nil (w:World) (B:Nat) (e:TypeId) (size:Nat) (f:Nat→List Value):Lists w B e size [] f:=⟨fun i hi=>by simp at hi,fun i j hi=>by simp at hi⟩
/-! ### the first phase: marks are written -/
structure Ph1 (mk:Int→Nat→List Value) (w wr:World) (B:Nat) (e:TypeId) (size:Nat) (L:List En) (i:Nat) (f:Nat→List Value):Prop where
 ls:Lists wr B e size L f
 done : ∀ j,j<i→j<L.length→f j=marks_ mk j (ena L j).n
 upd:Upd (Foot L) w wr
/-- within an entry -/
structure Ph1I (mk:Int→Nat→List Value) (w wr:World) (B:Nat) (e:TypeId) (size:Nat) (L:List En) (i k:Nat) (f:Nat→List Value):Prop where
 ph:Ph1 mk w wr B e size L i f
 part:(f i).take (k * size)=marks_ mk i k
theorem Ph1.enter {mk:Int→Nat→List Value} {w wr:World} {B:Nat} {e:TypeId} {size:Nat} {L:List En} {i:Nat} {f:Nat→List Value} (h:Ph1 mk w wr B e size L i f):Ph1I mk w wr B e size L i 0 f:=⟨h,by rw [Nat.zero_mul];rfl⟩
/-- a store into one of the lists -/
theorem Lists.put {w:World} {B:Nat} {e:TypeId} {size:Nat} {L:List En} {f:Nat→List Value} (h:Lists w B e size L f) {i g:Nat} (hi:i<L.length) (hA:(ena L i).A=some ⟨g,0,none⟩) (hc:0<(ena L i).c) (q:Nat) (u:Value) :
  Lists (w.setCell ⟨g,q,none⟩ u) B e size L (fun j=>if j=i then (f i).set q u else f j):=by
 have hb:(ena L i).b=some g:=by
  unfold En.b
  rw [hA]
  generalize (ena L i).c=c at hc
  cases c with
  | zero=>omega
  | succ c=>rfl
 refine ⟨fun j hj=>?_,h.apart⟩
 by_cases hji:j=i
 ·subst hji
  rw [if_pos rfl]
  have o:=h.own j hi
  rw [hA] at o ⊢
  exact o.put q u
 ·rw [if_neg hji]
  exact (h.own j hj).far (p:=⟨g,q,none⟩) (fun e=>h.apart i j hi hj (Ne.symm hji) g hb e) u
theorem set_take {xs:List Value} {k:Nat} (h:k<xs.length) (u:Value):(xs.set k u).take (k+1)=xs.take k++[u]:=by
 rw [List.take_succ_eq_append_getElem (by rw [List.length_set];exact h),List.take_set_of_le (Nat.le_refl k),List.getElem_set_self]
theorem Ph1I.put4 {mk:Int→Nat→List Value} {w wr:World} {B:Nat} {e:TypeId} {L:List En} {i k g:Nat} {f:Nat→List Value} (h:Ph1I mk w wr B e 4 L i k f) (hi:i<L.length) (hk:k<(ena L i).n) (hA:(ena L i).A=some ⟨g,0,none⟩) (hm:(ena L i).b=some g) {u v x y:Value} (hu:mk i k=[u,v,x,y]) :
  ∃ f',Ph1I mk w ((((wr.setCell ⟨g,k * 4,none⟩ u).setCell ⟨g,k * 4+1,none⟩ v).setCell ⟨g,k * 4+2,none⟩ x).setCell ⟨g,k * 4+3,none⟩ y) B e 4 L i (k+1) f':=by
 have hl:=(h.ph.ls.own i hi).1
 have hc:0<(ena L i).c:=by have:=(h.ph.ls.own i hi).le.1;omega
 refine ⟨_,⟨(((h.ph.ls.put hi hA hc (k * 4) u).put hi hA hc (k * 4+1) v).put hi hA hc (k * 4+2) x).put hi hA hc (k * 4+3) y,fun j hj hjl=>?_,(((h.ph.upd.setCell (.inl ⟨i,hi,hm⟩) u).setCell (.inl ⟨i,hi,hm⟩) v).setCell (.inl ⟨i,hi,hm⟩) x).setCell (.inl ⟨i,hi,hm⟩) y⟩,?_⟩
 ·rw [if_neg (by omega),if_neg (by omega),if_neg (by omega),if_neg (by omega)]
  exact h.ph.done j hj hjl
 ·simp only [↓reduceIte]
  rw [show (k+1) * 4=k * 4+3+1 by omega,set_take (by simp only [List.length_set,hl];omega),set_take (by simp only [List.length_set,hl];omega),set_take (by simp only [List.length_set,hl];omega),set_take (by rw [hl];omega),h.part,marks_succ,hu]
  simp
/-! ### the second phase: each grows -/
structure Ph2 (mk:Int→Nat→List Value) (w1 wr:World) (B:Nat) (e T:TypeId) (size:Nat) (L:List En) (i:Nat) (G:List En) (LA:Option Addr) (lc:Nat):Prop where
 len:G.length=i
 lst:Own wr w1.heap.size T 1 LA i lc (ensC G)
 rest : ∀ j,i≤j→j<L.length→Own wr B e size (ena L j).A (ena L j).n (ena L j).c (marks_ mk j (ena L j).n)
 read : ∀ j,j<i→Sl wr size (ena L j).A (ena L j).n (ena L j).c (marks_ mk j (ena L j).n)
 long : ∀ j,j<i→(ena G j).n=(ena L j).n+8∧Own wr B e size (ena G j).A (ena G j).n (ena G j).c (marks_ mk j (ena L j).n++marks_ mk (-1 - j) 8)
 at_ : ∀ j,j<i → ∀ k,(ena G j).b=some k→(ena L j).b=some k∨(w1.heap.size≤k∧blk LA lc≠some k)
 foot : ∀ k,Foot L k→k<w1.heap.size
 apart : ∀ i j,i<L.length→j<L.length→i≠j → ∀ k,(ena L i).b=some k→(ena L j).b≠some k
 upd:Upd (Foot L) w1 wr
theorem Ph2.start {mk:Int→Nat→List Value} {w wr:World} {B:Nat} {e:TypeId} {size:Nat} {L:List En} {f:Nat→List Value} (T:TypeId) (h:Ph1 mk w wr B e size L L.length f):Ph2 mk wr wr B e T size L 0 [] none 0 :=
 ⟨rfl,Own.nil _ _ _ _,fun j _ hj=>by have:=h.ls.own j hj;rwa [h.done j hj hj] at this,fun j hj=>by omega,fun j hj=>by omega,fun j hj=>by omega,fun k hk=>(h.ls.foot_lt hk).2,h.ls.apart,Upd.refl _ _⟩
/-- within an entry: x is being grown -/
structure Ph2I (mk:Int→Nat→List Value) (w2 wr:World) (B:Nat) (e:TypeId) (size:Nat) (L:List En) (i k:Nat) (A:Option Addr) (c:Nat):Prop where
 own:Own wr B e size A ((ena L i).n+k) c (marks_ mk i (ena L i).n++marks_ mk (-1 - i) k)
 at_:(A=(ena L i).A∧c=(ena L i).c) ∨ ∃ q,blk A c=some q∧w2.heap.size≤q
 read:Sl wr size (ena L i).A (ena L i).n (ena L i).c (marks_ mk i (ena L i).n)
 lt : ∀ q,(ena L i).b=some q→q<w2.heap.size
 upd:Upd (fun q=>(ena L i).b=some q) w2 wr
theorem Ph2.enter {mk:Int→Nat→List Value} {w1 wr:World} {B:Nat} {e T:TypeId} {size:Nat} {L:List En} {i:Nat} {G:List En} {LA:Option Addr} {lc:Nat} (h:Ph2 mk w1 wr B e T size L i G LA lc) (hi:i<L.length):Ph2I mk wr wr B e size L i 0 (ena L i).A (ena L i).c:=by
 have o:=h.rest i (Nat.le_refl _) hi
 exact ⟨by rw [marks_zero,List.append_nil];exact o, .inl ⟨rfl,rfl⟩,o.sl,fun q hq=>(o.lt q hq).2,Upd.refl _ _⟩
theorem Ph2I.step {mk:Int→Nat→List Value} {w2 wr w3:World} {B:Nat} {e:TypeId} {size:Nat} {L:List En} {i k:Nat} {A A3:Option Addr} {c c3:Nat} (h:Ph2I mk w2 wr B e size L i k A c) (hs : ∀ i k,(mk i k).length=size) (ob:Obj)
  (o3:Own w3 B e size A3 ((ena L i).n+k+1) c3 (marks_ mk i (ena L i).n++marks_ mk (-1 - i) k++mk (-1 - i) k)) (g3:(wr.alloc ob).grownBy w3 (blk A c)) (x3:(A3=A∧c3=c)∨(blk A3 c3=some (wr.alloc ob).heap.size∧Ext (wr.alloc ob) w3)):Ph2I mk w2 w3 B e size L i (k+1) A3 c3:=by
 have hsz:w2.heap.size≤(wr.alloc ob).heap.size:=Nat.le_trans h.upd.size ((Ext.refl wr).alloc ob).size
 have hin : ∀ q,blk A c=some q→(ena L i).b=some q∨w2.heap.size≤q:=fun q hq=>by
  rcases h.at_ with ⟨rfl,rfl⟩ | ⟨q',h1,h2⟩
  ·exact .inl hq
  ·rw [h1] at hq;injection hq with hq;exact .inr (by omega)
 refine ⟨by rw [marks_succ, ← List.append_assoc];exact o3,?_,?_,h.lt,(h.upd.alloc ob).grown g3 hin⟩
 ·rcases x3 with ⟨rfl,rfl⟩ | ⟨h1,_⟩
  ·exact h.at_
  ·exact .inr ⟨_,h1,hsz⟩
 ·have key:A3=(ena L i).A→c3=(ena L i).c→Sl w3 size (ena L i).A (ena L i).n (ena L i).c (marks_ mk i (ena L i).n):=fun ea ec=>by
   have:=Sl.take (k:=(ena L i).n) o3.sl (by omega)
   rw [List.append_assoc,List.take_left' (marks_len hs i _),ea,ec] at this
   exact this
  rcases x3 with ⟨rfl,rfl⟩ | ⟨h1,x⟩
  ·rcases h.at_ with ⟨ea,ec⟩ | ⟨q',h1,h2⟩
   ·exact key ea ec
   ·refine Sl.upd (S:=fun q=>blk A3 c3=some q) (h.read.ext ((Ext.refl wr).alloc ob)) ((Upd.refl _ _).grown g3 (fun k hk => .inl hk)) (fun q hq hq2=>?_)
    rw [h1] at hq2
    injection hq2 with hq2
    have:=h.lt q hq
    omega
  ·exact (h.read.ext ((Ext.refl wr).alloc ob)).ext x
/-! ### reading elements -/
theorem addr_off (ad:Addr) (j q:Nat) (hq:0<q):ad.add (j+q)=⟨(ad.add j).block,(ad.add j).off+q,none⟩:=by
 rw [← add_add']
 unfold Addr.add
 rw [if_neg (by omega)]
theorem own_at2 {w:World} {n c:Nat} {A:Option Addr} {xs:List Value} (h:Sl w 2 A n c xs) {k:Nat} (hk:k<n) {l:List Value} {a b:Value} (hl:l=[a,b]) (hx : ∀ q,q<2→xs[k * 2+q]?=l[q]?) :
  ∃ ad,A=some ad∧w.cell? (ad.add (k * 2))=some a∧w.cell? ⟨(ad.add (k * 2)).block,(ad.add (k * 2)).off+1,none⟩=some b:=by
 subst hl
 obtain ⟨ad,e,hc⟩:=h.2.2.2.2 (by omega)
 exact ⟨ad,e,hc _ _ (hx 0 (by omega)),by rw [← addr_off _ _ 1 (by omega)];exact hc _ _ (hx 1 (by omega))⟩
theorem own_at4 {w:World} {n c:Nat} {A:Option Addr} {xs:List Value} (h:Sl w 4 A n c xs) {k:Nat} (hk:k<n) {l:List Value} {a b x y:Value} (hl:l=[a,b,x,y]) (hx : ∀ q,q<4→xs[k * 4+q]?=l[q]?) :
  ∃ ad,A=some ad∧w.cell? (ad.add (k * 4))=some a∧w.cell? ⟨(ad.add (k * 4)).block,(ad.add (k * 4)).off+1,none⟩=some b∧w.cell? ⟨(ad.add (k * 4)).block,(ad.add (k * 4)).off+2,none⟩=some x∧w.cell? ⟨(ad.add (k * 4)).block,(ad.add (k * 4)).off+3,none⟩=some y:=by
 subst hl
 obtain ⟨ad,e,hc⟩:=h.2.2.2.2 (by omega)
 exact ⟨ad,e,hc _ _ (hx 0 (by omega)),by rw [← addr_off _ _ 1 (by omega)];exact hc _ _ (hx 1 (by omega)),by rw [← addr_off _ _ 2 (by omega)];exact hc _ _ (hx 2 (by omega)),by rw [← addr_off _ _ 3 (by omega)];exact hc _ _ (hx 3 (by omega))⟩
open Go.RowKit
theorem Own.base {w:World} {B B' s n c:Nat} {e:TypeId} {A:Option Addr} {xs:List Value} (h:Own w B e s A n c xs) (hb : ∀ k,blk A c=some k→B'≤k):Own w B' e s A n c xs:=by
 refine ⟨h.1,?_⟩
 rcases h.2 with hz | ⟨g,cur,rfl,_,hg,hnc,rest⟩
 ·exact .inl hz
 ·cases c with
  | zero=>exact .inl ⟨rfl,by omega⟩
  | succ c=>exact .inr ⟨g,cur,rfl,hb g rfl,hg,hnc,rest⟩
/-- new memory from lo on, below hi -/
structure KP (w:World) (lo hi:Nat) (e:TypeId) (size:Nat) (x:En) (xs:List Value):Prop where
 own:Own w lo e size x.A x.n x.c xs
 top : ∀ k,x.b=some k→k<hi
theorem KP.ext {w w':World} {lo hi:Nat} {e:TypeId} {size:Nat} {x:En} {xs:List Value} (h:KP w lo hi e size x xs) (y:Ext w w'):KP w' lo hi e size x xs:=⟨h.own.ext y,h.top⟩
theorem KP.upd {S:Nat→Prop} {w w':World} {lo hi:Nat} {e:TypeId} {size:Nat} {x:En} {xs:List Value} (h:KP w lo hi e size x xs) (y:Upd S w w') (hS : ∀ k,lo≤k→k<hi → ¬ S k):KP w' lo hi e size x xs :=
 ⟨h.own.upd y (fun k hk=>hS k (h.own.lt k hk).1 (h.top k hk)),h.top⟩
theorem KP.of {w:World} {lo:Nat} {e:TypeId} {size n c:Nat} {A:Option Addr} {xs:List Value} (h:Own w lo e size A n c xs):KP w lo w.heap.size e size ⟨A,n,c⟩ xs:=⟨h,fun k hk=>(h.lt k hk).2⟩
open Go.RowKit
/-- a time that lies in memory -/
structure Tm where
 e:Int
 A:Option Addr
 c:Nat
 l:List Int
def Tm.zero:Tm:=⟨0,none,0,[]⟩
instance:Inhabited Tm:=⟨Tm.zero⟩
def Tm.v (x:Tm):TV:=(x.e,x.l)
def tmC (x:Tm):List Value:=[.int .u64 x.e, .slice x.A x.l.length x.c]
def tmsC (L:List Tm):List Value:=L.flatMap tmC
theorem tmsC_len (L:List Tm):(tmsC L).length=L.length * 2:=by
 unfold tmsC
 induction L with
 | nil=>rfl
 | cons d l ih=>rw [List.flatMap_cons,List.length_append,ih,List.length_cons,show (tmC d).length=2 from rfl];omega
theorem tmsC_at : ∀ (L:List Tm) (i j:Nat),i<L.length→j<2→(tmsC L)[i * 2+j]?=(tmC (L.getD i Tm.zero))[j]?
 | [],i,j,h,_=>absurd h (Nat.not_lt_zero _)
 | d :: l,0,j,_,hj=>by
  unfold tmsC
  rw [List.flatMap_cons,Nat.zero_mul,Nat.zero_add,List.getElem?_append_left (by rw [show (tmC d).length=2 from rfl];exact hj)]
  rfl
 | d :: l,i+1,j,h,hj=>by
  unfold tmsC
  rw [List.flatMap_cons,List.getElem?_append_right (by rw [show (tmC d).length=2 from rfl];omega),show (i+1) * 2+j - (tmC d).length=i * 2+j by rw [show (tmC d).length=2 from rfl];omega]
  exact tmsC_at l i j (Nat.lt_of_succ_lt_succ h) hj
theorem tmsC_take (L:List Tm) (k:Nat):(tmsC L).take (k * 2)=tmsC (L.take k):=by
 induction L generalizing k with
 | nil=>simp [tmsC]
 | cons x L ih =>
  cases k with
  | zero=>simp [tmsC]
  | succ k =>
   show (tmC x++tmsC L).take _=tmC x++tmsC (L.take k)
   rw [List.take_append,show (tmC x).length=2 from rfl,show (k+1) * 2 - 2=k * 2 by omega,ih,List.take_of_length_le (by show 2≤_;omega)]
/-- a list of times as readings give it -/
structure Tin (w:World) (A:Option Addr) (c:Nat) (L:List Tm):Prop where
 sl:Sl w 2 A L.length c (tmsC L)
 ls : ∀ x∈L,Sl w 1 x.A x.l.length x.c (wds x.l)
section
variable {w w':World} {A:Option Addr} {c:Nat} {L:List Tm}
theorem Tin.ext (h:Tin w A c L) (x:Ext w w'):Tin w' A c L:=⟨h.sl.ext x,fun y hy=>(h.ls y hy).ext x⟩
theorem Tin.nil (w:World):Tin w none 0 []:=⟨Sl.nil w 2,fun x hx=>(nomatch hx)⟩
theorem Tin.at (h:Tin w A c L) {i:Nat} (hi:i<L.length) : ∃ ad,A=some ad∧w.cell? (ad.add (i * 2))=some (.int .u64 (L.getD i Tm.zero).e)∧w.cell? ⟨(ad.add (i * 2)).block,(ad.add (i * 2)).off+1,none⟩=some (.slice (L.getD i Tm.zero).A (L.getD i Tm.zero).l.length (L.getD i Tm.zero).c) :=
 own_at2 h.sl hi (show tmC (L.getD i Tm.zero)=[.int .u64 (L.getD i Tm.zero).e, .slice (L.getD i Tm.zero).A (L.getD i Tm.zero).l.length (L.getD i Tm.zero).c] from rfl) (fun q hq=>tmsC_at L i q hi hq)
theorem Tin.take (h:Tin w A c L) {k:Nat} (hk:k≤L.length):Tin w A c (L.take k):=by
 have:=Sl.take (k:=k) h.sl hk
 rw [tmsC_take] at this
 exact ⟨by rw [List.length_take,Nat.min_eq_left hk];exact this,fun x hx=>h.ls x (List.mem_of_mem_take hx)⟩
end
theorem getT_mem {L:List Tm} {i:Nat} (h:i<L.length):L.getD i Tm.zero∈L:=by
 rw [List.getD_eq_getElem?_getD,List.getElem?_eq_getElem h]
 exact List.getElem_mem h
/-- a list of times that a call has made, from block B on, each with counters of its own -/
structure Tout (w:World) (B:Nat) (A:Option Addr) (c:Nat) (L:List Tm):Prop where
 own:Own w B 47 2 A L.length c (tmsC L)
 ls : ∀ x∈L,Own w B 103 1 x.A x.l.length x.c (wds x.l) ∧ ∀ k,blk x.A x.c=some k→blk A c≠some k
 apart:L.Pairwise fun x y => ∀ k,blk x.A x.c=some k→blk y.A y.c≠some k
section
variable {w w':World} {B:Nat} {A:Option Addr} {c:Nat} {L:List Tm}
theorem Tout.ext (h:Tout w B A c L) (x:Ext w w'):Tout w' B A c L:=⟨h.own.ext x,fun y hy=>⟨(h.ls y hy).1.ext x,(h.ls y hy).2⟩,h.apart⟩
theorem Tout.mono (h:Tout w B A c L) {B':Nat} (hb:B'≤B):Tout w B' A c L:=⟨h.own.mono hb,fun y hy=>⟨(h.ls y hy).1.mono hb,(h.ls y hy).2⟩,h.apart⟩
theorem Tout.nil (w:World) (B:Nat):Tout w B none 0 []:=⟨Own.nil _ _ _ _,fun x hx=>(nomatch hx),List.Pairwise.nil⟩
theorem Tout.upd {S:Nat→Prop} (h:Tout w B A c L) (x:Upd S w w') (hn : ∀ k,B≤k → ¬ S k):Tout w' B A c L :=
 ⟨h.own.upd x (fun k hk=>hn k (h.own.lt k hk).1),fun y hy=>⟨(h.ls y hy).1.upd x (fun k hk=>hn k ((h.ls y hy).1.lt k hk).1),(h.ls y hy).2⟩,h.apart⟩
end
open Go.RowKit
def validB (s:ByteArray):Bool:=Lib.validD s.data.toList
/-- no field is set but the kind's own -/
def formB (k:Int) (b:Bool) (n:Int) (s:ByteArray):Bool :=
 decide ((k=1∨k=2∨k=3∨k=4)∧(k≠2→b=false)∧(k≠3→n=0)∧(k≠4→s=⟨#[]⟩))
def checkT (k:Int) (b:Bool) (n:Int) (s:ByteArray):Int :=
 if formB k b n s then (if validB s then (if 1000<s.size then 12 else 0) else 13) else 13
theorem checkT_off {k n:Int} {b:Bool} {s:ByteArray} (h : ¬ ((k=1∨k=2∨k=3∨k=4)∧(k≠2→b=false)∧(k≠3→n=0)∧(k≠4→s=⟨#[]⟩))):checkT k b n s=13:=by
 unfold checkT formB
 rw [if_neg (by rw [decide_eq_true_iff];exact h)]
theorem checkT_on {k n:Int} {b:Bool} {s:ByteArray} (h:(k=1∨k=2∨k=3∨k=4)∧(k≠2→b=false)∧(k≠3→n=0)∧(k≠4→s=⟨#[]⟩)):checkT k b n s=if validB s then (if 1000<s.size then 12 else 0) else 13:=by
 unfold checkT formB
 rw [if_pos (by rw [decide_eq_true_iff];exact h)]
theorem valid_empty:validB ⟨#[]⟩=true:=rfl
theorem empty_iff {s:ByteArray}:s.toList=[]↔s=⟨#[]⟩:=by
 rw [Lib.toList_data]
 constructor
 ·intro h
  obtain ⟨d⟩:=s
  obtain ⟨l⟩:=d
  simp at h
  rw [h]
 ·rintro rfl;rfl
open Go.RowKit
/-- a datum, field by field -/
structure Dat where
 k:Int
 b:Bool
 n:Int
 s:ByteArray
def Dat.zero:Dat:=⟨0,false,0,⟨#[]⟩⟩
def Dat.check (d:Dat):Int:=checkT d.k d.b d.n d.s
open Go.RowKit
def cmpI (x y:Int):Int:=if x<y then -1 else if y<x then 1 else 0
theorem cmpI_lt {x y:Int} (h:x<y):cmpI x y = -1:=by unfold cmpI;rw [if_pos h]
theorem cmpI_gt {x y:Int} (h:y<x):cmpI x y=1:=by unfold cmpI;rw [if_neg (by omega),if_pos h]
theorem cmpI_self (x:Int):cmpI x x=0:=by unfold cmpI;rw [if_neg (by omega),if_neg (by omega)]

set_option maxRecDepth 100000 in
set_option maxHeartbeats 400000 in
theorem nan_kind (x:Int) (w:World):Calls Try.prog 86 #[.int .u8 x] w fun e w'=>e = .returned (.bool false)∧w=w':=by
 have h:(x != x)=false:=by simp
 go_enter Try.func86,Try.ntmps86
 go_wp2
 go_ret
 exact ⟨rfl,rfl⟩
set_option maxRecDepth 100000 in
set_option maxHeartbeats 400000 in
theorem compare_kind (x y:Int) (w:World):Calls Try.prog 77 #[.int .u8 x, .int .u8 y] w fun e w'=>e = .returned (.int .i64 (cmpI x y))∧w=w':=by
 rcases Int.lt_trichotomy x y with h | h | h
 ·rw [cmpI_lt h]
  go_enter Try.func77,Try.ntmps77
  go_wp2_with (go_at_call 86;refine (nan_kind _ _).mono ?_;rintro e w1 ⟨rfl,rfl⟩)
  go_ret
  exact ⟨rfl,rfl⟩
 ·subst h
  rw [cmpI_self]
  go_enter Try.func77,Try.ntmps77
  go_wp2_with (go_at_call 86;refine (nan_kind _ _).mono ?_;rintro e w1 ⟨rfl,rfl⟩)
  go_ret
  exact ⟨rfl,rfl⟩
 ·rw [cmpI_gt h]
  go_enter Try.func77,Try.ntmps77
  go_wp2_with (go_at_call 86;refine (nan_kind _ _).mono ?_;rintro e w1 ⟨rfl,rfl⟩)
  go_ret
  exact ⟨rfl,rfl⟩

set_option maxRecDepth 100000 in
set_option maxHeartbeats 400000 in
theorem dnan_int (x:Int) (w:World):Calls Try.prog 81 #[.int .i64 x] w fun e w'=>e = .returned (.bool false)∧w=w':=by
 have h:(x != x)=false:=by simp
 go_enter Try.func81,Try.ntmps81
 go_wp2
 go_ret
 exact ⟨rfl,rfl⟩
set_option maxRecDepth 100000 in
set_option maxHeartbeats 400000 in
theorem dcompare_int (x y:Int) (w:World):Calls Try.prog 70 #[.int .i64 x, .int .i64 y] w fun e w'=>e = .returned (.int .i64 (cmpI x y))∧w=w':=by
 rcases Int.lt_trichotomy x y with h | h | h
 ·rw [cmpI_lt h]
  go_enter Try.func70,Try.ntmps70
  go_wp2_with (go_at_call 81;refine (dnan_int _ _).mono ?_;rintro e w1 ⟨rfl,rfl⟩)
  go_ret
  exact ⟨rfl,rfl⟩
 ·subst h
  rw [cmpI_self]
  go_enter Try.func70,Try.ntmps70
  go_wp2_with (go_at_call 81;refine (dnan_int _ _).mono ?_;rintro e w1 ⟨rfl,rfl⟩)
  go_ret
  exact ⟨rfl,rfl⟩
 ·rw [cmpI_gt h]
  go_enter Try.func70,Try.ntmps70
  go_wp2_with (go_at_call 81;refine (dnan_int _ _).mono ?_;rintro e w1 ⟨rfl,rfl⟩)
  go_ret
  exact ⟨rfl,rfl⟩

set_option maxRecDepth 100000 in
set_option maxHeartbeats 400000 in
theorem nan_i64 (x:Int) (w:World):Calls Try.prog 87 #[.int .i64 x] w fun e w'=>e = .returned (.bool false)∧w=w':=by
 have h:(x != x)=false:=by simp
 go_enter Try.func87,Try.ntmps87
 go_wp2
 go_ret
 exact ⟨rfl,rfl⟩
set_option maxRecDepth 100000 in
set_option maxHeartbeats 400000 in
theorem compare_i64 (x y:Int) (w:World):Calls Try.prog 79 #[.int .i64 x, .int .i64 y] w fun e w'=>e = .returned (.int .i64 (cmpI x y))∧w=w':=by
 rcases Int.lt_trichotomy x y with h | h | h
 ·rw [cmpI_lt h]
  go_enter Try.func79,Try.ntmps79
  go_wp2_with (go_at_call 87;refine (nan_i64 _ _).mono ?_;rintro e w1 ⟨rfl,rfl⟩)
  go_ret
  exact ⟨rfl,rfl⟩
 ·subst h
  rw [cmpI_self]
  go_enter Try.func79,Try.ntmps79
  go_wp2_with (go_at_call 87;refine (nan_i64 _ _).mono ?_;rintro e w1 ⟨rfl,rfl⟩)
  go_ret
  exact ⟨rfl,rfl⟩
 ·rw [cmpI_gt h]
  go_enter Try.func79,Try.ntmps79
  go_wp2_with (go_at_call 87;refine (nan_i64 _ _).mono ?_;rintro e w1 ⟨rfl,rfl⟩)
  go_ret
  exact ⟨rfl,rfl⟩

/-! ### texts -/
def cmpS (x y:ByteArray):Int:=if Op.bytesLess x.toList y.toList then -1 else if x.toList==y.toList then 0 else 1
set_option maxRecDepth 100000 in
set_option maxHeartbeats 400000 in
theorem nan_str (x:ByteArray) (w:World):Calls Try.prog 88 #[.string x] w fun e w'=>e = .returned (.bool false)∧w=w':=by
 go_enter Try.func88,Try.ntmps88
 go_wp2
 go_ret
 exact ⟨rfl,rfl⟩
set_option maxRecDepth 100000 in
set_option maxHeartbeats 400000 in
theorem compare_str (x y:ByteArray) (w:World):Calls Try.prog 80 #[.string x, .string y] w fun e w'=>e = .returned (.int .i64 (cmpS x y))∧w=w':=by
 unfold cmpS
 cases h1:Op.bytesLess x.toList y.toList
 ·cases h2:(x.toList==y.toList)
  all_goals
   go_enter Try.func80,Try.ntmps80
   go_wp2_with (go_at_call 88;refine (nan_str _ _).mono ?_;rintro e w1 ⟨rfl,rfl⟩)
   go_ret
   exact ⟨ret_int (by simp),rfl⟩
 ·go_enter Try.func80,Try.ntmps80
  go_wp2_with (go_at_call 88;refine (nan_str _ _).mono ?_;rintro e w1 ⟨rfl,rfl⟩)
  go_ret
  exact ⟨ret_int (by simp),rfl⟩
open Go.RowKit
def rankT (b:Bool):Int:=if b then 1 else 0
def cmpD (a b:Dat):Int:=if a.k=b.k then (if a.k=2 then cmpI (rankT a.b) (rankT b.b) else if a.k=3 then cmpI a.n b.n else if a.k=4 then cmpS a.s b.s else 0) else cmpI a.k b.k
set_option maxRecDepth 100000 in
set_option maxHeartbeats 400000 in
theorem rank_any (k:Int) (b:Bool) (n:Int) (s:ByteArray) (w:World):Calls Try.prog 78 #[.agg #[.int .u8 k, .bool b, .int .i64 n, .string s]] w fun e w'=>e = .returned (.int .i64 (rankT b))∧Ext w w':=by
 cases b
 all_goals
  go_enter Try.func78,Try.ntmps78
  go_wp2
  go_ret
  exact ⟨rfl,(Ext.refl w).alloc _⟩
section
variable (ka na kb nb k:Int) (ba bb:Bool) (sa sb:ByteArray) (w:World)
set_option maxRecDepth 100000 in
set_option maxHeartbeats 600000 in
theorem cmp_kind (h : ¬ ka=kb):Calls Try.prog 69 #[.agg #[.int .u8 ka, .bool ba, .int .i64 na, .string sa], .agg #[.int .u8 kb, .bool bb, .int .i64 nb, .string sb]] w fun e w'=>e = .returned (.int .i64 (cmpI ka kb))∧Ext w w':=by
 have z:(ka != kb)=true:=by simpa using h
 clear h
 go_enter Try.func69,Try.ntmps69
 go_wp2_with (go_at_call 77;refine (compare_kind _ _ _).mono ?_;rintro e w1 ⟨rfl,rfl⟩)
 go_ret
 exact ⟨rfl,((Ext.refl w).alloc _).alloc _⟩
set_option maxRecDepth 100000 in
set_option maxHeartbeats 600000 in
theorem cmp_int:Calls Try.prog 69 #[.agg #[.int .u8 3, .bool ba, .int .i64 na, .string sa], .agg #[.int .u8 3, .bool bb, .int .i64 nb, .string sb]] w fun e w'=>e = .returned (.int .i64 (cmpI na nb))∧Ext w w':=by
 go_enter Try.func69,Try.ntmps69
 go_wp2_with (go_at_call 79;refine (compare_i64 _ _ _).mono ?_;rintro e w1 ⟨rfl,rfl⟩)
 go_ret
 exact ⟨rfl,((Ext.refl w).alloc _).alloc _⟩
set_option maxRecDepth 100000 in
set_option maxHeartbeats 600000 in
theorem cmp_text:Calls Try.prog 69 #[.agg #[.int .u8 4, .bool ba, .int .i64 na, .string sa], .agg #[.int .u8 4, .bool bb, .int .i64 nb, .string sb]] w fun e w'=>e = .returned (.int .i64 (cmpS sa sb))∧Ext w w':=by
 go_enter Try.func69,Try.ntmps69
 go_wp2_with (go_at_call 80;refine (compare_str _ _ _).mono ?_;rintro e w1 ⟨rfl,rfl⟩)
 go_ret
 exact ⟨rfl,((Ext.refl w).alloc _).alloc _⟩
set_option maxRecDepth 100000 in
set_option maxHeartbeats 600000 in
theorem cmp_other (h2 : ¬ k=2) (h3 : ¬ k=3) (h4 : ¬ k=4):Calls Try.prog 69 #[.agg #[.int .u8 k, .bool ba, .int .i64 na, .string sa], .agg #[.int .u8 k, .bool bb, .int .i64 nb, .string sb]] w fun e w'=>e = .returned (.int .i64 0)∧Ext w w':=by
 have z:(k != k)=false:=by simp
 have z2:(k==2)=false:=by simpa using h2
 have z3:(k==3)=false:=by simpa using h3
 have z4:(k==4)=false:=by simpa using h4
 go_enter Try.func69,Try.ntmps69
 go_wp2
 go_ret
 exact ⟨rfl,((Ext.refl w).alloc _).alloc _⟩
set_option maxRecDepth 100000 in
set_option maxHeartbeats 800000 in
theorem cmp_bool:Calls Try.prog 69 #[.agg #[.int .u8 2, .bool ba, .int .i64 na, .string sa], .agg #[.int .u8 2, .bool bb, .int .i64 nb, .string sb]] w fun e w'=>e = .returned (.int .i64 (cmpI (rankT ba) (rankT bb)))∧Ext w w':=by
 go_enter Try.func69,Try.ntmps69
 go_upto_region 6 with fail
 have a0:Bk ((w.alloc (.cells #[.int .u8 2, .bool ba, .int .i64 na, .string sa] 55)).alloc (.cells #[.int .u8 2, .bool bb, .int .i64 nb, .string sb] 55)) w.heap.size 55 #[.int .u8 2, .bool ba, .int .i64 na, .string sa]:=(Bk.new _ _ _).alloc _
 have b0:Bk ((w.alloc (.cells #[.int .u8 2, .bool ba, .int .i64 na, .string sa] 55)).alloc (.cells #[.int .u8 2, .bool bb, .int .i64 nb, .string sb] 55)) (w.heap.size+1) 55 #[.int .u8 2, .bool bb, .int .i64 nb, .string sb]:=Bk.at (by simp)
 have E0:=((Ext.refl w).alloc (.cells #[.int .u8 2, .bool ba, .int .i64 na, .string sa] 55)).alloc (.cells #[.int .u8 2, .bool bb, .int .i64 nb, .string sb] 55)
 obtain ⟨w0,hw0⟩ : ∃ w0,w0=(w.alloc (.cells #[.int .u8 2, .bool ba, .int .i64 na, .string sa] 55)).alloc (.cells #[.int .u8 2, .bool bb, .int .i64 nb, .string sb] 55):=⟨_,rfl⟩
 rw [← hw0] at a0 b0 E0 ⊢
 clear hw0
 have X:Ext w0 w0.drew:=(Ext.refl w0).drew
 have p0 : ∀ y:Xt w0.drew,y.W.cell? ⟨w.heap.size,0,none⟩=some (.int .u8 2):=fun y=>(a0.ext (X.trans y.x)).cell 0
 have p1 : ∀ y:Xt w0.drew,y.W.cell? ⟨w.heap.size,1,none⟩=some (.bool ba):=fun y=>(a0.ext (X.trans y.x)).cell 1
 have p2 : ∀ y:Xt w0.drew,y.W.cell? ⟨w.heap.size,2,none⟩=some (.int .i64 na):=fun y=>(a0.ext (X.trans y.x)).cell 2
 have p3 : ∀ y:Xt w0.drew,y.W.cell? ⟨w.heap.size,3,none⟩=some (.string sa):=fun y=>(a0.ext (X.trans y.x)).cell 3
 have q0 : ∀ y:Xt w0.drew,y.W.cell? ⟨w.heap.size+1,0,none⟩=some (.int .u8 2):=fun y=>(b0.ext (X.trans y.x)).cell 0
 have q1 : ∀ y:Xt w0.drew,y.W.cell? ⟨w.heap.size+1,1,none⟩=some (.bool bb):=fun y=>(b0.ext (X.trans y.x)).cell 1
 have q2 : ∀ y:Xt w0.drew,y.W.cell? ⟨w.heap.size+1,2,none⟩=some (.int .i64 nb):=fun y=>(b0.ext (X.trans y.x)).cell 2
 have q3 : ∀ y:Xt w0.drew,y.W.cell? ⟨w.heap.size+1,3,none⟩=some (.string sb):=fun y=>(b0.ext (X.trans y.x)).cell 3
 refine wp_region_ord [0,0,3,0,0,31,63,127] (.flo [0,1,3,4] (.ext 2 (.one 5 (.one 6 (.flo [7] (.fin)))))) (by kernel_rfl) (by kernel_rfl) (by intro _ _ d _ _ h;cases d<;>exact h) ?_
 (refine ord_flo (pick_cons rfl (pick_cons rfl (pick_cons rfl (pick_cons rfl pick_nil)))) ?_;(repeat (go_big_quiet_step (fail)));refine wpQuiet_nil ?_;show ordWalk _ _ _ _ _ _ _)
 refine ord_ext (pick_cons rfl pick_nil) ?_;intro K_ hK_
 go_wp2_with (go_at_call 78;refine (rank_any _ _ _ _ _).mono ?_;rintro e w1 ⟨rfl,x1⟩)
 refine ordNext.mk x1 ?_
 refine ord_one (pick_cons rfl pick_nil) ?_;intro K_ hK_
 go_wp2_with (go_at_call 78;refine (rank_any _ _ _ _ _).mono ?_;rintro e w2 ⟨rfl,x2⟩)
 refine ord_one (pick_cons rfl pick_nil) ?_;intro K_ hK_
 go_wp2_with (go_at_call 70;refine (dcompare_int _ _ _).mono ?_;rintro e w3 ⟨rfl,rfl⟩)
 (refine ord_flo (pick_cons rfl pick_nil) ?_;(repeat (go_big_quiet_step (fail)));refine wpQuiet_nil ?_;show ordWalk _ _ _ _ _ _ _)
 refine ord_fin ?_
 go_wp2
 go_ret
 exact ⟨rfl,((E0.trans X).trans x1).trans x2⟩
end
theorem dcmp_any (a b:Dat) (w:World):Calls Try.prog 69 #[.agg #[.int .u8 a.k, .bool a.b, .int .i64 a.n, .string a.s], .agg #[.int .u8 b.k, .bool b.b, .int .i64 b.n, .string b.s]] w fun e w'=>e = .returned (.int .i64 (cmpD a b))∧Ext w w':=by
 obtain ⟨ka,ba,na,sa⟩:=a
 obtain ⟨kb,bb,nb,sb⟩:=b
 unfold cmpD
 by_cases h:ka=kb
 ·subst h
  rw [if_pos rfl]
  by_cases h2:ka=2
  ·subst h2;rw [if_pos rfl];exact cmp_bool na nb ba bb sa sb w
  ·rw [if_neg h2]
   by_cases h3:ka=3
   ·subst h3;rw [if_pos rfl];exact cmp_int na nb ba bb sa sb w
   ·rw [if_neg h3]
    by_cases h4:ka=4
    ·subst h4;rw [if_pos rfl];exact cmp_text na nb ba bb sa sb w
    ·rw [if_neg h4];exact cmp_other na nb ka ba bb sa sb w h2 h3 h4
 ·rw [if_neg h];exact cmp_kind ka na kb nb ba bb sa sb w h
open Go.RowKit
/-- a datum's four cells -/
def datC (d:Dat):List Value:=[.int .u8 d.k, .bool d.b, .int .i64 d.n, .string d.s]
def rowC (l:List Dat):List Value:=l.flatMap datC
/-- the slice '.slice A l.length c' reads as the row l -/
def Rw (w:World) (A:Option Addr) (c:Nat) (l:List Dat):Prop:=Sl w 4 A l.length c (rowC l)
theorem rowC_len (l:List Dat):(rowC l).length=l.length * 4:=by
 unfold rowC
 induction l with
 | nil=>rfl
 | cons d l ih=>rw [List.flatMap_cons,List.length_append,ih,List.length_cons,show (datC d).length=4 from rfl];omega
theorem rowC_at : ∀ (l:List Dat) (i j:Nat),i<l.length→j<4→(rowC l)[i * 4+j]?=(datC (l.getD i Dat.zero))[j]?
 | [],i,j,h,_=>absurd h (Nat.not_lt_zero _)
 | d :: l,0,j,_,hj=>by
  unfold rowC
  rw [List.flatMap_cons,Nat.zero_mul,Nat.zero_add,List.getElem?_append_left (by rw [show (datC d).length=4 from rfl];exact hj)]
  rfl
 | d :: l,i+1,j,h,hj=>by
  unfold rowC
  rw [List.flatMap_cons,List.getElem?_append_right (by rw [show (datC d).length=4 from rfl];omega),show (i+1) * 4+j - (datC d).length=i * 4+j by rw [show (datC d).length=4 from rfl];omega]
  exact rowC_at l i j (Nat.lt_of_succ_lt_succ h) hj
theorem rowC_append (l m:List Dat):rowC (l++m)=rowC l++rowC m:=List.flatMap_append
theorem rowC_one (l:List Dat) : ∀ u∈rowC l,u.oneCell'=true:=by
 intro u hu
 obtain ⟨d,_,h⟩:=List.mem_flatMap.1 hu
 simp only [datC,List.mem_cons,List.not_mem_nil,or_false] at h
 rcases h with rfl | rfl | rfl | rfl<;>rfl
section
variable {w w':World} {A:Option Addr} {c:Nat} {l:List Dat}
theorem Rw.ext (h:Rw w A c l) (x:Ext w w'):Rw w' A c l:=Sl.ext h x
theorem Rw.le (h:Rw w A c l):l.length≤9223372036854775807:=Sl.le h
theorem Rw.nil (w:World):Rw w none 0 []:=Sl.nil w 4
/-- an element's address, and the addresses of its fields, as the walk spells them -/
theorem add_fld (ad:Addr) (i j:Nat) (hj:j≠0):ad.add (i+j)=⟨(ad.add i).block,(ad.add i).off+j,none⟩:=by
 rw [← add_add']
 generalize ad.add i=x
 unfold Addr.add
 rw [if_neg hj]
/-- the four cells of one of its data -/
theorem Rw.at (h:Rw w A c l) {i:Nat} (hi:i<l.length) : ∃ ad,A=some ad∧w.cell? (ad.add (i * 4))=some (.int .u8 (l.getD i Dat.zero).k)∧w.cell? ⟨(ad.add (i * 4)).block,(ad.add (i * 4)).off+1,none⟩=some (.bool (l.getD i Dat.zero).b) ∧
  w.cell? ⟨(ad.add (i * 4)).block,(ad.add (i * 4)).off+2,none⟩=some (.int .i64 (l.getD i Dat.zero).n)∧w.cell? ⟨(ad.add (i * 4)).block,(ad.add (i * 4)).off+3,none⟩=some (.string (l.getD i Dat.zero).s):=by
 obtain ⟨ad,e,hc⟩:=h.2.2.2.2 (by omega)
 refine ⟨ad,e,hc _ _ (by rw [← Nat.add_zero (i * 4),rowC_at l i 0 hi (by omega)];rfl),?_,?_,?_⟩
 ·rw [← add_fld ad _ 1 (by decide)];exact hc _ _ (by rw [rowC_at l i 1 hi (by omega)];rfl)
 ·rw [← add_fld ad _ 2 (by decide)];exact hc _ _ (by rw [rowC_at l i 2 hi (by omega)];rfl)
 ·rw [← add_fld ad _ 3 (by decide)];exact hc _ _ (by rw [rowC_at l i 3 hi (by omega)];rfl)
end
open Go.RowKit
/-- the order of rows -/
def cmpR:List Dat→List Dat→Int
 | [],[]=>0
 | [],_ :: _ => -1
 | _ :: _,[]=>1
 | a :: l,b :: m=>if cmpD a b=0 then cmpR l m else cmpD a b
theorem cmpR_drop {l m:List Dat} {i:Nat} (h1:i<l.length) (h2:i<m.length):cmpR (l.drop i) (m.drop i)=if cmpD (l.getD i Dat.zero) (m.getD i Dat.zero)=0 then cmpR (l.drop (i+1)) (m.drop (i+1)) else cmpD (l.getD i Dat.zero) (m.getD i Dat.zero):=by
 rw [List.drop_eq_getElem_cons h1,List.drop_eq_getElem_cons h2,List.getD_eq_getElem?_getD,List.getD_eq_getElem?_getD,List.getElem?_eq_getElem h1,List.getElem?_eq_getElem h2]
 rfl
theorem cmpR_end {l m:List Dat} {i:Nat} (h:l.length≤i):cmpR (l.drop i) (m.drop i)=if i<m.length then -1 else 0:=by
 rw [List.drop_eq_nil_of_le h]
 by_cases h2:i<m.length
 ·rw [if_pos h2,List.drop_eq_getElem_cons h2];rfl
 ·rw [if_neg h2,List.drop_eq_nil_of_le (by omega)];rfl
theorem cmpR_more {l m:List Dat} {i:Nat} (h1:i<l.length) (h2:m.length≤i):cmpR (l.drop i) (m.drop i)=1:=by
 rw [List.drop_eq_nil_of_le h2,List.drop_eq_getElem_cons h1]
 rfl
theorem cmpD_lit {v:Int} (ka na kb nb:Int) (ba bb:Bool) (sa sb:ByteArray) (w:World) (h:Hid (cmpD ⟨ka,ba,na,sa⟩ ⟨kb,bb,nb,sb⟩=v)) :
  Calls Try.prog 69 #[.agg #[.int .u8 ka, .bool ba, .int .i64 na, .string sa], .agg #[.int .u8 kb, .bool bb, .int .i64 nb, .string sb]] w fun e w'=>e = .returned (.int .i64 v)∧Ext w w':=h.out ▸ dcmp_any ⟨ka,ba,na,sa⟩ ⟨kb,bb,nb,sb⟩ w
set_option maxRecDepth 100000 in
set_option maxHeartbeats 4000000 in
theorem compareFunc_any (A1 A2:Option Addr) (c1 c2 n1 n2:Nat) (l m:List Dat) (w:World) (e1:n1=l.length) (e2:n2=m.length) (h1:Rw w A1 c1 l) (h2:Rw w A2 c2 m) :
  Calls Try.prog 68 #[.slice A1 n1 c1, .slice A2 n2 c2, .func (.func 69) #[] #[]] w fun e w'=>e = .returned (.int .i64 (cmpR l m))∧Ext w w':=by
 have E1:=Lib.hid e1
 have E2:=Lib.hid e2
 have hl1:=h1.le
 have hl2:=h2.le
 rw [← e1] at hl1
 rw [← e2] at hl2
 have H1:=Lib.hid h1
 have H2:=Lib.hid h2
 clear e1 e2 h1 h2
 go_enter Try.func68,Try.ntmps68
 go_wp2
 go_loopw [13] (fun v wr => ∃ i:Nat,i≤n1∧v = .int .i64 i∧Hid (i≤m.length∧cmpR (l.drop i) (m.drop i)=cmpR l m)∧Ext w wr) (fun v _=>n1 - (intOf v).toNat)
 case atStart=>exact ⟨0,Nat.zero_le _,rfl,Lib.hid ⟨Nat.zero_le _,rfl⟩,Ext.refl _⟩
 case round =>
  obtain ⟨i,hi,rfl,hr,er⟩:=hrel
  have hsz:=er.size
  by_cases hlt:i<n1
  ·obtain ⟨a1,rfl,p0,p1,p2,p3⟩:=(H1.out.ext er).at (show i<l.length by rw [← E1.out];exact hlt)
   obtain ⟨d,hd⟩ : ∃ d,l.getD i Dat.zero=d:=⟨_,rfl⟩
   rw [hd] at p0 p1 p2 p3
   by_cases hlt2:i<n2
   ·obtain ⟨a2,rfl,q0,q1,q2,q3⟩:=(H2.out.ext er).at (show i<m.length by rw [← E2.out];exact hlt2)
    obtain ⟨d2,hd2⟩ : ∃ d,m.getD i Dat.zero=d:=⟨_,rfl⟩
    rw [hd2] at q0 q1 q2 q3
    obtain ⟨v,hv⟩ : ∃ v,cmpD d d2=v:=⟨_,rfl⟩
    have HS:Hid (cmpR l m=if v=0 then cmpR (l.drop (i+1)) (m.drop (i+1)) else v):=Lib.hid (by rw [← hr.out.2,cmpR_drop (by rw [← E1.out];exact hlt) (by rw [← E2.out];exact hlt2),hd,hd2,hv])
    have HB:Hid (i+1≤m.length):=Lib.hid (by rw [← E2.out];exact hlt2)
    clear hd hd2 hr
    obtain ⟨ka,ba,na,sa⟩:=d
    obtain ⟨kb,bb,nb,sb⟩:=d2
    simp only at p0 p1 p2 p3 q0 q1 q2 q3
    have HV:=Lib.hid hv
    clear hv
    have r0:=((Ext.refl wr).alloc (.cells #[.int .u8 ka, .bool ba, .int .i64 na, .string sa] 55)).cell q0
    have r1:=((Ext.refl wr).alloc (.cells #[.int .u8 ka, .bool ba, .int .i64 na, .string sa] 55)).cell q1
    have r2:=((Ext.refl wr).alloc (.cells #[.int .u8 ka, .bool ba, .int .i64 na, .string sa] 55)).cell q2
    have r3:=((Ext.refl wr).alloc (.cells #[.int .u8 ka, .bool ba, .int .i64 na, .string sa] 55)).cell q3
    clear q0 q1 q2 q3
    by_cases hv0:v=0
    ·subst hv0
     go_wp2_with (go_at_call 69;refine (cmpD_lit _ _ _ _ _ _ _ _ _ HV).mono ?_;rintro e w1 ⟨rfl,x1⟩)
     go_roundw
     case rel=>exact ⟨i+1,by omega,by go_num,Lib.hid ⟨HB.out,by rw [HS.out];simp⟩,((er.alloc _).alloc _).trans x1⟩
     case measure=>simp [intOf];omega
    ·have z:(v != 0)=true:=by simpa using hv0
     have HZ:=Lib.hid hv0
     clear hv0
     go_wp2_with (go_at_call 69;refine (cmpD_lit _ _ _ _ _ _ _ _ _ HV).mono ?_;rintro e w1 ⟨rfl,x1⟩)
     go_ret
     exact ⟨(by rw [HS.out,if_neg HZ.out];rfl),((er.alloc _).alloc _).trans x1⟩
   ·have HS:Hid (cmpR l m=1):=Lib.hid (by rw [← hr.out.2];exact cmpR_more (by rw [← E1.out];exact hlt) (by rw [← E2.out];omega))
    clear hr hd
    go_wp2
    go_ret
    exact ⟨(by rw [HS.out];rfl),er.alloc _⟩
  ·have HS:Hid (cmpR l m=if i<m.length then -1 else 0):=Lib.hid (by rw [← hr.out.2];exact cmpR_end (by rw [← E1.out];omega))
   obtain rfl:i=n1:=by omega
   by_cases h2:i<n2
   ·have HT:Hid (cmpR l m = -1):=Lib.hid (by rw [HS.out,if_pos (by rw [← E2.out];exact h2)])
    clear HS hr
    go_wp2
    go_ret
    exact ⟨(by rw [HT.out];rfl),er⟩
   ·have HT:Hid (cmpR l m=0):=Lib.hid (by rw [HS.out,if_neg (by rw [← E2.out];exact h2)])
    clear HS hr
    go_wp2
    go_ret
    exact ⟨(by rw [HT.out];rfl),er⟩
set_option maxRecDepth 100000 in
set_option maxHeartbeats 1000000 in
theorem rowCmp_any (A1 A2:Option Addr) (c1 c2 n1 n2:Nat) (l m:List Dat) (w:World) (e1:n1=l.length) (e2:n2=m.length) (h1:Rw w A1 c1 l) (h2:Rw w A2 c2 m) :
  Calls Try.prog 58 #[.slice A1 n1 c1, .slice A2 n2 c2] w fun e w'=>e = .returned (.int .i64 (cmpR l m))∧Ext w w':=by
 have H1:=Lib.hid h1
 have H2:=Lib.hid h2
 have E1:=Lib.hid e1
 have E2:=Lib.hid e2
 clear h1 h2 e1 e2
 go_enter Try.func58,Try.ntmps58
 go_wp2_with fail
 refine (compareFunc_any A1 A2 c1 c2 n1 n2 l m w E1.out E2.out H1.out H2.out).mono ?_
 rintro e w1 ⟨rfl,x1⟩
 go_wp2
 go_ret
 exact ⟨rfl,x1⟩
open Go.RowKit
theorem less_irrefl : ∀ x:List UInt8,Op.bytesLess x x=false
 | []=>rfl
 | a :: x=>by simp [Op.bytesLess,less_irrefl x]
theorem less_asymm : ∀ x y:List UInt8,Op.bytesLess x y=true→Op.bytesLess y x=false
 | [],[],h=>by simp [Op.bytesLess] at h
 | [],_ :: _,_=>by simp [Op.bytesLess]
 | _ :: _,[],h=>by simp [Op.bytesLess] at h
 | a :: x,b :: y,h=>by
  simp only [Op.bytesLess,Bool.or_eq_true,decide_eq_true_eq,Bool.and_eq_true,beq_iff_eq] at h
  rcases h with h | ⟨rfl,h⟩
  ·have h1 : ¬ b<a:=fun h2=>by rw [UInt8.lt_iff_toNat_lt] at h h2;omega
   have h2 : ¬ b=a:=fun e=>by subst e;rw [UInt8.lt_iff_toNat_lt] at h;omega
   simp [Op.bytesLess,h1,h2]
  ·simp [Op.bytesLess,less_asymm x y h]
theorem less_total : ∀ x y:List UInt8,Op.bytesLess x y=false→Op.bytesLess y x=false→x=y
 | [],[],_,_=>rfl
 | [],_ :: _,h,_=>by simp [Op.bytesLess] at h
 | _ :: _,[],_,h=>by simp [Op.bytesLess] at h
 | a :: x,b :: y,h,k=>by
  simp only [Op.bytesLess,Bool.or_eq_false_iff,decide_eq_false_iff_not,Bool.and_eq_false_iff,beq_eq_false_iff_ne] at h k
  have e:a=b:=by
   apply UInt8.toNat_inj.1
   have h1:=h.1
   have k1:=k.1
   rw [UInt8.lt_iff_toNat_lt] at h1 k1
   omega
  subst e
  rw [less_total x y (by simpa using h.2) (by simpa using k.2)]
theorem less_trans : ∀ x y z:List UInt8,Op.bytesLess x y=true→Op.bytesLess y z=true→Op.bytesLess x z=true
 | _,_,[],_,k=>by simp [Op.bytesLess] at k
 | [],_,_ :: _,_,_=>by simp [Op.bytesLess]
 | _ :: _,[],_ :: _,h,_=>by simp [Op.bytesLess] at h
 | a :: x,b :: y,c :: z,h,k=>by
  simp only [Op.bytesLess,Bool.or_eq_true,decide_eq_true_eq,Bool.and_eq_true,beq_iff_eq] at h k ⊢
  rcases h with h | ⟨rfl,h⟩<;>rcases k with k | ⟨rfl,k⟩
  ·left;rw [UInt8.lt_iff_toNat_lt] at *;omega
  ·exact Or.inl h
  ·exact Or.inl k
  ·exact Or.inr ⟨rfl,less_trans x y z h k⟩

theorem cmpS_eq (x y:ByteArray):cmpS x y=if Op.bytesLess x.toList y.toList then -1 else if Op.bytesLess y.toList x.toList then 1 else 0:=by
 unfold cmpS
 cases h1:Op.bytesLess x.toList y.toList
 ·cases h2:Op.bytesLess y.toList x.toList
  ·simp [less_total _ _ h1 h2]
  ·have : ¬ x.toList=y.toList:=fun e=>by rw [e,less_irrefl] at h2;cases h2
   simp [this]
 ·rfl
theorem cmpS_neg (x y:ByteArray):cmpS x y = -cmpS y x:=by
 rw [cmpS_eq,cmpS_eq]
 cases h1:Op.bytesLess x.toList y.toList
 ·cases h2:Op.bytesLess y.toList x.toList<;>simp
 ·simp [less_asymm _ _ h1]
theorem cmpS_trans {x y z:ByteArray} (h:cmpS x y≤0) (k:cmpS y z≤0):cmpS x z≤0:=by
 rw [cmpS_eq] at *
 by_cases h1:Op.bytesLess x.toList z.toList=true
 ·simp [h1]
 ·by_cases h2:Op.bytesLess z.toList x.toList=true
  ·exfalso
   by_cases a1:Op.bytesLess x.toList y.toList=true
   ·have a2:=less_trans _ _ _ h2 a1
    have a3:=less_asymm _ _ a2
    simp [a3,a2] at k
   ·by_cases b1:Op.bytesLess y.toList x.toList=true
    ·simp [a1,b1] at h
    ·have e:=less_total _ _ (by simpa using a1) (by simpa using b1)
     rw [← e] at k
     simp [h1,h2] at k
  ·simp [h1,h2]
theorem cmpI_neg (x y:Int):cmpI x y = -cmpI y x:=by
 rcases Int.lt_trichotomy x y with h | h | h
 ·rw [cmpI_lt h,cmpI_gt h]
 ·subst h;rw [cmpI_self];rfl
 ·rw [cmpI_gt h,cmpI_lt h];rfl
theorem cmpT_le {x y:Int}:cmpI x y≤0↔x≤y:=by
 rcases Int.lt_trichotomy x y with h | h | h
 ·rw [cmpI_lt h];omega
 ·subst h;rw [cmpI_self];omega
 ·rw [cmpI_gt h];omega
/-! ### data -/
theorem cmpS_zero {x y:ByteArray} (h:cmpS x y=0):x=y:=by
 rw [cmpS_eq] at h
 by_cases h1:Op.bytesLess x.toList y.toList=true
 ·simp [h1] at h
 ·by_cases h2:Op.bytesLess y.toList x.toList=true
  ·simp [h1,h2] at h
  ·have e:=less_total _ _ (by simpa using h1) (by simpa using h2)
   rw [Lib.toList_data,Lib.toList_data] at e
   obtain ⟨⟨x⟩⟩:=x
   obtain ⟨⟨y⟩⟩:=y
   simp at e
   rw [e]
theorem cmpI_zero {x y:Int} (h:cmpI x y=0):x=y:=by
 rcases Int.lt_trichotomy x y with k | k | k
 ·rw [cmpI_lt k] at h;omega
 ·exact k
 ·rw [cmpI_gt k] at h;omega
theorem cmpD_off {a b:Dat} (h : ¬ a.k=b.k):cmpD a b=cmpI a.k b.k:=by unfold cmpD;rw [if_neg h]
theorem cmpD_on {a b:Dat} (h:a.k=b.k):cmpD a b=if a.k=2 then cmpI (rankT a.b) (rankT b.b) else if a.k=3 then cmpI a.n b.n else if a.k=4 then cmpS a.s b.s else 0:=by unfold cmpD;rw [if_pos h]
theorem cmpD_neg (a b:Dat):cmpD a b = -cmpD b a:=by
 by_cases h:a.k=b.k
 ·rw [cmpD_on h,cmpD_on h.symm, ← h]
  by_cases h2:a.k=2
  ·rw [if_pos h2,if_pos h2];exact cmpI_neg _ _
  ·rw [if_neg h2,if_neg h2]
   by_cases h3:a.k=3
   ·rw [if_pos h3,if_pos h3];exact cmpI_neg _ _
   ·rw [if_neg h3,if_neg h3]
    by_cases h4:a.k=4
    ·rw [if_pos h4,if_pos h4];exact cmpS_neg _ _
    ·rw [if_neg h4,if_neg h4];rfl
 ·rw [cmpD_off h,cmpD_off (Ne.symm h)];exact cmpI_neg _ _
theorem cmpD_self (a:Dat):cmpD a a=0:=by have:=cmpD_neg a a;omega
theorem cmpT_trans {x y z:Int} (h:cmpI x y≤0) (k:cmpI y z≤0):cmpI x z≤0:=by rw [cmpT_le] at *;omega
theorem cmpD_trans {a b c:Dat} (h:cmpD a b≤0) (k:cmpD b c≤0):cmpD a c≤0:=by
 by_cases e1:a.k=b.k
 ·by_cases e2:b.k=c.k
  ·rw [cmpD_on e1] at h
   rw [cmpD_on e2] at k
   rw [cmpD_on (e1.trans e2)]
   rw [← e1] at k
   by_cases h2:a.k=2
   ·rw [if_pos h2] at *;exact cmpT_trans h k
   ·rw [if_neg h2] at *
    by_cases h3:a.k=3
    ·rw [if_pos h3] at *;exact cmpT_trans h k
    ·rw [if_neg h3] at *
     by_cases h4:a.k=4
     ·rw [if_pos h4] at *;exact cmpS_trans h k
     ·rw [if_neg h4];omega
  ·rw [cmpD_off e2] at k
   rw [cmpD_off (by rw [e1];exact e2),e1]
   exact k
 ·by_cases e2:b.k=c.k
  ·rw [cmpD_off e1] at h
   rw [cmpD_off (by rw [← e2];exact e1), ← e2]
   exact h
  ·rw [cmpD_off e1,cmpT_le] at h
   rw [cmpD_off e2,cmpT_le] at k
   rw [cmpD_off (by omega),cmpT_le]
   omega
theorem form_of {k n:Int} {b:Bool} {s:ByteArray} (h:checkT k b n s=0):(k=1∨k=2∨k=3∨k=4)∧(k≠2→b=false)∧(k≠3→n=0)∧(k≠4→s=⟨#[]⟩):=by
 by_cases hf:(k=1∨k=2∨k=3∨k=4)∧(k≠2→b=false)∧(k≠3→n=0)∧(k≠4→s=⟨#[]⟩)
 ·exact hf
 ·rw [checkT_off hf] at h;cases h
theorem rankT_inj {a b:Bool} (h:rankT a=rankT b):a=b:=by cases a<;>cases b<;>first | rfl | (simp [rankT] at h)
theorem cmpD_zero {a b:Dat} (ha:a.check=0) (hb:b.check=0):cmpD a b=0↔a=b:=by
 constructor
 ·intro h
  by_cases e:a.k=b.k
  ·rw [cmpD_on e] at h
   obtain ⟨ka,ba,na,sa⟩:=a
   obtain ⟨kb,bb,nb,sb⟩:=b
   simp only at e h
   subst e
   obtain ⟨hk,a1,a2,a3⟩:=form_of (show checkT ka ba na sa=0 from ha)
   obtain ⟨_,b1,b2,b3⟩:=form_of (show checkT ka bb nb sb=0 from hb)
   have hbb:ba=bb:=by
    by_cases h2:ka=2
    ·rw [if_pos h2] at h;exact rankT_inj (cmpI_zero h)
    ·rw [a1 h2,b1 h2]
   have hnn:na=nb:=by
    by_cases h2:ka=3
    ·rw [if_neg (by omega),if_pos h2] at h;exact cmpI_zero h
    ·rw [a2 h2,b2 h2]
   have hss:sa=sb:=by
    by_cases h2:ka=4
    ·rw [if_neg (by omega),if_neg (by omega),if_pos h2] at h;exact cmpS_zero h
    ·rw [a3 h2,b3 h2]
   rw [hbb,hnn,hss]
  ·rw [cmpD_off e] at h
   exact absurd (cmpI_zero h) e
 ·rintro rfl;exact cmpD_self a
open Go.RowKit
theorem cmpR_neg : ∀ l m:List Dat,cmpR l m = -cmpR m l
 | [],[]=>rfl
 | [],_ :: _=>rfl
 | _ :: _,[]=>rfl
 | a :: l,b :: m=>by
  unfold cmpR
  have h:=cmpD_neg a b
  by_cases q:cmpD a b=0
  ·rw [if_pos q,if_pos (by omega),cmpR_neg l m]
  ·rw [if_neg q,if_neg (by omega),h]
theorem cmpD_tot:TotPre cmpD:=⟨cmpD_neg,fun _ _ _=>cmpD_trans⟩
theorem cmpR_trans : ∀ l m n:List Dat,cmpR l m≤0→cmpR m n≤0→cmpR l n≤0
 | [],_,[],_,_=>Int.le_refl _
 | [],_,_ :: _,_,_=>by unfold cmpR;decide
 | _ :: _,[],_,h,_=>by unfold cmpR at h;exact absurd h (by decide)
 | _ :: _,_ :: _,[],_,k=>by unfold cmpR at k;exact absurd k (by decide)
 | a :: l,b :: m,c :: n,h,k=>by
  unfold cmpR at h k ⊢
  by_cases q1:cmpD a b=0
  ·rw [if_pos q1] at h
   by_cases q2:cmpD b c=0
   ·rw [if_pos q2] at k
    rw [if_pos (cmpD_tot.eq_trans q1 q2)]
    exact cmpR_trans l m n h k
   ·rw [if_neg q2] at k
    have:=cmpD_tot.lt_of_le_lt (show cmpD a b≤0 by omega) (show cmpD b c<0 by omega)
    rw [if_neg (by omega)]
    omega
  ·rw [if_neg q1] at h
   have hbc:cmpD b c≤0:=by
    by_cases q2:cmpD b c=0
    ·omega
    ·rw [if_neg q2] at k;exact k
   have:=cmpD_tot.lt_of_lt_le (show cmpD a b<0 by omega) hbc
   rw [if_neg (by omega)]
   omega
/-- a row that lies in memory, so many times -/
structure Ct where
 A:Option Addr
 c:Nat
 l:List Dat
 k:Int
def Ct.zero:Ct:=⟨none,0,[],0⟩
def cmpC (x y:Ct):Int:=cmpR x.l y.l
theorem cmpC_tot:TotPre cmpC:=⟨fun x y=>cmpR_neg x.l y.l,fun x y z=>cmpR_trans x.l y.l z.l⟩
def ctC (x:Ct):List Value:=[.slice x.A x.l.length x.c, .int .i64 x.k]
def ctsC (L:List Ct):List Value:=L.flatMap ctC
theorem ctsC_at : ∀ (L:List Ct) (i j:Nat),i<L.length→j<2→(ctsC L)[i * 2+j]?=(ctC (L.getD i Ct.zero))[j]?
 | [],i,j,h,_=>absurd h (Nat.not_lt_zero _)
 | d :: l,0,j,_,hj=>by
  unfold ctsC
  rw [List.flatMap_cons,Nat.zero_mul,Nat.zero_add,List.getElem?_append_left (by rw [show (ctC d).length=2 from rfl];exact hj)]
  rfl
 | d :: l,i+1,j,h,hj=>by
  unfold ctsC
  rw [List.flatMap_cons,List.getElem?_append_right (by rw [show (ctC d).length=2 from rfl];omega),show (i+1) * 2+j - (ctC d).length=i * 2+j by rw [show (ctC d).length=2 from rfl];omega]
  exact ctsC_at l i j (Nat.lt_of_succ_lt_succ h) hj
theorem ctsC_set : ∀ (L:List Ct) (i:Nat) (x:Ct),((ctsC L).set (i * 2) (.slice x.A x.l.length x.c)).set (i * 2+1) (.int .i64 x.k)=ctsC (L.set i x)
 | [],i,x=>rfl
 | d :: l,0,x=>rfl
 | d :: l,i+1,x=>by
  have ih:=ctsC_set l i x
  show ((ctC d++ctsC l).set ((i+1) * 2) _).set ((i+1) * 2+1) _=ctC d++ctsC (l.set i x)
  rw [← ih,List.set_append_right _ _ (by show 2≤_;omega),List.set_append_right _ _ (by show 2≤_;omega),show (i+1) * 2 - (ctC d).length=i * 2 by show _ - 2=_;omega,show (i+1) * 2+1 - (ctC d).length=i * 2+1 by show _ - 2=_;omega]
/-- the rows of such a list lie in memory, none of them in block g -/
def Rws (w:World) (g:Nat) (L:List Ct):Prop := ∀ x∈L,Rw w x.A x.c x.l ∧ ∀ ad,x.A=some ad→ad.block≠g
/-- the block g holds the list, from its head on; it was made from block B on -/
def Arr (w:World) (B g c:Nat) (L:List Ct):Prop:=Own w B 9999 2 (some ⟨g,0,none⟩) L.length c (ctsC L)∧0<c
section
variable {w w':World} {B g c:Nat} {L:List Ct}
theorem Arr.ext (h:Arr w B g c L) (x:Ext w w'):Arr w' B g c L:=⟨h.1.ext x,h.2⟩
theorem Rws.ext (h:Rws w g L) (x:Ext w w'):Rws w' g L:=fun y hy=>⟨(h y hy).1.ext x,(h y hy).2⟩
theorem Rw.upd {A:Option Addr} {l:List Dat} (h:Rw w A c l) (hx:w.grownBy w' (some g)) (ha : ∀ ad,A=some ad→ad.block≠g):Rw w' A c l :=
 ⟨h.1,h.2.1,h.2.2.1,h.2.2.2.1,fun hn=>by
  obtain ⟨ad,e,hc⟩:=h.2.2.2.2 hn
  exact ⟨ad,e,fun j u hu=>hx.cell (hc j u hu) (by rw [block_add];intro q;injection q with q;exact ha ad e q)⟩⟩
theorem Rws.upd (h:Rws w g L) (hx:w.grownBy w' (some g)):Rws w' g L:=fun y hy=>⟨(h y hy).1.upd hx (h y hy).2,(h y hy).2⟩
theorem Rws.sub {M:List Ct} (h:Rws w g L) (hs : ∀ x∈M,x∈L):Rws w g M:=fun x hx=>h x (hs x hx)
theorem Arr.lt (h:Arr w B g c L):B≤g∧g<w.heap.size:=by
 have:=h.1.lt g (by obtain ⟨k,hk⟩ : ∃ k,c=k+1:=⟨c - 1,by have:=h.2;omega⟩;rw [hk];rfl)
 exact this
theorem Arr.le (h:Arr w B g c L):L.length≤9223372036854775807:=by have:=h.1.le;omega
/-- an element's two cells; they may be written -/
theorem Arr.at (h:Arr w B g c L) {i:Nat} (hi:i<L.length):w.cell? ⟨g,i * 2,none⟩=some (.slice (L.getD i Ct.zero).A (L.getD i Ct.zero).l.length (L.getD i Ct.zero).c)∧w.cell? ⟨g,i * 2+1,none⟩=some (.int .i64 (L.getD i Ct.zero).k):=by
 obtain ⟨g',e,_,_,_,hc,_⟩:=h.1.form (by omega)
 cases e
 exact ⟨hc _ _ (by rw [← Nat.add_zero (i * 2),ctsC_at L i 0 hi (by omega)];rfl),hc _ _ (by rw [ctsC_at L i 1 hi (by omega)];rfl)⟩
theorem Arr.free (h:Arr w B g c L) (j:Nat):w.frozen? ⟨g,j,none⟩=false:=by
 rcases h.1.2 with ⟨h1,h2⟩ | ⟨g',cur,e,hb,hg,_⟩
 ·have:=h.2;omega
 ·cases e
  simp [World.frozen?,hg]
/-- an element that is stored -/
theorem Arr.set (h:Arr w B g c L) (i:Nat) (x:Ct):Arr ((w.setCell ⟨g,i * 2,none⟩ (.slice x.A x.l.length x.c)).setCell ⟨g,i * 2+1,none⟩ (.int .i64 x.k)) B g c (L.set i x):=by
 have:=(h.1.put (i * 2) (.slice x.A x.l.length x.c)).put (i * 2+1) (.int .i64 x.k)
 rw [ctsC_set] at this
 refine ⟨?_,h.2⟩
 rw [List.length_set]
 exact this
theorem upd_set (w:World) (g i:Nat) (u:Value):w.grownBy (w.setCell ⟨g,i,none⟩ u) (some g) :=
 ⟨rfl,rfl,rfl,by rw [World.size_setCell];exact Nat.le_refl _,fun k _ hk=>Below.heap_setCell w ⟨g,i,none⟩ u k (fun e=>hk (by rw [e]))⟩
theorem upd_ext (x:Ext w w') (g:Nat):w.grownBy w' (some g):=⟨x.os,x.tape,x.output,x.size,fun k hk _=>x.block k hk⟩
end
end Go.Proofs.Ytdgbkpoickbidaa
