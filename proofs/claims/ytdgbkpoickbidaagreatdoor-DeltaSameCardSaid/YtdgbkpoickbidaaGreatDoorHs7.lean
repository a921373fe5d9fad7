/- The plain law of delta.Sum: same rows and times put together, sorted. delta.At: the bag that updates come to at a time. What comes in at chapter 10: lists of updates. How long the texts of updates that come in are. The plain law of sums of sums of updates. Lists of updates that say the same of every set of keys; sums of such lists. slices.insertionSortCmpFunc at updates: it sorts, those that are alike in their order. slices.IndexFunc, DeleteFunc at updates, by 'none of them'. slices.DeleteFunc at updates, by 'none of them': the walk. delta.Sum: the loop's relation. slices.Clone at updates. delta.copied: an update with a row and counters of its own. Two elements of a list of updates change places. slices.swapRangeCmpFunc at updates: two parts of one length change places. Conditions: each theorem states its own. -/
import Derived.Test.YtdgbkpoickbidaaGreatDoorHs6
import Derived.Test.YtdgbkpoickbidaaGreatDoorHs4
import Derived.Test.YtdgbkpoickbidaaGreatDoorHs3
import Derived.Deep.LoopGhost
import Derived.Test.YtdgbkpoickbidaaGreatDoorHs2
import Derived.Deep.Strs
import Derived.SizedLaws
import Derived.Lib.SliceRun
import Derived.Test.YtdgbkpoickbidaaGreatDoorHs1
namespace Go.Proofs.YtdgbkpoickbidaaGreatDoor.UdS
open Go.RowKit

abbrev V:=UK × Int
def cmpV (x y:V):Int:=kcmp x.1 y.1
theorem cmpV_tot:TotPre cmpV:=⟨fun x y=>kcmp_tot.neg x.1 y.1,fun x y z=>kcmp_tot.trans x.1 y.1 z.1⟩
def InN (x:V):Prop := -9223372036854775808≤x.2∧x.2≤9223372036854775807
def cnt (l:List V):Int:=w64 (l.foldr (fun x a=>x.2+a) 0)
theorem cnt_snoc (l:List V) (x:V):cnt (l++[x])=w64 (cnt l+x.2):=by
 unfold cnt
 rw [w64_add]
 congr 1
 induction l with
 | nil=>simp
 | cons y l ih=>simp only [List.cons_append,List.foldr_cons];rw [ih];omega
theorem cnt_one {x:V} (h:InN x):cnt [x]=x.2:=by
 show w64 (x.2+0)=x.2
 rw [Int.add_zero]
 exact w64_id h
def sumClass:List V→List V
 | []=>[]
 | x :: xs=>[(x.1,cnt (x :: xs))]
theorem sumClass_one {x:V} (h:InN x):sumClass [x]=[x]:=by
 show [(x.1,cnt [x])]=[x]
 rw [cnt_one h]
theorem sumClass_nil {l:List V} (h:sumClass l=[]):l=[]:=by
 cases l with
 | nil=>rfl
 | cons x l=>exact nomatch h
theorem sumClass_snoc {l:List V} {y x:V} (h:[y]=sumClass l):sumClass (l++[x])=[(y.1,w64 (y.2+x.2))]:=by
 cases l with
 | nil=>exact nomatch h
 | cons z l =>
  injection h with h _
  subst h
  show [(z.1,cnt ((z :: l)++[x]))]=_
  rw [cnt_snoc]
theorem sumClass_twice (l:List V):sumClass (sumClass l)=sumClass l:=by
 cases l with
 | nil=>rfl
 | cons x l =>
  show [(x.1,w64 (cnt (x :: l)+0))]=[(x.1,cnt (x :: l))]
  rw [Int.add_zero,show w64 (cnt (x :: l))=cnt (x :: l) from w64_id (w64_in _)]
theorem sumClass_mem {l:List V} {y:V} (h:y∈sumClass l):sumClass l=[y]:=by
 cases l with
 | nil=>cases h
 | cons x l =>
  have:y=(x.1,cnt (x :: l)):=by simpa [sumClass] using h
  rw [this]
  rfl
/-- R is D, same rows put together, sorted -/
structure Summed (D R:List V):Prop where
 sorted:R.Pairwise fun x y=>cmpV x y<0
 same : ∀ c,alike cmpV c R=sumClass (alike cmpV c D)
theorem Summed.unique {D R S:List V} (h:Summed D R) (k:Summed D S):R=S :=
 Stable.unique cmpV_tot (l:=R) ⟨h.sorted.imp fun q=>Int.le_of_lt q,fun _=>rfl⟩ ⟨k.sorted.imp fun q=>Int.le_of_lt q,fun c=>by rw [h.same,k.same]⟩
theorem alike_one (c x:V):alike cmpV c [x]=if cmpV c x=0 then [x] else []:=by
 unfold alike
 by_cases h:cmpV c x=0
 ·rw [if_pos h,List.filter_cons_of_pos (by simpa using h)]
  rfl
 ·rw [if_neg h,List.filter_cons_of_neg (by simpa using h)]
  rfl
theorem alike_none {c:V} {l:List V} (h : ∀ y∈l, ¬ cmpV c y=0):alike cmpV c l=[]:=List.filter_eq_nil_iff.2 fun y hy q=>h y hy (by simpa using q)
/-! ### rows that are alike, side by side -/
def mergeStep (M:List V) (x:V):List V:=match M.getLast? with
 | some y=>if cmpV y x=0 then M.dropLast++[(y.1,w64 (y.2+x.2))] else M++[x]
 | none=>[x]
def mergeV (S:List V):List V:=S.foldl mergeStep []
theorem mergeStep_nil (x:V):mergeStep [] x=[x]:=rfl
theorem mergeStep_snoc (M:List V) (y x:V):mergeStep (M++[y]) x=if cmpV y x=0 then M++[(y.1,w64 (y.2+x.2))] else M++[y]++[x]:=by
 unfold mergeStep
 rw [List.getLast?_append,List.getLast?_singleton]
 simp
theorem mergeV_snoc (S:List V) (x:V):mergeV (S++[x])=mergeStep (mergeV S) x:=by
 unfold mergeV
 rw [List.foldl_append]
 rfl
theorem merge_sum (S:List V):S.Pairwise (fun x y=>cmpV x y≤0)→(∀ x∈S,InN x)→Summed S (mergeV S)∧((S=[]∧mergeV S=[]) ∨ ∃ S0 s M0 y,S=S0++[s]∧mergeV S=M0++[y]∧cmpV y s=0):=by
 refine snoc_ind (p:=fun S=>S.Pairwise (fun x y=>cmpV x y≤0)→(∀ x∈S,InN x)→Summed S (mergeV S)∧((S=[]∧mergeV S=[]) ∨ ∃ S0 s M0 y,S=S0++[s]∧mergeV S=M0++[y]∧cmpV y s=0)) ?_ ?_ S
 ·exact fun _ _=>⟨⟨List.Pairwise.nil,fun _=>rfl⟩, .inl ⟨rfl,rfl⟩⟩
 ·intro S x ih hs hin
  have hs':=List.pairwise_append.1 hs
  have hx:=hin x (by simp)
  obtain ⟨⟨i1,i2⟩,i3⟩:=ih hs'.1 (fun y hy=>hin y (List.mem_append_left _ hy))
  rw [mergeV_snoc]
  rcases i3 with ⟨rfl,i4⟩ | ⟨S0,s,M0,y,e1,e2,e3⟩
  ·rw [i4,mergeStep_nil]
   refine ⟨⟨List.pairwise_singleton _ _,fun c=>?_⟩, .inr ⟨[],x,[],x,rfl,rfl,cmpV_tot.refl x⟩⟩
   rw [List.nil_append,alike_one]
   split
   ·rw [sumClass_one hx]
   ·rfl
  ·rw [e2] at i1 i2 ⊢
   rw [mergeStep_snoc]
   have p1:=List.pairwise_append.1 i1
   have hlast : ∀ m∈M0,cmpV m y<0:=fun m hm=>p1.2.2 m hm y (by simp)
   have hsx:cmpV s x≤0:=hs'.2.2 s (by rw [e1];simp) x (by simp)
   have hyx:cmpV y x≤0:=cmpV_tot.trans y s x (by omega) hsx
   by_cases h0:cmpV y x=0
   ·rw [if_pos h0]
    refine ⟨⟨List.pairwise_append.2 ⟨p1.1,List.pairwise_singleton _ _,fun m hm z hz=>?_⟩,fun c=>?_⟩, .inr ⟨S,x,M0,_,rfl,rfl,h0⟩⟩
    ·rw [List.mem_singleton.1 hz];exact hlast m hm
    ·have q:=i2 c
     rw [alike_append,alike_one] at q
     rw [alike_append,alike_append,alike_one,alike_one]
     by_cases hc:cmpV c y=0
     ·have hcx:cmpV c x=0:=cmpV_tot.eq_trans hc h0
      have hM:alike cmpV c M0=[]:=alike_none fun m hm e=>by
       have:=hlast m hm
       have:=(cmpV_tot.eq_left (z:=y) (show cmpV m c=0 by rw [cmpV_tot.neg,e];rfl)).2 hc
       omega
      rw [if_pos hc,hM,List.nil_append] at q
      rw [if_pos (show cmpV c (y.1,w64 (y.2+x.2))=0 from hc),if_pos hcx,hM,List.nil_append]
      exact (sumClass_snoc q).symm
     ·have hcx : ¬ cmpV c x=0:=fun e=>hc (cmpV_tot.eq_trans e (by rw [cmpV_tot.neg,h0];rfl))
      rw [if_neg hc] at q
      rw [if_neg (show ¬ cmpV c (y.1,w64 (y.2+x.2))=0 from hc),if_neg hcx,List.append_nil (alike cmpV c S)]
      exact q
   ·rw [if_neg h0]
    have hlt : ∀ m∈M0++[y],cmpV m x<0:=fun m hm=>by
     rcases List.mem_append.1 hm with h | h
     ·exact cmpV_tot.lt_of_lt_le (hlast m h) hyx
     ·rw [List.mem_singleton.1 h];omega
    refine ⟨⟨List.pairwise_append.2 ⟨i1,List.pairwise_singleton _ _,fun m hm z hz=>?_⟩,fun c=>?_⟩, .inr ⟨S,x,M0++[y],x,rfl,rfl,cmpV_tot.refl x⟩⟩
    ·rw [List.mem_singleton.1 hz];exact hlt m hm
    ·have q:=i2 c
     have e4:alike cmpV c (M0++[y]++[x])=alike cmpV c (M0++[y])++alike cmpV c [x]:=alike_append _ _ _
     have e5:alike cmpV c (S++[x])=alike cmpV c S++alike cmpV c [x]:=alike_append _ _ _
     rw [e4,e5,q,alike_one]
     by_cases hc:cmpV c x=0
     ·have hM:alike cmpV c (M0++[y])=[]:=alike_none fun m hm e=>by
       have:=hlt m hm
       have:=(cmpV_tot.eq_left (z:=x) (show cmpV m c=0 by rw [cmpV_tot.neg,e];rfl)).2 hc
       omega
      rw [hM] at q
      rw [sumClass_nil q.symm,if_pos hc]
      show []++[x]=sumClass ([]++[x])
      rw [List.nil_append,sumClass_one hx]
     ·rw [if_neg hc,List.append_nil,List.append_nil]
theorem Summed.of_stable {D S:List V} (h:Stable cmpV D S) (hin : ∀ x∈D,InN x):Summed D (mergeV S):=by
 have k:=(merge_sum S h.sorted (fun x hx=>hin x ((h.mem cmpV_tot x).1 hx))).1
 exact ⟨k.sorted,fun c=>by rw [k.same,h.same]⟩
/-! ### the document's way: one more row, put into its place -/
def addV:List V→V→List V
 | [],x=>[x]
 | y :: R,x=>if cmpV y x<0 then y :: addV R x else if cmpV y x=0 then (y.1,w64 (y.2+x.2)) :: R else x :: y :: R
theorem alike_cons (c y:V) (R:List V):alike cmpV c (y :: R)=(if cmpV c y=0 then [y] else [])++alike cmpV c R:=by
 have:=alike_append (cmp:=cmpV) c [y] R
 rw [alike_one] at this
 exact this
theorem addV_mem (x:V) : ∀ (R:List V) (z:V),(∀ y∈R,cmpV z y<0)→cmpV z x<0 → ∀ y∈addV R x,cmpV z y<0
 | [],z,_,hx,y,hy=>by rw [List.mem_singleton.1 hy];exact hx
 | a :: R,z,h,hx,y,hy=>by
  unfold addV at hy
  split at hy
  ·rcases List.mem_cons.1 hy with rfl | q
   ·exact h _ (List.mem_cons_self ..)
   ·exact addV_mem x R z (fun b hb=>h b (List.mem_cons_of_mem _ hb)) hx y q
  ·split at hy
   ·rcases List.mem_cons.1 hy with rfl | q
    ·exact h a (List.mem_cons_self ..)
    ·exact h y (List.mem_cons_of_mem _ q)
   ·rcases List.mem_cons.1 hy with rfl | q
    ·exact hx
    ·exact h y q
theorem addV_same (x:V) (hx:InN x) (c:V) : ∀ (R:List V) (l:List V),R.Pairwise (fun x y=>cmpV x y<0)→alike cmpV c R=sumClass l→alike cmpV c (addV R x)=sumClass (l++if cmpV c x=0 then [x] else [])
 | [],l,_,h=>by
  have:=sumClass_nil (show sumClass l=[] from h.symm)
  subst this
  show alike cmpV c [x]=_
  rw [alike_one]
  split
  ·rw [List.nil_append,sumClass_one hx]
  ·rfl
 | y :: R,l,hp,h=>by
  have hp':=List.pairwise_cons.1 hp
  unfold addV
  by_cases h1:cmpV y x<0
  ·rw [if_pos h1,alike_cons]
   rw [alike_cons] at h
   by_cases hc:cmpV c y=0
   ·have hcx : ¬ cmpV c x=0:=fun e=>by have:=(cmpV_tot.eq_left (z:=x) hc).1 e;omega
    rw [if_pos hc] at h ⊢
    have hR:alike cmpV c R=[]:=alike_none fun z hz e=>by
     have:=hp'.1 z hz
     have:=(cmpV_tot.eq_left (z:=z) hc).1 e
     omega
    rw [hR] at h
    have:=addV_same x hx c R [] hp'.2 hR
    rw [this,if_neg hcx,List.append_nil,List.append_nil]
    exact h
   ·rw [if_neg hc] at h ⊢
    exact addV_same x hx c R l hp'.2 h
  ·rw [if_neg h1]
   by_cases h2:cmpV y x=0
   ·rw [if_pos h2,alike_cons]
    rw [alike_cons] at h
    by_cases hc:cmpV c y=0
    ·have hcx:cmpV c x=0:=cmpV_tot.eq_trans hc h2
     have hR:alike cmpV c R=[]:=alike_none fun z hz e=>by
      have:=hp'.1 z hz
      have:=(cmpV_tot.eq_left (z:=z) hc).1 e
      omega
     rw [if_pos hc,hR] at h
     rw [if_pos (show cmpV c (y.1,w64 (y.2+x.2))=0 from hc),hR,if_pos hcx]
     exact (sumClass_snoc h).symm
    ·have hcx : ¬ cmpV c x=0:=fun e=>hc (cmpV_tot.eq_trans e (by rw [cmpV_tot.neg,h2];rfl))
     rw [if_neg hc] at h
     rw [if_neg (show ¬ cmpV c (y.1,w64 (y.2+x.2))=0 from hc),if_neg hcx,List.append_nil]
     exact h
   ·rw [if_neg h2,alike_cons]
    by_cases hc:cmpV c x=0
    ·have hyx:cmpV x y<0:=by rw [cmpV_tot.neg];omega
     have hR:alike cmpV c (y :: R)=[]:=alike_none fun z hz e=>by
      have hxz:cmpV x z<0:=by
       rcases List.mem_cons.1 hz with rfl | q
       ·exact hyx
       ·exact cmpV_tot.lt_of_lt_le hyx (Int.le_of_lt (hp'.1 z q))
      have:=(cmpV_tot.eq_left (z:=z) hc).1 e
      omega
     rw [hR] at h ⊢
     rw [if_pos hc,sumClass_nil h.symm]
     show [x]++[]=sumClass ([]++[x])
     rw [List.nil_append,sumClass_one hx]
     rfl
    ·rw [if_neg hc,List.nil_append,List.append_nil]
     exact h
theorem addV_sorted (x:V) : ∀ R:List V,R.Pairwise (fun x y=>cmpV x y<0)→(addV R x).Pairwise (fun x y=>cmpV x y<0)
 | [],_=>List.pairwise_singleton _ _
 | y :: R,h=>by
  have h':=List.pairwise_cons.1 h
  unfold addV
  split
  ·rename_i h1
   exact List.pairwise_cons.2 ⟨addV_mem x R y h'.1 h1,addV_sorted x R h'.2⟩
  ·split
   ·exact List.pairwise_cons.2 ⟨fun z hz=>h'.1 z hz,h'.2⟩
   ·rename_i h1 h2
    have hyx:cmpV x y<0:=by rw [cmpV_tot.neg];omega
    exact List.pairwise_cons.2 ⟨fun z hz=>(List.mem_cons.1 hz).elim (fun e=>e ▸ hyx) (fun q=>cmpV_tot.lt_of_lt_le hyx (Int.le_of_lt (h'.1 z q))),h⟩
theorem Summed.add {D R:List V} {x:V} (h:Summed D R) (hx:InN x):Summed (D++[x]) (addV R x):=⟨addV_sorted x R h.sorted,fun c=>by rw [addV_same x hx c R _ h.sorted (h.same c),alike_append,alike_one]⟩
def sumAll (L:List V):List V:=L.foldl addV []
theorem Summed.all (L:List V):(∀ x∈L,InN x)→Summed L (sumAll L):=by
 refine snoc_ind (p:=fun L=>(∀ x∈L,InN x)→Summed L (sumAll L)) (fun _=>⟨List.Pairwise.nil,fun _=>rfl⟩) (fun L x ih h=>?_) L
 unfold sumAll
 rw [List.foldl_append]
 exact (ih (fun y hy=>h y (List.mem_append_left _ hy))).add (h x (by simp))
/-- what Sum answers -/
def sumV (L:List V):List V:=(sumAll L).filter fun x => !(x.2==0)
/-! ### one row more in a list of different rows -/
theorem dedup_new {L O:List V} {x:V} (h : ∀ c,alike cmpV c O=sumClass (alike cmpV c L)) (hx:InN x) (hn : ∀ y∈O, ¬ cmpV y x=0) (c:V):alike cmpV c (O++[x])=sumClass (alike cmpV c (L++[x])):=by
 rw [alike_append,alike_append,h,alike_one]
 by_cases hc:cmpV c x=0
 ·have hO:alike cmpV c O=[]:=alike_none fun y hy e=>hn y hy (cmpV_tot.eq_trans (by rw [cmpV_tot.neg,e];rfl) hc)
  have:=h c
  rw [hO] at this
  rw [sumClass_nil this.symm,if_pos hc]
  show []++[x]=sumClass ([]++[x])
  rw [List.nil_append,sumClass_one hx]
 ·rw [if_neg hc,List.append_nil,List.append_nil]
theorem dedup_old {L P Q:List V} {y x:V} (h : ∀ c,alike cmpV c (P++y :: Q)=sumClass (alike cmpV c L)) (hy:cmpV y x=0) (c:V):alike cmpV c (P++(y.1,w64 (y.2+x.2)) :: Q)=sumClass (alike cmpV c (L++[x])):=by
 have q:=h c
 rw [alike_append,alike_cons] at q
 rw [alike_append,alike_cons,alike_append,alike_one]
 by_cases hc:cmpV c y=0
 ·have hcx:cmpV c x=0:=cmpV_tot.eq_trans hc hy
  rw [if_pos hc] at q
  have hm:=sumClass_mem (l:=alike cmpV c L) (y:=y) (by rw [← q];simp)
  have hl:=congrArg List.length (q.trans hm)
  simp only [List.length_append,List.length_cons,List.length_nil] at hl
  have hP:alike cmpV c P=[]:=List.eq_nil_of_length_eq_zero (by omega)
  have hQ:alike cmpV c Q=[]:=List.eq_nil_of_length_eq_zero (by omega)
  rw [if_pos (show cmpV c (y.1,w64 (y.2+x.2))=0 from hc),if_pos hcx,hP,hQ]
  exact (sumClass_snoc hm.symm).symm
 ·have hcx : ¬ cmpV c x=0:=fun e=>hc (cmpV_tot.eq_trans e (by rw [cmpV_tot.neg,hy];rfl))
  rw [if_neg hc] at q
  rw [if_neg (show ¬ cmpV c (y.1,w64 (y.2+x.2))=0 from hc),if_neg hcx,List.append_nil (alike cmpV c L)]
  exact q
end Go.Proofs.YtdgbkpoickbidaaGreatDoor.UdS
namespace Go.Proofs.YtdgbkpoickbidaaGreatDoor
open Go.RowKit

/-- the rows of the updates that are at or ahead of a time -/
def atV (U:List UV) (t:TV):List V:=(U.filter fun v=>tleq v.1.2 t).map fun v=>(v.1.1,v.2)
def atU (L:List Ud) (t:TV):List Ct:=(L.filter fun x=>tleq x.t.v t).map fun x=>⟨x.A,x.c,x.l,x.d⟩
theorem atU_val (L:List Ud) (t:TV):(atU L t).map valC=atV (L.map Ud.uv) t:=by
 unfold atU atV
 rw [List.map_map,List.filter_map,List.map_map]
 rfl
theorem atU_step {L:List Ud} {i:Nat} {x:Ud} (hi:i<L.length) (hx:L.getD i Ud.zero=x) (t:TV):atU (L.take (i+1)) t=atU (L.take i) t++if tleq x.t.v t=true then [⟨x.A,x.c,x.l,x.d⟩] else []:=by
 unfold atU
 rw [takeU hi,hx,List.filter_append,List.map_append]
 congr 1
 split
 ·rename_i h
  simp [h]
 ·rename_i h
  simp [h]
/-- an update as a walk may take it -/
structure InU (x:Ud):Prop where
 row:InC ⟨x.A,x.c,x.l,x.d⟩
 tu:U32 x.t.l
 tn:x.t.l.length≤100000
 te:0≤x.t.e∧x.t.e≤18446744073709551615
theorem InU.num {x:Ud} (h:InU x):UdS.InN x.uv:=h.row.num
theorem InU.lens {x:Ud} (h:InU x):x.l.length≤1000000000∧x.t.l.length≤1000000000:=⟨Nat.le_trans h.row.len (by decide),Nat.le_trans h.tn (by decide)⟩
/-- what At hands back -/
def DAtRes (w:World) (U:List V) (e:Ending) (w':World):Prop := ∃ A m c R,e = .returned (.slice A m c)∧m=R.length∧Own w' w.heap.size 154 2 A m c (ctsC R) ∧
 (∀ x∈R,RwO w' x.A x.c x.l ∧ ∀ ad,x.A=some ad→w.heap.size≤ad.block∧blk A c≠some ad.block)∧Apart R∧R.map valC=U∧Ext w w'
theorem SumRes.late {w w0 w':World} {L:List Ct} {e:Ending} {U:List V} (h:SumRes w0 L e w') (x:Ext w w0) (hv:sumV (L.map valC)=U):DAtRes w U e w':=by
 obtain ⟨A,m,c,R,e1,e2,o,r,a,v,x2⟩:=h
 exact ⟨A,m,c,R,e1,e2,o.mono x.size,fun y hy=>⟨(r y hy).1,fun ad q=>⟨Nat.le_trans x.size ((r y hy).2 ad q).1,((r y hy).2 ad q).2⟩⟩,a,by rw [v,hv],x.trans x2⟩
theorem uleq_at {b:Bool} (e1 e2:Int) (A1 A2:Option Addr) (n1 n2 c1 c2:Nat) (l1 l2:List Int) (w:World) (hb:Hid (leqT e1 l1 e2 l2=b)) (h1:Sl w 1 A1 n1 c1 (wds l1)) (h2:Sl w 1 A2 n2 c2 (wds l2)) :
  Calls Tryz.prog 108 #[.agg #[.int .u64 e1, .slice A1 n1 c1], .agg #[.int .u64 e2, .slice A2 n2 c2]] w fun e w'=>e = .returned (.bool b)∧Ext w w':=hb.out ▸ leq_any e1 e2 A1 A2 n1 n2 c1 c2 l1 l2 w h1 h2
/-- what has been taken so far -/
structure UAtI (w wr:World) (L:List Ud) (t:TV) (i:Nat) (A:Option Addr) (m c:Nat):Prop where
 len:m=(atU (L.take i) t).length
 own:Own wr w.heap.size 154 2 A m c (ctsC (atU (L.take i) t))
 ext:Ext w wr
theorem UAtI.skip {w wr w2:World} {L:List Ud} {t:TV} {i m c:Nat} {A:Option Addr} {x:Ud} (h:UAtI w wr L t i A m c) (hi:i<L.length) (hx:L.getD i Ud.zero=x) (hb:tleq x.t.v t=false) (q:Ext wr w2):UAtI w w2 L t (i+1) A m c:=by
 have e:atU (L.take (i+1)) t=atU (L.take i) t:=by rw [atU_step hi hx,if_neg (by rw [hb];decide),List.append_nil]
 exact ⟨by rw [e];exact h.len,by rw [e];exact h.own.ext q,h.ext.trans q⟩
theorem UAtI.more {w wr w2:World} {L:List Ud} {t:TV} {i m c:Nat} {A A2:Option Addr} {c2 m2:Nat} {x:Ud} (h:UAtI w wr L t i A m c) (hi:i<L.length) (hx:L.getD i Ud.zero=x) (hb:tleq x.t.v t=true) (hm:m2=m+1)
  (o:Own w2 w.heap.size 154 2 A2 m2 c2 (ctsC (atU (L.take i) t)++[.slice x.A x.l.length x.c, .int .i64 x.d])) (q:Ext w w2):UAtI w w2 L t (i+1) A2 m2 c2:=by
 have e:atU (L.take (i+1)) t=atU (L.take i) t++[⟨x.A,x.c,x.l,x.d⟩]:=by rw [atU_step hi hx,if_pos hb]
 refine ⟨by rw [e,List.length_append,hm,h.len];rfl,?_,q⟩
 rw [e,ctsC_append]
 exact o
set_option maxRecDepth 100000 in
set_option maxHeartbeats 8000000 in
theorem dat_any (A:Option Addr) (c n:Nat) (L:List Ud) (e:Int) (At:Option Addr) (nt ct:Nat) (lt:List Int) (w:World) (hn:Hid (n=L.length)) (h:Hid (Uin w A c L)) (h9:n≤1000000) (hin:Hid (∀ x∈L,InU x)) (ht:Hid (Sl w 1 At nt ct (wds lt))) (G:Good w) :
  Calls Tryz.prog 17 #[.slice A n c, .agg #[.int .u64 e, .slice At nt ct]] w (DAtRes w (sumV (atV (L.map Ud.uv) (e,lt)))):=by
 go_enter Tryz.func17,Tryz.ntmps17
 go_wp2
 obtain ⟨wb,hwb⟩ : ∃ wb,wb=w.alloc (.cells #[.int .u64 e, .slice At nt ct] 26):=⟨_,rfl⟩
 have XB:Hid (Ext w wb):=Lib.hid (by rw [hwb];exact (Ext.refl _).alloc _)
 have BT:Hid (Bk wb w.heap.size 26 #[.int .u64 e, .slice At nt ct]):=Lib.hid (by rw [hwb];exact Bk.new _ _ _)
 rw [← hwb]
 clear hwb
 obtain ⟨gt,hgt⟩ : ∃ k,k=w.heap.size:=⟨_,rfl⟩
 rw [← hgt] at BT ⊢
 clear hgt
 have HP0:Hid (UAtI wb wb L (e,lt) 0 none 0 0):=Lib.hid ⟨rfl,Own.nil _ _ _ _,Ext.refl _⟩
 go_loopg [5,10] n (fun z u v wr => ∃ (i m c3:Nat) (A3:Option Addr),z=n - i∧i≤n∧m≤i∧u = .slice A3 m c3∧v = .int .i64 i∧Hid (UAtI wb wr L (e,lt) i A3 m c3))
 case atStart=>exact ⟨0,0,0,none,rfl,Nat.zero_le _,Nat.le_refl _,rfl,rfl,HP0⟩
 case round =>
  clear HP0
  obtain ⟨i,m,c3,A3,rfl,hi,hmi,rfl,rfl,HP⟩:=hrel
  by_cases hlt:i<n
  ·have hil:i<L.length:=by rw [← hn.out];exact hlt
   have XW:=XB.out.trans HP.out.ext
   obtain ⟨ad,rfl,p0,p1,p2,p3⟩:=(h.out.ext XW).at hil
   have hm:=getU_mem hil
   obtain ⟨x,hx⟩ : ∃ x,L.getD i Ud.zero=x:=⟨_,rfl⟩
   rw [hx] at p0 p1 p2 p3 hm
   obtain ⟨nx,hnx⟩ : ∃ nx,nx=x.l.length:=⟨_,rfl⟩
   obtain ⟨tx,htx⟩ : ∃ tx,tx=x.t.l.length:=⟨_,rfl⟩
   rw [← hnx] at p0
   rw [← htx] at p2
   have HNX:=Lib.hid hnx
   have HX:=Lib.hid hx
   have HIL:=Lib.hid hil
   have HTX:Hid (∀ W,Ext wr W→Sl W 1 x.t.A tx x.t.c (wds x.t.l)):=Lib.hid (fun W q=>by rw [htx];exact ((h.out.ls x hm).t.ext XW).ext q)
   have HT:Hid (∀ W,Ext wr W→Sl W 1 At nt ct (wds lt)):=Lib.hid (fun W q=>(ht.out.ext XW).ext q)
   have XA:Ext wr (wr.alloc (.cells #[.slice x.A nx x.c, .int .u64 x.t.e, .slice x.t.A tx x.t.c, .int .i64 x.d] 95)):=(Ext.refl wr).alloc _
   have BX:Hid (Bk (wr.alloc (.cells #[.slice x.A nx x.c, .int .u64 x.t.e, .slice x.t.A tx x.t.c, .int .i64 x.d] 95)) wr.heap.size 95 #[.slice x.A nx x.c, .int .u64 x.t.e, .slice x.t.A tx x.t.c, .int .i64 x.d]):=Lib.hid (Bk.new _ _ _)
   have t0:=(BT.out.ext (HP.out.ext.trans XA)).cell 0
   have t1:=(BT.out.ext (HP.out.ext.trans XA)).cell 1
   obtain ⟨b,hb⟩ : ∃ b,leqT x.t.e x.t.l e lt=b:=⟨_,rfl⟩
   have HB:=Lib.hid hb
   clear hil hm hx hnx htx hb XW
   have m1:True:=trivial
   cases b with
   | true =>
    go_wp2_with (first
     | (go_at_call 108;have mk:=m1;clear m1 mk;refine (uleq_at x.t.e e x.t.A At tx nt x.t.c ct x.t.l lt _ HB (HTX.out _ XA) (HT.out _ XA)).mono ?_;rintro r w1 ⟨rfl,x1⟩;have q0:=(BX.out.ext x1).cell 0;have q3:=(BX.out.ext x1).cell 3;have X1:=Lib.hid (XA.trans x1);have hw1:wb.heap.size≤w1.heap.size:=(HP.out.ext.trans X1.out).size;clear x1;have m2:True:=trivial)
     | (at_builtin;have mk:=m2;clear m2 mk;refine wpList_append_two _ elem_ct wb.heap.size _ _ rfl rfl A3 m c3 (ctsC (atU (L.take i) (e,lt))) rfl ((HP.out.own.ext X1.out).alloc _) (some ⟨w1.heap.size,0,none⟩) 1 1 [.slice x.A nx x.c, .int .i64 x.d] rfl (sl_ct _ _ _ _) (by intro u hu;simp at hu;rcases hu with rfl | rfl<;>rfl) (by omega) (by decide) (by simp;omega) ?_;intro A6 c6 w6 o6 g6 h6;clear h6;have HQ6:Hid (UAtI wb w6 L (e,lt) (i+1) A6 (m+1) c6):=Lib.hid (HP.out.more HIL.out HX.out HB.out rfl (by have:=o6;rwa [HNX.out] at this) (((HP.out.ext.trans X1.out).alloc _).grown g6 (fun k e=>(HP.out.own.lt k e).1)));clear o6 g6)
     | fail)
    go_roundg (n - (i+1))
    case measure=>omega
    case rel=>exact ⟨i+1,m+1,c6,A6,rfl,by omega,by omega,rfl,by go_num,HQ6⟩
   | false =>
    go_wp2_with (first
     | (go_at_call 108;have mk:=m1;clear m1 mk;refine (uleq_at x.t.e e x.t.A At tx nt x.t.c ct x.t.l lt _ HB (HTX.out _ XA) (HT.out _ XA)).mono ?_;rintro r w1 ⟨rfl,x1⟩;have HQ6:Hid (UAtI wb w1 L (e,lt) (i+1) A3 m c3):=Lib.hid (HP.out.skip HIL.out HX.out HB.out (XA.trans x1));clear x1)
     | fail)
    go_roundg (n - (i+1))
    case measure=>omega
    case rel=>exact ⟨i+1,m,c3,A3,rfl,by omega,by omega,rfl,by go_num,HQ6⟩
  ·obtain rfl:i=n:=by omega
   have XW:=XB.out.trans HP.out.ext
   have ea:atU (L.take i) (e,lt)=atU L (e,lt):=by rw [List.take_of_length_le (by rw [← hn.out];exact Nat.le_refl _)]
   have HC:Hid (Ctin wr A3 c3 (atU L (e,lt))):=Lib.hid ⟨by have:=HP.out.own.sl;have q:=HP.out.len;rw [ea] at this q;rwa [q] at this,fun y hy=>by
    obtain ⟨x,hx,rfl⟩:=List.mem_map.1 hy
    exact (h.out.ls x (List.mem_filter.1 hx).1).r.ext XW⟩
   have HI:Hid (∀ y∈atU L (e,lt),InC y):=Lib.hid (fun y hy=>by
    obtain ⟨x,hx,rfl⟩:=List.mem_map.1 hy
    exact (hin.out x (List.mem_filter.1 hx).1).row)
   have HM:Hid (m=(atU L (e,lt)).length):=Lib.hid (by rw [← ea];exact HP.out.len)
   have HV:Hid (sumV ((atU L (e,lt)).map valC)=sumV (atV (L.map Ud.uv) (e,lt))):=Lib.hid (by rw [atU_val])
   have GW:=Lib.hid (G.ext XW)
   have HXW:=Lib.hid XW
   clear ea XW
   go_wp2_with (first
    | (go_at_call 109;refine (sum_any A3 c3 m (atU L (e,lt)) _ HM.out (by omega) HC.out HI.out GW.out).mono ?_;rintro r w2 hr;have HR:=Lib.hid (SumRes.late hr HXW.out HV.out);obtain ⟨A2,m2,c2,R2,rfl,hr2⟩:=hr;clear hr2)
    | fail)
   go_ret
   exact HR.out
end Go.Proofs.YtdgbkpoickbidaaGreatDoor
namespace Go.Proofs.YtdgbkpoickbidaaGreatDoor
open Go.ChangeShapes Go.WideShapes Go.ChangeAt Go.RowKit Go.WideElems

section
variable {H:Type} {enc:TypeId × Value→H} {W:World}
theorem one_rowu:Tryz.prog.cellsOf 79=1:=by kernel_rfl
theorem four_ud:Tryz.prog.cellsOf 95=4:=by kernel_rfl
/-- what is known of an update that comes in -/
structure UdIn (x:Ud):Prop where
 r:RwIn x.l
 t:TmIn x.t
 d : -9223372036854775808≤x.d∧x.d≤9223372036854775807
theorem UdIn.inU {x:Ud} (h:UdIn x) (h1:x.l.length≤1000000) (h2:x.t.l.length≤100000):InU x:=⟨⟨h.r.txt,h.r.int,h.d,h1⟩,h.t.u,h2,h.t.e⟩
theorem come_udC {fuel:Nat} {cs:List Value} {y:DataW H × List MemPlace} (h:DataW.trod enc Tryz.prog W 0 (fun _=>true) true fuel 95 cs=some y) :
  ∃ x:Ud,cs=udC x∧UdR W x∧UdIn x:=by
 obtain ⟨y0,y1,y2,n,_,hl,h0,h1,h2⟩:=Go.Deep.trod_struct3 Tryz.underlying95 h
 rw [four_ud] at hl
 obtain ⟨c0,c1,c2,c3,rfl⟩:=list4 hl
 have g0:DataW.trod enc Tryz.prog W 0 (fun _=>true) true n 79 [c0]=some y0:=by
  have:DataW.trod enc Tryz.prog W 0 (fun _=>true) true n 79 (([c0,c1,c2,c3].drop 0).take (Tryz.prog.cellsOf 79))=some y0:=h0
  rw [one_rowu] at this
  exact this
 have g1:DataW.trod enc Tryz.prog W 0 (fun _=>true) true n 26 [c1,c2]=some y1:=by
  have:DataW.trod enc Tryz.prog W 0 (fun _=>true) true n 26 (([c0,c1,c2,c3].drop 1).take (Tryz.prog.cellsOf 26))=some y1:=h1
  rw [two_tm] at this
  exact this
 have g2:DataW.trod enc Tryz.prog W 0 (fun _=>true) true n 2 [c3]=some y2:=by
  have:DataW.trod enc Tryz.prog W 0 (fun _=>true) true n 2 (([c0,c1,c2,c3].drop 3).take (Tryz.prog.cellsOf 2))=some y2:=h2
  rw [one_i64] at this
  exact this
 obtain ⟨A,c,l,e0,r0,i0⟩:=come_rowC g0
 obtain ⟨t,e1,s1,i1⟩:=come_timeC g1
 obtain ⟨k,e2,_,w2⟩:=DataW.trod_int Tryz.underlying2 g2
 obtain rfl:c0 = .slice A l.length c:=by simpa using e0
 obtain ⟨rfl,rfl⟩:c1 = .int .u64 t.e∧c2 = .slice t.A t.l.length t.c:=by simpa [tmC] using e1
 obtain rfl:c3 = .int .i64 k:=by simpa using e2
 exact ⟨⟨A,c,l,t,k⟩,rfl,⟨r0,s1⟩,⟨i0,i1,dwf_i64 w2⟩⟩
theorem come_udsC {fuel:Nat} {cs:List Value} {y:DataW H × List MemPlace} (h:DataW.trod enc Tryz.prog W 0 (fun _=>true) true fuel 22 cs=some y) :
  ∃ A c L,cs=[.slice A (List.length L) c]∧Uin W A c L ∧ ∀ x∈L,UdIn x:=by
 rcases Go.Deep.open_slice Tryz.underlying22 h with ⟨hcs,_⟩ | ⟨a,n,c,m,fu,D,Pl,hcs,_,hnc,hcm,hm,_,hx⟩
 ·exact ⟨none,0,[],hcs,Uin.nil W,fun x hx=>(nomatch hx)⟩
 ·rw [four_ud] at hx
  have hmn:n≤m:=by rw [hm];split<;>omega
  obtain ⟨F,hF⟩:=Go.Deep.choose_lt (α:=Ud) (n:=n) (p:=fun i d=>(∀ j,j<4→W.cell? (a.add (i * 4+j))=(udC d)[j]?)∧UdR W d∧UdIn d) (fun i hi=>by
   obtain ⟨cs',h1,h2⟩:=hx i (by omega)
   obtain ⟨_,_,h3⟩:=World.cells?_some h1
   obtain ⟨d,rfl,h4⟩:=come_udC h2
   exact ⟨d,fun j hj=>by rw [← add_add'];exact h3 j hj,h4⟩)
  have hlen:((List.range n).map F).length=n:=by simp
  have hmem : ∀ d∈(List.range n).map F,UdR W d∧UdIn d:=fun d hd=>by
   obtain ⟨i,hi,rfl⟩:=List.mem_map.1 hd
   exact (hF i (List.mem_range.1 hi)).2
  refine ⟨some a,c,(List.range n).map F,by rw [hlen];exact hcs,⟨⟨by rw [udsC_len],by rw [hlen];exact hnc,hcm,(fun h=>nomatch h),fun _=>⟨a,rfl,fun j u hu=>?_⟩⟩,fun d hd=>(hmem d hd).1⟩,fun d hd=>(hmem d hd).2⟩
  have hj:j<n * 4:=by
   rcases Nat.lt_or_ge j (n * 4) with q | q
   ·exact q
   ·rw [List.getElem?_eq_none (by rw [udsC_len,hlen];exact q)] at hu
    cases hu
  have e:j=j / 4 * 4+j % 4:=by omega
  rw [e,udsC_at _ _ _ (by rw [hlen];omega) (by omega)] at hu
  have e2:((List.range n).map F).getD (j / 4) Ud.zero=F (j / 4):=by
   rw [List.getD_eq_getElem?_getD,List.getElem?_map,List.getElem?_range (by omega)]
   rfl
  rw [e2] at hu
  rw [e,(hF (j / 4) (by omega)).1 (j % 4) (by omega)]
  exact hu
set_option maxRecDepth 100000 in
theorem come_uds {base:Nat} {v:Value} {d:DataW H} {p:List MemPlace} (hv:Value.okWide Tryz.prog W .any base 22 v) (h:DataW.Trod enc Tryz.prog W 0 (fun _=>true) true 22 v d p) :
  ∃ A c L,v = .slice A (List.length L) c∧Uin W A c L ∧ ∀ x∈L,UdIn x:=by
 obtain ⟨fuel,hf⟩:=h
 obtain ⟨A,c,l,e,h1,h2⟩:=come_udsC hf
 obtain ⟨A',n',c',rfl⟩:=okWide_slice Tryz.underlying22 hv
 have e':(Value.slice A' n' c') = .slice A l.length c:=by injection e
 exact ⟨A,c,l,e',h1,h2⟩
end
end Go.Proofs.YtdgbkpoickbidaaGreatDoor
namespace Go.Proofs.YtdgbkpoickbidaaGreatDoor
open Go.ChangeShapes Go.WideShapes Go.ChangeAt Go.RowKit Go.WideElems

section
variable {H:Type} {enc:TypeId × Value→H} {W:World}
theorem weights_part {e:TypeId} {d:DataW H} {n:Nat} : ∀ {l:List (DataW H)},d∈l→n∈d.weights Tryz.prog e→n∈DataW.weightsAll Tryz.prog e l
 | x :: r,h,hn=>by
  unfold DataW.weightsAll
  rcases List.mem_cons.1 h with rfl | h
  ·exact List.mem_append_left _ hn
  ·exact List.mem_append_right _ (weights_part h hn)
set_option maxRecDepth 100000 in
/-- each element of a slice is read; its weights are the slice's -/
theorem each_weight {α:Type} {T E:TypeId} (ht:Tryz.prog.underlying T=some (.slice E)) {size:Nat} (hs:Tryz.prog.cellsOf E=size) (C:α→List Value) (hC : ∀ x,(C x).length=size) {L:List α} {Cs:List Value} (hat : ∀ i (hi:i<L.length) j,j<size→Cs[i * size+j]?=(C (L[i]'hi))[j]?) {A:Option Addr} {c:Nat} (sl:Sl W size A L.length c Cs)
  {fuel:Nat} {y:DataW H × List MemPlace} (h:DataW.trod enc Tryz.prog W 0 (fun _=>true) true fuel T [.slice A L.length c]=some y) : ∀ i (hi:i<L.length), ∃ fu z,DataW.trod enc Tryz.prog W 0 (fun _=>true) true fu E (C (L[i]'hi))=some z ∧ ∀ n∈z.1.weights Tryz.prog E,n∈y.1.weights Tryz.prog T:=by
 intro i hi
 rcases Go.Deep.open_slice ht h with ⟨hcs,_⟩ | ⟨a,n,k,m,fu,D,Pl,hcs,_,hnc,hcm,hm,rfl,hx⟩
 ·have e:L.length=0:=by injection hcs with q;injection q
  omega
 ·rw [hs] at hx
  have hn:L.length=n:=by injection hcs with q;injection q
  have hA:A=some a:=by injection hcs with q;injection q
  subst hA
  have hmn:n≤m:=by rw [hm];split<;>omega
  obtain ⟨cs',h1,h2⟩:=hx i (by omega)
  obtain ⟨_,h4,h3⟩:=World.cells?_some h1
  have e:cs'=C (L[i]'hi):=by
   refine List.ext_getElem? fun j=>?_
   rcases Nat.lt_or_ge j size with q | q
   ·rw [← h3 j q,add_add']
    obtain ⟨ad,e1,hc⟩:=sl.2.2.2.2 (by omega)
    injection e1 with e1
    subst e1
    have q2:j<(C (L[i]'hi)).length:=by rw [hC];exact q
    have e3:(C (L[i]'hi))[j]?=some ((C (L[i]'hi))[j]'q2):=List.getElem?_eq_getElem q2
    rw [e3]
    exact hc _ _ (by rw [hat i hi j q];exact e3)
   ·rw [List.getElem?_eq_none (by omega),List.getElem?_eq_none (by rw [hC];exact q)]
  subst e
  refine ⟨fu,_,h2,fun q hq=>?_⟩
  have hd:D i∈(List.range n).map D:=List.mem_map.2 ⟨i,List.mem_range.2 (by omega),rfl⟩
  show q∈DataW.weights Tryz.prog T (DataW.slice ((List.range n).map D) ((List.range (m - n)).map fun j=>D (n+j)))
  unfold DataW.weights
  rw [ht]
  exact List.mem_cons_of_mem _ (List.mem_append_left _ (weights_part hd hq))
set_option maxRecDepth 100000 in
theorem dat_w {fuel:Nat} {d:Dat} {y:DataW H × List MemPlace} (h:DataW.trod enc Tryz.prog W 0 (fun _=>true) true fuel 204 (datC d)=some y):d.s.size∈y.1.weights Tryz.prog 204:=by
 obtain ⟨y0,y1,y2,y3,n,rfl,hl,h0,h1,h2,h3⟩:=Go.Joins.trod_struct4 Tryz.underlying204 h
 have g3:DataW.trod enc Tryz.prog W 0 (fun _=>true) true n 9 [.string d.s]=some y3:=by
  have:DataW.trod enc Tryz.prog W 0 (fun _=>true) true n 9 (((datC d).drop 3).take (Tryz.prog.cellsOf 9))=some y3:=h3
  rw [one_str] at this
  exact this
 obtain ⟨s,e3,ey,_⟩:=DataW.trod_string Tryz.underlying9 g3
 have e:d.s=s:=by simpa using e3
 subst ey
 have hsz:s.data.toList.length=s.size:=by simp
 rw [e, ← hsz]
 show _∈DataW.weights Tryz.prog 204 (DataW.agg [y0.1,y1.1,y2.1,DataW.lit (.string s.data.toList)])
 unfold DataW.weights
 rw [Tryz.underlying204]
 exact DataW.weights_mem_each (j:=3) (t:=9) (d:=DataW.lit (.string s.data.toList)) rfl rfl _ (by unfold DataW.weights;exact List.mem_singleton.2 rfl)
set_option maxRecDepth 100000 in
theorem row_w {fuel:Nat} {A:Option Addr} {c:Nat} {l:List Dat} {y:DataW H × List MemPlace} (h:DataW.trod enc Tryz.prog W 0 (fun _=>true) true fuel 79 [.slice A l.length c]=some y) (hr:Rw W A c l) : ∀ d∈l,d.s.size∈y.1.weights Tryz.prog 79:=fun d hd=>by
 obtain ⟨i,hi,rfl⟩:=List.getElem_of_mem hd
 obtain ⟨fu,z,h2,h3⟩:=each_weight Tryz.underlying79 four_dat datC (fun _=>rfl) (fun i hi j hj=>by
  have e2:=rowC_at l i j hi hj
  rwa [List.getD_eq_getElem?_getD,List.getElem?_eq_getElem hi] at e2) hr h i hi
 exact h3 _ (dat_w h2)
set_option maxRecDepth 100000 in
theorem ud_w {fuel:Nat} {x:Ud} {y:DataW H × List MemPlace} (h:DataW.trod enc Tryz.prog W 0 (fun _=>true) true fuel 95 (udC x)=some y) (hr:Rw W x.A x.c x.l) : ∀ d∈x.l,d.s.size∈y.1.weights Tryz.prog 95:=fun d hd=>by
 obtain ⟨y0,y1,y2,n,hy,hl,h0,h1,h2⟩:=Go.Deep.trod_struct3 Tryz.underlying95 h
 have g0:DataW.trod enc Tryz.prog W 0 (fun _=>true) true n 79 [.slice x.A x.l.length x.c]=some y0:=by
  have:DataW.trod enc Tryz.prog W 0 (fun _=>true) true n 79 (((udC x).drop 0).take (Tryz.prog.cellsOf 79))=some y0:=h0
  rw [one_rowu] at this
  exact this
 have k:=row_w g0 hr d hd
 rw [hy]
 show _∈DataW.weights Tryz.prog 95 (DataW.agg [y0.1,y1.1,y2.1])
 unfold DataW.weights
 rw [Tryz.underlying95]
 exact DataW.weights_mem_each (j:=0) (t:=79) (d:=y0.1) rfl rfl _ k
set_option maxRecDepth 100000 in
theorem come_uds_z {base:Nat} {v:Value} {d:DataW H} {p:List MemPlace} (hv:Value.okWide Tryz.prog W .any base 22 v) (h:DataW.Trod enc Tryz.prog W 0 (fun _=>true) true 22 v d p) :
  ∃ A c L,v = .slice A (List.length L) c∧Uin W A c L∧(∀ x∈L,UdIn x) ∧
   ∀ (ts:List TypeId) (ds:List (DataW H)) (j:Nat),ts[j]?=some 22→ds[j]?=some d→(DataW.weightsEach Tryz.prog ts ds).all (· ≤ reachBytes)=true → ∀ x∈L, ∀ t∈x.l,t.s.size≤140737488355328:=by
 obtain ⟨A,c,L,rfl,h1,h2⟩:=come_uds hv h
 obtain ⟨fuel,hf⟩:=h
 refine ⟨A,c,L,rfl,h1,h2,fun ts ds j ht hd hz x hx t htx=>?_⟩
 obtain ⟨i,hi,rfl⟩:=List.getElem_of_mem hx
 obtain ⟨fu,z,h3,h4⟩:=each_weight Tryz.underlying22 four_ud udC (fun _=>rfl) (fun i hi j hj=>by
  have e2:=udsC_at L i j hi hj
  rwa [List.getD_eq_getElem?_getD,List.getElem?_eq_getElem hi] at e2) h1.sl hf i hi
 have hm:=DataW.weights_mem_each ht hd _ (h4 _ (ud_w h3 (h1.ls _ hx).r t htx))
 have hle:=List.all_eq_true.1 hz _ hm
 have hle2:t.s.size≤reachBytes:=of_decide_eq_true hle
 have:=reachBytes_lt
 have e:(2:Nat) ^ 47=140737488355328:=by decide
 omega
end
end Go.Proofs.YtdgbkpoickbidaaGreatDoor
namespace Go.Proofs.YtdgbkpoickbidaaGreatDoor.UdS
open Go.RowKit

def nzV (x:V):Bool := !(x.2==0)
def Canon (D:List V):Prop := ∀ x∈D, ∀ y∈D,cmpV x y=0→x.1=y.1
theorem alike_filter (c:V) (p:V→Bool) (l:List V):alike cmpV c (l.filter p)=(alike cmpV c l).filter p:=by
 unfold alike
 rw [List.filter_filter,List.filter_filter]
 congr 1
 funext a
 rw [Bool.and_comm]
theorem sumV_spec {D:List V} (hin : ∀ x∈D,InN x):(sumV D).Pairwise (fun x y=>cmpV x y<0) ∧ ∀ c,alike cmpV c (sumV D)=(sumClass (alike cmpV c D)).filter nzV:=by
 have h:=Summed.all D hin
 refine ⟨h.sorted.filter _,fun c=>?_⟩
 show alike cmpV c ((sumAll D).filter nzV)=_
 rw [alike_filter,h.same]
theorem sumV_eq {D R:List V} (hin : ∀ x∈D,InN x) (hs:R.Pairwise (fun x y=>cmpV x y<0)) (ha : ∀ c,alike cmpV c R=(sumClass (alike cmpV c D)).filter nzV):R=sumV D:=by
 obtain ⟨h1,h2⟩:=sumV_spec hin
 exact Stable.unique cmpV_tot (l:=R) ⟨hs.imp fun q=>Int.le_of_lt q,fun _=>rfl⟩ ⟨h1.imp fun q=>Int.le_of_lt q,fun c=>by rw [h2,ha]⟩
theorem cmpV_self (x:V):cmpV x x=0:=cmpV_tot.refl x
/-- where a sum's row comes from -/
theorem sumV_mem {D:List V} (hin : ∀ x∈D,InN x) {x:V} (hx:x∈sumV D):InN x∧nzV x=true ∧ ∃ y∈D,y.1=x.1:=by
 have h:x∈alike cmpV x (sumV D):=List.mem_filter.2 ⟨hx,by rw [beq_iff_eq];exact cmpV_self x⟩
 rw [(sumV_spec hin).2] at h
 obtain ⟨h1,h2⟩:=List.mem_filter.1 h
 refine ⟨?_,h2,?_⟩
 ·cases hl:alike cmpV x D with
  | nil=>rw [hl] at h1;cases h1
  | cons y l =>
   rw [hl] at h1
   rw [List.mem_singleton.1 h1]
   exact w64_in _
 ·cases hl:alike cmpV x D with
  | nil=>rw [hl] at h1;cases h1
  | cons y l =>
   have hy:y∈alike cmpV x D:=by rw [hl];exact List.mem_cons_self ..
   rw [hl] at h1
   exact ⟨y,(List.mem_filter.1 hy).1,by rw [List.mem_singleton.1 h1]⟩
theorem cnt_nil:cnt []=0:=by decide
theorem mem_alike {c x:V} {D:List V} (h:x∈alike cmpV c D):x∈D∧cmpV c x=0:=by
 obtain ⟨h1,h2⟩:=List.mem_filter.1 h
 exact ⟨h1,by simpa using h2⟩
open Go.RowKit
theorem w64_cong {a b:Int} (h:w64 a=w64 b) (c:Int):w64 (a+c)=w64 (b+c):=by rw [← w64_add a,h,w64_add]
theorem w64_cong2 {a b c d:Int} (h:w64 a=w64 b) (k:w64 c=w64 d):w64 (a+c)=w64 (b+d):=by rw [w64_cong h c,Int.add_comm,w64_cong k b,Int.add_comm]
/-- the sum over the keys of a set -/
def tot (P:UK→Bool):List V→Int
 | []=>0
 | x :: l=>(if P x.1 then x.2 else 0)+tot P l
theorem tot_append (P:UK→Bool) : ∀ a b:List V,tot P (a++b)=tot P a+tot P b
 | [],b=>by show _=0+_;rw [Int.zero_add];rfl
 | x :: a,b=>by
  show (if P x.1 then x.2 else 0)+tot P (a++b)=(if P x.1 then x.2 else 0)+tot P a+tot P b
  rw [tot_append P a b,Int.add_assoc]
theorem tot_map (P:UK→Bool) (f:UK→UK) : ∀ l:List V,tot P (l.map fun x=>(f x.1,x.2))=tot (fun k=>P (f k)) l
 | []=>rfl
 | x :: l=>by
  show (if P (f x.1) then x.2 else 0)+tot P (l.map fun x=>(f x.1,x.2))=_
  rw [tot_map P f l]
  rfl
theorem tot_nz (P:UK→Bool) : ∀ l:List V,tot P (l.filter nzV)=tot P l
 | []=>rfl
 | x :: l=>by
  rw [List.filter_cons]
  by_cases h:x.2=0
  ·have e:nzV x=false:=by simp [nzV,h]
   rw [e]
   show tot P (l.filter nzV)=(if P x.1 then x.2 else 0)+tot P l
   rw [tot_nz P l,h]
   split<;>omega
  ·have e:nzV x=true:=by simp [nzV,h]
   rw [e]
   show (if P x.1 then x.2 else 0)+tot P (l.filter nzV)=_
   rw [tot_nz P l]
   rfl
theorem tot_perm (P:UK→Bool) {a b:List V} (h:a.Perm b):tot P a=tot P b:=by
 induction h with
 | nil=>rfl
 | cons x _ ih=>show _+_=_+_;rw [ih]
 | swap x y l=>show _+(_+_)=_+(_+_);omega
 | trans _ _ h1 h2=>rw [h1,h2]
theorem tot_addV (P:UK→Bool) (x:V) : ∀ R:List V,(∀ y∈R,cmpV y x=0→P y.1=P x.1)→w64 (tot P (addV R x))=w64 (tot P R+(if P x.1 then x.2 else 0))
 | [],_=>by
  show w64 ((if P x.1 then x.2 else 0)+0)=w64 (0+_)
  rw [Int.add_comm]
 | y :: R,h=>by
  unfold addV
  split
  ·show w64 ((if P y.1 then y.2 else 0)+tot P (addV R x))=w64 ((if P y.1 then y.2 else 0)+tot P R+_)
   rw [Int.add_comm,w64_cong (tot_addV P x R fun z hz=>h z (List.mem_cons_of_mem _ hz))]
   congr 1
   omega
  ·split
   ·rename_i h0
    have hp:=h y (List.mem_cons_self ..) h0
    show w64 ((if P y.1 then w64 (y.2+x.2) else 0)+tot P R)=w64 ((if P y.1 then y.2 else 0)+tot P R+(if P x.1 then x.2 else 0))
    rw [← hp]
    cases P y.1 with
    | true =>
     simp only [if_true]
     rw [w64_add]
     congr 1
     omega
    | false=>simp
   ·show w64 ((if P x.1 then x.2 else 0)+((if P y.1 then y.2 else 0)+tot P R))=w64 ((if P y.1 then y.2 else 0)+tot P R+_)
    congr 1
    omega
theorem sumAll_mem {D:List V} (hin : ∀ x∈D,InN x) {x:V} (hx:x∈sumAll D) : ∃ y∈D,y.1=x.1:=by
 have h:x∈alike cmpV x (sumAll D):=List.mem_filter.2 ⟨hx,by rw [beq_iff_eq];exact cmpV_self x⟩
 rw [(Summed.all D hin).same] at h
 cases hl:alike cmpV x D with
 | nil=>rw [hl] at h;cases h
 | cons y l =>
  have hy:y∈alike cmpV x D:=by rw [hl];exact List.mem_cons_self ..
  rw [hl] at h
  exact ⟨y,(List.mem_filter.1 hy).1,by rw [List.mem_singleton.1 h]⟩
theorem tot_sumAll (P:UK→Bool) (L:List V):(∀ x∈L,InN x)→Canon L→w64 (tot P (sumAll L))=w64 (tot P L):=by
 refine snoc_ind (p:=fun L=>(∀ x∈L,InN x)→Canon L→w64 (tot P (sumAll L))=w64 (tot P L)) (fun _ _=>rfl) (fun L x ih hin hc=>?_) L
 have hin' : ∀ y∈L,InN y:=fun y hy=>hin y (List.mem_append_left _ hy)
 have e:sumAll (L++[x])=addV (sumAll L) x:=by unfold sumAll;rw [List.foldl_append];rfl
 rw [e,tot_addV P x _ (fun y hy h0=>?_),w64_cong (ih hin' fun a ha b hb=>hc a (List.mem_append_left _ ha) b (List.mem_append_left _ hb)),tot_append]
 ·show w64 (tot P L+_)=w64 (tot P L+(_+0))
  rw [Int.add_zero]
 ·obtain ⟨z,hz,hzy⟩:=sumAll_mem hin' hy
  have h1:cmpV z x=0:=by
   have:cmpV z x=cmpV y x:=by show kcmp z.1 x.1=kcmp y.1 x.1;rw [hzy]
   rw [this,h0]
  rw [← hzy,hc z (List.mem_append_left _ hz) x (by simp) h1]
/-- two lists say the same -/
def Same (D E:List V):Prop := ∀ P:UK→Bool,w64 (tot P D)=w64 (tot P E)
theorem Same.refl (D:List V):Same D D:=fun _=>rfl
theorem Same.symm {D E:List V} (h:Same D E):Same E D:=fun P=>(h P).symm
theorem Same.trans {D E F:List V} (h:Same D E) (k:Same E F):Same D F:=fun P=>(h P).trans (k P)
theorem Same.append {D E D' E':List V} (h:Same D E) (k:Same D' E'):Same (D++D') (E++E'):=fun P=>by rw [tot_append,tot_append];exact w64_cong2 (h P) (k P)
theorem Same.map {D E:List V} (h:Same D E) (f:UK→UK):Same (D.map fun x=>(f x.1,x.2)) (E.map fun x=>(f x.1,x.2)):=fun P=>by rw [tot_map,tot_map];exact h _
theorem Same.perm {D E:List V} (h:D.Perm E):Same D E:=fun P=>by rw [tot_perm P h]
theorem Same.sum {D:List V} (hin : ∀ x∈D,InN x) (hc:Canon D):Same (sumV D) D:=fun P=>by
 show w64 (tot P ((sumAll D).filter nzV))=_
 rw [tot_nz,tot_sumAll P D hin hc]
theorem cnt_tot (c:V) : ∀ D:List V,(alike cmpV c D).foldr (fun x a=>x.2+a) 0=tot (fun k=>decide (cmpV c (k,0)=0)) D
 | []=>rfl
 | x :: D=>by
  rw [alike_cons]
  have e:cmpV c (x.1,0)=cmpV c x:=rfl
  by_cases h:cmpV c x=0
  ·rw [if_pos h]
   show x.2+(alike cmpV c D).foldr (fun x a=>x.2+a) 0=(if decide (cmpV c (x.1,0)=0)=true then x.2 else 0)+_
   rw [cnt_tot c D,e,if_pos (decide_eq_true h)]
  ·rw [if_neg h]
   show (alike cmpV c D).foldr (fun x a=>x.2+a) 0=(if decide (cmpV c (x.1,0)=0)=true then x.2 else 0)+_
   rw [cnt_tot c D,e,if_neg (by simpa using h),Int.zero_add]
/-- lists that say the same have one sum -/
theorem sumV_same {D E:List V} (h:Same D E) (hc:Canon (D++E)) (hD : ∀ x∈D,InN x) (hE : ∀ x∈E,InN x):sumV D=sumV E:=by
 obtain ⟨h1,h2⟩:=sumV_spec hD
 refine sumV_eq hE h1 fun c=>?_
 rw [h2]
 have hn:cnt (alike cmpV c D)=cnt (alike cmpV c E):=by
  unfold cnt
  rw [cnt_tot,cnt_tot]
  exact h _
 cases h3:alike cmpV c D with
 | nil =>
  cases h4:alike cmpV c E with
  | nil=>rfl
  | cons y l =>
   rw [h3,h4] at hn
   show []=[(y.1,cnt (y :: l))].filter nzV
   rw [← hn,cnt_nil]
   rfl
 | cons x k =>
  cases h4:alike cmpV c E with
  | nil =>
   rw [h3,h4] at hn
   show [(x.1,cnt (x :: k))].filter nzV=[]
   rw [hn,cnt_nil]
   rfl
  | cons y l =>
   rw [h3,h4] at hn
   show [(x.1,cnt (x :: k))].filter nzV=[(y.1,cnt (y :: l))].filter nzV
   have hx:x∈alike cmpV c D:=by rw [h3];exact List.mem_cons_self ..
   have hy:y∈alike cmpV c E:=by rw [h4];exact List.mem_cons_self ..
   have e:x.1=y.1:=hc x (List.mem_append_left _ (mem_alike hx).1) y (List.mem_append_right _ (mem_alike hy).1) (cmpV_tot.eq_trans (by rw [cmpV_tot.neg,(mem_alike hx).2];rfl) (mem_alike hy).2)
   rw [hn,e]
open Go.RowKit
/-- what stands at the end of the first of two lists -/
theorem getD_mid (P:List Ud) (x:Ud) (Q:List Ud):(P++x :: Q).getD P.length Ud.zero=x:=by
 rw [List.getD_eq_getElem?_getD,List.getElem?_append_right (Nat.le_refl _),Nat.sub_self]
 rfl
theorem set_mid (P:List Ud) (x y:Ud) (Q:List Ud):(P++x :: Q).set P.length y=P++y :: Q:=by
 rw [List.set_append_right _ _ (Nat.le_refl _),Nat.sub_self]
 rfl
/-- the list that is being sorted: P, the sorted part up to its last place, the one that is being put in, the rest -/
theorem Arr.two {w:World} {B g c q:Nat} {P s2 Q:List Ud} {x y:Ud} (h:Arr w B g c (P++y :: x :: Q)) (hq:q=P.length) :
  (w.cell? ⟨g,q * 4,none⟩=some (.slice y.A y.l.length y.c)∧w.cell? ⟨g,q * 4+1,none⟩=some (.int .u64 y.t.e)∧w.cell? ⟨g,q * 4+2,none⟩=some (.slice y.t.A y.t.l.length y.t.c)∧w.cell? ⟨g,q * 4+3,none⟩=some (.int .i64 y.d))∧w.cell? ⟨g,(q+1) * 4,none⟩=some (.slice x.A x.l.length x.c)∧w.cell? ⟨g,(q+1) * 4+1,none⟩=some (.int .u64 x.t.e)∧w.cell? ⟨g,(q+1) * 4+2,none⟩=some (.slice x.t.A x.t.l.length x.t.c)∧w.cell? ⟨g,(q+1) * 4+3,none⟩=some (.int .i64 x.d):=by
 subst hq
 have h1:=h.at (i:=P.length) (by simp)
 have h2:=h.at (i:=P.length+1) (by simp)
 rw [getD_mid] at h1
 have e:(P++y :: x :: Q).getD (P.length+1) Ud.zero=x:=by
  have:=getD_mid (P++[y]) x Q
  rwa [List.append_assoc,List.length_append] at this
 rw [e] at h2
 exact ⟨h1,h2⟩
theorem Arr.swap {w:World} {B g c q:Nat} {P Q:List Ud} {x y:Ud} (h:Arr w B g c (P++y :: x :: Q)) (hq:q=P.length) :
  Arr (put4 (put4 w g (q+1) y y.l.length y.t.l.length) g q x x.l.length x.t.l.length) B g c (P++x :: y :: Q):=by
 subst hq
 have h1:=(h.set (P.length+1) y).set P.length x
 have e:((P++y :: x :: Q).set (P.length+1) y).set P.length x=P++x :: y :: Q:=by
  have e1:(P++y :: x :: Q).set (P.length+1) y=P++y :: y :: Q:=by
   have:=set_mid (P++[y]) x y Q
   rwa [List.append_assoc,List.length_append,List.append_assoc] at this
  rw [e1,set_mid]
 rwa [e] at h1
/-- the inner loop's relation -/
def InsIn (B g c a:Nat) (P S T Q D':List Ud) (x:Ud) (w wi:World) (j:Nat) (s1 s2:List Ud):Prop :=
 j=a+s1.length∧D'=s1++s2∧(∀ y∈s2,cmpC x y<0)∧Arr wi B g c (P++(s1++x :: (s2++(T++Q))))∧w.grownBy wi (some g)∧Rws wi g (x :: S)
/-- the outer loop's relation -/
def InsOut (B g c a:Nat) (P S Q:List Ud) (w wo:World) (i:Nat) (D D' T:List Ud):Prop :=
 S=D++T∧i=a+D.length∧Stable cmpC D D'∧Arr wo B g c (P++(D'++(T++Q)))∧w.grownBy wo (some g)∧Rws wo g S
theorem stable_len {L M:List Ud} (h:Stable cmpC L M):M.length=L.length:=by
 have key : ∀ (n:Nat) (L M:List Ud),L.length≤n→Stable cmpC L M→M.length=L.length:=by
  intro n
  induction n with
  | zero =>
   intro L M hn h
   have:L=[]:=List.eq_nil_of_length_eq_zero (by omega)
   subst this
   cases M with
   | nil=>rfl
   | cons y M=>exact absurd ((h.mem cmpC_tot y).1 (List.mem_cons_self ..)) List.not_mem_nil
  | succ n ih =>
   intro L M hn h
   cases M with
   | nil =>
    cases L with
    | nil=>rfl
    | cons y L=>exact absurd ((h.mem cmpC_tot y).2 (List.mem_cons_self ..)) List.not_mem_nil
   | cons y M =>
    have hy:=(h.mem cmpC_tot y).1 (List.mem_cons_self ..)
    have p1 : ∀ K:List Ud,(alike cmpC y K).length+(K.filter fun z => !(cmpC y z==0)).length=K.length:=fun K=>by
     unfold alike
     rw [← List.length_append]
     exact (List.filter_append_perm (fun z=>cmpC y z==0) K).length_eq
    have h1:=p1 L
    have h2:=p1 (y :: M)
    have h3:(alike cmpC y L).length=(alike cmpC y (y :: M)).length:=by rw [h.same y]
    have h4:0<(alike cmpC y L).length:=List.length_pos_of_mem (List.mem_filter.2 ⟨hy,by rw [beq_iff_eq];exact cmpC_tot.refl y⟩)
    have h5:=ih (L.filter fun z => !(cmpC y z==0)) ((y :: M).filter fun z => !(cmpC y z==0)) (by omega) ⟨h.sorted.filter _,fun z=>by
     have q:=h.same z
     unfold alike at q ⊢
     rw [List.filter_filter,List.filter_filter]
     have e : ∀ K:List Ud,K.filter (fun a=>(cmpC z a==0) && !(cmpC y a==0))=(K.filter (fun a=>cmpC z a==0)).filter (fun a => !(cmpC y a==0)):=fun K=>by
      rw [List.filter_filter]
      congr 1
      funext a
      rw [Bool.and_comm]
     rw [e,e,q]⟩
    omega
 exact key L.length L M (Nat.le_refl _) h
open Go.RowKit
def nzC (x:Ud):Bool := !(x.d==0)
set_option maxRecDepth 100000 in
set_option maxHeartbeats 400000 in
theorem sum2_any (A B:Option Addr) (c n b m:Nat) (e k:Int) (v:Bool) (w:World) (hv:Hid ((k==0)=v)) :
  Calls Tryz.prog 107 #[.agg #[.slice A n c, .int .u64 e, .slice B m b, .int .i64 k]] w fun e w'=>e = .returned (.bool v)∧Ext w w':=by
 rw [← hv.out]
 clear hv
 go_enter Tryz.func107,Tryz.ntmps107
 go_wp2
 go_ret
 exact ⟨rfl,(Ext.refl w).alloc _⟩
set_option maxRecDepth 100000 in
set_option maxHeartbeats 2000000 in
theorem index_none (B g c n:Nat) (M:List Ud) (w:World) (hn:n=M.length) (h:Arr w B g c M) (hz : ∀ x∈M,(x.d==0)=false) :
  Calls Tryz.prog 185 #[.slice (some ⟨g,0,none⟩) n c, .func (.func 107) #[] #[]] w fun e w'=>e = .returned (.int .i64 (-1))∧Ext w w':=by
 have hnm:=h.le
 rw [← hn] at hnm
 have H:=Lib.hid h
 have HN:=Lib.hid hn
 have HZ:=Lib.hid hz
 clear h hn hz
 go_enter Tryz.func185,Tryz.ntmps185
 go_wp2
 go_loopw [8] (fun v wr => ∃ i:Nat,i≤n∧v = .int .i64 i∧Ext w wr) (fun v _=>n - (intOf v).toNat)
 case atStart=>exact ⟨0,Nat.zero_le _,rfl,Ext.refl _⟩
 case round =>
  obtain ⟨i,hi,rfl,er⟩:=hrel
  by_cases hlt:i<n
  ·have hil:i<M.length:=by rw [← HN.out];exact hlt
   obtain ⟨p0,p1,p2,p3⟩:=(H.out.ext er).at hil
   have hk:((M.getD i Ud.zero).d==0)=false:=by
    rw [List.getD_eq_getElem?_getD,List.getElem?_eq_getElem hil]
    exact HZ.out _ (List.getElem_mem hil)
   obtain ⟨x,hx⟩ : ∃ x,M.getD i Ud.zero=x:=⟨_,rfl⟩
   rw [hx] at p0 p1 p2 p3 hk
   have HK:=Lib.hid hk
   clear hil hx hk
   go_wp2_with (go_at_call 107;refine (sum2_any _ _ _ _ _ _ _ _ _ _ HK).mono ?_;rintro e w1 ⟨rfl,x1⟩)
   go_roundw
   case rel=>exact ⟨i+1,by omega,by go_num,er.trans x1⟩
   case measure=>simp [intOf];omega
  ·go_wp2
   go_ret
   exact ⟨rfl,er⟩
set_option maxRecDepth 100000 in
set_option maxHeartbeats 2000000 in
theorem index_some (B g c n q:Nat) (P Q:List Ud) (x:Ud) (w:World) (hn:n=(P++x :: Q).length) (hq:q=P.length) (h:Arr w B g c (P++x :: Q)) (hz : ∀ x∈P,(x.d==0)=false) (hx:(x.d==0)=true) :
  Calls Tryz.prog 185 #[.slice (some ⟨g,0,none⟩) n c, .func (.func 107) #[] #[]] w fun e w'=>e = .returned (.int .i64 q)∧Ext w w':=by
 have hnm:=h.le
 rw [← hn] at hnm
 have hqn:q<n:=by rw [hn,List.length_append,List.length_cons];omega
 have H:=Lib.hid h
 have HQ:=Lib.hid hq
 have HZ:=Lib.hid hz
 have HX:=Lib.hid hx
 clear h hn hz hq hx
 go_enter Tryz.func185,Tryz.ntmps185
 go_wp2
 go_loopw [8] (fun v wr => ∃ i:Nat,i≤q∧v = .int .i64 i∧Ext w wr) (fun v _=>n - (intOf v).toNat)
 case atStart=>exact ⟨0,Nat.zero_le _,rfl,Ext.refl _⟩
 case round =>
  obtain ⟨i,hi,rfl,er⟩:=hrel
  have hlt:i<n:=by omega
  have hil:i<(P++x :: Q).length:=by rw [List.length_append,List.length_cons, ← HQ.out];omega
  obtain ⟨p0,p1,p2,p3⟩:=(H.out.ext er).at hil
  by_cases hiq:i<q
  ·have hk:(((P++x :: Q).getD i Ud.zero).d==0)=false:=by
    have hp:i<P.length:=by rw [← HQ.out];exact hiq
    rw [List.getD_eq_getElem?_getD,List.getElem?_append_left hp,List.getElem?_eq_getElem hp]
    exact HZ.out _ (List.getElem_mem hp)
   obtain ⟨y,hy⟩ : ∃ y,(P++x :: Q).getD i Ud.zero=y:=⟨_,rfl⟩
   rw [hy] at p0 p1 p2 p3 hk
   have HK:=Lib.hid hk
   clear hil hy hk
   go_wp2_with (go_at_call 107;refine (sum2_any _ _ _ _ _ _ _ _ _ _ HK).mono ?_;rintro e w1 ⟨rfl,x1⟩)
   go_roundw
   case rel=>exact ⟨i+1,by omega,by go_num,er.trans x1⟩
   case measure=>simp [intOf];omega
  ·have hiq2:i=q:=by omega
   subst hiq2
   have e:(P++x :: Q).getD i Ud.zero=x:=by rw [HQ.out];exact getD_mid P x Q
   rw [e] at p0 p1 p2 p3
   clear hil e
   go_wp2_with (go_at_call 107;refine (sum2_any _ _ _ _ _ _ _ _ _ _ HX).mono ?_;rintro e w1 ⟨rfl,x1⟩)
   go_ret
   exact ⟨rfl,er.trans x1⟩
theorem own_set_past {w:World} {B g n c k:Nat} {xs:List Value} (h:Own w B 95 4 (some ⟨g,0,none⟩) n c xs) (hk:xs.length≤k) (u:Value):Own (w.setCell ⟨g,k,none⟩ u) B 95 4 (some ⟨g,0,none⟩) n c xs:=by
 have:=h.put k u
 rwa [List.set_eq_of_length_le hk] at this
theorem own_sets_past {B g n c:Nat} {xs:List Value} : ∀ (vs:List Value) (w:World) (k:Nat),Own w B 95 4 (some ⟨g,0,none⟩) n c xs→xs.length≤k→Own (w.setCells g k vs) B 95 4 (some ⟨g,0,none⟩) n c xs
 | [],_,_,h,_=>h
 | v :: vs,w,k,h,hk=>own_sets_past vs _ (k+1) (own_set_past h hk v) (by omega)
theorem upd_sets (g:Nat) : ∀ (vs:List Value) (w:World) (k:Nat),w.grownBy (w.setCells g k vs) (some g)
 | [],w,_=>World.grownBy.refl w _
 | v :: vs,w,k=>(upd_set w g k v).trans (upd_sets g vs _ (k+1))
theorem Arr.prefix_ {w:World} {B g c:Nat} {K X:List Ud} (h:Arr w B g c (K++X)):Arr w B g c K:=by
 refine ⟨⟨udsC_len K,?_⟩,h.2⟩
 rcases h.1.2 with ⟨h1,h2⟩ | ⟨g',cur,e,hb,hg,hnc,hcm,hcs,htake⟩
 ·exact .inl ⟨h1,by rw [List.length_append] at h2;omega⟩
 ·refine .inr ⟨g',cur,e,hb,hg,by rw [List.length_append] at hnc;omega,hcm,hcs,?_⟩
  have:(cur.toList.take ((K++X).length * 4)).take (K.length * 4)=(udsC (K++X)).take (K.length * 4):=by rw [htake]
  rw [List.take_take,Nat.min_eq_left (by rw [List.length_append];omega),udsC_append] at this
  rw [this, ← udsC_len K,List.take_left]
theorem Arr.cells_past {w:World} {B g c:Nat} {K:List Ud} (h:Arr w B g c K) {j:Nat} (hj:j<c * 4):(w.cell? ⟨g,j,none⟩).isSome=true:=by
 rcases h.1.2 with ⟨h1,_⟩ | ⟨g',cur,e,hb,hg,hnc,hcm,hcs,htake⟩
 ·have:=h.2;omega
 ·cases e
  rw [cell_of_row w g j cur _ (0,0) hg,Array.getElem?_eq_getElem (Nat.lt_of_lt_of_le hj hcs)]
  rfl
theorem run_clear4 {P:Program} (w:World) (t e ty:TypeId) (z0 z1 z2 z3:Value) (ht:P.underlying t=some (.slice e)) (hv : ∀ w,(zeroValue e).run P w = .ok (.agg #[z0,z1,z2,z3]) w) (hz : ∀ v∈[z0,z1,z2,z3],v.oneCell'=true) (hzc:(Value.agg #[z0,z1,z2,z3]).cells = #[z0,z1,z2,z3]) (b o n c:Nat) (hn:0<n)
  (hc : ∀ j,j<n * 4→(w.cell? ⟨b,o+j,none⟩).isSome=true) (hf : ∀ j,j<n * 4→w.frozen? ⟨b,o+j,none⟩=false) :
  (Builtin.clear_ #[t] ty #[.slice (some ⟨b,o,none⟩) n c]).run P w = .ok (.tuple #[]) (w.setCells b o (Builtin.zeroCells #[z0,z1,z2,z3] n).toList):=by
 have hlen:(Builtin.zeroCells #[z0,z1,z2,z3] n).toList.length=n * 4:=by
  have:=size_zeroCells #[z0,z1,z2,z3] n
  rw [Array.length_toList,this]
  rfl
 have hall : ∀ v∈(Builtin.zeroCells #[z0,z1,z2,z3] n).toList,v.oneCell'=true:=by
  intro v hv'
  unfold Builtin.zeroCells at hv'
  rw [Array.toList_map] at hv'
  obtain ⟨i,_,rfl⟩:=List.mem_map.1 hv'
  show (#[z0,z1,z2,z3][i % 4]!).oneCell'=true
  rcases (by omega:i % 4=0∨i % 4=1∨i % 4=2∨i % 4=3) with h | h | h | h
  ·rw [h];exact hz z0 (by simp)
  ·rw [h];exact hz z1 (by simp)
  ·rw [h];exact hz z2 (by simp)
  ·rw [h];exact hz z3 (by simp)
 have hst:=run_storeCells_cells (P:=P) b o (Builtin.zeroCells #[z0,z1,z2,z3] n).toList 0 w (by simpa [hlen] using hc) (by simpa [hlen] using hf) hall
 simp only [Nat.add_zero] at hst
 obtain ⟨m,rfl⟩ : ∃ m,n=m+1:=⟨n - 1,by omega⟩
 simp [Builtin.clear_,run_underlying ht,hv,hzc,hst]
open Go.RowKit
/-- what is left behind: those that are some -/
def Deleted (B g c:Nat) (M:List Ud) (w:World) (e:Ending) (w':World):Prop := ∃ m,e = .returned (.slice (some ⟨g,0,none⟩) m c)∧m=(M.filter nzC).length∧Arr w' B g c (M.filter nzC)∧w.grownBy w' (some g)
theorem zero_ud (w:World):(zeroValue 95).run Tryz.prog w = .ok (.agg #[.slice none 0 0, .int .u64 0, .slice none 0 0, .int .i64 0]) w:=by kernel_rfl
/-- so far: K is kept, X is to be thrown away, R is to come -/
def DelIn (B g c:Nat) (M K X R:List Ud) (w wr:World) (j:Nat):Prop:=j=K.length+X.length∧M.filter nzC=K++R.filter nzC∧Arr wr B g c (K++(X++R))∧w.grownBy wr (some g)∧0<X.length
theorem DelIn.mk' {B g c:Nat} {M K X R:List Ud} {w wr wz:World} {j:Nat} (h:DelIn B g c M K X R w wr j) (hz:Ext wr wz):DelIn B g c M K X R w wz j:=⟨h.1,h.2.1,h.2.2.1.ext hz,h.2.2.2.1.trans (upd_ext hz g),h.2.2.2.2⟩
theorem DelIn.skip {B g c:Nat} {M K X R:List Ud} {x:Ud} {w wr wz:World} {j:Nat} (h:DelIn B g c M K X (x :: R) w wr j) (hx:nzC x=false) (hz:Ext wr wz):DelIn B g c M K (X++[x]) R w wz (j+1):=by
 obtain ⟨h1,h2,h3,h4,h5⟩:=h
 refine ⟨by rw [List.length_append,List.length_singleton];omega,by rw [h2,List.filter_cons_of_neg (by simp [hx])],?_,h4.trans (upd_ext hz g),by rw [List.length_append];omega⟩
 have e:K++(X++[x]++R)=K++(X++x :: R):=by simp
 rw [e]
 exact h3.ext hz
theorem DelIn.keep {B g c i:Nat} {M K X R:List Ud} {x y:Ud} {w wr:World} {j:Nat} (h:DelIn B g c M K (y :: X) (x :: R) w wr j) (hx:nzC x=true) (hi:i=K.length) {n m:Nat} (hn:n=x.l.length) (hm:m=x.t.l.length) :
  DelIn B g c M (K++[x]) (X++[x]) R w (put4 wr g i x n m) (j+1):=by
 subst hi hn hm
 obtain ⟨h1,h2,h3,h4,h5⟩:=h
 refine ⟨by simp only [List.length_append,List.length_cons,List.length_nil] at h1 ⊢;omega,by rw [h2,List.filter_cons_of_pos hx];simp,?_,h4.trans (upd_put4 wr g _ _ _ _),by rw [List.length_append,List.length_singleton];omega⟩
 have h6:=h3.set K.length x
 have e:(K++(y :: X++x :: R)).set K.length x=K++[x]++(X++[x]++R):=by
  rw [List.cons_append,set_mid]
  simp
 rw [e] at h6
 exact h6
set_option maxRecDepth 100000 in
set_option maxHeartbeats 4000000 in
theorem deleteFunc_any (B g c n:Nat) (M:List Ud) (w:World) (hn:n=M.length) (h:Arr w B g c M) :
  Calls Tryz.prog 106 #[.slice (some ⟨g,0,none⟩) n c, .func (.func 107) #[] #[]] w (Deleted B g c M w):=by
 by_cases hall : ∀ x∈M,(x.d==0)=false
 ·have hf:M.filter nzC=M:=List.filter_eq_self.2 fun x hx=>by unfold nzC;rw [hall x hx];rfl
  have H:=Lib.hid h
  have HN:=Lib.hid hn
  have HF:=Lib.hid hf
  clear h hn hf
  go_enter Tryz.func106,Tryz.ntmps106
  go_wp2_with (go_at_call 185;refine (index_none B g c n M _ HN.out H.out hall).mono ?_;rintro e w1 ⟨rfl,x1⟩)
  go_ret
  exact ⟨n,rfl,by rw [HF.out];exact HN.out,by rw [HF.out];exact H.out.ext x1,upd_ext x1 g⟩
 ·obtain ⟨P,x,Q,rfl,hP,hx⟩ : ∃ P x Q,M=P++x :: Q∧(∀ y∈P,(y.d==0)=false)∧(x.d==0)=true:=by
   clear h hn
   induction M with
   | nil=>exact absurd (fun x hx=>(nomatch hx)) hall
   | cons y M ih =>
    by_cases hy:(y.d==0)=true
    ·exact ⟨[],y,M,rfl,fun z hz=>(nomatch hz),hy⟩
    ·have hy':(y.d==0)=false:=by simpa using hy
     obtain ⟨P,x,Q,e,h1,h2⟩:=ih (fun q=>hall fun z hz=>(List.mem_cons.1 hz).elim (fun e=>e ▸ hy') (q z))
     exact ⟨y :: P,x,Q,by rw [e];rfl,fun z hz=>(List.mem_cons.1 hz).elim (fun e=>e ▸ hy') (h1 z),h2⟩
  clear hall
  obtain ⟨M,hM⟩ : ∃ M,M=P++x :: Q:=⟨_,rfl⟩
  obtain ⟨q,hq⟩ : ∃ q,q=P.length:=⟨_,rfl⟩
  have hnm:=h.le
  rw [← hn] at hnm
  have hqn:q<n:=by rw [hn,hq,List.length_append,List.length_cons];omega
  have hncap:n≤c:=by rw [hn];exact h.1.le.1
  have hc63:c≤9223372036854775807:=h.1.le.2
  have hf1:P.filter nzC=P:=List.filter_eq_self.2 fun y hy=>by unfold nzC;rw [hP y hy];rfl
  have H:=Lib.hid h
  have HN:=Lib.hid hn
  have HQ:=Lib.hid hq
  have HP:=Lib.hid hP
  have HX:=Lib.hid hx
  have HLen:Hid (n=q+1+Q.length):=Lib.hid (by rw [hn,hq,List.length_append,List.length_cons];omega)
  have HD : ∀ w1,Ext w w1→Hid (DelIn B g c M P [x] Q w w1 (q+1)):=fun w1 x1=>Lib.hid ⟨by rw [hq];rfl,by rw [hM,List.filter_append,hf1,List.filter_cons_of_neg (by unfold nzC;rw [hx];decide)],h.ext x1,upd_ext x1 g,Nat.zero_lt_one⟩
  have HDD:=Lib.hid HD
  rw [← hM]
  clear h hn hq hP hx hf1 hM HD
  go_enter Tryz.func106,Tryz.ntmps106
  go_wp2_with (go_at_call 185;refine (index_some B g c n q P Q x _ HN.out HQ.out H.out HP.out HX.out).mono ?_;rintro e w1 ⟨rfl,x1⟩)
  go_loopg [5,6] (n - (q+1)) (fun z u v wr => ∃ (i j:Nat) (K X R:List Ud),z=n - j∧j≤n∧i≤j∧u = .int .i64 i∧v = .int .i64 j∧Hid (i=K.length∧n=j+R.length)∧Hid (DelIn B g c M K X R w wr j))
  case atStart=>exact ⟨q,q+1,P,[x],Q,rfl,by omega,by omega,rfl,by simp,Lib.hid ⟨HQ.out,HLen.out⟩,HDD.out w1 x1⟩
  case round =>
   obtain ⟨i,j,K,X,R,rfl,hj,hij,rfl,rfl,HI,HJ⟩:=hrel
   obtain ⟨wi,hwi⟩ : ∃ wi:World,wi=wr:=⟨_,rfl⟩
   rw [← hwi] at HJ ⊢
   clear hwi
   by_cases hlt:j<n
   ·obtain ⟨y,R,rfl⟩ : ∃ y R',R=y :: R':=by
     cases R with
     | nil=>have:=HI.out.2;rw [List.length_nil] at this;omega
     | cons y R=>exact ⟨y,R,rfl⟩
    obtain ⟨x0,X,rfl⟩ : ∃ x0 X',X=x0 :: X':=by
     cases X with
     | nil=>have:=HJ.out.2.2.2.2;exact absurd this (by decide)
     | cons x0 X=>exact ⟨x0,X,rfl⟩
    have hA:=HJ.out.2.2.1
    have hjl:j<(K++(x0 :: X++y :: R)).length:=by have:=HJ.out.1;simp only [List.length_append,List.length_cons] at this ⊢;omega
    obtain ⟨p0,p1,p2,p3⟩:=hA.at hjl
    have e:(K++(x0 :: X++y :: R)).getD j Ud.zero=y:=by
     rw [← List.append_assoc,show j=(K++x0 :: X).length by rw [List.length_append];exact HJ.out.1]
     exact getD_mid _ y R
    rw [e] at p0 p1 p2 p3
    have f0:=hA.free (i * 4)
    have f0b:=hA.free (i * 4+1)
    have f1:=hA.free (i * 4+2)
    have f1b:=hA.free (i * 4+3)
    have c0 : ∃ u,wi.cell? ⟨g,i * 4,none⟩=some u:=Option.isSome_iff_exists.1 (hA.cells_past (by omega))
    obtain ⟨u0,c0⟩:=c0
    have c1 : ∃ u,wi.cell? ⟨g,i * 4+1,none⟩=some u:=Option.isSome_iff_exists.1 (hA.cells_past (by omega))
    obtain ⟨u1,c1⟩:=c1
    have c2 : ∃ u,wi.cell? ⟨g,i * 4+2,none⟩=some u:=Option.isSome_iff_exists.1 (hA.cells_past (by omega))
    obtain ⟨u2,c2⟩:=c2
    have c3 : ∃ u,wi.cell? ⟨g,i * 4+3,none⟩=some u:=Option.isSome_iff_exists.1 (hA.cells_past (by omega))
    obtain ⟨u3,c3⟩:=c3
    have HA:=Lib.hid hA
    obtain ⟨ny,hny⟩ : ∃ ny,ny=y.l.length:=⟨_,rfl⟩
    obtain ⟨ty,hty⟩ : ∃ ty,ty=y.t.l.length:=⟨_,rfl⟩
    rw [← hny] at p0;rw [← hty] at p2
    have HNY:=Lib.hid hny
    have HTY:=Lib.hid hty
    obtain ⟨v,hv⟩ : ∃ v,(y.d==0)=v:=⟨_,rfl⟩
    have HV:=Lib.hid hv
    clear hA hjl e hny hty hv
    cases v
    ·have hx:Hid (nzC y=true):=Lib.hid (by unfold nzC;rw [HV.out];rfl)
     go_wp2_with (go_at_call 107;refine (sum2_any _ _ _ _ _ _ _ _ _ _ HV).mono ?_;rintro e w2 ⟨rfl,x2⟩;have X2:=((Ext.refl wi).alloc (.cells #[.slice y.A ny y.c, .int .u64 y.t.e, .slice y.t.A ty y.t.c, .int .i64 y.d] 95)).trans x2;have B2:=(Bk.new wi 95 #[.slice y.A ny y.c, .int .u64 y.t.e, .slice y.t.A ty y.t.c, .int .i64 y.d]).ext x2;have b0:=B2.cell 0;have b1:=B2.cell 1;have b2:=B2.cell 2;have b3:=B2.cell 3;have HA2:=Lib.hid (HA.out.ext X2);have g0:=HA2.out.free (i * 4);have g1:=HA2.out.free (i * 4+1);have g2:=HA2.out.free (i * 4+2);have g3:=HA2.out.free (i * 4+3);have d0:=X2.cell c0;have d1:=X2.cell c1;have d2:=X2.cell c2;have d3:=X2.cell c3)
     go_roundg (n - (j+1))
     case measure=>omega
     case rel=>exact ⟨i+1,j+1,K++[y],X++[y],R,rfl,by omega,by omega,by go_num,by go_num,Lib.hid ⟨by rw [List.length_append,List.length_singleton, ← HI.out.1],by have:=HI.out.2;rw [List.length_cons] at this;omega⟩,Lib.hid ((DelIn.mk' HJ.out X2).keep hx.out HI.out.1 HNY.out HTY.out)⟩
    ·have hx:Hid (nzC y=false):=Lib.hid (by unfold nzC;rw [HV.out];rfl)
     go_wp2_with (go_at_call 107;refine (sum2_any _ _ _ _ _ _ _ _ _ _ HV).mono ?_;rintro e w2 ⟨rfl,x2⟩;have X2:=((Ext.refl wi).alloc (.cells #[.slice y.A ny y.c, .int .u64 y.t.e, .slice y.t.A ty y.t.c, .int .i64 y.d] 95)).trans x2)
     go_roundg (n - (j+1))
     case measure=>omega
     case rel=>exact ⟨i,j+1,K,x0 :: X++[y],R,rfl,by omega,by omega,rfl,by go_num,Lib.hid ⟨HI.out.1,by have:=HI.out.2;rw [List.length_cons] at this;omega⟩,Lib.hid (HJ.out.skip hx.out X2)⟩
   ·obtain rfl:j=n:=by omega
    have hR:R=[]:=List.eq_nil_of_length_eq_zero (by have:=HI.out.2;omega)
    subst hR
    have hA:=HJ.out.2.2.1
    have hin:i<j:=by have h1:=HJ.out.1;have h2:=HI.out.1;have h3:=HJ.out.2.2.2.2;omega
    have hcap:j - i≤c - i:=by omega
    have hci : ¬ (c=i):=by omega
    have hcl : ∃ vs, ∀ ty,(Builtin.clear_ #[22] ty #[.slice (some ⟨g,i * 4,none⟩) (j - i) (c - i)]).run Tryz.prog wi = .ok (.tuple #[]) (wi.setCells g (i * 4) vs) :=
     ⟨_,fun ty=>(run_clear4 (P:=Tryz.prog) wi 22 95 ty (.slice none 0 0) (.int .u64 0) (.slice none 0 0) (.int .i64 0) Tryz.underlying22 zero_ud (by intro v hv;simp at hv;rcases hv with rfl | rfl | rfl | rfl<;>rfl) rfl g (i * 4) (j - i) (c - i) (by omega) (fun t ht=>hA.cells_past (by omega)) (fun t ht=>hA.free _))⟩
    obtain ⟨vs,hcl⟩:=hcl
    have HA:=Lib.hid hA
    have HF:Hid (M.filter nzC=K):=Lib.hid (by have:=HJ.out.2.1;rwa [List.filter_nil,List.append_nil] at this)
    have HG:=Lib.hid HJ.out.2.2.2.1
    have HK:=Lib.hid HI.out.1
    clear hA HJ HI
    go_wp2
    go_ret
    refine ⟨i,rfl,by rw [HF.out];exact HK.out,?_,HG.out.trans (upd_sets g vs wi _)⟩
    rw [HF.out]
    have hp:=HA.out.prefix_
    exact ⟨own_sets_past vs wi _ hp.1 (by rw [udsC_len,HK.out];exact Nat.le_refl _),hp.2⟩
end Go.Proofs.YtdgbkpoickbidaaGreatDoor.UdS
namespace Go.Proofs.YtdgbkpoickbidaaGreatDoor
open Go.RowKit

namespace UdS
theorem map_snoc {α β:Type} {f:α→β} {O:List α} {M:List β} {y:β} (h:O.map f=M++[y]) : ∃ K z,O=K++[z]∧K.map f=M∧f z=y:=by
 obtain ⟨K,R,e,e1,e2⟩:=List.map_eq_append_iff.1 h
 cases R with
 | nil=>simp at e2
 | cons z R =>
  cases R with
  | cons z' R=>simp at e2
  | nil=>exact ⟨K,z,e,e1,by simpa using e2⟩
theorem ustable_map {O S:List Ud} (h:Stable cmpC O S):Stable cmpV (O.map Ud.uv) (S.map Ud.uv):=by
 refine ⟨List.pairwise_map.2 (h.sorted.imp fun q=>q),fun c=>?_⟩
 have e : ∀ K:List Ud,alike cmpV c (K.map Ud.uv)=(alike cmpC ⟨none,0,c.1.1,⟨c.1.2.1,none,0,c.1.2.2⟩,c.2⟩ K).map Ud.uv:=fun K=>by
  unfold alike
  rw [List.filter_map]
  rfl
 rw [e,e,h.same]
/-- the last one that was put down is like the last one that was read -/
theorem dlast {S O:List Ud} {j:Nat} (hs:S.Pairwise fun x y=>cmpC x y≤0) (hin : ∀ x∈S,InN x.uv) (h:O.map Ud.uv=mergeV ((S.take (j+1)).map Ud.uv)) (hj:j<S.length) :
  ∃ M y,O=M++[y] ∧ ∀ x:Ud,kcmp y.k x.k=0↔kcmp (S.getD j Ud.zero).k x.k=0:=by
 have hsub:(S.take (j+1)).Sublist S:=List.take_sublist _ _
 have k:=(merge_sum ((S.take (j+1)).map Ud.uv) (List.pairwise_map.2 ((hs.sublist hsub).imp fun q=>q)) (fun x hx=>by obtain ⟨y,hy,rfl⟩:=List.mem_map.1 hx;exact hin y (hsub.subset hy))).2
 rw [takeU hj] at k h
 rcases k with ⟨k,_⟩ | ⟨S0,s,M0,y,k1,k2,k3⟩
 ·simp at k
 ·rw [k2] at h
  obtain ⟨K,z,e,e1,e2⟩:=map_snoc h
  refine ⟨K,z,e,fun x=>?_⟩
  rw [List.map_append,List.map_singleton] at k1
  have hsz:=(List.append_inj' k1 rfl).2
  have hs2:(S.getD j Ud.zero).uv=s:=by simpa using hsz
  have k4:kcmp z.k (S.getD j Ud.zero).k=0:=by
   have:cmpV z.uv (S.getD j Ud.zero).uv=0:=by rw [e2,hs2];exact k3
   exact this
  exact kcmp_tot.eq_left k4
/-- while S is read: i of it are done -/
structure DSumAt (w w1:World) (S:List Ud) (wr:World) (i:Nat) (A:Option Addr) (c:Nat) (O:List Ud):Prop where
 out:Uout wr w.heap.size A c O
 is:O.map Ud.uv=mergeV ((S.take i).map Ud.uv)
 len:O.length≤i
 ext:Ext w1 wr
 lo:Ext w w1
variable {w w1 wr wz:World} {S O M:List Ud} {i:Nat} {A:Option Addr} {c:Nat} {x y:Ud}
theorem DSumAt.mono (h:DSumAt w w1 S wr i A c O) (q:Ext wr wz):DSumAt w w1 S wz i A c O:=⟨h.out.ext q,h.is,h.len,h.ext.trans q,h.lo⟩
theorem DSumAt.join {g m:Nat} {s:Int} (h:DSumAt w w1 S wr i (some ⟨g,0,none⟩) c (M++[y])) (hi:i<S.length) (hx:S.getD i Ud.zero=x) (hc:kcmp y.k x.k=0) (hm:m=M.length) (hs:w64 (y.d+x.d)=s) (hg:w1.heap.size≤g) :
  DSumAt w w1 S (wr.setCell ⟨g,m * 4+3,none⟩ (.int .i64 s)) (i+1) (some ⟨g,0,none⟩) c (M++[⟨y.A,y.c,y.l,y.t,s⟩]):=by
 subst hm hs
 refine ⟨h.out.bump _,?_,by have:=h.len;simp only [List.length_append,List.length_singleton] at this ⊢;omega,h.ext.set (p:=⟨g,_,none⟩) hg _,h.lo⟩
 rw [takeU hi,hx,List.map_append,List.map_append,List.map_singleton,List.map_singleton,mergeV_snoc, ← h.is,List.map_append,List.map_singleton,mergeStep_snoc,if_pos (show cmpV y.uv x.uv=0 from hc)]
 rfl
theorem dkeep_is (h:O.map Ud.uv=mergeV ((S.take i).map Ud.uv)) (hi:i<S.length) (hx:S.getD i Ud.zero=x) (hc:O=[] ∨ ∃ M y,O=M++[y] ∧ ¬ kcmp y.k x.k=0) {z:Ud} (hz:z.uv=x.uv):(O++[z]).map Ud.uv=mergeV ((S.take (i+1)).map Ud.uv):=by
 rw [takeU hi,hx,List.map_append,List.map_append,List.map_singleton,List.map_singleton,mergeV_snoc, ← h,hz]
 rcases hc with rfl | ⟨M,y,rfl,hc⟩
 ·rfl
 ·rw [List.map_append,List.map_singleton,mergeStep_snoc,if_neg (show ¬ cmpV y.uv x.uv=0 from hc)]
/-- what Sum hands back -/
def DSumRes (w:World) (L:List Ud) (e:Ending) (w':World):Prop := ∃ A m R,e = .returned (.slice A m m)∧m=R.length∧Uout w' w.heap.size A m R∧R.map Ud.uv=sumV (L.map Ud.uv)∧Ext w w'
theorem dsum_val {L S O:List Ud} (hin : ∀ x∈L,InN x.uv) (st:Stable cmpC L S) (h:O.map Ud.uv=mergeV (S.map Ud.uv)):(O.filter nzC).map Ud.uv=sumV (L.map Ud.uv):=by
 have h1:Summed (L.map Ud.uv) (O.map Ud.uv):=by
  rw [h]
  exact Summed.of_stable (ustable_map st) (fun y hy=>by obtain ⟨x,hx,rfl⟩:=List.mem_map.1 hy;exact hin x hx)
 have h2:=Summed.all (L.map Ud.uv) (fun y hy=>by obtain ⟨x,hx,rfl⟩:=List.mem_map.1 hy;exact hin x hx)
 unfold sumV
 rw [← h1.unique h2,List.filter_map]
 rfl
end UdS
open Go.RowKit
set_option maxRecDepth 100000 in
set_option maxHeartbeats 400000 in
theorem clone_ups (A:Option Addr) (n c:Nat) (L:List Ud) (w:World) (hm:Hid (n=L.length)) (h:Hid (Uin w A c L)) (hn:n≤1000000) :
  Calls Tryz.prog 101 #[.slice A n c] w fun e w' => ∃ A' c',e = .returned (.slice A' n c')∧Own w' w.heap.size 95 4 A' n c' (udsC L)∧Ext w w':=by
 have hs:Hid (Sl w 4 A n c (udsC L)):=Lib.hid (by rw [hm.out];exact h.out.sl)
 have hnil:=fun (W:World)=>Lib.run_eql_slice_nil (P:=Tryz.prog) W 22 95 A n c 0 0 Tryz.underlying22
 rcases A with _ | a
 ·obtain rfl:c=0:=hs.out.2.2.2.1 rfl
  have hn0:n=0:=by have:=hs.out.2.1;omega
  subst hn0
  have hx:udsC L=[]:=List.eq_nil_of_length_eq_zero (by simpa using hs.out.1)
  rw [hx]
  go_enter Tryz.func101,Tryz.ntmps101
  go_wp2
  go_ret
  exact ⟨none,0,rfl,Own.nil _ _ _ _,Ext.refl _⟩
 ·go_enter Tryz.func101,Tryz.ntmps101
  go_wp2_with (at_builtin;refine wpList_append_gen _ elem_ud w.heap.size _ _ (by rfl) (by rfl) _ 0 0 [] (by rfl) (Own.empty _ _ _ _ _) (some a) n c (udsC L) (by rfl) (hs.out.ext ((Ext.refl w).alloc _)) (udsC_one L) (by omega) (by omega) (by simp) ?_;intro A' c' w1 ho1 hg1 hk1)
  go_ret
  refine ⟨A',c',by simp,by simpa using ho1,?_⟩
  exact ((Ext.refl w).alloc _).grown hg1 (by simp [blk])
open Go.RowKit
theorem Bk.set4 {w:World} {g:Nat} {t:TypeId} {a b c d:Value} (h:Bk w g t #[a,b,c,d]) (u v x y:Value) :
  ((((w.setCell ⟨g,0,none⟩ u).setCell ⟨g,1,none⟩ v).setCell ⟨g,2,none⟩ x).setCell ⟨g,3,none⟩ y).cell? ⟨g,0,none⟩=some u∧((((w.setCell ⟨g,0,none⟩ u).setCell ⟨g,1,none⟩ v).setCell ⟨g,2,none⟩ x).setCell ⟨g,3,none⟩ y).cell? ⟨g,1,none⟩=some v ∧
   ((((w.setCell ⟨g,0,none⟩ u).setCell ⟨g,1,none⟩ v).setCell ⟨g,2,none⟩ x).setCell ⟨g,3,none⟩ y).cell? ⟨g,2,none⟩=some x∧((((w.setCell ⟨g,0,none⟩ u).setCell ⟨g,1,none⟩ v).setCell ⟨g,2,none⟩ x).setCell ⟨g,3,none⟩ y).cell? ⟨g,3,none⟩=some y:=by
 have bb:=(((h.set 0 u).set 1 v).set 2 x).set 3 y
 exact ⟨bb.cell 0,bb.cell 1,bb.cell 2,bb.cell 3⟩
def UCopyOut (x:Ud) (nx tx:Nat) (w:World) (r:Ending) (w':World):Prop := ∃ (A:Option Addr) (c:Nat) (B:Option Addr) (b:Nat),r = .returned (.agg #[.slice A nx c, .int .u64 x.t.e, .slice B tx b, .int .i64 x.d]) ∧
 Own w' w.heap.size 204 4 A nx c (rowC x.l)∧Own w' w.heap.size 180 1 B tx b (wds x.t.l)∧Ext w w'
set_option maxRecDepth 100000 in
set_option maxHeartbeats 4000000 in
theorem ucopied_any (x:Ud) (nx tx:Nat) (w:World) (hnx:Hid (nx=x.l.length)) (htx:Hid (tx=x.t.l.length)) (hx:Hid (UdR w x)) (h9:nx≤1000000000) (h8:tx≤1000000000) :
  Calls Tryz.prog 104 #[.agg #[.slice x.A nx x.c, .int .u64 x.t.e, .slice x.t.A tx x.t.c, .int .i64 x.d]] w (UCopyOut x nx tx w):=by
 have HT:Hid (Sl w 1 x.t.A tx x.t.c (wds x.t.l)):=Lib.hid (by rw [htx.out];exact hx.out.t)
 go_enter Tryz.func104,Tryz.ntmps104
 go_upto_region 1 with fail
 obtain ⟨w0,hw0⟩ : ∃ w0,w0=(w.alloc (Obj.cells #[.slice x.A nx x.c, .int .u64 x.t.e, .slice x.t.A tx x.t.c, .int .i64 x.d] 95)).alloc (Obj.cells #[.slice none 0 0, .int .u64 0, .slice none 0 0, .int .i64 0] 95):=⟨_,rfl⟩
 have x0:Ext w w0:=hw0 ▸ ((Ext.refl w).alloc _).alloc _
 have a0:Bk w0 w.heap.size 95 #[.slice x.A nx x.c, .int .u64 x.t.e, .slice x.t.A tx x.t.c, .int .i64 x.d]:=by subst hw0;exact (Bk.new _ _ _).alloc _
 have b0:Bk w0 (w.heap.size+1) 95 #[.slice none 0 0, .int .u64 0, .slice none 0 0, .int .i64 0]:=by subst hw0;exact Bk.at (by simp)
 have hs0:w0.heap.size=w.heap.size+2:=by rw [hw0];simp
 rw [← hw0]
 clear hw0
 have X:Ext w0 w0.drew:=(Ext.refl w0).drew
 have q0 : ∀ y:Xt w0.drew,y.W.cell? ⟨w.heap.size,0,none⟩=some (.slice x.A nx x.c):=fun y=>(a0.ext (X.trans y.x)).cell 0
 have q2 : ∀ y:Xt w0.drew,y.W.cell? ⟨w.heap.size,2,none⟩=some (.slice x.t.A tx x.t.c):=fun y=>(a0.ext (X.trans y.x)).cell 2
 have HR:=Lib.hid (hx.out.r.ext (x0.trans X))
 refine wp_region_ord [0,1,3,0,8,24,63,63,255,511,1023,2047] (.flo [0,1,3,4,5] (.ext 2 (.pur [7] (.one 6 (.one 8 (.flo [9,10] (.one 11 (.fin)))))))) (by kernel_rfl) (by kernel_rfl) (by intro _ _ d _ _ h;cases d<;>exact h) ?_
 (refine ord_flo (pick_cons rfl (pick_cons rfl (pick_cons rfl (pick_cons rfl (pick_cons rfl pick_nil))))) ?_;(repeat (go_big_quiet_step (fail)));refine wpQuiet_nil ?_;show ordWalk _ _ _ _ _ _ _)
 refine ord_ext (pick_cons rfl pick_nil) ?_;intro K_ hK_
 go_wp2_with (go_at_call 183;refine (clone_lit x.A x.c nx x.l _ hnx HR h9).mono ?_;rintro e w1 ⟨⟨A1,c1,rfl,o1,b1⟩,x1⟩)
 refine ordNext.mk x1 ?_
 (refine ord_pur (pick_cons rfl pick_nil) ?_;(repeat (go_big_quiet_step (fail)));refine wpQuiet_nil ?_;show ordWalk _ _ _ _ _ _ _)
 refine ord_one (pick_cons rfl pick_nil) ?_;intro K_ hK_
 have hs1:=(X.trans x1).size
 go_wp2_with (go_at_call 184;refine (clone_words x.t.A tx x.t.c _ _ (HT.out.ext ((x0.trans X).trans x1)) (wds_one _) (by omega)).mono ?_;rintro e w2 ⟨A2,c2,rfl,o2,x2⟩)
 have XE:Ext w0 w2:=(X.trans x1).trans x2
 have O1:Hid (Own w2 w0.heap.size 204 4 A1 nx c1 (rowC x.l)):=Lib.hid ((Own.ext o1 x2).mono X.size)
 have O2:Hid (Own w2 w0.heap.size 180 1 A2 tx c2 (wds x.t.l)):=Lib.hid (Own.mono o2 hs1)
 have a2:=a0.ext XE
 have b2:=b0.ext XE
 have p0:=a2.cell 0
 have f0:=a2.free 0
 have hs2:=XE.size
 clear o1 o2 b1 q0 q2
 refine ord_one (pick_cons rfl pick_nil) ?_;intro K_ hK_
 go_wp2
 obtain ⟨w3,hw3⟩ : ∃ w3,w3=w2.setCell ⟨w.heap.size,0,none⟩ (.slice A1 nx c1):=⟨_,rfl⟩
 have a3:Bk w3 w.heap.size 95 #[.slice A1 nx c1, .int .u64 x.t.e, .slice x.t.A tx x.t.c, .int .i64 x.d]:=by rw [hw3];exact a2.set 0 _
 have b3:Bk w3 (w.heap.size+1) 95 #[.slice none 0 0, .int .u64 0, .slice none 0 0, .int .i64 0]:=by rw [hw3];exact b2.far (by simp) _
 have O1:Hid (Own w3 w0.heap.size 204 4 A1 nx c1 (rowC x.l)):=Lib.hid (by rw [hw3];exact O1.out.far (O1.out.ne (by show w.heap.size<_;omega)) _)
 have O2:Hid (Own w3 w0.heap.size 180 1 A2 tx c2 (wds x.t.l)):=Lib.hid (by rw [hw3];exact O2.out.far (O2.out.ne (by show w.heap.size<_;omega)) _)
 have X3:Hid (Ext w w3):=Lib.hid (by rw [hw3];exact (x0.trans XE).set (p:=⟨w.heap.size,0,none⟩) (Nat.le_refl _) _)
 rw [← hw3]
 clear hw3 p0 f0
 have p2:=a3.cell 2
 have f2:=a3.free 2
 (refine ord_flo (pick_cons rfl (pick_cons rfl pick_nil)) ?_;(repeat (go_big_quiet_step (fail)));refine wpQuiet_nil ?_;show ordWalk _ _ _ _ _ _ _)
 refine ord_one (pick_cons rfl pick_nil) ?_;intro K_ hK_
 go_wp2
 obtain ⟨w4,hw4⟩ : ∃ w4,w4=w3.setCell ⟨w.heap.size,2,none⟩ (.slice A2 tx c2):=⟨_,rfl⟩
 have a4:Bk w4 w.heap.size 95 #[.slice A1 nx c1, .int .u64 x.t.e, .slice A2 tx c2, .int .i64 x.d]:=by rw [hw4];exact a3.set 2 _
 have b4:Bk w4 (w.heap.size+1) 95 #[.slice none 0 0, .int .u64 0, .slice none 0 0, .int .i64 0]:=by rw [hw4];exact b3.far (by simp) _
 have O1:Hid (Own w4 w0.heap.size 204 4 A1 nx c1 (rowC x.l)):=Lib.hid (by rw [hw4];exact O1.out.far (O1.out.ne (by show w.heap.size<_;omega)) _)
 have O2:Hid (Own w4 w0.heap.size 180 1 A2 tx c2 (wds x.t.l)):=Lib.hid (by rw [hw4];exact O2.out.far (O2.out.ne (by show w.heap.size<_;omega)) _)
 have X4:Hid (Ext w w4):=Lib.hid (by rw [hw4];exact X3.out.set (p:=⟨w.heap.size,2,none⟩) (Nat.le_refl _) _)
 rw [← hw4]
 clear hw4 p2 f2
 refine ord_fin ?_
 have r0:=a4.cell 0
 have r1:=a4.cell 1
 have r2:=a4.cell 2
 have r3:=a4.cell 3
 have s0:=b4.cell 0
 have s1:=b4.cell 1
 have s2:=b4.cell 2
 have s3:=b4.cell 3
 have g0:=b4.free 0
 have g1:=b4.free 1
 have g2:=b4.free 2
 have g3:=b4.free 3
 have BB:=Lib.hid b4
 clear a0 b0 a2 b2 a3 b3 a4 b4
 go_wp2
 have bb:=BB.out.set4 (.slice A1 nx c1) (.int .u64 x.t.e) (.slice A2 tx c2) (.int .i64 x.d)
 refine bodyPost_ret (v := .agg #[.slice A1 nx c1, .int .u64 x.t.e, .slice A2 tx c2, .int .i64 x.d]) (by simp [results,Tryz.results104,go_sem,bb.1,bb.2.1,bb.2.2.1,bb.2.2.2]) rfl ⟨A1,c1,A2,c2,rfl,?_,?_,?_⟩
 ·exact ((((O1.out.far (O1.out.ne (by show w.heap.size+1<_;omega)) _).far (O1.out.ne (by show w.heap.size+1<_;omega)) _).far (O1.out.ne (by show w.heap.size+1<_;omega)) _).far (O1.out.ne (by show w.heap.size+1<_;omega)) _).mono (by omega)
 ·exact ((((O2.out.far (O2.out.ne (by show w.heap.size+1<_;omega)) _).far (O2.out.ne (by show w.heap.size+1<_;omega)) _).far (O2.out.ne (by show w.heap.size+1<_;omega)) _).far (O2.out.ne (by show w.heap.size+1<_;omega)) _).mono (by omega)
 ·exact (((X4.out.set (p:=⟨w.heap.size+1,0,none⟩) (by simp) _).set (p:=⟨w.heap.size+1,1,none⟩) (by simp) _).set (p:=⟨w.heap.size+1,2,none⟩) (by simp) _).set (p:=⟨w.heap.size+1,3,none⟩) (by simp) _
end Go.Proofs.YtdgbkpoickbidaaGreatDoor
namespace Go.Proofs.YtdgbkpoickbidaaGreatDoor.UdS
open Go.RowKit

theorem getD_here {P Q:List Ud} {x:Ud} {p:Nat} (hp:p=P.length):(P++x :: Q).getD p Ud.zero=x:=by subst hp;exact getD_mid P x Q
theorem Arr.here {w:World} {B g c p:Nat} {P Q:List Ud} {x:Ud} (h:Arr w B g c (P++x :: Q)) (hp:p=P.length) :
  w.cell? ⟨g,p * 4,none⟩=some (.slice x.A x.l.length x.c)∧w.cell? ⟨g,p * 4+1,none⟩=some (.int .u64 x.t.e)∧w.cell? ⟨g,p * 4+2,none⟩=some (.slice x.t.A x.t.l.length x.t.c)∧w.cell? ⟨g,p * 4+3,none⟩=some (.int .i64 x.d):=by
 have:=h.at (i:=p) (by subst hp;simp)
 rwa [getD_here hp] at this
theorem set_two (P M Q:List Ud) (x y:Ud):((P++x :: (M++y :: Q)).set P.length y).set (P.length+1+M.length) x=P++y :: (M++x :: Q):=by
 rw [set_mid]
 have:=set_mid (P++y :: M) y x Q
 simp only [List.append_assoc,List.cons_append,List.length_append,List.length_cons] at this
 rwa [show P.length+1+M.length=P.length+(M.length+1) by omega]
theorem set_two' (P M Q:List Ud) (x y:Ud):((P++x :: (M++y :: Q)).set (P.length+1+M.length) x).set P.length y=P++y :: (M++x :: Q):=by
 have:=set_mid (P++x :: M) y x Q
 simp only [List.append_assoc,List.cons_append,List.length_append,List.length_cons] at this
 rw [show P.length+1+M.length=P.length+(M.length+1) by omega,this,set_mid]
section
variable {w:World} {B g c p q:Nat} {P M Q:List Ud} {x y:Ud}
/-- the first one is written first -/
theorem Arr.swapA (h:Arr w B g c (P++x :: (M++y :: Q))) (hp:p=P.length) (hq:q=P.length+1+M.length) {nx ny tx ty:Nat} (hx:nx=x.l.length) (hy:ny=y.l.length) (hx2:tx=x.t.l.length) (hy2:ty=y.t.l.length) :
  Arr (put4 (put4 w g p y ny ty) g q x nx tx) B g c (P++y :: (M++x :: Q)):=by
 subst hp hq hx hy hx2 hy2
 have h1:=(h.set P.length y).set (P.length+1+M.length) x
 rwa [set_two] at h1
/-- the second one is written first -/
theorem Arr.swapB (h:Arr w B g c (P++x :: (M++y :: Q))) (hp:p=P.length) (hq:q=P.length+1+M.length) {nx ny tx ty:Nat} (hx:nx=x.l.length) (hy:ny=y.l.length) (hx2:tx=x.t.l.length) (hy2:ty=y.t.l.length) :
  Arr (put4 (put4 w g q x nx tx) g p y ny ty) B g c (P++y :: (M++x :: Q)):=by
 subst hp hq hx hy hx2 hy2
 have h1:=(h.set (P.length+1+M.length) x).set P.length y
 rwa [set_two'] at h1
end
theorem cons_of {α:Type} {l:List α} (h:0<l.length) : ∃ x t,l=x :: t:=by
 cases l with
 | nil=>exact absurd h (Nat.lt_irrefl 0)
 | cons x t=>exact ⟨x,t,rfl⟩
open Go.RowKit
/-- the loop's relation -/
def SwIn (B g c:Nat) (P X M Y Q:List Ud) (w wi:World) (i:Nat) (X1 X2 Y1 Y2:List Ud):Prop :=
 X=X1++X2∧Y=Y1++Y2∧X1.length=i∧Y1.length=i∧Arr wi B g c (P++(Y1++(X2++(M++(X1++(Y2++Q))))))∧w.grownBy wi (some g)
theorem SwIn.form {B g c:Nat} {P X M Y Q:List Ud} {w wi:World} {i:Nat} {X1 X2 Y1 Y2:List Ud} {x y:Ud} (h:SwIn B g c P X M Y Q w wi i X1 (x :: X2) Y1 (y :: Y2)) :
  Arr wi B g c ((P++Y1)++x :: ((X2++(M++X1))++y :: (Y2++Q))):=by
 have:=h.2.2.2.2.1
 have e:P++(Y1++(x :: X2++(M++(X1++(y :: Y2++Q)))))=(P++Y1)++x :: ((X2++(M++X1))++y :: (Y2++Q)):=by simp
 rwa [e] at this
theorem SwIn.ext {B g c:Nat} {P X M Y Q:List Ud} {w wi wz:World} {i:Nat} {X1 X2 Y1 Y2:List Ud} (h:SwIn B g c P X M Y Q w wi i X1 X2 Y1 Y2) (z:Ext wi wz):SwIn B g c P X M Y Q w wz i X1 X2 Y1 Y2 :=
 ⟨h.1,h.2.1,h.2.2.1,h.2.2.2.1,h.2.2.2.2.1.ext z,h.2.2.2.2.2.trans (upd_ext z g)⟩
theorem SwIn.step {B g c a b p q:Nat} {P X M Y Q:List Ud} {w wi:World} {i:Nat} {X1 X2 Y1 Y2:List Ud} {x y:Ud} (h:SwIn B g c P X M Y Q w wi i X1 (x :: X2) Y1 (y :: Y2)) (ha:a=P.length) (hb:b=P.length+X.length+M.length) (hp:p=a+i) (hq:q=b+i) {nx ny tx ty:Nat} (hx:nx=x.l.length) (hy:ny=y.l.length) (hx2:tx=x.t.l.length) (hy2:ty=y.t.l.length) {wj:World} (hz:Ext wi wj) :
  SwIn B g c P X M Y Q w (put4 (put4 wj g p y ny ty) g q x nx tx) (i+1) (X1++[x]) X2 (Y1++[y]) Y2:=by
 have hf:=h.form.ext hz
 obtain ⟨h1,h2,h3,h4,h5,h6⟩:=h
 have h7:=hf.swapA (p:=p) (q:=q) (by rw [List.length_append];omega) (by
  have:=congrArg List.length h1
  simp only [List.length_append,List.length_cons] at this ⊢
  omega) hx hy hx2 hy2
 refine ⟨by rw [h1];simp,by rw [h2];simp,by rw [List.length_append,List.length_singleton];omega,by rw [List.length_append,List.length_singleton];omega,?_,(h6.trans (upd_ext hz g)).trans upd_swap⟩
 have e:P++(Y1++[y]++(X2++(M++(X1++[x]++(Y2++Q)))))=(P++Y1)++y :: ((X2++(M++X1))++x :: (Y2++Q)):=by simp
 rw [e]
 exact h7
set_option maxRecDepth 100000 in
set_option maxHeartbeats 4000000 in
theorem swapR_any (B g c n a b k:Nat) (P X M Y Q:List Ud) (w:World) (ha:a=P.length) (hb:b=P.length+X.length+M.length) (hx:k=X.length) (hy:k=Y.length) (hn:n=(P++(X++(M++(Y++Q)))).length) (h:Arr w B g c (P++(X++(M++(Y++Q))))) :
  Calls Tryz.prog 283 #[.slice (some ⟨g,0,none⟩) n c, .int .i64 a, .int .i64 b, .int .i64 k, .func (.func 103) #[] #[]] w fun e w'=>e = .returned (.tuple #[])∧Arr w' B g c (P++(Y++(M++(X++Q))))∧w.grownBy w' (some g):=by
 have hnm:=h.le
 rw [← hn] at hnm
 have hbk:b+k≤n:=by rw [hb,hn];simp only [List.length_append];omega
 have hak:a+k≤b:=by omega
 have HA:=Lib.hid ha
 have HB:=Lib.hid hb
 have HX:=Lib.hid hx
 have HY:=Lib.hid hy
 have HI:Hid (SwIn B g c P X M Y Q w w 0 [] X [] Y):=Lib.hid ⟨rfl,rfl,rfl,rfl,h,World.grownBy.refl w _⟩
 clear ha hb hx hy hn h
 go_enter Tryz.func283,Tryz.ntmps283
 go_wp2
 go_loopg [10] k (fun z v wr => ∃ (i:Nat) (X1 X2 Y1 Y2:List Ud),z=k - i∧i≤k∧v = .int .i64 i∧Hid (SwIn B g c P X M Y Q w wr i X1 X2 Y1 Y2))
 case atStart=>exact ⟨0,[],X,[],Y,rfl,Nat.zero_le _,rfl,HI⟩
 case round =>
  obtain ⟨i,X1,X2,Y1,Y2,rfl,hi,rfl,HJ⟩:=hrel
  clear HI
  by_cases hlt:i<k
  ·obtain ⟨x,X2,rfl⟩:=cons_of (l:=X2) (by
    obtain ⟨q1,q2,q3,q4,_⟩:=HJ.out
    have:=HX.out
    rw [q1,List.length_append] at this
    omega)
   obtain ⟨y,Y2,rfl⟩:=cons_of (l:=Y2) (by
    obtain ⟨q1,q2,q3,q4,_⟩:=HJ.out
    have:=HY.out
    rw [q2,List.length_append] at this
    omega)
   have hf:=HJ.out.form
   obtain ⟨px0,px1,px2,px3⟩:=hf.here (p:=a+i) (by rw [List.length_append];have:=HA.out;have:=HJ.out.2.2.2.1;omega)
   have hf2:Arr wr B g c ((P++(Y1++(x :: X2++(M++X1))))++y :: (Y2++Q)):=by
    have e:(P++Y1)++x :: ((X2++(M++X1))++y :: (Y2++Q))=(P++(Y1++(x :: X2++(M++X1))))++y :: (Y2++Q):=by simp
    rwa [e] at hf
   obtain ⟨py0,py1,py2,py3⟩:=hf2.here (p:=b+i) (by
    obtain ⟨q1,q2,q3,q4,_⟩:=HJ.out
    have e1:=congrArg List.length q1
    have e2:=HB.out
    simp only [List.length_append,List.length_cons] at e1 ⊢
    omega)
   have f0:=hf.free ((a+i) * 4)
   have f0b:=hf.free ((a+i) * 4+1)
   have f1:=hf.free ((a+i) * 4+2)
   have f1b:=hf.free ((a+i) * 4+3)
   have f2:=hf.free ((b+i) * 4)
   have f2b:=hf.free ((b+i) * 4+1)
   have f3:=hf.free ((b+i) * 4+2)
   have f3b:=hf.free ((b+i) * 4+3)
   obtain ⟨nx,hnx⟩ : ∃ nx,nx=x.l.length:=⟨_,rfl⟩
   obtain ⟨tx,htx⟩ : ∃ tx,tx=x.t.l.length:=⟨_,rfl⟩
   obtain ⟨ny,hny⟩ : ∃ ny,ny=y.l.length:=⟨_,rfl⟩
   obtain ⟨ty,hty⟩ : ∃ ty,ty=y.t.l.length:=⟨_,rfl⟩
   rw [← hnx] at px0;rw [← htx] at px2
   rw [← hny] at py0;rw [← hty] at py2
   have HNX:=Lib.hid hnx
   have HTX:=Lib.hid htx
   have HNY:=Lib.hid hny
   have HTY:=Lib.hid hty
   have XE:Ext wr wr.drew:=(Ext.refl wr).drew
   have PY0 : ∀ z:Xt wr.drew,z.W.cell? ⟨g,(b+i) * 4,none⟩=some (.slice y.A ny y.c):=fun z=>(XE.trans z.x).cell py0
   have PY1 : ∀ z:Xt wr.drew,z.W.cell? ⟨g,(b+i) * 4+1,none⟩=some (.int .u64 y.t.e):=fun z=>(XE.trans z.x).cell py1
   have PY2 : ∀ z:Xt wr.drew,z.W.cell? ⟨g,(b+i) * 4+2,none⟩=some (.slice y.t.A ty y.t.c):=fun z=>(XE.trans z.x).cell py2
   have PY3 : ∀ z:Xt wr.drew,z.W.cell? ⟨g,(b+i) * 4+3,none⟩=some (.int .i64 y.d):=fun z=>(XE.trans z.x).cell py3
   have PX0 : ∀ z:Xt wr.drew,z.W.cell? ⟨g,(a+i) * 4,none⟩=some (.slice x.A nx x.c):=fun z=>(XE.trans z.x).cell px0
   have PX1 : ∀ z:Xt wr.drew,z.W.cell? ⟨g,(a+i) * 4+1,none⟩=some (.int .u64 x.t.e):=fun z=>(XE.trans z.x).cell px1
   have PX2 : ∀ z:Xt wr.drew,z.W.cell? ⟨g,(a+i) * 4+2,none⟩=some (.slice x.t.A tx x.t.c):=fun z=>(XE.trans z.x).cell px2
   have PX3 : ∀ z:Xt wr.drew,z.W.cell? ⟨g,(a+i) * 4+3,none⟩=some (.int .i64 x.d):=fun z=>(XE.trans z.x).cell px3
   clear hf hf2 hnx hny htx hty
   go_upto_region 3 with fail
   refine wp_region_ord [0,0,0,6,0,0,0,96,0,0,0,1536,3840,7936,0,0,0,98304,245760,507904,1048335,2096911,4194303,8388607] (.flo [0,1,2,3,8,9,10,11,12,13,14,15,16,17,18,19,20] (.pur [4,5,6,7] (.one 21 (.flo [22] (.one 23 (.fin)))))) (by kernel_rfl) (by kernel_rfl) (by intro _ _ d _ _ h;cases d<;>exact h) ?_
   (refine ord_flo (pick_cons rfl (pick_cons rfl (pick_cons rfl (pick_cons rfl (pick_cons rfl (pick_cons rfl (pick_cons rfl (pick_cons rfl (pick_cons rfl (pick_cons rfl (pick_cons rfl (pick_cons rfl (pick_cons rfl (pick_cons rfl (pick_cons rfl (pick_cons rfl (pick_cons rfl pick_nil))))))))))))))))) ?_;(repeat (go_big_quiet_step (fail)));refine wpQuiet_nil ?_;show ordWalk _ _ _ _ _ _ _)
   (refine ord_pur (pick_cons rfl (pick_cons rfl (pick_cons rfl (pick_cons rfl pick_nil)))) ?_;(repeat (go_big_quiet_step (fail)));refine wpQuiet_nil ?_;show ordWalk _ _ _ _ _ _ _)
   refine ord_one (pick_cons rfl pick_nil) ?_;intro K_ hK_
   go_wp2
   (refine ord_flo (pick_cons rfl pick_nil) ?_;(repeat (go_big_quiet_step (fail)));refine wpQuiet_nil ?_;show ordWalk _ _ _ _ _ _ _)
   refine ord_one (pick_cons rfl pick_nil) ?_;intro K_ hK_
   go_wp2
   refine ord_fin ?_
   go_wp2
   go_roundg (k - (i+1))
   case measure=>omega
   case rel=>exact ⟨i+1,X1++[x],X2,Y1++[y],Y2,rfl,by omega,by go_num,Lib.hid ((HJ.out.step HA.out HB.out rfl rfl HNX.out HNY.out HTX.out HTY.out (Ext.refl _)).ext (Ext.refl _).drew)⟩
  ·have hik:i=k:=by omega
   obtain ⟨q1,q2,q3,q4,q5,q6⟩:=HJ.out
   have e1:X2=[]:=List.eq_nil_of_length_eq_zero (by have:=HX.out;rw [q1,List.length_append] at this;omega)
   have e2:Y2=[]:=List.eq_nil_of_length_eq_zero (by have:=HY.out;rw [q2,List.length_append] at this;omega)
   subst e1 e2
   have HQ5:Hid (Arr wr B g c (P++(Y++(M++(X++Q))))):=Lib.hid (by
    rw [List.append_nil] at q1 q2
    rw [q1,q2]
    simpa using q5)
   have HQ6:=Lib.hid q6
   clear q1 q2 q3 q4 q5 q6
   go_wp2
   go_end0
   exact ⟨rfl,HQ5.out,HQ6.out⟩
end Go.Proofs.YtdgbkpoickbidaaGreatDoor.UdS
