/- What spines tell of all that was inserted. A spine's Work at any fuel. A trace and its handles in memory; what it is worth. What comes in at chapter 11: lists of calls, of a bulk that is bounded. Two spines and a list of updates in memory, each with blocks of its own. Counts of times: their frontier, and how it moves. Plain. Lists of changes in memory. A spine's Row: a row's changes. What was inserted in several pieces is what is inserted in one: the plain side, and what lies in memory meanwhile. share.at, least, most, compact. A trace's calls: compact, New, Insert, Work, Since, Upper, Allow, At, Holds. Conditions: each theorem states its own. -/
import Derived.Test.YtdgbkpoickbidaaGreatDoorHr12
import Derived.Test.YtdgbkpoickbidaaGreatDoorHr8
import Derived.Test.YtdgbkpoickbidaaGreatDoorHr2
import Derived.Test.YtdgbkpoickbidaaGreatDoorHr7
import Derived.Test.YtdgbkpoickbidaaGreatDoorHr1
import Derived.Deep.LoopGhost
import Derived.StillTailTactics
import Derived.Test.YtdgbkpoickbidaaGreatDoorHr3
namespace Go.Proofs.YtdgbkpoickbidaaGreatDoor
open Go.RowKit

/-! ### Work makes nothing longer, and pays for all -/
def sizeV (s:SV):Nat:=s.bs.flatten.length+s.bs.length
theorem end_len {s:SV} {i l:Nat} (h:OkV s) (hu:s.un=some (i,l)) (k:Nat):sizeV (endV { s with un:=some (i,k) })≤sizeV s∧(endV { s with un:=some (i,k) }).bs.length<s.bs.length:=by
 have hi:=(h.un i l hu).1
 have hlen:(bothV s i).length≤(s.bs.getD i []).length+(s.bs.getD (i+1) []).length:=by
  unfold bothV
  refine Nat.le_trans (usumV_len _) ?_
  rw [List.length_map,List.length_append]
  exact Nat.le_refl _
 have e:=congrArg List.flatten (split2V hi)
 have e2:=congrArg List.length e
 have e3:=congrArg List.length (split2V hi)
 simp only [List.flatten_append,List.flatten_cons,List.length_append,List.length_cons] at e2 e3
 have hb:(endV { s with un:=some (i,k) }).bs=s.bs.take i++(if bothV s i=[] then [] else [bothV s i])++s.bs.drop (i+2):=rfl
 unfold sizeV
 rw [hb]
 split
 ·simp only [List.flatten_append,List.length_append,List.flatten_nil,List.length_nil]
  omega
 ·simp only [List.flatten_append,List.length_append,List.flatten_singleton,List.length_singleton]
  omega
theorem pay_len {s s2:SV} {n n2:Nat} (h:OkV s) {i l:Nat} (hu:s.un=some (i,l)) (hp:payEnd s n=(s2,n2)):sizeV s2≤sizeV s∧(l≤n→s2.bs.length<s.bs.length∧n2=n - l):=by
 unfold payEnd at hp
 rw [hu] at hp
 simp only at hp
 injection hp with h1 h2
 rw [← h1]
 split
 ·exact ⟨(end_len h hu _).1,fun hl=>⟨(end_len h hu _).2,by omega⟩⟩
 ·exact ⟨Nat.le_refl _,fun hl=>by omega⟩
theorem work_len {s t:SV} {n r:Nat} (w:WorkR s n t r):OkV s→sizeV t≤sizeV s:=by
 induction w with
 | done s=>exact fun _=>Nat.le_refl _
 | @stop s s1 n hn hb =>
  intro _
  obtain ⟨e1,_,_⟩:=begin_same hb
  unfold sizeV
  rw [e1]
  exact Nat.le_refl _
 | @step s s1 s2 t n n2 r hn hb hp k ih =>
  intro h
  obtain ⟨e1,_,_⟩:=begin_same hb
  have h1:OkV s1:=by have q:=okV_begin h;rw [hb] at q;exact q
  obtain ⟨i,l,hu⟩:=begin_un hb
  obtain ⟨a,_⟩:=pay_stay h1 hu hn hp
  have q:=(pay_len h1 hu hp).1
  have c:=ih a.ok
  have e:sizeV s1=sizeV s:=by unfold sizeV;rw [e1]
  omega
/-! ### one spine -/
structure Tells (s:SV) (all:List UV) (B:Nat):Prop where
 ok:OkV s
 good : ∀ u∈all,GoodU u
 say:s.S=[]∨UdS.Same (sayV s) (all.map (advK s.S))
 nb:sizeV s≤B
theorem tells_new:Tells newV [] 0:=⟨okV_new,fun u hu=>(nomatch hu), .inr (UdS.Same.refl _),Nat.le_refl _⟩
theorem Tells.up {s:SV} {all:List UV} {B C:Nat} (h:Tells s all B) (k:B≤C):Tells s all C:=⟨h.ok,h.good,h.say,Nat.le_trans h.nb k⟩
theorem ins_cases (s:SV) (l:List UV) (X:List TV):((insV s l X).2=s∧(insV s l X).1≠0)∨(flatV X=true∧l.any formV=false∧l.any (earlyV s.U X)=false∧leqV s.U X=true∧insV s l X=(0,{ s with bs:=if UdS.sumV l=[] then s.bs else s.bs++[UdS.sumV l],U:=ofV X })):=by
 cases h1:flatV X with
 | false=>rw [insV_1 h1];exact .inl ⟨rfl,by intro q;revert q;exact (by decide : ¬ ((110:Int)=0))⟩
 | true =>
  cases h2:l.any formV with
  | true=>rw [insV_2 h1 h2];exact .inl ⟨rfl,by intro q;revert q;exact (by decide : ¬ ((110:Int)=0))⟩
  | false =>
   cases h3:l.any (earlyV s.U X) with
   | true=>rw [insV_3 h1 h2 h3];exact .inl ⟨rfl,by intro q;revert q;exact (by decide : ¬ ((111:Int)=0))⟩
   | false =>
    cases h4:leqV s.U X with
    | false=>rw [insV_4 h1 h2 h3 h4];exact .inl ⟨rfl,by intro q;revert q;exact (by decide : ¬ ((110:Int)=0))⟩
    | true=>exact .inr ⟨rfl,rfl,rfl,rfl,insV_5 h1 h2 h3 h4⟩
theorem form_good {l:List UV} (h2:l.any formV=false) (hl : ∀ u∈l,InUV u) : ∀ u∈l,GoodU u:=fun u hu=>by
 have q:formV u=false:=by
  have:=List.any_eq_false.1 h2 u hu
  simpa using this
 unfold formV at q
 rw [Bool.or_eq_false_iff] at q
 exact ⟨hl u hu,List.eq_nil_of_length_eq_zero (by have:=of_decide_eq_false q.1;omega),by simpa using q.2⟩
theorem tells_ins {s:SV} {all l:List UV} {X:List TV} {B:Nat} (h:Tells s all B) (hl : ∀ u∈l,InUV u) (hX : ∀ t∈X,0≤t.1∧t.1≤18446744073709551615) (hB:B+l.length+1≤1000000) :
  ((insV s l X).2=s∧(insV s l X).1≠0)∨((insV s l X).1=0∧Tells (insV s l X).2 (all++l) (B+l.length+1)):=by
 have hk:=okV_ins h.ok hl hX (by have:=h.nb;unfold sizeV at this;omega)
 rcases ins_cases s l X with q | ⟨h1,h2,h3,h4,e⟩
 ·exact .inl q
 ·refine .inr ⟨by rw [e],?_⟩
  have hg:=form_good h2 hl
  rw [e] at hk ⊢
  refine ⟨hk,fun u hu=>(List.mem_append.1 hu).elim (h.good u) (hg u),?_,?_⟩
  ·rcases h.say with q | q
   ·exact .inl q
   ·refine .inr ?_
    have e2:sayV { s with bs:=if UdS.sumV l=[] then s.bs else s.bs++[UdS.sumV l],U:=ofV X }=sayV s++(UdS.sumV l).map (advK s.S):=by
     show (if UdS.sumV l=[] then s.bs else s.bs++[UdS.sumV l]).flatten.map (advK s.S)=s.bs.flatten.map (advK s.S)++(UdS.sumV l).map (advK s.S)
     split
     ·rename_i h5
      rw [h5]
      simp
     ·rw [List.flatten_append,List.map_append,List.flatten_singleton]
    show UdS.Same _ ((all++l).map (advK s.S))
    rw [e2,List.map_append]
    exact q.append ((UdS.Same.sum (fun u hu=>(hg u hu).1.num) (good_canon hg)).map (advF s.S))
  ·show (if UdS.sumV l=[] then s.bs else s.bs++[UdS.sumV l]).flatten.length+(if UdS.sumV l=[] then s.bs else s.bs++[UdS.sumV l]).length≤_
   have h5:=h.nb
   have h6:=usumV_len l
   unfold sizeV at h5
   split
   ·omega
   ·simp only [List.flatten_append,List.length_append,List.flatten_singleton,List.length_singleton]
    omega
theorem compact_cases (s:SV) (X:List TV):((compactV s X).2=s∧(compactV s X).1≠0)∨(flatV X=true∧leqV s.S X=true∧compactV s X=(0,{ s with S:=X })):=by
 unfold compactV
 cases h1:flatV X with
 | false=>exact .inl ⟨rfl,by intro q;revert q;exact (by decide : ¬ ((110:Int)=0))⟩
 | true =>
  cases h2:leqV s.S X with
  | false=>exact .inl ⟨rfl,by intro q;revert q;exact (by decide : ¬ ((111:Int)=0))⟩
  | true=>exact .inr ⟨rfl,rfl,by rw [of_flat h1];rfl⟩
theorem adv_step {S X:List TV} (hf:flatV S=true) (hx:flatV X=true) (hl:leqV S X=true) (h0:X≠[]) {u:UV} (h:u.1.2.2=[]):advK X (advK S u)=advK X u:=by
 obtain ⟨⟨l,e,c⟩,d⟩:=u
 simp only at h
 subst h
 rcases flat_form hx with rfl | ⟨x,rfl⟩
 ·exact absurd rfl h0
 ·rcases flat_form hf with rfl | ⟨t,rfl⟩
  ·rfl
  ·have h1:t≤x:=by
    obtain ⟨y,hy,q⟩:=beyond_iff.1 (leqV_iff.1 hl (x,[]) (List.mem_singleton.2 rfl))
    rw [List.mem_singleton.1 hy] at q
    exact ((leq_iff _ _ _ _).1 q).2.1
   unfold advK
   simp only [adv_one]
   congr 3
   omega
theorem tells_compact {s:SV} {all:List UV} {X:List TV} {B:Nat} (h:Tells s all B) (hX : ∀ t∈X,0≤t.1∧t.1≤18446744073709551615):Tells (compactV s X).2 all B:=by
 have hk:=okV_compact h.ok hX
 rcases compact_cases s X with q | ⟨h1,h2,e⟩
 ·rw [q.1];exact h
 ·rw [e] at hk ⊢
  refine ⟨hk,h.good,?_,h.nb⟩
  by_cases h0:X=[]
  ·exact .inl h0
  ·refine .inr ?_
   have hS:s.S≠[]:=fun q=>by
    rw [q] at h2
    cases X with
    | nil=>exact h0 rfl
    | cons t X=>exact absurd (leqV_iff.1 h2 t (List.mem_cons_self ..)) (by simp [beyondV])
   rcases h.say with q | q
   ·exact absurd q hS
   ·have k:=q.map (advF X)
    have e1 : ∀ D:List UV,(∀ u∈D,GoodU u)→(D.map (advK s.S)).map (fun x=>(advF X x.1,x.2))=D.map (advK X):=fun D hD=>by
     rw [← advK_eq,List.map_map]
     exact List.map_congr_left fun u hu=>adv_step h.ok.fs h1 h2 h0 (hD u hu).2.1
    have k2:UdS.Same ((s.bs.flatten.map (advK s.S)).map fun x=>(advF X x.1,x.2)) ((all.map (advK s.S)).map fun x=>(advF X x.1,x.2)):=k
    rw [e1 _ h.ok.ins,e1 _ h.good] at k2
    exact k2
theorem tells_work {s t:SV} {n r:Nat} {all:List UV} {B:Nat} (w:WorkR s n t r) (h:Tells s all B):Tells t all B:=by
 have k:=work_stay w h.ok
 refine ⟨k.ok,h.good,?_,Nat.le_trans (work_len w h.ok) h.nb⟩
 rw [k.S]
 rcases h.say with q | q
 ·exact .inl q
 ·exact .inr (k.say.trans q)
/-! ### bags -/
theorem atV_adv {S:List TV} {t:TV} (hb:beyondV S t=true) : ∀ D:List UV,(∀ u∈D,u.1.2.2.length=t.2.length)→atV (D.map (advK S)) t=atV D t
 | [],_=>rfl
 | u :: D,h=>by
  have e:=adv_law hb (h u (List.mem_cons_self ..))
  have ih:=atV_adv hb D fun v hv=>h v (List.mem_cons_of_mem _ hv)
  unfold atV at ih ⊢
  rw [List.map_cons,List.filter_cons,List.filter_cons]
  have e2:tleq (advK S u).1.2 t=tleq u.1.2 t:=e.symm
  rw [e2]
  cases tleq u.1.2 t with
  | true=>exact congrArg (List.cons (u.1.1,u.2)) ih
  | false=>exact ih
theorem rcnt_tot (c:V) (t:TV) : ∀ D:List UV,(alike cmpV c (atV D t)).foldr (fun x a=>x.2+a) 0=UdS.tot (fun k=>tleq k.2 t&&decide (cmpR c.1 k.1=0)) D
 | []=>rfl
 | u :: D=>by
  have ih:=rcnt_tot c t D
  have ec:cmpV c (u.1.1,u.2)=cmpR c.1 u.1.1:=rfl
  show _=(if (tleq u.1.2 t&&decide (cmpR c.1 u.1.1=0))=true then u.2 else 0)+UdS.tot _ D
  rw [← ih]
  cases h1:tleq u.1.2 t with
  | false =>
   have e:atV (u :: D) t=atV D t:=by unfold atV;rw [List.filter_cons,h1];rfl
   rw [e]
   simp
  | true =>
   have e:atV (u :: D) t=(u.1.1,u.2) :: atV D t:=by unfold atV;rw [List.filter_cons,h1];rfl
   rw [e,alike_cons,ec]
   by_cases h2:cmpR c.1 u.1.1=0
   ·rw [if_pos h2]
    simp [h2]
   ·rw [if_neg h2]
    simp [h2]
theorem rsumV_same {D E:List V} (h : ∀ c,cnt (alike cmpV c D)=cnt (alike cmpV c E)) (hc:Canon (D++E)) (hD : ∀ x∈D,InN x) (hE : ∀ x∈E,InN x):sumV D=sumV E:=by
 obtain ⟨h1,h2⟩:=sumV_spec hD
 refine sumV_eq hE h1 fun c=>?_
 rw [h2]
 have hn:=h c
 cases h3:alike cmpV c D with
 | nil =>
  cases h4:alike cmpV c E with
  | nil=>rfl
  | cons y l =>
   rw [h3,h4] at hn
   show []=[(y.1,cnt (y :: l))].filter nzV
   rw [← hn,cnt_nil]
   rfl
 | cons x k =>
  cases h4:alike cmpV c E with
  | nil =>
   rw [h3,h4] at hn
   show [(x.1,cnt (x :: k))].filter nzV=[]
   rw [hn,cnt_nil]
   rfl
  | cons y l =>
   rw [h3,h4] at hn
   show [(x.1,cnt (x :: k))].filter nzV=[(y.1,cnt (y :: l))].filter nzV
   have hx:x∈alike cmpV c D:=by rw [h3];exact List.mem_cons_self ..
   have hy:y∈alike cmpV c E:=by rw [h4];exact List.mem_cons_self ..
   have e:x.1=y.1:=hc x (List.mem_append_left _ (mem_alike hx).1) y (List.mem_append_right _ (mem_alike hy).1) (cmpV_tot.eq_trans (by rw [cmpV_tot.neg,(mem_alike hx).2];rfl) (mem_alike hy).2)
   rw [hn,e]
theorem at_good {D:List UV} (h : ∀ u∈D,GoodU u) (t:TV) : ∀ x∈atV D t, ∃ u∈D,x=(u.1.1,u.2):=fun x hx=>by
 obtain ⟨u,hu,e⟩:=List.mem_map.1 hx
 exact ⟨u,(List.mem_filter.1 hu).1,e.symm⟩
theorem at_same {D E:List UV} (h:UdS.Same D E) (hD : ∀ u∈D,GoodU u) (hE : ∀ u∈E,GoodU u) (t:TV):sumV (atV D t)=sumV (atV E t):=by
 have hm : ∀ x∈atV D t++atV E t, ∃ u,GoodU u∧x=(u.1.1,u.2):=fun x hx=>by
  rcases List.mem_append.1 hx with q | q
  ·obtain ⟨u,hu,e⟩:=at_good hD t x q
   exact ⟨u,hD u hu,e⟩
  ·obtain ⟨u,hu,e⟩:=at_good hE t x q
   exact ⟨u,hE u hu,e⟩
 refine rsumV_same (fun c=>?_) (fun x hx y hy h0=>?_) (fun x hx=>?_) (fun x hx=>?_)
 ·unfold cnt
  rw [rcnt_tot,rcnt_tot]
  exact h _
 ·obtain ⟨u,hu,rfl⟩:=hm x hx
  obtain ⟨v,hv,rfl⟩:=hm y hy
  exact row_zero _ _ (good_row hu) (good_row hv) h0
 ·obtain ⟨u,hu,rfl⟩:=at_good hD t x hx
  exact (hD u hu).1.num
 ·obtain ⟨u,hu,rfl⟩:=at_good hE t x hx
  exact (hE u hu).1.num
/-- the bag that a spine tells -/
theorem tells_at {s:SV} {all:List UV} {B:Nat} (h:Tells s all B) (t:TV) (h0:(atS s t).1=0):(atS s t).2=sumV (atV all t):=by
 unfold atS at h0 ⊢
 split at h0
 ·exact absurd h0 (by decide)
 ·rename_i h1
  split at h0
  ·exact absurd h0 (by decide)
  ·rename_i h2
   split at h0
   ·exact absurd h0 (by decide)
   ·rename_i h3
    rw [if_neg h1,if_neg h2,if_neg h3]
    have hb:beyondV s.S t=true:=by simpa using h2
    have ht:t.2.length=0:=by omega
    have hS:s.S≠[]:=fun q=>by rw [q] at hb;exact absurd hb (by simp [beyondV])
    rcases h.say with q | q
    ·exact absurd q hS
    ·show sumV (atV s.bs.flatten t)=_
     rw [← atV_adv hb s.bs.flatten (fun u hu=>by rw [(h.ok.ins u hu).2.1,ht];rfl), ← atV_adv hb all (fun u hu=>by rw [(h.good u hu).2.1,ht];rfl)]
     exact at_same q (say_good h.ok) (fun u hu=>by
      obtain ⟨v,hv,rfl⟩:=List.mem_map.1 hu
      exact adv_good h.ok.fs h.ok.es (h.good v hv)) t
/-! ### two spines -/
structure Twins (a b:SV) (all:List UV) (B:Nat):Prop where
 ta:Tells a all B
 tb:Tells b all B
 S:a.S=b.S
 U:a.U=b.U
/-- updates that say the same have one sum -/
theorem sum_same {D E:List UV} (h:UdS.Same D E) (hD : ∀ u∈D,GoodU u) (hE : ∀ u∈E,GoodU u):UdS.sumV D=UdS.sumV E :=
 UdS.sumV_same h (good_canon fun u hu=>(List.mem_append.1 hu).elim (hD u) (hE u)) (fun u hu=>(hD u hu).1.num) (fun u hu=>(hE u hu).1.num)
theorem tells_all {s:SV} {all:List UV} {B:Nat} (h:Tells s all B):allV s=if s.S=[] then [] else UdS.sumV (all.map (advK s.S)):=by
 unfold allV
 split
 ·rfl
 ·rename_i h0
  rcases h.say with q | q
  ·exact absurd q h0
  ·exact sum_same q (say_good h.ok) fun u hu=>by
    obtain ⟨v,hv,rfl⟩:=List.mem_map.1 hu
    exact adv_good h.ok.fs h.ok.es (h.good v hv)
theorem Twins.all {a b:SV} {all:List UV} {B:Nat} (h:Twins a b all B):allV a=allV b:=by rw [tells_all h.ta,tells_all h.tb,h.S]
theorem at_form (s:SV) (t:TV):(atS s t).1=(if 0<t.2.length then 110 else if beyondV s.S t=false then 111 else if beyondV s.U t=true then 111 else 0)∧((atS s t).1≠0→(atS s t).2=[]):=by
 unfold atS
 split
 ·exact ⟨rfl,fun _=>rfl⟩
 ·split
  ·exact ⟨rfl,fun _=>rfl⟩
  ·split
   ·exact ⟨rfl,fun _=>rfl⟩
   ·exact ⟨rfl,fun h=>absurd rfl h⟩
theorem Twins.at {a b:SV} {all:List UV} {B:Nat} (h:Twins a b all B) (t:TV):atS a t=atS b t:=by
 have e1:(atS a t).1=(atS b t).1:=by rw [(at_form a t).1,(at_form b t).1,h.S,h.U]
 refine Prod.ext e1 ?_
 by_cases h0:(atS a t).1=0
 ·rw [tells_at h.ta t h0,tells_at h.tb t (e1 ▸ h0)]
 ·rw [(at_form a t).2 h0,(at_form b t).2 (e1 ▸ h0)]
theorem Twins.ins {a b:SV} {all l:List UV} {X:List TV} {B:Nat} (h:Twins a b all B) (hl : ∀ u∈l,InUV u) (hX : ∀ t∈X,0≤t.1∧t.1≤18446744073709551615) (hB:B+l.length+1≤1000000) :
  ((insV a l X).1=(insV b l X).1∧(insV a l X).1≠0∧(insV a l X).2=a∧(insV b l X).2=b)∨((insV a l X).1=0∧(insV b l X).1=0∧Twins (insV a l X).2 (insV b l X).2 (all++l) (B+l.length+1)):=by
 have ka:=tells_ins h.ta hl hX hB
 have kb:=tells_ins h.tb hl hX hB
 have e1:(insV a l X).1=(insV b l X).1:=by
  unfold insV
  rw [h.U]
  split
  ·rfl
  ·split
   ·rfl
   ·split
    ·rfl
    ·split<;>rfl
 rcases ka with ⟨p,q⟩ | ⟨p,q⟩
 ·rcases kb with ⟨p2,q2⟩ | ⟨p2,q2⟩
  ·exact .inl ⟨e1,q,p,p2⟩
  ·exact absurd (e1.trans p2) q
 ·rcases kb with ⟨p2,q2⟩ | ⟨p2,q2⟩
  ·exact absurd (e1.symm.trans p) q2
  ·refine .inr ⟨p,p2,q,q2,?_,?_⟩
   ·rcases ins_cases a l X with ⟨_,r⟩ | ⟨_,_,_,_,ea⟩
    ·exact absurd p r
    ·rcases ins_cases b l X with ⟨_,r⟩ | ⟨_,_,_,_,eb⟩
     ·exact absurd p2 r
     ·rw [ea,eb];exact h.S
   ·rcases ins_cases a l X with ⟨_,r⟩ | ⟨_,_,_,_,ea⟩
    ·exact absurd p r
    ·rcases ins_cases b l X with ⟨_,r⟩ | ⟨_,_,_,_,eb⟩
     ·exact absurd p2 r
     ·rw [ea,eb]
theorem Twins.compact {a b:SV} {all:List UV} {X:List TV} {B:Nat} (h:Twins a b all B) (hX : ∀ t∈X,0≤t.1∧t.1≤18446744073709551615):(compactV a X).1=(compactV b X).1∧Twins (compactV a X).2 (compactV b X).2 all B:=by
 have e : ∀ s:SV,(compactV s X).1=(if flatV X=false then 110 else if leqV s.S X=false then 111 else 0)∧(compactV s X).2.S=(if flatV X=false then s.S else if leqV s.S X=false then s.S else ofV X)∧(compactV s X).2.U=s.U:=fun s=>by
  unfold compactV
  split
  ·exact ⟨rfl,rfl,rfl⟩
  ·split
   ·exact ⟨rfl,rfl,rfl⟩
   ·exact ⟨rfl,rfl,rfl⟩
 refine ⟨by rw [(e a).1,(e b).1,h.S],tells_compact h.ta hX,tells_compact h.tb hX,by rw [(e a).2.1,(e b).2.1,h.S],by rw [(e a).2.2,(e b).2.2,h.U]⟩
theorem Twins.work {a b t:SV} {all:List UV} {B n r:Nat} (h:Twins a b all B) (w:WorkR b n t r):Twins a t all B:=by
 have k:=work_stay w h.tb.ok
 exact ⟨h.ta,tells_work w h.tb,by rw [k.S];exact h.S,by rw [k.U];exact h.U⟩
open Go.RowKit
/-- what Work leaves, whatever its fuel -/
def SpWorkG (w:World) (R:Nat→Prop) (gs:Nat) (s:SV) (z:Int) (e:Ending) (w':World):Prop := ∃ (m':SpM) (r:Nat),e = .returned (.int .i64 r)∧SpR w' (Rg R w w') gs m'∧((m'.v=s∧r=0∧z<1) ∨ ∃ n:Nat,z=n∧0<n∧WorkR s n m'.v r)∧OkV m'.v∧Upd R w w'
set_option maxRecDepth 100000 in
set_option maxHeartbeats 400000 in
theorem work_low (gs:Nat) (z:Int) (w:World) (hz:z<1):Calls Tryz.prog 47 #[.pointer (some ⟨gs,0,none⟩), .int .i64 z] w fun e w'=>e = .returned (.int .i64 0)∧Ext w w':=by
 go_enter Tryz.func47,Tryz.ntmps47
 go_wp2
 go_ret
 exact ⟨rfl,Ext.refl w⟩
theorem work_gen (gs:Nat) (z:Int) (m:SpM) (R:Nat→Prop) (w:World) (HM:Hid (SpR w R gs m)) (ok:Hid (OkV m.v)) (hz:z≤9223372036854775807) (hR:Hid (∀ k,R k→k<w.heap.size)):Calls Tryz.prog 47 #[.pointer (some ⟨gs,0,none⟩), .int .i64 z] w (SpWorkG w R gs m.v z):=by
 by_cases h1:z<1
 ·refine (work_low gs z w h1).mono ?_
  rintro e w' ⟨rfl,x⟩
  exact ⟨m,0,rfl,(HM.out.ext x).wide fun _ _ hk => .inl hk, .inl ⟨rfl,rfl,h1⟩,ok.out,Upd.ext x⟩
 ·obtain ⟨n,rfl⟩ : ∃ n:Nat,z=n:=⟨z.toNat,by omega⟩
  refine (work_any gs n m R w HM ok (by omega) (by omega) hR).mono ?_
  rintro e w' ⟨m',r,he,s,k,o,u⟩
  exact ⟨m',r,he,s, .inr ⟨n,rfl,by omega,k⟩,o,u⟩
open Go.RowKit
/-- a handle: its block, what it holds and has seen -/
structure Hv where
 g:Nat
 hold:Int
 seen:Int
 begun:Bool
 ended:Bool
def Hv.cs (gt:Nat) (x:Hv):Array Value := #[.pointer (some ⟨gt,0,none⟩), .int .u64 x.hold, .int .u64 x.seen, .bool x.begun, .bool x.ended]
/-- a trace -/
structure ShM where
 gs:Nat
 m:SpM
 Rs:Nat→Prop
 lets:Int
 bm:Nat
 L:List Hd
 clock:Nat
 H:List Hv
def ShM.cs (t:ShM):Array Value := #[.pointer (some ⟨t.gs,0,none⟩), .int .u64 t.lets, .map (some t.bm)]
structure ShR (w:World) (R:Nat→Prop) (gt:Nat) (t:ShM):Prop where
 bk:Bk w gt 211 t.cs
 rg:R gt
 sp:SpR w t.Rs t.gs t.m
 sub : ∀ k,t.Rs k→R k
 pm:PM w t.bm t.L t.clock
 rb:R t.bm
 hs : ∀ x∈t.H,Bk w x.g 215 (x.cs gt)∧R x.g ∧ ¬ t.Rs x.g
 nt : ¬ t.Rs gt
 nb : ¬ t.Rs t.bm
 nd:(t.H.map Hv.g).Nodup
 le : ∀ x∈t.L, ∃ y∈t.H,y.g=x.g∧y.ended=false
 lh : ∀ y∈t.H,y.ended=false → ∃ x∈t.L,x.g=y.g
 low : ∀ k,R k→k<w.heap.size
section
variable {w w':World} {R:Nat→Prop} {gt:Nat} {t:ShM}
theorem ShR.hd_ne (h:ShR w R gt t) {x:Hv} (hx:x∈t.H):x.g≠gt∧x.g≠t.bm:=by
 obtain ⟨b,_,_⟩:=h.hs x hx
 refine ⟨fun e=>?_,fun e=>bk_not_map b h.pm.bk e⟩
 rw [e] at b
 exact absurd (b.ty.ne h.bk.ty) (by decide)
theorem ShR.bm_ne (h:ShR w R gt t):gt≠t.bm:=bk_not_map h.bk h.pm.bk
theorem ShR.ext (h:ShR w R gt t) (x:Ext w w'):ShR w' R gt t :=
 ⟨h.bk.ext x,h.rg,h.sp.ext x,h.sub,h.pm.ext x,h.rb,fun y hy=>⟨(h.hs y hy).1.ext x,(h.hs y hy).2⟩,h.nt,h.nb,h.nd,h.le,h.lh,fun k hk=>Nat.lt_of_lt_of_le (h.low k hk) x.size⟩
/-- the spine has changed, by its own writes -/
theorem ShR.spine (h:ShR w R gt t) {m':SpM} (u:Upd t.Rs w w') (s:SpR w' (Rg t.Rs w w') t.gs m'):ShR w' (Rg R w w') gt { t with m:=m',Rs:=Rg t.Rs w w' }:=by
 have z:=u.size
 have nw : ∀ {k},k<w.heap.size → ¬ t.Rs k → ¬ Rg t.Rs w w' k:=fun hk hn q=>q.elim hn fun q=>by omega
 have hl : ∀ x∈t.L,x.g<w.heap.size ∧ ¬ t.Rs x.g:=fun x hx=>by
  obtain ⟨y,hy,e,_⟩:=h.le x hx
  obtain ⟨b,_,n⟩:=h.hs y hy
  rw [← e]
  exact ⟨b.lt,n⟩
 refine ⟨h.bk.upd u h.nt, .inl h.rg,s,fun k hk=>hk.elim (fun q => .inl (h.sub k q)) .inr,h.pm.upd u h.nb (fun x hx=>(hl x hx).2), .inl h.rb,fun x hx=>?_,nw h.bk.lt h.nt,nw h.pm.lt h.nb,h.nd,h.le,h.lh,fun k hk=>hk.elim (fun q=>Nat.lt_of_lt_of_le (h.low k q) z) fun q=>q.2⟩
 obtain ⟨b,r,n⟩:=h.hs x hx
 exact ⟨b.upd u n, .inl r,nw b.lt n⟩
theorem ShR.wide (h:ShR w R gt t) {R':Nat→Prop} (hR : ∀ k,R k→R' k) (hl : ∀ k,R' k→k<w.heap.size):ShR w R' gt t :=
 ⟨h.bk,hR _ h.rg,h.sp,fun k hk=>hR k (h.sub k hk),h.pm,hR _ h.rb,fun x hx=>⟨(h.hs x hx).1,hR _ (h.hs x hx).2.1,(h.hs x hx).2.2⟩,h.nt,h.nb,h.nd,h.le,h.lh,hl⟩
theorem ShR.upd {S:Nat→Prop} (h:ShR w R gt t) (u:Upd S w w') (hS : ∀ k,R k → ¬ S k):ShR w' R gt t:=by
 have hl : ∀ x∈t.L, ¬ S x.g:=fun x hx=>by
  obtain ⟨y,hy,e,_⟩:=h.le x hx
  rw [← e]
  exact hS _ (h.hs y hy).2.1
 exact ⟨h.bk.upd u (hS _ h.rg),h.rg,h.sp.upd u (fun k hk=>hS k (h.sub k hk)),h.sub,h.pm.upd u (hS _ h.rb) hl,h.rb,fun x hx=>⟨(h.hs x hx).1.upd u (hS _ (h.hs x hx).2.1),(h.hs x hx).2⟩,h.nt,h.nb,h.nd,h.le,h.lh,fun k hk=>Nat.lt_of_lt_of_le (h.low k hk) u.size⟩
end
/-! ### what it is worth -/
structure TrV where
 s:SV
 lets:Int
 hs:List Hv
def ShM.v (t:ShM):TrV:=⟨t.m.v,t.lets,t.H⟩
def minL (n:Int) (l:List Int):Int:=l.foldl (fun a b=>min a b) n
def leastV (lets:Int) (H:List Hv):Int:=minL lets ((H.filter fun h => !h.ended).map Hv.hold)
def headE (l:List TV):Int:=(l.getD 0 (0,[])).1
def TrV.least (t:TrV):Int:=leastV t.lets t.hs
def TrV.up (t:TrV):Int:=headE t.s.U
def compactT (t:TrV):TrV:={ t with s:=if headE t.s.S<t.least then { t.s with S:=[(t.least,[])] } else t.s }
theorem minL_le : ∀ (l:List Int) (n:Int),minL n l≤n∧(∀ x∈l,minL n l≤x)∧(minL n l=n∨minL n l∈l)
 | [],n=>⟨Int.le_refl _,fun x hx=>(nomatch hx), .inl rfl⟩
 | y :: l,n=>by
  obtain ⟨h1,h2,h3⟩:=minL_le l (min n y)
  have e:minL n (y :: l)=minL (min n y) l:=rfl
  rw [e]
  refine ⟨by omega,fun x hx=>?_,?_⟩
  ·rcases List.mem_cons.1 hx with rfl | hx
   ·omega
   ·exact h2 x hx
  ·rcases h3 with h3 | h3
   ·by_cases q:n≤y
    ·exact .inl (by omega)
    ·exact .inr (by rw [h3,show min n y=y by omega];exact List.mem_cons_self ..)
   ·exact .inr (List.mem_cons_of_mem _ h3)
theorem minL_eq {l:List Int} {n k:Int} (h1:k≤n) (h2 : ∀ x∈l,k≤x) (h3:k=n∨k∈l):k=minL n l:=by
 obtain ⟨a,b,c⟩:=minL_le l n
 have e1:k≤minL n l:=by rcases c with c | c;(omega);(exact h2 _ c)
 have e2:minL n l≤k:=by rcases h3 with h3 | h3;(omega);(exact b _ h3)
 omega
/-- what holds of a trace's value at all times -/
structure OkT (t:TrV):Prop where
 ok:OkV t.s
 S : ∃ s,t.s.S=[(s,[])]
 U : ∃ u,t.s.U=[(u,[])]
 lets:0≤t.lets∧t.lets≤18446744073709551615
 hs : ∀ h∈t.hs,(0≤h.hold∧h.hold≤h.seen∧h.seen≤18446744073709551615)∧(h.begun=true→h.hold+1≤h.seen∧h.seen≤t.up)
 low:headE t.s.S≤t.least
theorem OkT.least_in {t:TrV} (h:OkT t):0≤t.least∧t.least≤18446744073709551615:=by
 unfold TrV.least leastV
 obtain ⟨_,_,c⟩:=minL_le ((t.hs.filter fun h => !h.ended).map Hv.hold) t.lets
 rcases c with c | c
 ·rw [c];exact h.lets
 ·obtain ⟨x,hx,e⟩:=List.mem_map.1 c
  rw [← e]
  have q:=(h.hs x (List.mem_filter.1 hx).1).1
  exact ⟨q.1,Int.le_trans q.2.1 q.2.2⟩
theorem flat_one (e:Int):flatV [(e,[])]=true:=rfl
theorem leq_one {a b:Int} (h:a≤b):leqV [(a,[])] [(b,[])]=true:=leqV_iff.2 fun t ht=>by
 rw [List.mem_singleton.1 ht]
 exact beyond_iff.2 ⟨(a,[]),List.mem_singleton.2 rfl,(leq_iff _ _ _ _).2 ⟨rfl,h,fun k hk=>absurd hk (Nat.not_lt_zero k)⟩⟩
/-- the spine's Compact, as the trace calls it -/
theorem compact_call {t:TrV} (h:OkT t) (hlt:headE t.s.S<t.least):compactV t.s [(t.least,[])]=(0,(compactT t).s):=by
 obtain ⟨s,hs⟩:=h.S
 have e:headE t.s.S=s:=by rw [hs];rfl
 have e2:(compactT t).s={ t.s with S:=[(t.least,[])] }:=by unfold compactT;rw [if_pos hlt]
 rw [e2]
 unfold compactV
 rw [flat_one,hs,leq_one (by omega),if_neg (by decide),if_neg (by decide),of_one]
theorem compactT_stay {t:TrV} (h : ¬ headE t.s.S<t.least):compactT t=t:=by unfold compactT;rw [if_neg h]
theorem compactT_ok {t:TrV} (h:OkT t):OkT (compactT t)∧(compactT t).least=t.least∧headE (compactT t).s.S≤t.least∧(compactT t).s.U=t.s.U:=by
 by_cases hlt:headE t.s.S<t.least
 ·have hc:=compact_call h hlt
  have hr:=h.least_in
  have k:=okV_compact (X:=[(t.least,[])]) h.ok (fun x hx=>by rw [List.mem_singleton.1 hx];exact hr)
  rw [hc] at k
  have e2:(compactT t).s={ t.s with S:=[(t.least,[])] }:=by unfold compactT;rw [if_pos hlt]
  have hu:(compactT t).up=t.up:=by unfold TrV.up;rw [e2]
  refine ⟨⟨k,⟨t.least,by rw [e2]⟩,?_,h.lets,fun x hx=>by rw [hu];exact h.hs x hx,?_⟩,rfl,?_,by rw [e2]⟩
  ·rw [e2];exact h.U
  ·rw [e2];exact Int.le_refl _
  ·rw [e2];exact Int.le_refl _
 ·rw [compactT_stay hlt]
  exact ⟨h,rfl,h.low,rfl⟩
end Go.Proofs.YtdgbkpoickbidaaGreatDoor
namespace Go.Proofs.YtdgbkpoickbidaaGreatDoor
open Go.ChangeShapes Go.WideShapes Go.ChangeAt Go.RowKit Go.WideElems

/-- a call that lies in memory -/
structure Sop where
 k:Int
 A:Option Addr
 c:Nat
 L:List Ud
 tA:Option Addr
 tc:Nat
 T:List Tm
 n:Int
 t:Tm
 rA:Option Addr
 rc:Nat
 r:List Dat
def Sop.zero:Sop:=⟨0,none,0,[],none,0,[],0,Tm.zero,none,0,[]⟩
instance:Inhabited Sop:=⟨Sop.zero⟩
def sopC (x:Sop):List Value:=[.int .u8 x.k, .slice x.A x.L.length x.c, .slice x.tA x.T.length x.tc, .int .i64 x.n, .int .u64 x.t.e, .slice x.t.A x.t.l.length x.t.c, .slice x.rA x.r.length x.rc]
def sopsC (M:List Sop):List Value:=M.flatMap sopC
theorem sopsC_at : ∀ (M:List Sop) (i j:Nat),i<M.length→j<7→(sopsC M)[i * 7+j]?=(sopC (M.getD i Sop.zero))[j]?
 | [],i,j,h,_=>absurd h (Nat.not_lt_zero _)
 | d :: l,0,j,_,hj=>by
  unfold sopsC
  rw [List.flatMap_cons,Nat.zero_mul,Nat.zero_add,List.getElem?_append_left (by rw [show (sopC d).length=7 from rfl];exact hj)]
  rfl
 | d :: l,i+1,j,h,hj=>by
  unfold sopsC
  rw [List.flatMap_cons,List.getElem?_append_right (by rw [show (sopC d).length=7 from rfl];omega),show (i+1) * 7+j - (sopC d).length=i * 7+j by rw [show (sopC d).length=7 from rfl];omega]
  exact sopsC_at l i j (Nat.lt_of_succ_lt_succ h) hj
/-- what a call refers to lies in memory -/
structure SopR (w:World) (x:Sop):Prop where
 u:Uin w x.A x.c x.L
 t:Tin w x.tA x.tc x.T
 e:Sl w 1 x.t.A x.t.l.length x.t.c (wds x.t.l)
 r:Rw w x.rA x.rc x.r
theorem SopR.ext {w w':World} {x:Sop} (h:SopR w x) (y:Ext w w'):SopR w' x:=⟨h.u.ext y,h.t.ext y,h.e.ext y,h.r.ext y⟩
/-- what is known of a call that comes in -/
structure SopIn (x:Sop):Prop where
 k:0≤x.k∧x.k≤255
 u : ∀ y∈x.L,UdIn y
 t : ∀ y∈x.T,TmIn y
 n : -9223372036854775808≤x.n∧x.n≤9223372036854775807
 e:TmIn x.t
 r:RwIn x.r
/-- a list of calls as readings give it -/
structure Oin (w:World) (A:Option Addr) (c:Nat) (M:List Sop):Prop where
 sl:Sl w 7 A M.length c (sopsC M)
 ls : ∀ x∈M,SopR w x
theorem Oin.ext {w w':World} {A:Option Addr} {c:Nat} {M:List Sop} (h:Oin w A c M) (x:Ext w w'):Oin w' A c M:=⟨h.sl.ext x,fun y hy=>(h.ls y hy).ext x⟩
theorem takeO {M:List Sop} {i:Nat} (h:i<M.length):M.take (i+1)=M.take i++[M.getD i Sop.zero]:=by
 rw [List.take_succ_eq_append_getElem h,List.getD_eq_getElem?_getD,List.getElem?_eq_getElem h];rfl
theorem Oin.at {w:World} {A:Option Addr} {c:Nat} {M:List Sop} (h:Oin w A c M) {i:Nat} (hi:i<M.length) {x:Sop} (hx:M.getD i Sop.zero=x) : ∃ ad,A=some ad∧w.cell? (ad.add (i * 7))=some (.int .u8 x.k)∧w.cell? ⟨(ad.add (i * 7)).block,(ad.add (i * 7)).off+1,none⟩=some (.slice x.A x.L.length x.c) ∧
  w.cell? ⟨(ad.add (i * 7)).block,(ad.add (i * 7)).off+2,none⟩=some (.slice x.tA x.T.length x.tc)∧w.cell? ⟨(ad.add (i * 7)).block,(ad.add (i * 7)).off+3,none⟩=some (.int .i64 x.n)∧w.cell? ⟨(ad.add (i * 7)).block,(ad.add (i * 7)).off+4,none⟩=some (.int .u64 x.t.e) ∧
  w.cell? ⟨(ad.add (i * 7)).block,(ad.add (i * 7)).off+5,none⟩=some (.slice x.t.A x.t.l.length x.t.c)∧w.cell? ⟨(ad.add (i * 7)).block,(ad.add (i * 7)).off+6,none⟩=some (.slice x.rA x.r.length x.rc):=by
 obtain ⟨ad,e,hc⟩:=h.sl.2.2.2.2 (by omega)
 have q : ∀ j v,j<7→(sopC x)[j]?=some v→w.cell? (ad.add (i * 7+j))=some v:=fun j v hj hv=>hc _ v (by rw [sopsC_at M i j hi hj,hx,hv])
 exact ⟨ad,e,q 0 _ (by omega) rfl,by rw [← addr_off _ _ 1 (by omega)];exact q 1 _ (by omega) rfl,by rw [← addr_off _ _ 2 (by omega)];exact q 2 _ (by omega) rfl,by rw [← addr_off _ _ 3 (by omega)];exact q 3 _ (by omega) rfl,
  by rw [← addr_off _ _ 4 (by omega)];exact q 4 _ (by omega) rfl,by rw [← addr_off _ _ 5 (by omega)];exact q 5 _ (by omega) rfl,by rw [← addr_off _ _ 6 (by omega)];exact q 6 _ (by omega) rfl⟩
section
variable {H:Type} {enc:TypeId × Value→H} {W:World}
end
open Go.RowKit
/-- all of it lies above the first world w0 -/
structure Duo (w0 w:World) (ga gb:Nat) (ma mb:SpM) (Ra Rb:Nat→Prop) (A:Option Addr) (n c:Nat) (L:List Ud):Prop where
 ext:Ext w0 w
 a:SpR w Ra ga ma
 b:SpR w Rb gb mb
 la : ∀ k,Ra k→w0.heap.size≤k∧k<w.heap.size
 lb : ∀ k,Rb k→w0.heap.size≤k∧k<w.heap.size
 ab : ∀ k,Ra k → ¬ Rb k
 own:Own w w0.heap.size 95 4 A n c (udsC L)
 oa : ∀ k,blk A c=some k → ¬ Ra k ∧ ¬ Rb k
 len:n=L.length
 ls : ∀ x∈L,UdR w0 x
section
variable {w0 w w':World} {ga gb:Nat} {ma mb m':SpM} {Ra Rb:Nat→Prop} {A:Option Addr} {n c:Nat} {L:List Ud}
theorem Duo.uin (h:Duo w0 w ga gb ma mb Ra Rb A n c L):Uin w A c L:=⟨by have:=h.own.sl;rwa [h.len] at this,fun x hx=>(h.ls x hx).ext h.ext⟩
theorem Duo.grow (h:Duo w0 w ga gb ma mb Ra Rb A n c L) (x:Ext w w'):Duo w0 w' ga gb ma mb Ra Rb A n c L :=
 ⟨h.ext.trans x,h.a.ext x,h.b.ext x,fun k hk=>⟨(h.la k hk).1,Nat.lt_of_lt_of_le (h.la k hk).2 x.size⟩,fun k hk=>⟨(h.lb k hk).1,Nat.lt_of_lt_of_le (h.lb k hk).2 x.size⟩,h.ab,h.own.ext x,h.oa,h.len,h.ls⟩
theorem ext_updS {S:Nat→Prop} {a b d:World} (x:Ext a b) (u:Upd S b d) (h : ∀ k,S k→a.heap.size≤k):Ext a d :=
 ⟨u.os.trans (Below.os x),u.tape.trans (Below.tape x),u.output.trans (Below.output x),Nat.le_trans x.size u.size,fun k hk=>(u.block k (Nat.lt_of_lt_of_le hk x.size) fun q=>by have:=h k q;omega).trans (Below.block x k hk)⟩
theorem Duo.stepA (h:Duo w0 w ga gb ma mb Ra Rb A n c L) (u:Upd Ra w w') (s:SpR w' (Rg Ra w w') ga m'):Duo w0 w' ga gb m' mb (Rg Ra w w') Rb A n c L:=by
 have z:=u.size
 have z0:=h.ext.size
 refine ⟨ext_updS h.ext u fun k hk=>(h.la k hk).1,s,h.b.upd u fun k hb ha=>h.ab k ha hb,fun k hk=>?_,fun k hk=>⟨(h.lb k hk).1,Nat.lt_of_lt_of_le (h.lb k hk).2 z⟩,fun k hk hb=>?_,h.own.upd u fun k hk=>(h.oa k hk).1,fun k hk=>⟨fun q=>?_,(h.oa k hk).2⟩,h.len,h.ls⟩
 ·rcases hk with hk | hk
  ·exact ⟨(h.la k hk).1,Nat.lt_of_lt_of_le (h.la k hk).2 z⟩
  ·exact ⟨by omega,hk.2⟩
 ·rcases hk with hk | hk
  ·exact h.ab k hk hb
  ·have:=(h.lb k hb).2;omega
 ·rcases q with q | q
  ·exact (h.oa k hk).1 q
  ·have:=(h.own.lt k hk).2;omega
/-- updates are put behind the list -/
theorem Duo.app (h:Duo w0 w ga gb ma mb Ra Rb A n c L) {M:List Ud} {k:Nat} {A':Option Addr} {c':Nat} (hk:k=M.length) (hM : ∀ x∈M,UdR w0 x) (o:Own w' w0.heap.size 95 4 A' (n+k) c' (udsC L++udsC M)) (g:w.grownBy w' (blk A c)) (q:(A'=A∧c'=c)∨(blk A' c'=some w.heap.size∧Ext w w')) :
  Duo w0 w' ga gb ma mb Ra Rb A' (n+k) c' (L++M):=by
 have u:Upd (fun k=>blk A c=some k) w w':=(Upd.refl _ w).grown g fun k e => .inl e
 have z:=u.size
 refine ⟨ext_updS h.ext u fun k hk=>(h.own.lt k hk).1,h.a.upd u fun k ha hk=>(h.oa k hk).1 ha,h.b.upd u fun k hb hk=>(h.oa k hk).2 hb,fun k hk=>⟨(h.la k hk).1,Nat.lt_of_lt_of_le (h.la k hk).2 z⟩,fun k hk=>⟨(h.lb k hk).1,Nat.lt_of_lt_of_le (h.lb k hk).2 z⟩,h.ab,by rw [udsC_append];exact o,fun k hk=>?_,by rw [List.length_append,h.len,hk],fun x hx=>(List.mem_append.1 hx).elim (h.ls x) (hM x)⟩
 rcases q with ⟨rfl,rfl⟩ | ⟨e,_⟩
 ·exact h.oa k hk
 ·rw [e] at hk
  injection hk with hk
  exact ⟨fun hr=>by have:=(h.la k hr).2;omega,fun hr=>by have:=(h.lb k hr).2;omega⟩
/-- two new spines -/
theorem Duo.start {w1 w2:World} (x0:Ext w0 w) (ha:SpR w1 (fun k=>w.heap.size≤k∧k<w1.heap.size) ga ma) (x1:Ext w w1) (hb:SpR w2 (fun k=>w1.heap.size≤k∧k<w2.heap.size) gb mb) (x2:Ext w1 w2) :
  Duo w0 w2 ga gb ma mb (fun k=>w.heap.size≤k∧k<w1.heap.size) (fun k=>w1.heap.size≤k∧k<w2.heap.size) none 0 0 []:=by
 have z0:=x0.size
 have z1:=x1.size
 have z2:=x2.size
 exact ⟨(x0.trans x1).trans x2,ha.ext x2,hb,fun k hk=>⟨by omega,by omega⟩,fun k hk=>⟨by omega,hk.2⟩,fun k h1 h2=>by omega,Own.nil _ _ _ _,fun k hk=>(nomatch hk),rfl,fun x hx=>(nomatch hx)⟩
end
/-! ### what the calls hold -/
/-- updates and calls so far -/
def opsLen (M:List Sop) (i:Nat):Nat:=((M.take i).map fun x=>x.L.length+1).sum
theorem opsLen_zero (M:List Sop):opsLen M 0=0:=by simp [opsLen]
theorem opsLen_succ {M:List Sop} {i:Nat} (h:i<M.length):opsLen M (i+1)=opsLen M i+((M.getD i Sop.zero).L.length+1):=by
 unfold opsLen
 rw [takeO h,List.map_append,List.sum_append]
 simp
def costY (y:Ud):Nat:=y.l.length / 16+y.t.l.length / 4
def costL (L:List Ud) (k:Nat):Nat:=((L.take k).map costY).sum
theorem costL_succ {L:List Ud} {k:Nat} (h:k<L.length):costL L (k+1)=costL L k+costY (L.getD k Ud.zero):=by
 unfold costL
 rw [takeU h,List.map_append,List.sum_append]
 simp
theorem sum_take_le {α:Type} (f:α→Nat) (l:List α) (k:Nat):((l.take k).map f).sum≤((l.take l.length).map f).sum:=by
 have h:((l.take l.length).map f).sum=((l.take k).map f).sum+((l.drop k).map f).sum:=by
  rw [← List.sum_append, ← List.map_append,List.take_append_drop,List.take_length]
 omega
theorem sum_mem_le {α:Type} (f:α→Nat) {l:List α} {x:α} (h:x∈l):f x≤((l.take l.length).map f).sum:=by
 rw [List.take_length]
 induction l with
 | nil=>cases h
 | cons a l ih =>
  rw [List.map_cons,List.sum_cons]
  rcases List.mem_cons.1 h with rfl | h
  ·omega
  ·have:=ih h
   omega
/-- a number that stands for a sum: it is the sum, or it and the sum are too great -/
structure Cost (E N:Nat):Prop where
 le:N≤E
 eq:N≤300→N=E
theorem Cost.rfl' (E:Nat):Cost E E:=⟨Nat.le_refl _,fun _=>rfl⟩
theorem Cost.add {E N d E2 N2:Nat} (h:Cost E N) (hE:E2=E+d) (hN:N2=N+d):Cost E2 N2:=by
 have:=h.le
 exact ⟨by omega,fun q=>by have:=h.eq (by omega);omega⟩
theorem Cost.up {E N E2:Nat} (h:Cost E N) (hE:E≤E2) (hN:300<N):Cost E2 N:=by
 have:=h.le
 exact ⟨by omega,fun q=>by omega⟩
theorem Cost.much {E N:Nat} (h:Cost E N):decide (300<N)=decide (300<E):=by
 have h1:=h.le
 have h2:=h.eq
 rw [decide_eq_decide]
 constructor<;>intro q
 ·omega
 ·rcases Nat.lt_or_ge 300 N with r | r
  ·exact r
  ·have:=h2 r;omega
/-- a call as it is looked at -/
structure OpFew (x:Sop):Prop where
 u : ∀ y∈x.L,y.l.length≤5000∧y.t.l.length≤1300
 n:x.T.length≤300
 t : ∀ y∈x.T,y.l.length≤1300
 r:x.r.length≤5000
/-- calls that are looked at -/
structure Ops (M:List Sop):Prop where
 len:opsLen M M.length≤300
 few : ∀ x∈M,OpFew x
theorem Ops.inU {M:List Sop} (h:Ops M) {x:Sop} (hx:x∈M) (hI:SopIn x) : ∀ y∈x.L,InU y:=fun y hy =>
 (hI.u y hy).inU (Nat.le_trans ((h.few x hx).u y hy).1 (by decide)) (Nat.le_trans ((h.few x hx).u y hy).2 (by decide))
end Go.Proofs.YtdgbkpoickbidaaGreatDoor
namespace Go.Proofs.YtdgbkpoickbidaaGreatDoor

/-! ### how a frontier moves -/
open Go.RowKit
/-! ### changes -/
structure Cg where
 t:Tm
 d:Int
def Cg.zero:Cg:=⟨Tm.zero,0⟩
instance:Inhabited Cg:=⟨Cg.zero⟩
def cgC (x:Cg):List Value:=[.int .u64 x.t.e, .slice x.t.A x.t.l.length x.t.c, .int .i64 x.d]
def cgsC (L:List Cg):List Value:=L.flatMap cgC
theorem cgsC_at : ∀ (L:List Cg) (i j:Nat),i<L.length→j<3→(cgsC L)[i * 3+j]?=(cgC (L.getD i Cg.zero))[j]?
 | [],i,j,h,_=>absurd h (Nat.not_lt_zero _)
 | d :: l,0,j,_,hj=>by
  unfold cgsC
  rw [List.flatMap_cons,Nat.zero_mul,Nat.zero_add,List.getElem?_append_left (by rw [show (cgC d).length=3 from rfl];exact hj)]
  rfl
 | d :: l,i+1,j,h,hj=>by
  unfold cgsC
  rw [List.flatMap_cons,List.getElem?_append_right (by rw [show (cgC d).length=3 from rfl];omega),show (i+1) * 3+j - (cgC d).length=i * 3+j by rw [show (cgC d).length=3 from rfl];omega]
  exact cgsC_at l i j (Nat.lt_of_succ_lt_succ h) hj
theorem cgsC_append (L M:List Cg):cgsC (L++M)=cgsC L++cgsC M:=List.flatMap_append
theorem own_at3 {w:World} {n c:Nat} {A:Option Addr} {xs:List Value} (h:Sl w 3 A n c xs) {k:Nat} (hk:k<n) {l:List Value} {a b x:Value} (hl:l=[a,b,x]) (hx : ∀ q,q<3→xs[k * 3+q]?=l[q]?) :
  ∃ ad,A=some ad∧w.cell? (ad.add (k * 3))=some a∧w.cell? ⟨(ad.add (k * 3)).block,(ad.add (k * 3)).off+1,none⟩=some b∧w.cell? ⟨(ad.add (k * 3)).block,(ad.add (k * 3)).off+2,none⟩=some x:=by
 subst hl
 obtain ⟨ad,e,hc⟩:=h.2.2.2.2 (by omega)
 exact ⟨ad,e,hc _ _ (hx 0 (by omega)),by rw [← addr_off _ _ 1 (by omega)];exact hc _ _ (hx 1 (by omega)),by rw [← addr_off _ _ 2 (by omega)];exact hc _ _ (hx 2 (by omega))⟩
/-- a list of changes as readings give it -/
structure Cin (w:World) (A:Option Addr) (c:Nat) (L:List Cg):Prop where
 sl:Sl w 3 A L.length c (cgsC L)
 ls : ∀ x∈L,Sl w 1 x.t.A x.t.l.length x.t.c (wds x.t.l)
theorem Cin.ext {w w':World} {A:Option Addr} {c:Nat} {L:List Cg} (h:Cin w A c L) (x:Ext w w'):Cin w' A c L:=⟨h.sl.ext x,fun y hy=>(h.ls y hy).ext x⟩
theorem Cin.nil (w:World):Cin w none 0 []:=⟨Sl.nil w 3,fun x hx=>(nomatch hx)⟩
theorem Cin.at {w:World} {A:Option Addr} {c:Nat} {L:List Cg} (h:Cin w A c L) {i:Nat} (hi:i<L.length) : ∃ ad,A=some ad∧w.cell? (ad.add (i * 3))=some (.int .u64 (L.getD i Cg.zero).t.e) ∧
  w.cell? ⟨(ad.add (i * 3)).block,(ad.add (i * 3)).off+1,none⟩=some (.slice (L.getD i Cg.zero).t.A (L.getD i Cg.zero).t.l.length (L.getD i Cg.zero).t.c)∧w.cell? ⟨(ad.add (i * 3)).block,(ad.add (i * 3)).off+2,none⟩=some (.int .i64 (L.getD i Cg.zero).d) :=
 own_at3 h.sl hi (show cgC (L.getD i Cg.zero)=[.int .u64 (L.getD i Cg.zero).t.e, .slice (L.getD i Cg.zero).t.A (L.getD i Cg.zero).t.l.length (L.getD i Cg.zero).t.c, .int .i64 (L.getD i Cg.zero).d] from rfl) (fun q hq=>cgsC_at L i q hi hq)
open Go.RowKit
def chgU (L:List Ud) (r:List Dat):List Cg:=(L.filter fun x=>decide (cmpR x.l r=0)).map fun x=>⟨x.t,x.d⟩
theorem chgU_step {L:List Ud} {i:Nat} {x:Ud} (hi:i<L.length) (hx:L.getD i Ud.zero=x) (r:List Dat):chgU (L.take (i+1)) r=chgU (L.take i) r++if cmpR x.l r=0 then [⟨x.t,x.d⟩] else []:=by
 unfold chgU
 rw [takeU hi,hx,List.filter_append,List.map_append]
 congr 1
 split
 ·rename_i h
  simp [h]
 ·rename_i h
  simp [h]
/-- what has been taken so far -/
structure SpRowI (w wr:World) (L:List Ud) (r:List Dat) (i:Nat) (A:Option Addr) (m c:Nat):Prop where
 len:m=(chgU (L.take i) r).length
 own:Own wr w.heap.size 60 3 A m c (cgsC (chgU (L.take i) r))
 ext:Ext w wr
theorem SpRowI.skip {w wr w2:World} {L:List Ud} {r:List Dat} {i m c:Nat} {A:Option Addr} {x:Ud} (h:SpRowI w wr L r i A m c) (hi:i<L.length) (hx:L.getD i Ud.zero=x) (hb:cmpR x.l r≠0) (q:Ext wr w2):SpRowI w w2 L r (i+1) A m c:=by
 have e:chgU (L.take (i+1)) r=chgU (L.take i) r:=by rw [chgU_step hi hx,if_neg hb,List.append_nil]
 exact ⟨by rw [e];exact h.len,by rw [e];exact h.own.ext q,h.ext.trans q⟩
theorem SpRowI.more {w wr w2:World} {L:List Ud} {r:List Dat} {i m c:Nat} {A A2:Option Addr} {c2 m2:Nat} {x:Ud} (h:SpRowI w wr L r i A m c) (hi:i<L.length) (hx:L.getD i Ud.zero=x) (hb:cmpR x.l r=0) (hm:m2=m+1)
  (o:Own w2 w.heap.size 60 3 A2 m2 c2 (cgsC (chgU (L.take i) r)++[.int .u64 x.t.e, .slice x.t.A x.t.l.length x.t.c, .int .i64 x.d])) (q:Ext w w2):SpRowI w w2 L r (i+1) A2 m2 c2:=by
 have e:chgU (L.take (i+1)) r=chgU (L.take i) r++[⟨x.t,x.d⟩]:=by rw [chgU_step hi hx,if_pos hb]
 refine ⟨by rw [e,List.length_append,hm,h.len];rfl,?_,q⟩
 rw [e,cgsC_append]
 exact o
open Go.RowKit
/-- a spine that has taken updates in, from the first time on, and let nothing go -/
structure SplitV (s:SV) (all:List UV) (B:Nat):Prop where
 t:Tells s all B
 S:s.S=[(0,[])]
 late : ∀ u∈all,beyondV s.U u.1.2=false
theorem split_new:SplitV newV [] 0:=⟨tells_new,rfl,fun u hu=>(nomatch hu)⟩
theorem SplitV.up {s:SV} {all:List UV} {B C:Nat} (h:SplitV s all B) (k:B≤C):SplitV s all C:=⟨h.t.up k,h.S,h.late⟩
theorem split_work {s t:SV} {all:List UV} {B n r:Nat} (h:SplitV s all B) (w:WorkR s n t r):SplitV t all B∧t.U=s.U:=by
 have k:=work_stay w h.t.ok
 exact ⟨⟨tells_work w h.t,by rw [k.S];exact h.S,by rw [k.U];exact h.late⟩,k.U⟩
theorem few_flat {T:List Tm} (h:flatV (T.map Tm.v)=true):Few1 T:=by
 obtain ⟨f,n⟩:=fine_flat h
 exact ⟨Nat.le_trans n (by decide),fun x hx=>Nat.le_trans (f x hx).2 (by decide)⟩
/-! ### a row's changes, one by one -/
/-! ### in memory -/
/-- where the law's loop stands: one spine takes pieces in, the other one nothing yet; the last time told lies apart -/
structure SplI (w0 wr:World) (M:List Sop) (i ga gb n c:Nat) (A:Option Addr) (AT:Option Addr) (cT:Nat) (T:List Tm) (ma mb:SpM) (Ra Rb:Nat→Prop) (L:List Ud):Prop where
 d:Duo w0 wr ga gb ma mb Ra Rb A n c L
 v:SplitV ma.v (L.map Ud.uv) (opsLen M i)
 b:mb.v=newV
 u : ∀ x∈L,InU x
 n:L.length≤opsLen M i
 up:T.map Tm.v=ma.v.U
 tm : ∀ W,Upd (fun k=>Ra k∨Rb k) wr W→Tin W AT cT T
section
variable {w0 wr w':World} {M:List Sop} {i ga gb n c cT:Nat} {A AT:Option Addr} {T:List Tm} {ma mb m':SpM} {Ra Rb:Nat→Prop} {L:List Ud}
theorem SplI.grow (h:SplI w0 wr M i ga gb n c A AT cT T ma mb Ra Rb L) (x:Ext wr w'):SplI w0 w' M i ga gb n c A AT cT T ma mb Ra Rb L :=
 ⟨h.d.grow x,h.v,h.b,h.u,h.n,h.up,fun W u=>h.tm W ((Upd.ext x).trans u)⟩
theorem SplI.next (h:SplI w0 wr M i ga gb n c A AT cT T ma mb Ra Rb L) (hi:i<M.length):SplI w0 wr M (i+1) ga gb n c A AT cT T ma mb Ra Rb L:=by
 have e:=opsLen_succ hi
 exact ⟨h.d,h.v.up (by omega),h.b,h.u,by have:=h.n;omega,h.up,h.tm⟩
theorem tm_step (h : ∀ W,Upd (fun k=>Ra k∨Rb k) wr W→Tin W AT cT T) (u:Upd Ra wr w') : ∀ W,Upd (fun k=>Rg Ra wr w' k∨Rb k) w' W→Tin W AT cT T:=fun W q =>
 h W (upd_more (u.mono fun k _ hk => .inl hk) q fun k hk e=>by
  rcases e with (e | e) | e
  ·exact .inl e
  ·have:=e.1;omega
  ·exact .inr e)
/-- nothing has come of an Insert -/
theorem SplI.keep {m1:SpM} (h:SplI w0 wr M i ga gb n c A AT cT T ma mb Ra Rb L) (u1:Upd Ra wr w') (s1:SpR w' (Rg Ra wr w') ga m1) (v1:m1.v=ma.v):SplI w0 w' M i ga gb n c A AT cT T m1 mb (Rg Ra wr w') Rb L :=
 ⟨h.d.stepA u1 s1,by rw [v1];exact h.v,h.b,h.u,h.n,by rw [v1];exact h.up,tm_step h.tm u1⟩
theorem SplI.work {z:Int} {e:Ending} (h:SplI w0 wr M i ga gb n c A AT cT T ma mb Ra Rb L) (k:SpWorkG wr Ra ga ma.v z e w') : ∃ m' r,e = .returned (.int .i64 (r:Nat))∧SplI w0 w' M i ga gb n c A AT cT T m' mb (Rg Ra wr w') Rb L:=by
 obtain ⟨m1,r,he,s,v,o,u⟩:=k
 refine ⟨m1,r,he,?_⟩
 rcases v with ⟨v,_⟩ | ⟨n,_,_,v⟩
 ·exact h.keep u s v
 ·obtain ⟨k1,k2⟩:=split_work h.v v
  exact ⟨h.d.stepA u s,k1,h.b,h.u,h.n,by rw [k2];exact h.up,tm_step h.tm u⟩
/-- a piece has been taken in -/
theorem SplI.ins {w1:World} {m1:SpM} {x:Sop} {s1':SV} (h:SplI w0 wr M i ga gb n c A AT cT T ma mb Ra Rb L) (hi:i<M.length) (hx:M.getD i Sop.zero=x) (hr : ∀ y∈x.L,UdR w0 y∧InU y) {tA:Option Addr} {tc:Nat} (hT:Tin w0 tA tc x.T) (u1:Upd Ra wr w1) (s1:SpR w1 (Rg Ra wr w1) ga m1) (v1:m1.v=s1')
  (t:SplitV s1' (L.map Ud.uv++x.L.map Ud.uv) (opsLen M i+(x.L.map Ud.uv).length+1)) (hto:x.T.map Tm.v=s1'.U) {w3:World} {A3:Option Addr} {c3 k:Nat} (hk:k=x.L.length) (o:Own w3 w0.heap.size 95 4 A3 (n+k) c3 (udsC L++udsC x.L)) (g:w1.grownBy w3 (blk A c)) (q:(A3=A∧c3=c)∨(blk A3 c3=some w1.heap.size∧Ext w1 w3)) :
  SplI w0 w3 M (i+1) ga gb (n+k) c3 A3 tA tc x.T m1 mb (Rg Ra wr w1) Rb (L++x.L):=by
 have e:=opsLen_succ hi
 rw [hx] at e
 rw [List.length_map] at t
 have d:=(h.d.stepA u1 s1).app hk (fun y hy=>(hr y hy).1) o g q
 refine ⟨d,?_,h.b,fun y hy=>(List.mem_append.1 hy).elim (h.u y) fun hy=>(hr y hy).2,by rw [List.length_append];have:=h.n;omega,by rw [v1];exact hto,fun W u=>hT.ext (ext_updS d.ext u fun k hk=>hk.elim (fun a=>(d.la k a).1) fun b=>(d.lb k b).1)⟩
 rw [v1,List.map_append,e, ← Nat.add_assoc]
 exact t
/-- the beginning -/
theorem SplI.start {w w1 w2 w3:World} (x0:Ext w0 w) (ha:SpR w1 (fun k=>w.heap.size≤k∧k<w1.heap.size) ga ma) (va:ma.v=newV) (x1:Ext w w1) (hb:SpR w2 (fun k=>w1.heap.size≤k∧k<w2.heap.size) gb mb) (vb:mb.v=newV) (x2:Ext w1 w2) (t:Tout w3 w2.heap.size AT cT T) (hT:T.map Tm.v=newV.U) (x3:Ext w2 w3) :
  SplI w0 w3 M 0 ga gb 0 0 none AT cT T ma mb (fun k=>w.heap.size≤k∧k<w1.heap.size) (fun k=>w1.heap.size≤k∧k<w2.heap.size) []:=by
 have z1:=x1.size
 have z2:=x2.size
 exact ⟨(Duo.start x0 ha x1 hb x2).grow x3,by rw [va,opsLen_zero];exact split_new,vb,fun x hx=>(nomatch hx),Nat.zero_le _,by rw [hT,va],fun W u=>(t.updB u fun k hk q=>by
  have:=(t.lt hk).1
  rcases q with q | q<;>omega).tin⟩
end
open Go.RowKit
set_option maxRecDepth 100000 in
set_option maxHeartbeats 400000 in
theorem at_any (n:Int) (w:World):Calls Tryz.prog 172 #[.int .u64 n] w fun e w'=>e = .returned (.agg #[.int .u64 n, .slice none 0 0])∧Ext w w':=by
 go_enter Tryz.func172,Tryz.ntmps172
 go_wp2
 have b1:Bk ((w.alloc (.cells #[.int .u64 n, .slice none 0 0] 26))) w.heap.size 26 #[.int .u64 n, .slice none 0 0]:=Bk.new _ _ _
 have q0:=b1.cell 0
 have q1:=b1.cell 1
 simp at q0 q1
 refine bodyPost_ret (v := .agg #[.int .u64 n, .slice none 0 0]) (by simp [results,Tryz.results172,go_sem,q0,q1]) rfl ⟨rfl,(Ext.refl w).alloc _⟩
theorem nodup_inj {α β:Type} {f:α→β} {l:List α} (nd:(l.map f).Nodup) {x y:α} (hx:x∈l) (hy:y∈l) (e:f x=f y):x=y:=by
 induction l with
 | nil=>cases hx
 | cons a l ih =>
  rw [List.map_cons] at nd
  obtain ⟨h1,h2⟩:=List.nodup_cons.1 nd
  rcases List.mem_cons.1 hx with h3 | h3<;>rcases List.mem_cons.1 hy with h4 | h4
  ·rw [h3,h4]
  ·exact absurd (List.mem_map.2 ⟨y,h4,by rw [← e,h3]⟩) h1
  ·exact absurd (List.mem_map.2 ⟨x,h3,by rw [e,h4]⟩) h1
  ·exact ih h2 h3 h4
/-- the least so far, of the handles that have been -/
structure LeastI (t:ShM) (seen:Array Nat) (n:Int):Prop where
 lo:n≤t.lets
 all : ∀ x∈t.L,seen.contains x.born=true → ∀ y∈t.H,y.g=x.g→n≤y.hold
 is:n=t.lets ∨ ∃ y∈t.H,y.ended=false∧n=y.hold
theorem LeastI.done {t:ShM} {seen:Array Nat} {n:Int} (h:LeastI t seen n) (hs : ∀ x∈t.L,seen.contains x.born=true) (lh : ∀ y∈t.H,y.ended=false → ∃ x∈t.L,x.g=y.g):n=leastV t.lets t.H:=by
 refine minL_eq h.lo (fun k hk=>?_) ?_
 ·obtain ⟨y,hy,rfl⟩:=List.mem_map.1 hk
  obtain ⟨h1,h2⟩:=List.mem_filter.1 hy
  obtain ⟨x,hx,e⟩:=lh y h1 (by simpa using h2)
  exact h.all x hx (hs x hx) y h1 e.symm
 ·rcases h.is with q | ⟨y,hy,he,q⟩
  ·exact .inl q
  ·exact .inr (by rw [q];exact List.mem_map.2 ⟨y,List.mem_filter.2 ⟨hy,by simp [he]⟩,rfl⟩)
theorem LeastI.next {t:ShM} {seen:Array Nat} {n:Int} (h:LeastI t seen n) (nd:(t.H.map Hv.g).Nodup) (nb:(t.L.map Hd.born).Nodup) {x:Hd} (hx:x∈t.L) {y:Hv} (hy:y∈t.H) (e:y.g=x.g) (he:y.ended=false):LeastI t (seen.push x.born) (min n y.hold):=by
 refine ⟨by have:=h.lo;omega,fun x2 hx2 hs y2 hy2 e2=>?_,?_⟩
 ·rw [contains_push,Bool.or_eq_true] at hs
  rcases hs with hs | hs
  ·have:=h.all x2 hx2 hs y2 hy2 e2;omega
  ·have hb:x.born=x2.born:=by have q:=(beq_iff_eq.1 hs);exact q.symm
   have exx:x=x2:=nodup_inj nb hx hx2 hb
   have eyy:y=y2:=nodup_inj nd hy hy2 (by rw [e,e2,exx])
   rw [← eyy]
   omega
 ·by_cases q:n≤y.hold
  ·rw [show min n y.hold=n by omega];exact h.is
  ·exact .inr ⟨y,hy,he,by omega⟩
set_option maxRecDepth 100000 in
set_option maxHeartbeats 8000000 in
theorem least_any (gt:Nat) (t:ShM) (R:Nat→Prop) (w:World) (h:Hid (ShR w R gt t)):Calls Tryz.prog 175 #[.pointer (some ⟨gt,0,none⟩)] w fun e w'=>e = .returned (.int .u64 (leastV t.lets t.H))∧Ext w w':=by
 obtain ⟨bm,hbm⟩ : ∃ b,t.bm=b:=⟨_,rfl⟩
 obtain ⟨lt,hlt⟩ : ∃ b,t.lets=b:=⟨_,rfl⟩
 have c1:w.cell? ⟨gt,1,none⟩=some (.int .u64 lt):=hlt ▸ h.out.bk.cell 1
 have c2:w.cell? ⟨gt,2,none⟩=some (.map (some bm)):=hbm ▸ h.out.bk.cell 2
 have HPM:Hid (PM w bm t.L t.clock):=Lib.hid (hbm ▸ h.out.pm)
 have HI0:Hid (LeastI t #[] lt):=Lib.hid ⟨by rw [hlt];exact Int.le_refl _,fun x hx hs=>by simp at hs, .inl hlt.symm⟩
 clear hbm hlt
 go_enter Tryz.func175,Tryz.ntmps175
 go_wp2_with (first
  | (at_range;refine wpList_range_pm rfl _ rfl rfl HPM.out ?_;intro w0 hr0 hx0 hs0))
 go_frame
 have HR0:=Lib.hid hr0
 have X0:=Lib.hid hx0
 clear hr0 hx0 hs0
 go_loopg [3] (leftOf (t.L.map entP).toArray #[]).size (fun z v3 wr => ∃ (seen:Array Nat) (n:Int),z=(leftOf (t.L.map entP).toArray seen).size∧v3 = .int .u64 n∧Hid (PR wr bm w.heap.size t.L t.clock seen)∧Hid (LeastI t seen n)∧Hid (Ext w wr))
 case atStart=>exact ⟨#[],lt,rfl,rfl,HR0,HI0,X0⟩
 case round =>
  clear HR0 HI0
  obtain ⟨seen,n,rfl,rfl,HR,HI,HE⟩:=hrel
  go_wp2_with (first
   | (at_next;refine wpList_next_pm rfl _ rfl rfl HR.out ?_ ?_))
  ·intro hdone
   have HD:=Lib.hid hdone
   clear hdone
   go_wp2
   go_ret
   exact ⟨by rw [HI.out.done (fun x hx=>by simpa using HD.out x hx) h.out.lh];rfl,HE.out⟩
  ·intro x w1 hx hs hr1 hg1 hz1 hen hlt
   obtain ⟨y,hy,e,he⟩:=h.out.le x hx
   have hb:=(h.out.hs y hy).1
   have HX:=Lib.hid hx
   have HY:=Lib.hid hy
   have HEQ:=Lib.hid e
   have HEN:=Lib.hid he
   have HRG:=Lib.hid hr1
   have E1:Hid (Ext w w1):=Lib.hid (HE.out.grown hg1 (fun k hk=>by injection hk with hk;omega))
   obtain ⟨xg,hxg⟩ : ∃ g,x.g=g:=⟨_,rfl⟩
   have ch:w1.cell? ⟨xg,1,none⟩=some (.int .u64 y.hold):=by have:=(hb.ext E1.out).cell 1;rw [e,hxg] at this;exact this
   rw [hxg] at hen ⊢
   clear hx hs hr1 hg1 hz1 hy e he hb hxg
   go_wp2
   go_roundg (leftOf (t.L.map entP).toArray (seen.push x.born)).size
   case measure=>exact hlt
   case rel=>exact ⟨_,min n y.hold,rfl,by go_num,HRG,Lib.hid (HI.out.next h.out.nd h.out.pm.nb HX.out HY.out HEQ.out HEN.out),E1⟩
theorem tin_one' {W:World} {g:Nat} {e:Int} (h:Sl W 2 (some ⟨g,0,none⟩) 1 1 [.int .u64 e, .slice none 0 0]):Tin W (some ⟨g,0,none⟩) 1 [⟨e,none,0,[]⟩]:=⟨h,fun x hx=>by rw [List.mem_singleton.1 hx];exact Sl.nil _ _⟩
theorem few1_at (e:Int):Few1 [⟨e,none,0,[]⟩]:=⟨by show 1≤_;decide,fun x hx=>by rw [List.mem_singleton.1 hx];exact Nat.zero_le _⟩
/-- a list of one flat time, from a call -/
theorem of_cell {w w':World} {u:Int} {e:Ending} (h:OfOut [(u,[])] w e w') : ∃ g c,e = .returned (.slice (some ⟨g,0,none⟩) 1 c)∧w'.cell? ⟨g,0,none⟩=some (.int .u64 u)∧Ext w w':=by
 obtain ⟨A,c,n,M,rfl,hn,t,hv,x⟩:=h
 have hl:M.length=1:=by have:=congrArg List.length hv;simpa using this
 match M,hl with
 | [y],_ =>
  injection hv with hv _
  have e0:y.e=u:=congrArg Prod.fst hv
  simp at hn
  subst hn
  obtain ⟨g,e1,_,_,_,hc,_⟩:=t.own.form (Nat.zero_lt_one)
  subst e1
  exact ⟨g,c,rfl,by rw [← e0];exact hc 0 _ rfl,x⟩
set_option maxRecDepth 100000 in
set_option maxHeartbeats 1000000 in
theorem most_any (gt:Nat) (t:ShM) (R:Nat→Prop) (w:World) (h:Hid (ShR w R gt t)) (ok:Hid (OkT t.v)):Calls Tryz.prog 173 #[.pointer (some ⟨gt,0,none⟩)] w fun e w'=>e = .returned (.int .u64 t.v.up)∧Ext w w':=by
 obtain ⟨u,hu⟩:=ok.out.U
 have e:t.v.up=u:=by unfold TrV.up;rw [hu];rfl
 rw [e]
 have HV:Hid (ofV t.m.v.U=[(u,[])]):=Lib.hid (by show ofV t.v.s.U=_;rw [hu,of_one])
 have HS:Hid (SpR w t.Rs t.gs t.m):=Lib.hid h.out.sp
 have HF:Hid (Few1 t.m.U):=Lib.hid (few_flat (T:=t.m.U) ok.out.ok.fu)
 obtain ⟨gs,hgs⟩ : ∃ g,t.gs=g:=⟨_,rfl⟩
 have c0:w.cell? ⟨gt,0,none⟩=some (.pointer (some ⟨gs,0,none⟩)):=hgs ▸ h.out.bk.cell 0
 rw [hgs] at HS
 clear hgs hu e
 go_enter Tryz.func173,Tryz.ntmps173
 go_wp2_with (go_at_call 50;refine (upper_any gs t.m t.Rs _ HV HS HF).mono ?_;rintro r w1 hres;obtain ⟨g,c,rfl,q0,x1⟩:=of_cell hres;have X1:=Lib.hid x1;clear hres x1)
 go_ret
 exact ⟨rfl,X1.out⟩
open Go.RowKit
/-- what a call leaves that changes a trace -/
def ShTo (w:World) (R:Nat→Prop) (gt:Nat) (v:TrV) (w':World):Prop := ∃ t',ShR w' (Rg R w w') gt t'∧t'.v=v∧Upd R w w'
theorem rg_low {R:Nat→Prop} {w w':World} (z:w.heap.size≤w'.heap.size) (h : ∀ k,R k→k<w.heap.size) : ∀ k,Rg R w w' k→k<w'.heap.size:=fun k hk=>hk.elim (fun q=>Nat.lt_of_lt_of_le (h k q) z) fun q=>q.2
theorem ShTo.stay {w w':World} {R:Nat→Prop} {gt:Nat} {t:ShM} (h:ShR w R gt t) (x:Ext w w'):ShTo w R gt t.v w':=⟨t,(h.ext x).wide (fun _ hk => .inl hk) (rg_low x.size h.low),rfl,Upd.ext x⟩
/-- the spine has changed behind new memory -/
theorem ShTo.spine {w w1 w':World} {R:Nat→Prop} {gt:Nat} {t:ShM} {m':SpM} (h:ShR w R gt t) (x:Ext w w1) (u:Upd t.Rs w1 w') (s:SpR w' (Rg t.Rs w1 w') t.gs m') {s':SV} (hv:m'.v=s'):ShTo w R gt ⟨s',t.lets,t.H⟩ w':=by
 have z:=x.size
 have z2:=u.size
 refine ⟨_,((h.ext x).spine u s).wide (fun k hk=>?_) (rg_low (Nat.le_trans z z2) h.low),by rw [← hv];rfl,(Upd.ext x).trans (u.mono fun k _ hk=>h.sub k hk)⟩
 exact hk.elim .inl fun q => .inr ⟨Nat.le_trans z q.1,q.2⟩
theorem headE_S {t:TrV} (h:OkT t) : ∃ s,t.s.S=[(s,[])]∧headE t.s.S=s:=by
 obtain ⟨s,hs⟩:=h.S
 exact ⟨s,hs,by rw [hs];rfl⟩
theorem tin_at {w W:World} {g:Nat} {n:Int} {S:Nat→Prop} (h:Sl w 2 (some ⟨g,0,none⟩) 1 1 [.int .u64 n, .slice none 0 0]) (u:Upd S w W) (hS : ¬ S g):Tin W (some ⟨g,0,none⟩) 1 [⟨n,none,0,[]⟩] :=
 tin_one' (h.upd u fun k hk=>by injection hk with hk;rw [← hk];exact hS)
set_option maxRecDepth 100000 in
set_option maxHeartbeats 4000000 in
theorem tcompact_any (gt:Nat) (t:ShM) (R:Nat→Prop) (w:World) (h:Hid (ShR w R gt t)) (ok:Hid (OkT t.v)):Calls Tryz.prog 174 #[.pointer (some ⟨gt,0,none⟩)] w fun e w'=>e = .returned (.tuple #[])∧ShTo w R gt (compactT t.v) w':=by
 obtain ⟨s,hs,he⟩:=headE_S ok.out
 have HV:Hid (ofV t.m.v.S=[(s,[])]):=Lib.hid (by show ofV t.v.s.S=_;rw [hs,of_one])
 have HF:Hid (Few1 t.m.S):=Lib.hid (few_flat (T:=t.m.S) ok.out.ok.fs)
 obtain ⟨n,hn⟩ : ∃ n,leastV t.lets t.H=n:=⟨_,rfl⟩
 have HN:Hid (t.v.least=n):=Lib.hid hn
 have HE:=Lib.hid he
 obtain ⟨gs,hgs⟩ : ∃ g,t.gs=g:=⟨_,rfl⟩
 have HGS:=Lib.hid hgs
 have HC0:Hid (∀ W,Ext w W→W.cell? ⟨gt,0,none⟩=some (.pointer (some ⟨gs,0,none⟩))):=Lib.hid (fun W x=>hgs ▸ (h.out.bk.ext x).cell 0)
 have HS:Hid (SpR w t.Rs gs t.m):=Lib.hid (hgs ▸ h.out.sp)
 have HLE:Hid (∀ W:World,Calls Tryz.prog 175 #[.pointer (some ⟨gt,0,none⟩)] w fun e w'=>e = .returned (.int .u64 n)∧Ext w w'):=Lib.hid (fun _=>hn ▸ least_any gt t R w h)
 clear hn hs he hgs
 have m1:True:=trivial
 by_cases hlt:s<n
 ·have hq:=compact_call ok.out (by rw [HE.out,HN.out];exact hlt)
  rw [HN.out] at hq
  have HQ:=Lib.hid hq
  clear hq
  go_enter Tryz.func174,Tryz.ntmps174
  go_upto_region 2 with (first
   | (go_at_call 175;have mk:=m1;clear m1 mk;refine (HLE.out w).mono ?_;rintro r w1 ⟨rfl,x1⟩;have X1:=Lib.hid x1;have c0:=HC0.out w1 x1;clear x1;have m2:True:=trivial)
   | (go_at_call 65;have mk:=m2;clear m2 mk;refine (since_any gs t.m t.Rs _ HV (Lib.hid (HS.out.ext X1.out)) HF).mono ?_;rintro r w2 hres;obtain ⟨g2,c2,rfl,q0,x2⟩:=of_cell hres;have X2:=Lib.hid (X1.out.trans x2);clear hres x2)
   | fail)
  clear q0
  have XD:Ext w2 w2.drew:=(Ext.refl w2).drew
  have Q0 : ∀ y:Xt w2.drew,y.W.cell? ⟨gt,0,none⟩=some (.pointer (some ⟨gs,0,none⟩)):=fun y=>HC0.out _ (X2.out.trans (XD.trans y.x))
  refine wp_region_ord [0,1,3,7,0,16,48,127] (.flo [0,1,2,3,4] (.ext 5 (.ext 6 (.one 7 (.fin))))) (by kernel_rfl) (by kernel_rfl) (by intro _ _ d _ _ h;cases d<;>exact h) ?_
  (refine ord_flo (pick_cons rfl (pick_cons rfl (pick_cons rfl (pick_cons rfl (pick_cons rfl pick_nil))))) ?_;(repeat (go_big_quiet_step (fail)));refine wpQuiet_nil ?_;show ordWalk _ _ _ _ _ _ _)
  refine ord_ext (pick_cons rfl pick_nil) ?_;intro K_ hK_
  go_wp2_with (go_at_call 172;refine (at_any n _).mono ?_;rintro r w3 ⟨rfl,x3⟩;have X3:=Lib.hid (X2.out.trans (XD.trans x3));have Y3:=Lib.hid x3;clear x3)
  refine ordNext.mk Y3.out ?_
  refine ord_ext (pick_cons rfl pick_nil) ?_;intro K_ hK_
  go_wp2
  refine ordNext.mk ((Ext.refl _).alloc _) ?_
  clear Q0 XD
  refine ord_one (pick_cons rfl pick_nil) ?_;intro K_ hK_
  have X4:Hid (Ext w (w3.alloc (.cells #[.int .u64 n, .slice none 0 0] 26))):=Lib.hid (X3.out.alloc _)
  have HX4:Hid (Tin (w3.alloc (.cells #[.int .u64 n, .slice none 0 0] 26)) (some ⟨w3.heap.size,0,none⟩) 1 [⟨n,none,0,[]⟩]):=Lib.hid (tin_one' (sl_alloc w3 _ _ [.int .u64 n, .slice none 0 0] 2 1 rfl rfl (by decide)))
  go_wp2_with (go_at_call 45;refine (compact_any (q:=(0,(compactT t.v).s)) gs t.m t.Rs (some ⟨w3.heap.size,0,none⟩) 1 1 [⟨n,none,0,[]⟩] _ HQ (Lib.hid (HS.out.ext X4.out)) (Lib.hid rfl) HX4 (Lib.hid (few1_at _))).mono ?_;rintro r w5 ⟨m5,rfl,s5,v5,u5⟩;have HR:Hid (ShTo w R gt (compactT t.v) w5):=Lib.hid (by have k:=ShTo.spine h.out X4.out u5 (by rw [HGS.out];exact s5) v5;exact k);clear s5 v5 u5)
  refine ord_fin ?_
  go_wp2
  go_returns
  exact ⟨rfl,HR.out⟩
 ·have hq:=compactT_stay (t:=t.v) (by rw [HE.out,HN.out];exact hlt)
  rw [hq]
  clear hq
  go_enter Tryz.func174,Tryz.ntmps174
  go_wp2_with (first
   | (go_at_call 175;have mk:=m1;clear m1 mk;refine (HLE.out w).mono ?_;rintro r w1 ⟨rfl,x1⟩;have X1:=Lib.hid x1;have c0:=HC0.out w1 x1;clear x1;have m2:True:=trivial)
   | (go_at_call 65;have mk:=m2;clear m2 mk;refine (since_any gs t.m t.Rs _ HV (Lib.hid (HS.out.ext X1.out)) HF).mono ?_;rintro r w2 hres;obtain ⟨g2,c2,rfl,q0,x2⟩:=of_cell hres;have X2:=Lib.hid (X1.out.trans x2);clear hres x2)
   | fail)
  go_returns
  exact ⟨rfl,ShTo.stay h.out X2.out⟩
end Go.Proofs.YtdgbkpoickbidaaGreatDoor
