/- Regions that draw their order, where an operation may write to blocks of a set S besides making new ones: a fixed order serves every order. Lists of updates that a call has made: the list, each row, each time's counters in a block of its own. The type of a block, the blocks of a list of updates, regions that grow. (*join.side).name: the text of a row's columns. slices.Clone, IndexFunc, ContainsFunc at ints. join.New. A side of a join in memory: its columns, its map from names to lists of updates, the rest. A region within a round of a range over a function, walked by the words for plain regions. Conditions: each theorem states its own. -/
import Derived.Test.YtdgbkpoickbidaaHz2
import Derived.Test.YtdgbkpoickbidaaHz1
import Derived.Test.YtdgbkpoickbidaaHz3
import Derived.Deep.LoopGhost
import Derived.Lib.AppendStr
import Derived.Shelf.Abstract
import Derived.Maps.OwnSet
import Derived.Maps.RangeWalk
import Derived.RangeFuncNested
import Derived.RangeFuncLeaves
import Derived.RangeFuncCalls
import Derived.ControlIn
import Derived.OrdersIn
import Derived.TacticsIn
namespace Go.Proofs.Ytdgbkpoickbidaa
open Go.RowKit

/-- the worlds that have come of w by writes to S, and by new memory -/
structure Yt (S:Nat→Prop) (w:World) where
 W:World
 x:Upd S w W
instance Yt.any (S:Nat→Prop) (w:World):Nonempty (Yt S w):=⟨⟨w,Upd.refl S w⟩⟩
section
variable {P:Program} {ops:Array Oper} {Q:Exit→Act→World→Prop} {bs:Array Nat} {S:Nat→Prop}
/-- whatever order is picked from here on, and operations of the set X at most make new memory -/
def wpXU (S:Nat→Prop) (P:Program) (ops:Array Oper) (Q:Exit→Act→World→Prop) (X:Nat→Bool):Nat→Array Bool→Act→World→Prop
 | 0,listed,a,w=>Region.ready .any ops listed=[]∧Q .normal a w
 | fuel+1,listed,a,w =>
  (Region.ready .any ops listed=[]→Q .normal a w) ∧
  ∀ i∈Region.ready .any ops listed,wpOp P ops Q i (fun a' w'=>(X i=true→Upd S w w')∧wpXU S P ops Q X fuel (listed.setIfInBounds i true) a' w') a w

theorem wpAny_of_XU {X:Nat→Bool} : ∀ (fuel:Nat) (listed:Array Bool) (a:Act) (w:World),wpXU S P ops Q X fuel listed a w→wpAny P .any ops Q fuel listed a w
 | 0,_,_,_,h=>h
 | fuel+1,_,_,_,h=>⟨h.1,fun i hi=>wpOp_mono (fun a' w' h'=>wpAny_of_XU fuel _ a' w' h'.2) (h.2 i hi)⟩

theorem wpX_doneU {X:Nat→Bool} {listed:Array Bool} {a:Act} {w:World} (hr:Region.ready .any ops listed=[]) (h:Q .normal a w) : ∀ fuel,wpXU S P ops Q X fuel listed a w
 | 0=>⟨hr,h⟩
 | _+1=>⟨fun _=>h,by rw [hr];simp⟩

theorem yields_laterU {o:Oper} {v:Value} {a:Act} {w w':World} (h:YieldsIf P ops (Upd S w) o v a) (x:Upd S w w'):YieldsIf P ops (Upd S w') o v a :=
 h.imp (fun ⟨h1,h2⟩=>⟨h1,fun u hu=>h2 u (x.trans hu)⟩) id

theorem wpX_firstU {X:Nat→Bool} (hok:ancOkB ops bs=true) {i:Nat} {oi:Oper} {v:Value} (hi:ops[i]?=some oi) (hsel : ∀ (j:Nat) (o:Oper) cs b,ops[j]?=some o→o.op ≠ .select cs b)
  (hQ : ∀ c a d v w,Q (.panic c) (a.put d v) w→Q (.panic c) a w) :
  ∀ (fuel:Nat) (listed:Array Bool) (a:Act) (w:World),Closed ops bs listed →
   (∀ j oj,ops[j]?=some oj→j≠i→listed.getD j true=false→ancB ops bs i j=false→oi.apart ops oj=true∧X j=true) →
   i∈Region.ready .any ops listed→YieldsIf P ops (Upd S w) oi v a →
   wpXU S P ops Q X fuel (listed.setIfInBounds i true) (a.put oi.dst v) w→wpXU S P ops Q X (fuel+1) listed a w:=by
 intro fuel
 induction fuel with
 | zero =>
  intro listed a w hcl _ hr hy H
  refine ⟨fun h=>(by rw [h] at hr;cases hr),fun j hj=>?_⟩
  by_cases hji:j=i
  ·subst hji;exact hy.wpOp hi (Upd.refl S w) ⟨fun _=>Upd.refl S w,H⟩
  ·have:=ready_mono hj hji
   rw [H.1] at this
   cases this
 | succ fuel ih =>
  intro listed a w hcl hfree hr hy H
  refine ⟨fun h=>(by rw [h] at hr;cases hr),fun j hj=>?_⟩
  by_cases hji:j=i
  ·subst hji;exact hy.wpOp hi (Upd.refl S w) ⟨fun _=>Upd.refl S w,H⟩
  ·have h1:=H.2 j (ready_mono hj hji)
   obtain ⟨hjun,oj,hoj,hall⟩:=mem_ready.1 hj
   have hiun:=(mem_ready.1 hr).1
   have hnot:ancB ops bs i j=false:=by
    cases hb:ancB ops bs i j with
    | false=>rfl
    | true =>
     have h2:=ready_anc hok hcl hj hb
     rcases Nat.lt_or_ge i listed.size with h' | h'
     ·simp [h'] at h2 hiun;rw [hiun] at h2;cases h2
     ·simp [Array.getElem?_eq_none h'] at h2
   obtain ⟨hap,hX⟩:=hfree j oj hoj hji hjun hnot
   have h2:=wpOp_putIf hoj hap (fun cs b=>hsel i oi cs b hi) (fun cs b=>hsel j oj cs b hoj) (fun c a w=>hQ c a _ _ w) hy h1
   have hfree' : ∀ k ok,ops[k]?=some ok→k≠i→(listed.setIfInBounds j true).getD k true=false→ancB ops bs i k=false→oi.apart ops ok=true∧X k=true:=fun k ok hk hki hun hno=>by
    refine hfree k ok hk hki ?_ hno
    by_cases hjk:j=k
    ·subst hjk;exact hjun
    ·rw [getD_set_ne true hjk] at hun;exact hun
   refine wpOp_mono (fun a' w' h3=>⟨h3.2.1,ih (listed.setIfInBounds j true) a' w' (hcl.add hok hj) hfree' (ready_mono hr (Ne.symm hji)) (yields_laterU h3.1 (h3.2.1 hX)) ?_⟩) h2
   rw [Array.setIfInBounds_comm _ _ hji]
   exact h3.2.2

theorem wpX_first_pureU {X:Nat→Bool} (hok:ancOkB ops bs=true) {i:Nat} {oi:Oper} {v:Value} (hi:ops[i]?=some oi) (hsel : ∀ (j:Nat) (o:Oper) cs b,ops[j]?=some o→o.op ≠ .select cs b)
  (hQ : ∀ c a d v w,Q (.panic c) (a.put d v) w→Q (.panic c) a w) :
  ∀ (fuel:Nat) (listed:Array Bool) (a:Act) (w:World),Closed ops bs listed →
   (∀ j oj,ops[j]?=some oj→j≠i→listed.getD j true=false→ancB ops bs i j=false→oi.apart ops oj=true) →
   i∈Region.ready .any ops listed→YieldsIf P ops (fun _=>True) oi v a →
   wpXU S P ops Q X fuel (listed.setIfInBounds i true) (a.put oi.dst v) w→wpXU S P ops Q X (fuel+1) listed a w:=by
 intro fuel
 induction fuel with
 | zero =>
  intro listed a w hcl _ hr hy H
  refine ⟨fun h=>(by rw [h] at hr;cases hr),fun j hj=>?_⟩
  by_cases hji:j=i
  ·subst hji;exact hy.wpOp hi trivial ⟨fun _=>Upd.refl S w,H⟩
  ·have:=ready_mono hj hji
   rw [H.1] at this
   cases this
 | succ fuel ih =>
  intro listed a w hcl hfree hr hy H
  refine ⟨fun h=>(by rw [h] at hr;cases hr),fun j hj=>?_⟩
  by_cases hji:j=i
  ·subst hji;exact hy.wpOp hi trivial ⟨fun _=>Upd.refl S w,H⟩
  ·have h1:=H.2 j (ready_mono hj hji)
   obtain ⟨hjun,oj,hoj,hall⟩:=mem_ready.1 hj
   have hiun:=(mem_ready.1 hr).1
   have hnot:ancB ops bs i j=false:=by
    cases hb:ancB ops bs i j with
    | false=>rfl
    | true =>
     have h2:=ready_anc hok hcl hj hb
     rcases Nat.lt_or_ge i listed.size with h' | h'
     ·simp [h'] at h2 hiun;rw [hiun] at h2;cases h2
     ·simp [Array.getElem?_eq_none h'] at h2
   have hap:=hfree j oj hoj hji hjun hnot
   have h2:=wpOp_putIf hoj hap (fun cs b=>hsel i oi cs b hi) (fun cs b=>hsel j oj cs b hoj) (fun c a w=>hQ c a _ _ w) hy h1
   have hfree' : ∀ k ok,ops[k]?=some ok→k≠i→(listed.setIfInBounds j true).getD k true=false→ancB ops bs i k=false→oi.apart ops ok=true:=fun k ok hk hki hun hno=>by
    refine hfree k ok hk hki ?_ hno
    by_cases hjk:j=k
    ·subst hjk;exact hjun
    ·rw [getD_set_ne true hjk] at hun;exact hun
   refine wpOp_mono (fun a' w' h3=>⟨h3.2.1,ih (listed.setIfInBounds j true) a' w' (hcl.add hok hj) hfree' (ready_mono hr (Ne.symm hji)) h3.1 ?_⟩) h2
   rw [Array.setIfInBounds_comm _ _ hji]
   exact h3.2.2

/-! #### the walk in the fixed order: 'flo': operations that only read; 'ext': one that may make new memory; 'one': one that is alone; 'both': either of two comes up -/
/-- b: the world of which the facts at hand speak; what is at hand has grown out of it -/
def ordWalkU (S:Nat→Prop) (P:Program) (ops:Array Oper) (Q:Exit→Act→World→Prop):Plan→World→Act→World→Prop
 | .fin,_,a,w=>Q .normal a w
 | .flo l r,b,a,w=>wpQuiet P ops (fun w' => ∃ y:Yt S b,w'=y.W) (fun a'=>ordWalkU S P ops Q r b a' w) (pickOps ops l) a
 | .pur l r,b,a,w=>wpQuiet P ops (fun _=>True) (fun a'=>ordWalkU S P ops Q r b a' w) (pickOps ops l) a
 | .ext i r,b,a,w=>wpList P ops (Exit.then (fun a' w'=>Upd S w w'∧ordWalkU S P ops Q r b a' w') Q) (pickOps ops [i]) a w
 | .one i r,_,a,w=>wpList P ops (Exit.then (fun a' w'=>ordWalkU S P ops Q r w' a' w') Q) (pickOps ops [i]) a w
 | .both i j r q,b,a,w=>wpList P ops (Exit.then (fun a' w'=>Upd S w w'∧ordWalkU S P ops Q r b a' w') Q) (pickOps ops [i]) a w∧wpList P ops (Exit.then (fun a' w'=>Upd S w w'∧ordWalkU S P ops Q q b a' w') Q) (pickOps ops [j]) a w

theorem quiet_yieldsU {o:Oper} {a:Act} {w:World} {K:Act→Prop} (ho:isFlo o.op=true) (h:o.quiet P a (fun w' => ∃ y:Yt S w,w'=y.W) K) :
  ∃ v,(∀ u,Upd S w u→(execOp a.eval o).run P u = .ok (.value v) u)∧K (a.put o.dst v):=by
 obtain ⟨v,h1,h2⟩:=h
 refine ⟨v,fun u hu=>?_,h2⟩
 have h3:=h1 u ⟨⟨u,hu⟩,rfl⟩
 unfold Oper.quietAt at h3
 cases hr:(execOp a.eval o).run P u with
 | ok n u' =>
  rw [hr] at h3
  obtain ⟨x,rfl⟩:=flo_value ho hr
  obtain ⟨e1,e2⟩:=h3
  rw [e1,e2]
 | halt x u'=>rw [hr] at h3;exact h3.elim

theorem X_of_ordU (hok:ancOkB ops bs=true) (hsel:Region.noSelect ops=true) (hQ : ∀ c a d v w,Q (.panic c) (a.put d v) w→Q (.panic c) a w) (es:List Nat) :
  ∀ (p:Plan) (b:World) (listed:Array Bool) (a:Act) (w:World) (fuel:Nat),Upd S b w→total p≤fuel→Closed ops bs listed→ordB ops bs es p listed=true→ordWalkU S P ops Q p b a w →
   wpXU S P ops Q (inX ops es) fuel listed a w:=by
 intro p
 induction p with
 | fin =>
  intro b listed a w fuel _ _ _ hB h
  exact wpX_doneU (by simpa [ordB] using hB) h fuel
 | flo l r ih =>
  induction l with
  | nil =>
   intro b listed a w fuel hx hf hc hB h
   refine ih b listed a w fuel hx (by simpa [total] using hf) hc (by simpa [ordB,flosB,listAll] using hB) ?_
   simpa [ordWalkU,pickOps,wpQuiet] using h
  | cons i l ihl =>
   intro b listed a w fuel hx hf hc hB h
   simp only [ordB,flosB,listAll,Bool.and_eq_true] at hB
   obtain ⟨⟨hi,hl⟩,hr⟩:=hB
   cases ho:ops[i]? with
   | none=>simp [floB,ho] at hi
   | some oi =>
    simp only [floB,ho,Bool.and_eq_true] at hi
    obtain ⟨⟨hflo,hrd⟩,hfr⟩:=hi
    have hrd':i∈Region.ready .any ops listed:=by simpa using hrd
    obtain ⟨fuel,rfl⟩ : ∃ f,fuel=f+1:=⟨fuel - 1,by simp [total] at hf;omega⟩
    have hfree : ∀ j oj,ops[j]?=some oj→j≠i→listed.getD j true=false→ancB ops bs i j=false→oi.apart ops oj=true∧inX ops es j=true:=by
     intro j oj hj hne hun hno
     have:=List.all_eq_true.1 hfr j (List.mem_range.2 (Array.getElem?_eq_some_iff.1 hj).1)
     simpa [hne,hun,hno,hj] using this
    have hp:pickOps ops (i :: l)=oi :: pickOps ops l:=by simp [pickOps,ho]
    simp only [ordWalkU,hp] at h
    unfold wpQuiet at h
    have go : ∀ v,YieldsIf P ops (Upd S w) oi v a→wpQuiet P ops (fun w' => ∃ y:Yt S b,w'=y.W) (fun a'=>ordWalkU S P ops Q r b a' w) (pickOps ops l) (a.put oi.dst v)→wpXU S P ops Q (inX ops es) (fuel+1) listed a w:=by
     intro v hy hk
     refine wpX_firstU hok ho (Region.noSelect_spec hsel) hQ fuel listed a w hc hfree hrd' hy ?_
     refine ihl b (listed.setIfInBounds i true) (a.put oi.dst v) w fuel hx (by simp [total] at hf ⊢;omega) (hc.add hok hrd') ?_ ?_
     ·simp only [ordB,Bool.and_eq_true];exact ⟨hl,hr⟩
     ·simpa only [ordWalkU] using hk
    split at h
    ·rename_i hw
     obtain ⟨v,hv,hk⟩:=quiet_yieldsU hflo h
     exact go v (.inl ⟨hw,fun u hu=>hv u (hx.trans hu)⟩) hk
    ·rename_i hw
     exact go undef (.inr ⟨by simpa using hw,rfl⟩) h
 | pur l r ih =>
  induction l with
  | nil =>
   intro b listed a w fuel hx hf hc hB h
   refine ih b listed a w fuel hx (by simpa [total] using hf) hc (by simpa [ordB,pursB,listAll] using hB) ?_
   simpa [ordWalkU,pickOps,wpQuiet] using h
  | cons i l ihl =>
   intro b listed a w fuel hx hf hc hB h
   simp only [ordB,pursB,listAll,Bool.and_eq_true] at hB
   obtain ⟨⟨hi,hl⟩,hr⟩:=hB
   cases ho:ops[i]? with
   | none=>simp [purB,ho] at hi
   | some oi =>
    simp only [purB,ho,Bool.and_eq_true] at hi
    obtain ⟨⟨hflo,hrd⟩,hfr⟩:=hi
    have hrd':i∈Region.ready .any ops listed:=by simpa using hrd
    obtain ⟨fuel,rfl⟩ : ∃ f,fuel=f+1:=⟨fuel - 1,by simp [total] at hf;omega⟩
    have hfree : ∀ j oj,ops[j]?=some oj→j≠i→listed.getD j true=false→ancB ops bs i j=false→oi.apart ops oj=true:=by
     intro j oj hj hne hun hno
     have:=List.all_eq_true.1 hfr j (List.mem_range.2 (Array.getElem?_eq_some_iff.1 hj).1)
     simpa [hne,hun,hno,hj] using this
    have hp:pickOps ops (i :: l)=oi :: pickOps ops l:=by simp [pickOps,ho]
    simp only [ordWalkU,hp] at h
    unfold wpQuiet at h
    have go : ∀ v,YieldsIf P ops (fun _=>True) oi v a→wpQuiet P ops (fun _=>True) (fun a'=>ordWalkU S P ops Q r b a' w) (pickOps ops l) (a.put oi.dst v)→wpXU S P ops Q (inX ops es) (fuel+1) listed a w:=by
     intro v hy hk
     refine wpX_first_pureU hok ho (Region.noSelect_spec hsel) hQ fuel listed a w hc hfree hrd' hy ?_
     refine ihl b (listed.setIfInBounds i true) (a.put oi.dst v) w fuel hx (by simp [total] at hf ⊢;omega) (hc.add hok hrd') ?_ ?_
     ·simp only [ordB,Bool.and_eq_true];exact ⟨hl,hr⟩
     ·simpa only [ordWalkU] using hk
    split at h
    ·rename_i hw
     obtain ⟨v,hv,hk⟩:=quiet_yields_pure hflo h
     exact go v (.inl ⟨hw,fun u _=>hv u⟩) hk
    ·rename_i hw
     exact go undef (.inr ⟨by simpa using hw,rfl⟩) h
 | ext i r ih =>
  intro b listed a w fuel hx hf hc hB h
  simp only [ordB,Bool.and_eq_true] at hB
  obtain ⟨hr,hr2⟩:=hB
  have hr':Region.ready .any ops listed=[i]:=by simpa using hr
  have hmem:i∈Region.ready .any ops listed:=by rw [hr'];simp
  obtain ⟨_,o,ho,_⟩:=mem_ready.1 hmem
  obtain ⟨fuel,rfl⟩ : ∃ f,fuel=f+1:=⟨fuel - 1,by simp [total] at hf;omega⟩
  refine ⟨fun h0=>(by rw [hr'] at h0;cases h0),fun j hj=>?_⟩
  rw [hr'] at hj
  obtain rfl:j=i:=by simpa using hj
  exact wpOp_mono (fun a' w' hh=>⟨fun _=>hh.1,ih b _ a' w' fuel (hx.trans hh.1) (by simp [total] at hf ⊢;omega) (hc.add hok hmem) hr2 hh.2⟩) (one_step ho h)
 | one i r ih =>
  intro b listed a w fuel hx hf hc hB h
  simp only [ordB,Bool.and_eq_true] at hB
  obtain ⟨⟨hr,hk⟩,hr2⟩:=hB
  have hr':Region.ready .any ops listed=[i]:=by simpa using hr
  have hmem:i∈Region.ready .any ops listed:=by rw [hr'];simp
  obtain ⟨_,o,ho,_⟩:=mem_ready.1 hmem
  obtain ⟨fuel,rfl⟩ : ∃ f,fuel=f+1:=⟨fuel - 1,by simp [total] at hf;omega⟩
  refine ⟨fun h0=>(by rw [hr'] at h0;cases h0),fun j hj=>?_⟩
  rw [hr'] at hj
  obtain rfl:j=i:=by simpa using hj
  have hnx:inX ops es j=false:=by simpa using hk
  exact wpOp_mono (fun a' w' hh=>⟨fun hX=>(by rw [hnx] at hX;cases hX),ih w' _ a' w' fuel (Upd.refl S w') (by simp [total] at hf ⊢;omega) (hc.add hok hmem) hr2 hh⟩) (one_step ho h)
 | both i j r q ihr ihq =>
  intro b listed a w fuel hx hf hc hB h
  simp only [ordB,Bool.and_eq_true] at hB
  obtain ⟨⟨hr,hr2⟩,hq2⟩:=hB
  have hr':Region.ready .any ops listed=[i,j]:=by simpa using hr
  obtain ⟨fuel,rfl⟩ : ∃ f,fuel=f+1:=⟨fuel - 1,by simp [total] at hf;omega⟩
  have mi:i∈Region.ready .any ops listed:=by rw [hr'];simp
  have mj:j∈Region.ready .any ops listed:=by rw [hr'];simp
  refine ⟨fun h0=>(by rw [hr'] at h0;cases h0),fun k hk=>?_⟩
  rw [hr'] at hk
  rcases List.mem_cons.1 hk with rfl | hk
  ·obtain ⟨_,o,ho,_⟩:=mem_ready.1 mi
   exact wpOp_mono (fun a' w' hh=>⟨fun _=>hh.1,ihr b _ a' w' fuel (hx.trans hh.1) (by simp [total] at hf ⊢;omega) (hc.add hok mi) hr2 hh.2⟩) (one_step ho h.1)
  ·obtain rfl:k=j:=by simpa using hk
   obtain ⟨_,o,ho,_⟩:=mem_ready.1 mj
   exact wpOp_mono (fun a' w' hh=>⟨fun _=>hh.1,ihq b _ a' w' fuel (hx.trans hh.1) (by simp [total] at hf ⊢;omega) (hc.add hok mj) hq2 hh.2⟩) (one_step ho h.2)

/-- A REGION THAT DRAWS ITS ORDER, WALKED IN ONE ORDER. 'bs': of each operation those that come ahead of it in every order, as bits. -/
theorem wp_region_ordU {id:Nat} {a:Act} {w:World} {l:List Oper} (bs:List Nat) (p:Plan) (hm:P.follows .mixedOrders=true)
  (hB:(ancOkB l.toArray bs.toArray&&Region.noSelect l.toArray&&ordB l.toArray bs.toArray (extIdx p) p (Array.replicate l.toArray.size false)&&decide (total p≤l.toArray.size))=true)
  (hQ : ∀ c a d v w,Q (.panic c) (a.put d v) w→Q (.panic c) a w)
  (h:ordWalkU S P l.toArray Q p w.drew a w.drew):(Code.region id l.toArray true).wp P Q a w:=by
 simp only [Bool.and_eq_true,decide_eq_true_eq] at hB
 obtain ⟨⟨⟨h1,h2⟩,h3⟩,h4⟩:=hB
 refine wp_region_any hm (wpAny_of_XU _ _ _ _ (X_of_ordU h1 h2 hQ _ p w.drew _ a w.drew _ (Upd.refl S _) h4 ?_ h3 h))
 intro j hj
 exfalso
 rcases Nat.lt_or_ge j l.toArray.size with h' | h'
 ·simp [Array.getD] at hj
 ·simp [Array.getD] at hj

/-- the steps of such a walk -/
def ordNextU (S:Nat→Prop) (P:Program) (ops:Array Oper) (Q:Exit→Act→World→Prop) (r:Plan) (b w:World) (a':Act) (w':World):Prop:=Upd S w w'∧ordWalkU S P ops Q r b a' w'
theorem ordNextU.mk {r:Plan} {b w w':World} {a:Act} (x:Upd S w w') (h:ordWalkU S P ops Q r b a w'):ordNextU S P ops Q r b w a w':=⟨x,h⟩
theorem ord_floU {l:List Nat} {r:Plan} {a:Act} {b w:World} {ol:List Oper} (hp:pickOps ops l=ol)
  (h:wpQuiet P ops (fun w' => ∃ y:Yt S b,w'=y.W) (fun a'=>ordWalkU S P ops Q r b a' w) ol a):ordWalkU S P ops Q (.flo l r) b a w:=by
 subst hp;exact h
theorem ord_extU {i:Nat} {r:Plan} {a:Act} {b w:World} {o:Oper} (hp:pickOps ops [i]=[o])
  (h : ∀ K:Act→World→Prop,(∀ a' w',ordNextU S P ops Q r b w a' w'→K a' w')→wpList P ops (Exit.then K Q) [o] a w):ordWalkU S P ops Q (.ext i r) b a w:=by
 show wpList P ops _ (pickOps ops [i]) a w
 rw [hp];exact h _ fun _ _ h=>h
theorem ord_oneU {i:Nat} {r:Plan} {a:Act} {b w:World} {o:Oper} (hp:pickOps ops [i]=[o])
  (h : ∀ K:Act→World→Prop,(∀ a' w',ordWalkU S P ops Q r w' a' w'→K a' w')→wpList P ops (Exit.then K Q) [o] a w):ordWalkU S P ops Q (.one i r) b a w:=by
 show wpList P ops _ (pickOps ops [i]) a w
 rw [hp];exact h _ fun _ _ h=>h
theorem ord_finU {a:Act} {b w:World} (h:Q .normal a w):ordWalkU S P ops Q .fin b a w:=h
end
open Go.RowKit
/-- less room -/
theorem Own.clip {w:World} {B s n c k:Nat} {e:TypeId} {A:Option Addr} {xs:List Value} (h:Own w B e s A n c xs) (h1:n≤k) (h2:k≤c):Own w B e s A n k xs:=by
 refine ⟨h.1,?_⟩
 rcases h.2 with ⟨e1,e2⟩ | ⟨g,cur,rfl,hb,hg,hnc,hcm,hcs,ht⟩
 ·exact .inl ⟨by omega,e2⟩
 ·exact .inr ⟨g,cur,rfl,hb,hg,h1,Nat.le_trans h2 hcm,Nat.le_trans (Nat.mul_le_mul_right _ h2) hcs,ht⟩
/-- lists of different things lie in different blocks -/
theorem own_types {w:World} {B B' s s' n n' c c':Nat} {e e':TypeId} {A A':Option Addr} {xs ys:List Value} (h:Own w B e s A n c xs) (k:Own w B' e' s' A' n' c' ys) (he:e≠e') {q:Nat} (h1:blk A c=some q):blk A' c'≠some q:=by
 intro h2
 rcases h.2 with ⟨rfl,_⟩ | ⟨g,cur,rfl,_,hg,_⟩
 ·rw [blk_zero] at h1;cases h1
 ·rcases k.2 with ⟨rfl,_⟩ | ⟨g',cur',rfl,_,hg',_⟩
  ·rw [blk_zero] at h2;cases h2
  ·cases c with
   | zero=>cases h1
   | succ c =>
    cases c' with
    | zero=>cases h2
    | succ c' =>
     injection h1 with h1
     injection h2 with h2
     simp only at h1 h2
     subst h1 h2
     rw [hg] at hg'
     injection hg' with q
     injection q with _ q
     exact he q
structure Uout (w:World) (B:Nat) (A:Option Addr) (c:Nat) (L:List Ud):Prop where
 own:Own w B 51 4 A L.length c (udsC L)
 rw : ∀ x∈L,Own w B 55 4 x.A x.l.length x.c (rowC x.l)
 ts : ∀ x∈L,Own w B 103 1 x.t.A x.t.l.length x.t.c (wds x.t.l)
 ra:L.Pairwise fun x y => ∀ k,blk x.A x.c=some k→blk y.A y.c≠some k
 ta:L.Pairwise fun x y => ∀ k,blk x.t.A x.t.c=some k→blk y.t.A y.t.c≠some k
theorem udtype_dat:(55:TypeId)≠51:=by decide
theorem udtype_word:(103:TypeId)≠51:=by decide
section
variable {w w':World} {B c:Nat} {A:Option Addr} {L M:List Ud}
theorem Uout.ext (h:Uout w B A c L) (x:Ext w w'):Uout w' B A c L:=⟨h.own.ext x,fun y hy=>(h.rw y hy).ext x,fun y hy=>(h.ts y hy).ext x,h.ra,h.ta⟩
theorem Uout.mono (h:Uout w B A c L) {B':Nat} (hb:B'≤B):Uout w B' A c L:=⟨h.own.mono hb,fun y hy=>(h.rw y hy).mono hb,fun y hy=>(h.ts y hy).mono hb,h.ra,h.ta⟩
theorem Uout.uin (h:Uout w B A c L):Uin w A c L:=⟨h.own.sl,fun x hx=>⟨(h.rw x hx).sl,(h.ts x hx).sl⟩⟩
theorem Uout.nil (w:World) (B:Nat):Uout w B none 0 []:=⟨Own.nil _ _ _ _,fun x hx=>(nomatch hx),fun x hx=>(nomatch hx),List.Pairwise.nil,List.Pairwise.nil⟩
theorem Uout.clip (h:Uout w B A c L):Uout w B A L.length L:=⟨h.own.clip (Nat.le_refl _) h.own.le.1,h.rw,h.ts,h.ra,h.ta⟩
theorem Uout.upd {S:Nat→Prop} (h:Uout w B A c L) (x:Upd S w w') (hn : ∀ k,B≤k→k<w.heap.size → ¬ S k):Uout w' B A c L :=
 ⟨h.own.upd x (fun k hk=>hn k (h.own.lt k hk).1 (h.own.lt k hk).2),fun y hy=>(h.rw y hy).upd x (fun k hk=>hn k ((h.rw y hy).lt k hk).1 ((h.rw y hy).lt k hk).2),fun y hy=>(h.ts y hy).upd x (fun k hk=>hn k ((h.ts y hy).lt k hk).1 ((h.ts y hy).lt k hk).2),h.ra,h.ta⟩
/-- an update with a row and counters of its own is put behind the others -/
theorem Uout.push {w2 w3:World} {A3:Option Addr} {c3:Nat} (h:Uout w B A c M) (e2:Ext w w2) {x:Ud} (orr:Own w2 w.heap.size 55 4 x.A x.l.length x.c (rowC x.l)) (ot:Own w2 w.heap.size 103 1 x.t.A x.t.l.length x.t.c (wds x.t.l)) (hB:B≤w.heap.size) (ob:Obj)
  (o3:Own w3 B 51 4 A3 (M.length+1) c3 (udsC M++udC x)) (g3:(w2.alloc ob).grownBy w3 (blk A c)):Uout w3 B A3 c3 (M++[x]):=by
 have kept : ∀ {k0 s:Nat} {e:TypeId} {A':Option Addr} {n' c':Nat} {xs:List Value},e≠51→Own w2 k0 e s A' n' c' xs→Own w3 k0 e s A' n' c' xs:=fun {k0 s e A' n' c' xs} he o=>(o.alloc ob).kept g3 (by
  cases hb:blk A' c' with
  | none=>exact .inl rfl
  | some k=>exact .inr (fun q=>own_types o (h.own.ext e2) he hb q.symm))
 refine ⟨by rw [udsC_append,List.length_append];show Own w3 B _ 4 A3 (M.length+1) c3 (udsC M++udsC [x]);rw [show udsC [x]=udC x by simp [udsC]];exact o3,fun y hy=>?_,fun y hy=>?_,?_,?_⟩
 ·rcases List.mem_append.1 hy with hy | hy
  ·exact kept udtype_dat ((h.rw y hy).ext e2)
  ·rw [List.mem_singleton] at hy;subst hy;exact (kept udtype_dat orr).mono hB
 ·rcases List.mem_append.1 hy with hy | hy
  ·exact kept udtype_word ((h.ts y hy).ext e2)
  ·rw [List.mem_singleton] at hy;subst hy;exact (kept udtype_word ot).mono hB
 ·refine List.pairwise_append.2 ⟨h.ra,List.pairwise_singleton _ _,fun y hy z hz k h1 h2=>?_⟩
  rw [List.mem_singleton] at hz
  subst hz
  have:=((h.rw y hy).lt k h1).2
  have:=(orr.lt k h2).1
  omega
 ·refine List.pairwise_append.2 ⟨h.ta,List.pairwise_singleton _ _,fun y hy z hz k h1 h2=>?_⟩
  rw [List.mem_singleton] at hz
  subst hz
  have:=((h.ts y hy).lt k h1).2
  have:=(ot.lt k h2).1
  omega
/-- the last one's difference is stored -/
theorem Uout.bump {g:Nat} {y:Ud} (h:Uout w B (some ⟨g,0,none⟩) c (M++[y])) (s:Int):Uout (w.setCell ⟨g,M.length * 4+3,none⟩ (.int .i64 s)) B (some ⟨g,0,none⟩) c (M++[⟨y.A,y.c,y.l,y.t,s⟩]):=by
 have hc:0<c:=by have:=h.own.le.1;rw [List.length_append] at this;exact Nat.lt_of_lt_of_le (by simp) this
 obtain ⟨c,rfl⟩ : ∃ k,c=k+1:=⟨c - 1,by omega⟩
 have far : ∀ {k0 s':Nat} {e:TypeId} {A':Option Addr} {n' c':Nat} {xs:List Value},e≠51→Own w k0 e s' A' n' c' xs→Own (w.setCell ⟨g,M.length * 4+3,none⟩ (.int .i64 s)) k0 e s' A' n' c' xs:=fun he o=>o.far (p:=⟨g,M.length * 4+3,none⟩) (fun q=>own_types o h.own he q rfl) _
 have pick : ∀ z∈M++[(⟨y.A,y.c,y.l,y.t,s⟩:Ud)], ∃ x∈M++[y],x.A=z.A∧x.c=z.c∧x.l=z.l∧x.t=z.t:=fun z hz=>by
  rcases List.mem_append.1 hz with hz | hz
  ·exact ⟨z,List.mem_append_left _ hz,rfl,rfl,rfl,rfl⟩
  ·rw [List.mem_singleton] at hz;subst hz;exact ⟨y,by simp,rfl,rfl,rfl,rfl⟩
 refine ⟨?_,fun z hz=>?_,fun z hz=>?_,?_,?_⟩
 ·have:=h.own.put (M.length * 4+3) (.int .i64 s)
  have e:(udsC (M++[y])).set (M.length * 4+3) (.int .i64 s)=udsC (M++[(⟨y.A,y.c,y.l,y.t,s⟩:Ud)]):=by
   rw [udsC_append,udsC_append,List.set_append_right _ _ (by rw [udsC_len];omega),udsC_len,Nat.add_sub_cancel_left]
   rfl
  rw [e] at this
  rw [List.length_append] at this ⊢
  exact this
 ·obtain ⟨x,hx,e1,e2,e3,e4⟩:=pick z hz
  have:=far udtype_dat (h.rw x hx)
  rwa [e1,e2,e3] at this
 ·obtain ⟨x,hx,e1,e2,e3,e4⟩:=pick z hz
  have:=far udtype_word (h.ts x hx)
  rwa [e4] at this
 ·have:=List.pairwise_append.1 h.ra
  exact List.pairwise_append.2 ⟨this.1,List.pairwise_singleton _ _,fun a ha b hb=>by rw [List.mem_singleton] at hb;subst hb;exact this.2.2 a ha y (by simp)⟩
 ·have:=List.pairwise_append.1 h.ta
  exact List.pairwise_append.2 ⟨this.1,List.pairwise_singleton _ _,fun a ha b hb=>by rw [List.mem_singleton] at hb;subst hb;exact this.2.2 a ha y (by simp)⟩
/-- some have been deleted -/
theorem Uout.del {g:Nat} (h:Uout w B (some ⟨g,0,none⟩) c M) (p:Ud→Bool) (ar:UdS.Arr w' B g c (M.filter p)) (up:w.grownBy w' (some g)):Uout w' B (some ⟨g,0,none⟩) c (M.filter p):=by
 have hc:=ar.2
 obtain ⟨c,rfl⟩ : ∃ k,c=k+1:=⟨c - 1,by omega⟩
 have kept : ∀ {k0 s:Nat} {e:TypeId} {A':Option Addr} {n' c':Nat} {xs:List Value},e≠51→Own w k0 e s A' n' c' xs→Own w' k0 e s A' n' c' xs:=fun {k0 s e A' n' c' xs} he o=>o.kept up (by
  cases hb:blk A' c' with
  | none=>exact .inl rfl
  | some k=>exact .inr (fun q=>own_types o h.own he hb (by rw [q];rfl)))
 exact ⟨ar.1,fun x hx=>kept udtype_dat (h.rw x (List.mem_filter.1 hx).1),fun x hx=>kept udtype_word (h.ts x (List.mem_filter.1 hx).1),h.ra.sublist List.filter_sublist,h.ta.sublist List.filter_sublist⟩
end
open Go.RowKit
/-! ### the type of a block -/
def Ty (w:World) (k:Nat) (e:TypeId):Prop := ∃ cur z,w.heap[k]?=some (.cells cur e z)
theorem Ty.ne {w:World} {k:Nat} {e f:TypeId} (h:Ty w k e) (g:Ty w k f):e=f:=by
 obtain ⟨a,b,h⟩:=h
 obtain ⟨c,d,g⟩:=g
 rw [h] at g
 injection g with g
 injection g with _ g
theorem Bk.ty {w:World} {g:Nat} {t:TypeId} {cs:Array Value} (h:Bk w g t cs):Ty w g t:=⟨_,_,h⟩
theorem Own.ty {w:World} {B s n c:Nat} {e:TypeId} {A:Option Addr} {xs:List Value} (h:Own w B e s A n c xs) {k:Nat} (hk:blk A c=some k):Ty w k e:=by
 rcases h.2 with ⟨rfl,_⟩ | ⟨g,cur,rfl,_,hg,_⟩
 ·rw [blk_zero] at hk;cases hk
 ·cases c with
  | zero=>cases hk
  | succ c =>
   injection hk with hk
   simp only at hk
   subst hk
   exact ⟨_,_,hg⟩
/-! ### the blocks of a list -/
def UBlk (A:Option Addr) (c:Nat) (L:List Ud) (k:Nat):Prop:=blk A c=some k ∨ ∃ x∈L,blk x.A x.c=some k∨blk x.t.A x.t.c=some k
section
variable {w w':World} {B c:Nat} {A:Option Addr} {k:Nat}
theorem Uout.lt {L:List Ud} (h:Uout w B A c L) (hk:UBlk A c L k):B≤k∧k<w.heap.size:=by
 rcases hk with hk | ⟨x,hx,hk | hk⟩
 ·exact h.own.lt k hk
 ·exact (h.rw x hx).lt k hk
 ·exact (h.ts x hx).lt k hk
theorem Uout.ty {L:List Ud} (h:Uout w B A c L) (hk:UBlk A c L k):Ty w k 51∨Ty w k 55∨Ty w k 103:=by
 rcases hk with hk | ⟨x,hx,hk | hk⟩
 ·exact .inl (h.own.ty hk)
 ·exact .inr (.inl ((h.rw x hx).ty hk))
 ·exact .inr (.inr ((h.ts x hx).ty hk))
theorem Uout.updB {S:Nat→Prop} {L:List Ud} (h:Uout w B A c L) (x:Upd S w w') (hn : ∀ k,UBlk A c L k → ¬ S k):Uout w' B A c L :=
 ⟨h.own.upd x (fun k hk=>hn k (.inl hk)),fun y hy=>(h.rw y hy).upd x (fun k hk=>hn k (.inr ⟨y,hy, .inl hk⟩)),fun y hy=>(h.ts y hy).upd x (fun k hk=>hn k (.inr ⟨y,hy, .inr hk⟩)),h.ra,h.ta⟩
end
/-! ### the region -/
/-- the region, and what is new -/
def Rg (R:Nat→Prop) (w w':World) (k:Nat):Prop:=R k∨(w.heap.size≤k∧k<w'.heap.size)
theorem Rg.step {R:Nat→Prop} {a b c:World} (h:a.heap.size≤b.heap.size) (h2:b.heap.size≤c.heap.size) : ∀ k,Rg (Rg R a b) b c k→Rg R a c k:=fun k hk=>by
 rcases hk with (hk | ⟨h3,h4⟩) | ⟨h3,h4⟩
 ·exact .inl hk
 ·exact .inr ⟨h3,by omega⟩
 ·exact .inr ⟨by omega,h4⟩
section
variable {w w':World}
theorem Bk.upd {S:Nat→Prop} {g:Nat} {t:TypeId} {cs:Array Value} (h:Bk w g t cs) (x:Upd S w w') (hn : ¬ S g):Bk w' g t cs:=(x.block g h.lt hn).trans h
end
open Go.RowKit
/-- a datum's part of the text -/
def namB (d:Dat):List UInt8 :=
 UInt8.ofNat d.k.toNat :: (if d.k=2 then (if d.b then [1] else []) else if d.k=3 then wideL 8 (IntKind.u64.wrap d.n) else if d.k=4 then wideL 8 d.s.size++d.s.data.toList else [])
/-- the text of the first columns -/
def namL (l:List Dat) (cs:List Int):List UInt8:=cs.flatMap fun c=>namB (l.getD c.toNat Dat.zero)
def namT (cols:List Int) (l:List Dat):List UInt8 × Bool:=if cols.all (fun c=>decide (c<l.length)) then (namL l cols,true) else ([],false)
theorem wideL_len : ∀ (k:Nat) (n:Int),(wideL k n).length=k
 | 0,_=>rfl
 | k+1,n=>congrArg (· + 1) (wideL_len k _)
theorem namB_len {d:Dat} (h:d.s.size≤1000):(namB d).length≤1009:=by
 unfold namB
 have h2:d.s.data.toList.length=d.s.size:=by simp
 rw [List.length_cons]
 repeat' split
 all_goals first | (simp only [List.length_append,wideL_len,List.length_cons,List.length_nil];omega)
theorem namL_len {l:List Dat} (h : ∀ d∈l,d.s.size≤1000) : ∀ cs:List Int,(namL l cs).length≤1009 * cs.length
 | []=>Nat.le_refl _
 | c :: cs=>by
  have h1:(namB (l.getD c.toNat Dat.zero)).length≤1009:=namB_len (by
   rw [List.getD_eq_getElem?_getD]
   cases e:l[c.toNat]? with
   | none=>show (0:Nat)≤1000;omega
   | some d=>exact h d (List.mem_of_getElem? e))
  have h2:=namL_len h cs
  unfold namL at h2 ⊢
  rw [List.flatMap_cons,List.length_append,List.length_cons]
  omega
theorem namL_take {l:List Dat} {cs:List Int} {i:Nat} (h:i<cs.length):namL l (cs.take (i+1))=namL l (cs.take i)++namB (l.getD (cs.getD i 0).toNat Dat.zero):=by
 unfold namL
 rw [List.take_succ_eq_append_getElem h,List.flatMap_append,List.getD_eq_getElem?_getD (l:=cs),List.getElem?_eq_getElem h]
 simp
/-- the data of a row such as a name is made of -/
structure NamR (l:List Dat):Prop where
 k : ∀ d∈l,d.k=1∨d.k=2∨d.k=3∨d.k=4
 n : ∀ d∈l, -9223372036854775808≤d.n∧d.n≤9223372036854775807
 s : ∀ d∈l,d.s.size≤1000
theorem NamR.at {l:List Dat} (h:NamR l) {i:Nat} (hi:i<l.length):((l.getD i Dat.zero).k=1∨(l.getD i Dat.zero).k=2∨(l.getD i Dat.zero).k=3∨(l.getD i Dat.zero).k=4)∧(-9223372036854775808≤(l.getD i Dat.zero).n∧(l.getD i Dat.zero).n≤9223372036854775807)∧(l.getD i Dat.zero).s.size≤1000:=by
 rw [List.getD_eq_getElem?_getD,List.getElem?_eq_getElem hi]
 exact ⟨h.k _ (List.getElem_mem hi),h.n _ (List.getElem_mem hi),h.s _ (List.getElem_mem hi)⟩
theorem Rest.upd {B:Nat} {w w':World} {A A':Option Addr} {c c':Nat} (h:Rest w A c w' A' c') (x:Below B w w'):Upd (fun k=>blk A c=some k) w w':=⟨x.os,x.tape,x.output,x.size,fun k hk hn=>(h k hk hn).2⟩
theorem run_append_str {w:World} {B n c:Nat} {A:Option Addr} {xs:List UInt8} (h:OwnB w B A n c xs) (h0:0<n) (s:ByteArray) (ty:TypeId) (hb:n+s.size≤140737488355328) :
  ∃ A' c' w',(Builtin.append_ #[95,9] ty #[.slice A n c, .string s]).run Try.prog w = .ok (.slice A' (n+s.size) c') w'∧OwnB w' B A' (n+s.size) c' (xs++s.data.toList)∧Below B w w':=by
 obtain ⟨i,hi,hz,hs,hby⟩:=info_parts elem_byte.info
 have hxl:(Lib.byteCells xs).length=n:=by simpa using h.1.1
 have e0:Lib.strCells s=Lib.byteCells s.data.toList:=rfl
 have hlen:(Lib.byteCells (xs++s.data.toList)).length=(n+s.size) * 1:=by rw [cells_append,List.length_append,hxl, ← e0,Lib.strCells_length,Nat.mul_one]
 rcases h.1.2 with ⟨_,h2⟩ | ⟨g,cur,rfl,hbg,hg,hnc,hcm,hcs,htake⟩
 ·omega
 ·have ht':cur.toList.take n=Lib.byteCells xs:=by simpa using htake
  by_cases hroom:n+s.size≤c
  ·have hr:=Lib.run_append_room_string (P:=Try.prog) w 95 9 ty 5 i under_bytes under_string hi hs g n c cur hg s hroom (by omega)
   refine ⟨_,_,_,hr,⟨⟨hlen, .inr ⟨g,_,rfl,hbg,setRow_heap w g cur _ _ _ hg,hroom,hcm,?_,?_⟩⟩,by simpa using h.2⟩,?_⟩
   ·simp only [List.size_toArray,List.length_append,List.length_take,List.length_drop,Array.length_toList,Lib.strCells_length]
    omega
   ·rw [← hlen,ht',e0, ← cells_append]
    exact List.take_left
   ·exact Below.grown (Below.refl B w) ⟨rfl,rfl,rfl,by simp,fun k _ hk=>setRow_other w g k _ (fun e=>hk (by rw [e]))⟩ (row:=some g) h.2 (fun k hk=>by injection hk with hk;omega)
  ·have holds : ∀ j u,(Lib.byteCells xs)[j]?=some u→w.cell? ((⟨g,0,none⟩:Addr).add j)=some u:=fun j u hj=>by
    obtain ⟨ad,e,hc⟩:=h.1.sl.2.2.2.2 h0
    cases e
    exact hc j u hj
   have hr:=Lib.run_append_grow_string (P:=Try.prog) w 95 9 ty 5 i (.int .u8 0) under_bytes under_string hi hz ⟨g,0,none⟩ n c (Lib.byteCells xs) (by rw [hs];simpa using hxl) holds s (by omega) (by omega) (by rw [hby];exact growslice_fits (by omega) (by omega))
   have hge:=grownCap_ge w (n+s.size) c 5
   have hcm2:grownCap w (n+s.size) c 5≤maxLen:=grownCap_le_maxLen w (n+s.size) c 5 (by unfold maxLen;omega)
   refine ⟨_,_,_,hr,⟨⟨hlen, .inr ⟨w.heap.size,_,rfl,h.2,heap_alloc_new w.drew _,hge,hcm2,?_,?_⟩⟩,by have:=h.2;simp;omega⟩,?_⟩
   ·have hz1:(Value.int IntKind.u8 0).cells.size=1:=rfl
    simp only [Array.size_append,List.size_toArray,size_zeroCells,hz1,hxl,Lib.strCells_length]
    omega
   ·simp only [Array.toList_append,List.append_assoc]
    rw [← List.append_assoc, ← hlen,e0, ← cells_append]
    exact List.take_left
   ·exact Below.mono (((Ext.refl w).drew).alloc _) h.2
theorem wpList_append_str {ops:Array Oper} {rest:List Oper} {o:Oper} {a:Act} {Q:Exit→Act→World→Prop} (w:World) {B n c:Nat} {A:Option Addr} {xs:List UInt8} {s:ByteArray} (hgd:o.guard=none) (sl x:Operand)
  (ho:o.op = .call { callee := .builtin .append,args := #[sl,x],argTypes := #[95,9] }) (h:OwnB w B A n c xs) (hs:a.eval sl = .slice A n c) (hx:a.eval x = .string s) (h0:0<n) (hb:n+s.size≤140737488355328)
  (k : ∀ A' n' c' w',OwnB w' B A' n' c' (xs++s.data.toList)→Below B w w'→n'=n+s.size→wpList Try.prog ops Q rest (a.put o.dst (.slice A' n' c')) w'):wpList Try.prog ops Q (o :: rest) a w:=by
 refine wpList_plain hgd fun K hK=>?_
 obtain ⟨A',c',w',hr,h2,h3⟩:=run_append_str h h0 s o.type hb
 unfold Oper.wp execOp
 simp only [ho,resolve,invoke,builtin,Sem.run_bind,Sem.run_pure,Result.andThen_ok,List.map_toArray,List.map_cons,List.map_nil,hs,hx,hr]
 exact hK _ _ (k A' _ c' w' h2 h3 rfl)
theorem conv_ownb {w:World} {B n c:Nat} {A:Option Addr} {l:List UInt8} (h:OwnB w B A n c l):Sem.run Try.prog (convert 95 9 (.slice A n c)) w = .ok (.string ⟨l.toArray⟩) w:=by
 rw [run_convert_bytes_string _ _ _ _ _ _ _ under_bytes Try.underlying5 under_string]
 have hl:l.length=n:=h.len.symm
 have e:Lib.byteCells l=(l.map fun b=>(b.toNat:Int)).map (Value.int .u8):=by simp [Lib.byteCells]
 rcases A with _ | ad
 ·obtain rfl:c=0:=h.1.sl.2.2.2.1 rfl
  have hn0:n=0:=by have:=h.1.sl.2.1;omega
  subst hn0
  have:l=[]:=List.eq_nil_of_length_eq_zero (by omega)
  subst this
  rfl
 ·have hr:=run_loadCells_list (P:=Try.prog) (w:=w) ad ((l.map fun b=>(b.toNat:Int)).map (Value.int .u8)) (fun j v hj=>by
   rw [← e] at hj
   have hpos:0<n:=by
    rcases Nat.eq_zero_or_pos n with q | q
    ·have:l=[]:=List.eq_nil_of_length_eq_zero (by omega)
     subst this
     simp [Lib.byteCells] at hj
    ·exact q
   obtain ⟨ad',e',hc⟩:=h.1.sl.2.2.2.2 hpos
   cases e'
   exact hc j v hj)
  rw [List.length_map,List.length_map,hl] at hr
  rw [run_bytesToString _ _ _ _ (l.map fun b=>(b.toNat:Int)) hr,push_all',List.map_map,back_bytes]
  rfl
theorem wide_lit (n:Int) (A:Option Addr) (m c B:Nat) (xs:List UInt8) (w:World) (h:Hid (OwnB w B A m c xs)) (hm:m≤100000000000) (hn:0≤n∧n≤18446744073709551615) :
  Calls Try.prog 50 #[.slice A m c, .int .u64 n] w fun e w' => ∃ A' m' c',e = .returned (.slice A' m' c')∧m'=m+8∧OwnB w' B A' m' c' (xs++wideL 8 n)∧Below B w w'∧Rest w A c w' A' c':=wide_any n A m c B xs w h.out hm hn
set_option maxRecDepth 100000 in
set_option maxHeartbeats 4000000 in
theorem name_any (sp:Addr) (CA A:Option Addr) (cn cc n c:Nat) (cols:List Int) (l:List Dat) (r:List UInt8) (is:Bool) (w:World) (hr:Hid (namT cols l=(r,is))) (hs:w.cell? sp=some (.slice CA cn cc)) (hcn:Hid (cn=cols.length)) (hn:Hid (n=l.length)) (hc:Hid (Is w CA cc cols)) (hl:Hid (Rw w A c l)) (hk:Hid (NamR l))
  (h1:cn≤1000) (h0:Hid (∀ x∈cols,0≤x)) :
  Calls Try.prog 34 #[.pointer (some sp), .slice A n c] w fun e w'=>e = .returned (.tuple #[.string ⟨r.toArray⟩, .bool is])∧Ext w w':=by
 go_enter Try.func34,Try.ntmps34
 go_wp2
 go_loopg [6,15] cn (fun z v6 v15 wr => ∃ (i:Nat) (A0:Option Addr) (n0 c0:Nat),z=cn - i∧i≤cn∧v6 = .slice A0 n0 c0∧v15 = .int .i64 i∧Hid (OwnB wr w.heap.size A0 n0 c0 (namL l (cols.take i)))∧Hid (∀ x∈cols.take i,x<l.length)∧Ext w wr)
 case atStart=>exact ⟨0,none,0,0,rfl,Nat.zero_le _,rfl,rfl,Lib.hid (OwnB.nil w (Nat.le_refl _)),Lib.hid (fun x hx=>by simp at hx),Ext.refl w⟩
 case round =>
  obtain ⟨i,A0,n0,c0,rfl,hi,rfl,rfl,O0,T0,er⟩:=hrel
  by_cases hlt:i<cn
  ·have hil:i<cols.length:=by rw [← hcn.out];exact hlt
   obtain ⟨ad,rfl,q0⟩:=(hc.out.ext er).at hil
   have hx0:=h0.out _ (by rw [List.getD_eq_getElem?_getD,List.getElem?_eq_getElem hil];exact List.getElem_mem hil:cols.getD i 0∈cols)
   have HT:=Lib.hid (namL_take (l:=l) hil)
   have htk:cols.take (i+1)=cols.take i++[cols.getD i 0]:=by rw [List.take_succ_eq_append_getElem hil,List.getD_eq_getElem?_getD,List.getElem?_eq_getElem hil];rfl
   have HTK:=Lib.hid htk
   have HM:=Lib.hid (show cols.getD i 0∈cols by rw [List.getD_eq_getElem?_getD,List.getElem?_eq_getElem hil];exact List.getElem_mem hil)
   clear htk
   have hlen0:n0≤1009 * i:=by
    have a1:=O0.out.len
    have a2:=namL_len hk.out.s (cols.take i)
    have a3:(cols.take i).length≤i:=List.length_take_le _ _
    omega
   obtain ⟨j,hj⟩ : ∃ j:Nat,cols.getD i 0=(j:Int):=⟨(cols.getD i 0).toNat,by omega⟩
   rw [hj] at q0 HT HTK HM
   clear hj hx0 hil
   rw [Int.toNat_natCast] at HT
   have hsw:=er.cell hs
   by_cases hjl:j<n
   ·have hjl2:j<l.length:=by rw [← hn.out];exact hjl
    obtain ⟨bd,rfl,p0,p1,p2,p3⟩:=(hl.out.ext er).at hjl2
    obtain ⟨hkk,hnn,hss⟩:=hk.out.at hjl2
    have HTT:Hid (∀ x∈cols.take i++[(j:Int)],x<l.length):=Lib.hid (fun x hx=>by
     rcases List.mem_append.1 hx with hx | hx
     ·exact T0.out x hx
     ·rw [List.mem_singleton.1 hx];omega)
    obtain ⟨d,hd⟩ : ∃ d,l.getD j Dat.zero=d:=⟨_,rfl⟩
    rw [hd] at p0 p1 p2 p3 hkk hnn hss HT
    clear hd hjl2
    obtain ⟨dk,db,dn,ds⟩:=d
    simp only at p0 p1 p2 p3 hkk hnn hss
    rcases hkk with rfl | rfl | rfl | rfl
    ·have HO:=Lib.hid (O0.out.alloc (.cells #[.int .u8 1, .bool db, .int .i64 dn, .string ds] 55))
     have N0:=Lib.hid (O0.out.ne (Nat.le_refl wr.heap.size))
     have b0:Bk (wr.alloc (.cells #[.int .u8 1, .bool db, .int .i64 dn, .string ds] 55)) wr.heap.size 55 #[.int .u8 1, .bool db, .int .i64 dn, .string ds]:=Bk.new _ _ _
     have E0:=Lib.hid (Below.trans er ((Below.refl w.heap.size wr).alloc er.size (.cells #[.int .u8 1, .bool db, .int .i64 dn, .string ds] 55)))
     have m1:True:=trivial
     go_wp2_with (at_builtin;have z:=m1;clear z m1;refine put_bytes [1] rfl _ _ rfl HO.out rfl rfl (by first | rfl | simp) rfl rfl (by omega) ?_;intro A1 n1 c1 w1 o1 hn1 hz1 hbel1 hne1;have O1:=Lib.hid o1;have b1:Bk w1 wr.heap.size 55 #[.int .u8 1, .bool db, .int .i64 dn, .string ds]:=(hne1 wr.heap.size (by first | omega | (simp;done) | (simp;omega)) N0.out).2.trans b0;have N1:=Lib.hid (hne1 wr.heap.size (by first | omega | (simp;done) | (simp;omega)) N0.out).1;have X1:=Lib.hid (Below.trans E0.out hbel1);have L1:n1≤1009 * i+1:=(by omega);have S1:wr.heap.size<w1.heap.size:=b1.lt;have k10:w1.cell? ⟨wr.heap.size,0,none⟩=some (.int .u8 1):=b1.cell 0;have m2:True:=trivial;clear o1 hbel1 hne1 hn1)
     go_roundg (cn - (i+1))
     case measure=>omega
     case rel=>exact ⟨i+1,A1,n1,c1,rfl,by omega,rfl,by go_num,Lib.hid (by rw [HT.out];exact O1.out),Lib.hid (by rw [HTK.out];exact HTT.out),X1.out⟩
    ·cases db with
     | false =>
      have HO:=Lib.hid (O0.out.alloc (.cells #[.int .u8 2, .bool false, .int .i64 dn, .string ds] 55))
      have N0:=Lib.hid (O0.out.ne (Nat.le_refl wr.heap.size))
      have b0:Bk (wr.alloc (.cells #[.int .u8 2, .bool false, .int .i64 dn, .string ds] 55)) wr.heap.size 55 #[.int .u8 2, .bool false, .int .i64 dn, .string ds]:=Bk.new _ _ _
      have E0:=Lib.hid (Below.trans er ((Below.refl w.heap.size wr).alloc er.size (.cells #[.int .u8 2, .bool false, .int .i64 dn, .string ds] 55)))
      have m1:True:=trivial
      go_wp2_with (at_builtin;have z:=m1;clear z m1;refine put_bytes [2] rfl _ _ rfl HO.out rfl rfl (by first | rfl | simp) rfl rfl (by omega) ?_;intro A1 n1 c1 w1 o1 hn1 hz1 hbel1 hne1;have O1:=Lib.hid o1;have b1:Bk w1 wr.heap.size 55 #[.int .u8 2, .bool false, .int .i64 dn, .string ds]:=(hne1 wr.heap.size (by first | omega | (simp;done) | (simp;omega)) N0.out).2.trans b0;have N1:=Lib.hid (hne1 wr.heap.size (by first | omega | (simp;done) | (simp;omega)) N0.out).1;have X1:=Lib.hid (Below.trans E0.out hbel1);have L1:n1≤1009 * i+1:=(by omega);have S1:wr.heap.size<w1.heap.size:=b1.lt;have k10:w1.cell? ⟨wr.heap.size,0,none⟩=some (.int .u8 2):=b1.cell 0;have k11:w1.cell? ⟨wr.heap.size,1,none⟩=some (.bool false):=b1.cell 1;have m2:True:=trivial;clear o1 hbel1 hne1 hn1)
      go_roundg (cn - (i+1))
      case measure=>omega
      case rel=>exact ⟨i+1,A1,n1,c1,rfl,by omega,rfl,by go_num,Lib.hid (by rw [HT.out];exact O1.out),Lib.hid (by rw [HTK.out];exact HTT.out),X1.out⟩
     | true =>
      have HO:=Lib.hid (O0.out.alloc (.cells #[.int .u8 2, .bool true, .int .i64 dn, .string ds] 55))
      have N0:=Lib.hid (O0.out.ne (Nat.le_refl wr.heap.size))
      have b0:Bk (wr.alloc (.cells #[.int .u8 2, .bool true, .int .i64 dn, .string ds] 55)) wr.heap.size 55 #[.int .u8 2, .bool true, .int .i64 dn, .string ds]:=Bk.new _ _ _
      have E0:=Lib.hid (Below.trans er ((Below.refl w.heap.size wr).alloc er.size (.cells #[.int .u8 2, .bool true, .int .i64 dn, .string ds] 55)))
      have m1:True:=trivial
      go_wp2_with (first | (at_builtin;have z:=m1;clear z m1;refine put_bytes [2] rfl _ _ rfl HO.out rfl rfl (by first | rfl | simp) rfl rfl (by omega) ?_;intro A1 n1 c1 w1 o1 hn1 hz1 hbel1 hne1;have O1:=Lib.hid o1;have b1:Bk w1 wr.heap.size 55 #[.int .u8 2, .bool true, .int .i64 dn, .string ds]:=(hne1 wr.heap.size (by first | omega | (simp;done) | (simp;omega)) N0.out).2.trans b0;have N1:=Lib.hid (hne1 wr.heap.size (by first | omega | (simp;done) | (simp;omega)) N0.out).1;have X1:=Lib.hid (Below.trans E0.out hbel1);have L1:n1≤1009 * i+1:=(by omega);have S1:wr.heap.size<w1.heap.size:=b1.lt;have k10:w1.cell? ⟨wr.heap.size,0,none⟩=some (.int .u8 2):=b1.cell 0;have k11:w1.cell? ⟨wr.heap.size,1,none⟩=some (.bool true):=b1.cell 1;have m2:True:=trivial;clear o1 hbel1 hne1 hn1) | (at_builtin;have z:=m2;clear z m2;refine put_bytes [1] rfl _ _ rfl O1.out rfl rfl (by first | rfl | simp) rfl rfl (by omega) ?_;intro A2 n2 c2 w2 o2 hn2 hz2 hbel2 hne2;have O2:=Lib.hid o2;have b2:Bk w2 wr.heap.size 55 #[.int .u8 2, .bool true, .int .i64 dn, .string ds]:=(hne2 wr.heap.size (by first | omega | (simp;done) | (simp;omega)) N1.out).2.trans b1;have N2:=Lib.hid (hne2 wr.heap.size (by first | omega | (simp;done) | (simp;omega)) N1.out).1;have X2:=Lib.hid (Below.trans X1.out hbel2);have L2:n2≤1009 * i+2:=(by omega);have S2:wr.heap.size<w2.heap.size:=b2.lt;have k20:w2.cell? ⟨wr.heap.size,0,none⟩=some (.int .u8 2):=b2.cell 0;have k21:w2.cell? ⟨wr.heap.size,1,none⟩=some (.bool true):=b2.cell 1;have m3:True:=trivial;clear o2 hbel2 hne2 hn2))
      go_roundg (cn - (i+1))
      case measure=>omega
      case rel=>exact ⟨i+1,A2,n2,c2,rfl,by omega,rfl,by go_num,Lib.hid (by rw [HT.out];exact by have:=O2.out;rwa [List.append_assoc] at this),Lib.hid (by rw [HTK.out];exact HTT.out),X2.out⟩
    ·have HO:=Lib.hid (O0.out.alloc (.cells #[.int .u8 3, .bool db, .int .i64 dn, .string ds] 55))
     have N0:=Lib.hid (O0.out.ne (Nat.le_refl wr.heap.size))
     have b0:Bk (wr.alloc (.cells #[.int .u8 3, .bool db, .int .i64 dn, .string ds] 55)) wr.heap.size 55 #[.int .u8 3, .bool db, .int .i64 dn, .string ds]:=Bk.new _ _ _
     have E0:=Lib.hid (Below.trans er ((Below.refl w.heap.size wr).alloc er.size (.cells #[.int .u8 3, .bool db, .int .i64 dn, .string ds] 55)))
     have m1:True:=trivial
     have hu:0≤IntKind.u64.wrap dn∧IntKind.u64.wrap dn≤18446744073709551615:=by rw [IntKind.wrap_u64];omega
     obtain ⟨u,hw⟩ : ∃ u,IntKind.u64.wrap dn=u:=⟨_,rfl⟩
     rw [hw] at hu
     have HU:Hid (namB ⟨3,db,dn,ds⟩=3 :: wideL 8 u):=Lib.hid (by rw [← hw];rfl)
     rw [HU.out] at HT
     go_wp2_with (first | (at_builtin;have z:=m1;clear z m1;refine put_bytes [3] rfl _ _ rfl HO.out rfl rfl (by first | rfl | simp) rfl rfl (by omega) ?_;intro A1 n1 c1 w1 o1 hn1 hz1 hbel1 hne1;have O1:=Lib.hid o1;have b1:Bk w1 wr.heap.size 55 #[.int .u8 3, .bool db, .int .i64 dn, .string ds]:=(hne1 wr.heap.size (by first | omega | (simp;done) | (simp;omega)) N0.out).2.trans b0;have N1:=Lib.hid (hne1 wr.heap.size (by first | omega | (simp;done) | (simp;omega)) N0.out).1;have X1:=Lib.hid (Below.trans E0.out hbel1);have L1:n1≤1009 * i+1:=(by omega);have S1:wr.heap.size<w1.heap.size:=b1.lt;have k10:w1.cell? ⟨wr.heap.size,0,none⟩=some (.int .u8 3):=b1.cell 0;have k12:w1.cell? ⟨wr.heap.size,2,none⟩=some (.int .i64 dn):=b1.cell 2;have m2:True:=trivial;clear o1 hbel1 hne1 hn1) | (go_at_call 50;refine (wide_lit u A1 n1 c1 w.heap.size _ w1 O1 (by omega) hu).mono ?_;rintro e w2 ⟨A2,n2,c2,rfl,hn2,o2,hb2,hr2⟩;have O2:=Lib.hid o2;have X2:=Lib.hid (Below.trans X1.out hb2);clear o2 hb2 hr2 hn2))
     go_roundg (cn - (i+1))
     case measure=>omega
     case rel=>exact ⟨i+1,A2,n2,c2,rfl,by omega,rfl,by go_num,Lib.hid (by rw [HT.out];exact by have:=O2.out;rwa [List.append_assoc] at this),Lib.hid (by rw [HTK.out];exact HTT.out),X2.out⟩
    ·have HO:=Lib.hid (O0.out.alloc (.cells #[.int .u8 4, .bool db, .int .i64 dn, .string ds] 55))
     have N0:=Lib.hid (O0.out.ne (Nat.le_refl wr.heap.size))
     have b0:Bk (wr.alloc (.cells #[.int .u8 4, .bool db, .int .i64 dn, .string ds] 55)) wr.heap.size 55 #[.int .u8 4, .bool db, .int .i64 dn, .string ds]:=Bk.new _ _ _
     have E0:=Lib.hid (Below.trans er ((Below.refl w.heap.size wr).alloc er.size (.cells #[.int .u8 4, .bool db, .int .i64 dn, .string ds] 55)))
     have m1:True:=trivial
     have hu:0≤IntKind.u64.wrap (ds.size:Int)∧IntKind.u64.wrap (ds.size:Int)≤18446744073709551615:=by rw [IntKind.wrap_u64];omega
     have hw:IntKind.u64.wrap (ds.size:Int)=(ds.size:Int):=by rw [IntKind.wrap_u64];omega
     rw [hw] at hu
     go_upto_region 14 with (at_builtin;have z:=m1;clear z m1;refine put_bytes [4] rfl _ _ rfl HO.out rfl rfl (by first | rfl | simp) rfl rfl (by omega) ?_;intro A1 n1 c1 w1 o1 hn1 hz1 hbel1 hne1;have O1:=Lib.hid o1;have b1:Bk w1 wr.heap.size 55 #[.int .u8 4, .bool db, .int .i64 dn, .string ds]:=(hne1 wr.heap.size (by first | omega | (simp;done) | (simp;omega)) N0.out).2.trans b0;have N1:=Lib.hid (hne1 wr.heap.size (by first | omega | (simp;done) | (simp;omega)) N0.out).1;have X1:=Lib.hid (Below.trans E0.out hbel1);have L1:n1≤1009 * i+1:=(by omega);have S1:wr.heap.size<w1.heap.size:=b1.lt;have k10:w1.cell? ⟨wr.heap.size,0,none⟩=some (.int .u8 4):=b1.cell 0;have k13:w1.cell? ⟨wr.heap.size,3,none⟩=some (.string ds):=b1.cell 3;have m2:True:=trivial;clear o1 hbel1 hne1 hn1)
     have U0 : ∀ y:Yt (fun k=>blk A1 c1=some k) w1.drew,y.W.cell? ⟨wr.heap.size,3,none⟩=some (.string ds):=fun y=>Bk.cell (Bk.upd (Bk.ext b1 (Ext.refl w1).drew) y.x N1.out) 3
     clear k10 k13
     refine wp_region_ordU (S:=(fun k=>blk A1 c1=some k)) [0,0,2,6,14,31,0,64,255,511] (.flo [0,1,2,3,4,6,7] (.ext 5 (.one 8 (.flo [9] (.fin))))) (by kernel_rfl) (by kernel_rfl) (by intro _ _ d _ _ h;cases d<;>exact h) ?_
     (refine ord_floU (pick_cons rfl (pick_cons rfl (pick_cons rfl (pick_cons rfl (pick_cons rfl (pick_cons rfl (pick_cons rfl pick_nil))))))) ?_;(repeat (go_big_quiet_step (fail)));refine wpQuiet_nil ?_;show ordWalkU _ _ _ _ _ _ _ _)
     refine ord_extU (pick_cons rfl pick_nil) ?_;intro K_ hK_
     go_wp2_with (go_at_call 50;refine (wide_lit (ds.size:Int) A1 n1 c1 w.heap.size _ w1.drew (Lib.hid (O1.out.ext (Ext.refl w1).drew)) (by omega) hu).mono ?_;rintro e w2 ⟨A2,n2,c2,rfl,hn2,o2,hb2,hr2⟩;have O2:=Lib.hid o2;have X2:=Lib.hid (Below.trans (Below.trans X1.out (Below.mono (Ext.refl w1).drew X1.out.size)) hb2);have R2:=Lib.hid hr2;have Y2:=Lib.hid hb2;have L2:n2≤1009 * i+9:=(by omega);have P2:0<n2:=(by omega);clear o2 hb2 hr2 hn2)
     refine ordNextU.mk (R2.out.upd Y2.out) ?_
     clear U0
     refine ord_oneU (pick_cons rfl pick_nil) ?_;intro K_ hK_
     go_wp2_with (at_builtin;refine wpList_append_str _ rfl _ _ rfl O2.out rfl rfl P2 (by omega) ?_;intro A3 n3 c3 w3 o3 hb3 hn3;have O3:=Lib.hid o3;have X3:=Lib.hid (Below.trans X2.out hb3);clear o3 hb3 hn3)
     go_simp
     (refine ord_floU (pick_cons rfl pick_nil) ?_;(repeat (go_big_quiet_step (fail)));refine wpQuiet_nil ?_;show ordWalkU _ _ _ _ _ _ _ _)
     refine ord_finU ?_
     go_wp2
     go_roundg (cn - (i+1))
     case measure=>omega
     case rel=>exact ⟨i+1,A3,n3,c3,rfl,by omega,rfl,by go_num,Lib.hid (by rw [HT.out];exact by have:=O3.out;rw [List.append_assoc,List.append_assoc] at this;exact this),Lib.hid (by rw [HTK.out];exact HTT.out),X3.out⟩
   ·have hfin:namT cols l=([],false):=by
     unfold namT
     rw [if_neg]
     intro q
     rw [List.all_eq_true] at q
     have:=q _ HM.out
     simp only [decide_eq_true_iff] at this
     rw [hn.out] at hjl
     omega
    have hres:=hr.out
    rw [hfin] at hres
    injection hres with e1 e2
    subst e1 e2
    go_wp2
    go_returns
    exact ⟨rfl,er⟩
  ·obtain rfl:i=cn:=by omega
   have hfin:namT cols l=(namL l cols,true):=by
    unfold namT
    rw [if_pos]
    rw [List.all_eq_true]
    intro x hx
    have:=T0.out x (by rw [hcn.out,List.take_length];exact hx)
    exact decide_eq_true this
   have hres:=hr.out
   rw [hfin] at hres
   injection hres with e1 e2
   subst e1 e2
   have O1:=O0.out
   rw [hcn.out,List.take_length] at O1
   have O2:=Lib.hid O1
   clear O1
   have HC:=Lib.hid (conv_ownb O2.out)
   go_wp2
   rw [HC.out]
   simp only [Result.andThen]
   rw [Oper.upon_value]
   go_simp
   go_wp2
   go_returns
   exact ⟨rfl,er⟩
open Go.RowKit
set_option maxRecDepth 100000 in
set_option maxHeartbeats 400000 in
theorem clone_ints (A:Option Addr) (n c:Nat) (l:List Int) (w:World) (hm:Hid (n=l.length)) (h:Hid (Is w A c l)) (hn:n≤1000000) :
  Calls Try.prog 20 #[.slice A n c] w fun e w' => ∃ A' c',e = .returned (.slice A' n c')∧Own w' w.heap.size 3 1 A' n c' (ints l)∧Ext w w':=by
 have hs:Hid (Sl w 1 A n c (ints l)):=Lib.hid (by rw [hm.out];exact h.out)
 have hnil:=fun (W:World)=>Lib.run_eql_slice_nil (P:=Try.prog) W 22 3 A n c 0 0 Try.underlying22
 rcases A with _ | a
 ·obtain rfl:c=0:=hs.out.2.2.2.1 rfl
  have hn0:n=0:=by have:=hs.out.2.1;omega
  subst hn0
  have hx:ints l=[]:=List.eq_nil_of_length_eq_zero (by simpa using hs.out.1)
  rw [hx]
  go_enter Try.func20,Try.ntmps20
  go_wp2
  go_ret
  exact ⟨none,0,rfl,Own.nil _ _ _ _,Ext.refl _⟩
 ·go_enter Try.func20,Try.ntmps20
  go_wp2_with (at_builtin;refine wpList_append_gen _ elem_int w.heap.size _ _ (by rfl) (by rfl) _ 0 0 [] (by rfl) (Own.empty _ _ _ _ _) (some a) n c (ints l) (by rfl) (hs.out.ext ((Ext.refl w).alloc _)) (ints_one l) (by omega) (by omega) (by simp) ?_;intro A' c' w1 ho1 hg1 hk1)
  go_ret
  refine ⟨A',c',by simp,by simpa using ho1,?_⟩
  exact ((Ext.refl w).alloc _).grown hg1 (by simp [blk])
theorem any_atI {p:Int→Bool} {L:List Int} {k:Nat} (h:k<L.length) (hp:p (L.getD k 0)=true):L.any p=true:=by
 rw [List.getD_eq_getElem?_getD,List.getElem?_eq_getElem h] at hp
 exact List.any_eq_true.2 ⟨_,List.getElem_mem h,hp⟩
theorem any_noneI {p:Int→Bool} {L:List Int} (h : ∀ j,j<L.length→p (L.getD j 0)=false):L.any p=false:=by
 rw [Bool.eq_false_iff]
 intro q
 obtain ⟨x,hx,e⟩:=List.any_eq_true.1 q
 obtain ⟨j,hj,rfl⟩:=List.getElem_of_mem hx
 have:=h j hj
 rw [List.getD_eq_getElem?_getD,List.getElem?_eq_getElem hj] at this
 rw [show p L[j]=false from this] at e
 cases e
/-- what is asked of the predicate -/
def PredI (g:Nat) (p:Int→Bool):Prop := ∀ (W:World) (x:Int),Calls Try.prog g #[.int .i64 x] W fun e w'=>e = .returned (.bool (p x))∧W=w'
def IdxOutI (p:Int→Bool) (L:List Int) (w:World) (e:Ending) (w':World):Prop := ∃ r:Int,e = .returned (.int .i64 r)∧decide (0≤r)=L.any p∧Ext w w'
set_option maxRecDepth 100000 in
set_option maxHeartbeats 2000000 in
theorem index_ints (p:Int→Bool) (g:Nat) (eg : ∀ args w,(callFunc g args).run Try.prog w = .ok (.enter g args) w) (AL:Option Addr) (cL m:Nat) (L:List Int) (w:World) (hm:Hid (m=L.length)) (hL:Hid (Is w AL cL L)) (hp:Hid (PredI g p)) :
  Calls Try.prog 32 #[.slice AL m cL, .func (.func g) #[] #[]] w (IdxOutI p L w):=by
 have hbig:m≤9223372036854775807:=by rw [hm.out];exact Sl.le hL.out
 go_enter Try.func32,Try.ntmps32
 go_wp2
 go_loopg [5,8] m (fun gg _ s8 wr => ∃ kk:Nat,kk≤m∧m - kk≤gg∧s8 = .int .i64 kk∧Hid (Ext w wr)∧Hid (∀ j,j<kk→p (L.getD j 0)=false))
 case atStart=>exact ⟨0,Nat.zero_le _,by omega,rfl,Lib.hid (Ext.refl w),Lib.hid (fun j hj=>absurd hj (Nat.not_lt_zero _))⟩
 case round =>
  obtain ⟨kk,hkk,hg,rfl,BW,AF⟩:=hrel
  by_cases hlt:kk<m
  ·have hltz:(kk:Int)<(m:Int):=by omega
   obtain ⟨ad,rfl,q0⟩:=(hL.out.ext BW.out).at (k:=kk) (by rw [← hm.out];exact hlt)
   have hcall:=hp.out wr (L.getD kk 0)
   obtain ⟨x,hx⟩ : ∃ x,L.getD kk 0=x:=⟨_,rfl⟩
   rw [hx] at q0 hcall
   have HX:=Lib.hid hx
   clear hx
   cases hq:p x with
   | true =>
    rw [hq] at hcall
    have HQ:=Lib.hid hq
    clear hq
    go_wp2_with (go_at_fn g;refine hcall.mono ?_;rintro e w' ⟨rfl,rfl⟩)
    go_ret
    exact ⟨_,rfl,by rw [any_atI (by rw [← hm.out];exact hlt) (by rw [HX.out];exact HQ.out)];simp,BW.out⟩
   | false =>
    rw [hq] at hcall
    have HQ:=Lib.hid hq
    clear hq
    go_wp2_with (go_at_fn g;refine hcall.mono ?_;rintro e w' ⟨rfl,rfl⟩)
    go_roundg (m - (kk+1))
    case measure=>omega
    case rel =>
     refine ⟨kk+1,by omega,by omega,by go_num,Lib.hid BW.out,Lib.hid (fun j hj=>?_)⟩
     by_cases hjk:j<kk
     ·exact AF.out j hjk
     ·obtain rfl:j=kk:=by omega
      rw [HX.out];exact HQ.out
  ·obtain rfl:kk=m:=by omega
   go_wp2
   go_ret
   exact ⟨_,rfl,by rw [any_noneI (fun j hj=>AF.out j (by rw [hm.out];exact hj))];rfl,BW.out⟩
set_option maxRecDepth 100000 in
set_option maxHeartbeats 600000 in
theorem contains_ints (p:Int→Bool) (g:Nat) (eg : ∀ args w,(callFunc g args).run Try.prog w = .ok (.enter g args) w) (AL:Option Addr) (cL m:Nat) (L:List Int) (w:World) (hm:Hid (m=L.length)) (hL:Hid (Is w AL cL L)) (hp:Hid (PredI g p)) :
  Calls Try.prog 18 #[.slice AL m cL, .func (.func g) #[] #[]] w fun e w'=>e = .returned (.bool (L.any p))∧Ext w w':=by
 go_enter Try.func18,Try.ntmps18
 go_wp2_with (go_at_call 32;refine (index_ints p g  eg AL cL m L _ hm hL hp).mono ?_;rintro e w1 ⟨r,rfl,hr,x1⟩;have HR:=Lib.hid hr;clear hr)
 go_ret
 exact ⟨by rw [← HR.out];rfl,x1⟩
open Go.RowKit
def badC (c:Int):Bool:=decide (c<0)||decide (32≤c)
set_option maxRecDepth 100000 in
set_option maxHeartbeats 400000 in
theorem bad_any (c:Int) (w:World):Calls Try.prog 17 #[.int .i64 c] w fun e w'=>e = .returned (.bool (badC c))∧w=w':=by
 go_enter Try.func17,Try.ntmps17
 by_cases h1:c<0
 ·have e:badC c=true:=by unfold badC;rw [decide_eq_true h1];rfl
  rw [e]
  go_wp2
  go_ret
  exact ⟨rfl,rfl⟩
 ·by_cases h2:32≤c
  ·have e:badC c=true:=by unfold badC;rw [decide_eq_true h2,Bool.or_true]
   rw [e]
   go_wp2
   go_ret
   exact ⟨rfl,rfl⟩
  ·have e:badC c=false:=by unfold badC;rw [decide_eq_false h1,decide_eq_false h2];rfl
   rw [e]
   go_wp2
   go_ret
   exact ⟨rfl,rfl⟩
/-- a value told as it is -/
def tokJ (v:Value):Option (DataW Value × List MemPlace):=some (.held v,[])
abbrev OwnsJ (w:World) (b n:Nat) (D:DataW Value):Prop:=w.ownsMap Try.prog 9 tokJ b n D
theorem OwnsJ.ext {w w':World} {b n:Nat} {D:DataW Value} (h:OwnsJ w b n D) (x:Ext w w'):OwnsJ w' b n D:=by
 obtain ⟨es,clock,hb,r⟩:=h
 exact ⟨es,clock,x.heap hb,r⟩
theorem OwnsJ.upd {S:Nat→Prop} {w w':World} {b n:Nat} {D:DataW Value} (h:OwnsJ w b n D) (x:Upd S w w') (hb : ¬ S b):OwnsJ w' b n D:=by
 have hlt:=World.ownsMap.lt h
 obtain ⟨es,clock,hb2,r⟩:=h
 exact ⟨es,clock,(x.block b hlt hb).trans hb2,r⟩
/-- a side just made -/
def SideNew (w:World) (n:Nat) (l:List Int) (A:Option Addr) (c b:Nat) (w':World):Prop:=Own w' w.heap.size 3 1 A n c (ints l)∧OwnsJ w' b 0 (.map [])∧w.heap.size≤b
set_option maxRecDepth 100000 in
set_option maxHeartbeats 1000000 in
theorem of_any (A:Option Addr) (n c:Nat) (l:List Int) (w:World) (hm:Hid (n=l.length)) (h:Hid (Is w A c l)) (hn:n≤1000000) :
  Calls Try.prog 19 #[.slice A n c] w fun e w' => ∃ A' c' b,e = .returned (.agg #[.slice A' n c', .map (some b), .slice none 0 0])∧SideNew w n l A' c' b w'∧Ext w w':=by
 have hmm:=@run_makeMap Try.prog
 go_enter Try.func19,Try.ntmps19
 go_wp2_with (go_at_call 20;refine (clone_ints A n c l _ hm (Lib.hid (h.out.ext ((Ext.refl w).alloc _))) hn).mono ?_;rintro e w1 ⟨A1,c1,rfl,o1,x1⟩;have b1:Bk w1 w.heap.size 61 #[.slice none 0 0, .map none, .slice none 0 0]:=Bk.ext (Bk.at (by simp)) x1;have HO:=Lib.hid o1;have HX:=Lib.hid x1;have b2:=b1.alloc (.map #[] 0);have q0:=b2.cell 0;have q1:=b2.cell 1;have q2:=b2.cell 2;have f0:=b2.free 0;have f1:=b2.free 1;have f2:=b2.free 2;have HB:=Lib.hid b2;clear o1 x1 b1 b2)
 have bb:=((HB.out.set 0 (.slice A1 n c1)).set 1 (.map (some w1.heap.size))).set 2 (.slice none 0 0)
 have b0:=bb.cell 0
 have b1:=bb.cell 1
 have b2:=bb.cell 2
 have hlt:w.heap.size<w1.heap.size:=Nat.lt_of_lt_of_le (by simp) HX.out.size
 have U:Upd (fun k=>k=w.heap.size) (w1.alloc (.map #[] 0)) ((((w1.alloc (.map #[] 0)).setCell ⟨w.heap.size,0,none⟩ (.slice A1 n c1)).setCell ⟨w.heap.size,1,none⟩ (.map (some w1.heap.size))).setCell ⟨w.heap.size,2,none⟩ (.slice none 0 0)) :=
  (((Upd.refl (fun k=>k=w.heap.size) _).setCell (p:=⟨w.heap.size,0,none⟩) (.inl (Eq.refl w.heap.size)) _).setCell (p:=⟨w.heap.size,1,none⟩) (.inl (Eq.refl w.heap.size)) _).setCell (p:=⟨w.heap.size,2,none⟩) (.inl (Eq.refl w.heap.size)) _
 refine bodyPost_ret (v := .agg #[.slice A1 n c1, .map (some w1.heap.size), .slice none 0 0]) (by simp [results,Try.results19,go_sem,b0,b1,b2]) rfl ⟨A1,c1,w1.heap.size,rfl,⟨?_,?_,by omega⟩,?_⟩
 ·exact Own.mono ((Own.alloc HO.out _).upd U (fun k hk=>by have:=(HO.out.lt k hk).1;simp at this;omega)) (by simp)
 ·exact OwnsJ.upd (World.ownsMap_made w1 _ _ _) U (by omega)
 ·exact (((((Ext.refl w).alloc _).trans HX.out).alloc _).set (p:=⟨w.heap.size,0,none⟩) (Nat.le_refl _) _).set (p:=⟨w.heap.size,1,none⟩) (Nat.le_refl _) _ |>.set (p:=⟨w.heap.size,2,none⟩) (Nat.le_refl _) _
/-- may a join be made by these columns? -/
def newOk (l r:List Int):Bool:=decide (l.length=r.length)&&decide (l.length≤32) && !l.any badC && !r.any badC
/-- a join just made -/
def NewOut (w:World) (n m:Nat) (l r:List Int) (e:Ending) (w':World):Prop := ∃ (g b1 b2:Nat) (A1 A2:Option Addr) (c1 c2:Nat),e = .returned (.tuple #[.pointer (some ⟨g,0,none⟩), .int .u16 0]) ∧
 Bk w' g 65 #[.slice A1 n c1, .map (some b1), .slice none 0 0, .slice A2 m c2, .map (some b2), .slice none 0 0]∧w.heap.size≤g∧SideNew w n l A1 c1 b1 w'∧SideNew w m r A2 c2 b2 w'∧b1≠b2∧Ext w w'
theorem SideNew.ext {w w' w2:World} {n c b:Nat} {l:List Int} {A:Option Addr} (h:SideNew w n l A c b w') (x:Ext w' w2):SideNew w n l A c b w2:=⟨h.1.ext x,h.2.1.ext x,h.2.2⟩
theorem SideNew.old {w w' w2:World} {n c b:Nat} {l:List Int} {A:Option Addr} (h:SideNew w n l A c b w') (x:w2.heap.size≤w.heap.size):SideNew w2 n l A c b w':=⟨h.1.mono x,h.2.1,by have:=h.2.2;omega⟩
theorem pred_bad:PredI 17 badC:=fun W x=>bad_any x W
set_option maxRecDepth 100000 in
set_option maxHeartbeats 1000000 in
theorem new_bad (A1 A2:Option Addr) (n m c1 c2:Nat) (l r:List Int) (w:World) (hn:Hid (n=l.length)) (hm:Hid (m=r.length)) (h1:Hid (Is w A1 c1 l)) (h2:Hid (Is w A2 c2 r)) (hk:Hid (newOk l r=false)) :
  Calls Try.prog 8 #[.slice A1 n c1, .slice A2 m c2] w fun e w'=>e = .returned (.tuple #[.pointer none, .int .u16 140])∧Ext w w':=by
 go_enter Try.func8,Try.ntmps8
 have s1:Hid (PredI 17 badC):=Lib.hid pred_bad
 have n9:n≤9223372036854775807:=by rw [hn.out];exact Sl.le h1.out
 have m9:m≤9223372036854775807:=by rw [hm.out];exact Sl.le h2.out
 by_cases hnm:n=m
 ·subst hnm
  have q1:((n:Int) != (n:Int))=false:=by simp
  by_cases h32:n≤32
  ·have q2 : ¬ (32:Int)<(n:Int):=by omega
   cases ha:l.any badC with
   | true =>
    have HA:=Lib.hid ha
    clear ha
    go_wp2_with (go_at_call 18;refine (contains_ints badC 17 (fun _ _=>by kernel_rfl) A1 c1 n l _ hn h1 s1).mono ?_;rw [HA.out];rintro e w1 ⟨rfl,x1⟩;have X1:=Lib.hid x1;clear x1)
    go_returns
    exact ⟨rfl,X1.out⟩
   | false =>
    have hb:r.any badC=true:=by
     have:=hk.out
     unfold newOk at this
     rw [ha,decide_eq_true (show l.length=r.length by rw [← hn.out, ← hm.out]),decide_eq_true (show l.length≤32 by rw [← hn.out];exact h32)] at this
     simpa using this
    have HA:=Lib.hid ha
    have HB:=Lib.hid hb
    clear ha hb
    go_wp2_with (first
     | (go_at_call 18;have z:=n9;clear z n9;refine (contains_ints badC 17 (fun _ _=>by kernel_rfl) A1 c1 n l _ hn h1 s1).mono ?_;rw [HA.out];rintro e w1 ⟨rfl,x1⟩;have X1:=Lib.hid x1;clear x1)
     | (go_at_call 18;refine (contains_ints badC 17 (fun _ _=>by kernel_rfl) A2 c2 n r _ hm (Lib.hid (h2.out.ext X1.out)) s1).mono ?_;rw [HB.out];rintro e w2 ⟨rfl,x2⟩;have X2:=Lib.hid (X1.out.trans x2);clear x2))
    go_returns
    exact ⟨rfl,X2.out⟩
  ·have q2:(32:Int)<(n:Int):=by omega
   go_wp2
   go_returns
   exact ⟨rfl,Ext.refl w⟩
 ·have q1:((n:Int) != (m:Int))=true:=by simp;omega
  go_wp2
  go_returns
  exact ⟨rfl,Ext.refl w⟩
set_option maxRecDepth 100000 in
set_option maxHeartbeats 1000000 in
theorem new_ok (A1 A2:Option Addr) (n m c1 c2:Nat) (l r:List Int) (w:World) (hn:Hid (n=l.length)) (hm:Hid (m=r.length)) (h1:Hid (Is w A1 c1 l)) (h2:Hid (Is w A2 c2 r)) (hk:Hid (newOk l r=true)) :
  Calls Try.prog 8 #[.slice A1 n c1, .slice A2 m c2] w (NewOut w n m l r):=by
 have s1:Hid (PredI 17 badC):=Lib.hid pred_bad
 have hk2:=hk.out
 unfold newOk at hk2
 simp only [Bool.and_eq_true,decide_eq_true_eq,Bool.not_eq_true'] at hk2
 obtain ⟨⟨⟨k1,k2⟩,k3⟩,k4⟩:=hk2
 have hnm:n=m:=by rw [hn.out,hm.out];exact k1
 have h32:n≤32:=by rw [hn.out];exact k2
 subst hnm
 have q1:((n:Int) != (n:Int))=false:=by simp
 have q2 : ¬ (32:Int)<(n:Int):=by omega
 have HA:=Lib.hid k3
 have HB:=Lib.hid k4
 clear k1 k2 k3 k4
 go_enter Try.func8,Try.ntmps8
 have m1:True:=trivial
 have m3:True:=trivial
 go_wp2_with (first
  | (go_at_call 18;have z:=m1;clear z m1;refine (contains_ints badC 17 (fun _ _=>by kernel_rfl) A1 c1 n l _ hn h1 s1).mono ?_;rw [HA.out];rintro e w1 ⟨rfl,x1⟩;have X1:=Lib.hid x1;clear x1)
  | (go_at_call 18;refine (contains_ints badC 17 (fun _ _=>by kernel_rfl) A2 c2 n r _ hm (Lib.hid (h2.out.ext X1.out)) s1).mono ?_;rw [HB.out];rintro e w2 ⟨rfl,x2⟩;have X2:=Lib.hid (X1.out.trans x2);clear x2)
  | (go_at_call 19;have z:=m3;clear z m3;refine (of_any A1 n c1 l _ hn (Lib.hid (h1.out.ext X2.out)) (by omega)).mono ?_;rintro e w3 ⟨A3,c3,b3,rfl,s3,x3⟩;have S3:=Lib.hid s3;have Y3:=Lib.hid x3;have X3:=Lib.hid (X2.out.trans x3);clear x3 s3)
  | (go_at_call 19;refine (of_any A2 n c2 r _ hm (Lib.hid (h2.out.ext X3.out)) (by omega)).mono ?_;rintro e w4 ⟨A4,c4,b4,rfl,s4,x4⟩;have S4:=Lib.hid s4;have Y4:=Lib.hid x4;have X4:=Lib.hid (X3.out.trans x4);clear x4 s4))
 go_returns
 have l3:=World.ownsMap.lt S3.out.2.1
 refine ⟨w4.heap.size,b3,b4,A3,A4,c3,c4,rfl,Bk.new _ _ _,X4.out.size,?_,?_,?_,X4.out.alloc _⟩
 ·exact (S3.out.ext (Y4.out.alloc _)).old X2.out.size
 ·exact (S4.out.ext ((Ext.refl _).alloc _)).old X3.out.size
 ·have:=S4.out.2.2;omega
open Go.RowKit
/-- a name's list -/
structure Ls where
 k:List UInt8
 A:Option Addr
 c:Nat
 l:List Ud
def lsV (x:Ls):Value := .slice x.A x.l.length x.c
/-- an update with a row and counters that nobody writes to -/
structure UdO (w:World) (x:Ud):Prop where
 rw:Own w 0 55 4 x.A x.l.length x.c (rowC x.l)
 ts:Own w 0 103 1 x.t.A x.t.l.length x.t.c (wds x.t.l)
/-- no such block in S -/
def NoDat (w:World) (S:Nat→Prop):Prop := ∀ k,S k → ¬ Ty w k 55 ∧ ¬ Ty w k 103 ∧ ¬ Ty w k 3
structure LsR (w:World) (A:Option Addr) (c:Nat) (L:List Ud):Prop where
 ow:Own w 0 51 4 A L.length c (udsC L)
 el : ∀ x∈L,UdO w x
/-- a side -/
structure SdM where
 CA:Option Addr
 cc:Nat
 cols:List Int
 mb:Nat
 nn:Nat
 D:DataW Value
 E:List Ls
 A:Option Addr
 c:Nat
 r:List Ud
/-- the blocks that a side writes to -/
def SdM.blks (s:SdM) (k:Nat):Prop:=k=s.mb∨blk s.A s.c=some k ∨ ∃ x∈s.E,blk x.A x.c=some k
structure SdR (w:World) (s:SdM):Prop where
 cl:Own w 0 3 1 s.CA s.cols.length s.cc (ints s.cols)
 mp:OwnsJ w s.mb s.nn s.D
 has : ∀ kl,Maps.has s.D kl=true ↔ ∃ x∈s.E,Lit.string x.k=kl
 atk : ∀ x∈s.E, ∀ z,s.D.atKey (.string x.k) z = .held (lsV x)
 nd:(s.E.map Ls.k).Nodup
 es : ∀ x∈s.E,LsR w x.A x.c x.l
 rs:LsR w s.A s.c s.r
 ap:s.E.Pairwise fun x y => ∀ k,blk x.A x.c=some k→blk y.A y.c≠some k
 ar : ∀ x∈s.E, ∀ k,blk x.A x.c=some k→blk s.A s.c≠some k
theorem keyedJ:Maps.Keyed Try.prog 9:=Maps.string_keyed Try.underlying9
theorem zeroUps (w:World):(zeroValue 33).run Try.prog w = .ok (.slice none 0 0) w:=by kernel_rfl
theorem keyOfJ {k:List UInt8} (h:k.length≤1000000000):keyOf Try.prog 9 (.string ⟨k.toArray⟩)=some (.string k):=by
 have:=Go.WideMaps.keyOf_string_mk Try.underlying9 (s:=⟨k.toArray⟩) (by unfold maxLen;show k.toArray.size≤_;simp;omega)
 simpa using this
section
variable {w w':World} {S:Nat→Prop}
theorem UdO.udr {x:Ud} (h:UdO w x):UdR w x:=⟨h.rw.sl,h.ts.sl⟩
theorem UdO.ext {x:Ud} (h:UdO w x) (e:Ext w w'):UdO w' x:=⟨h.rw.ext e,h.ts.ext e⟩
theorem UdO.upd {x:Ud} (h:UdO w x) (u:Upd S w w') (hn:NoDat w S):UdO w' x:=⟨h.rw.upd u (fun k hk q=>(hn k q).1 (h.rw.ty hk)),h.ts.upd u (fun k hk q=>(hn k q).2.1 (h.ts.ty hk))⟩
variable {A:Option Addr} {c:Nat} {L:List Ud}
theorem LsR.ext (h:LsR w A c L) (e:Ext w w'):LsR w' A c L:=⟨h.ow.ext e,fun x hx=>(h.el x hx).ext e⟩
theorem LsR.upd (h:LsR w A c L) (u:Upd S w w') (hn:NoDat w S) (hb : ∀ k,blk A c=some k → ¬ S k):LsR w' A c L:=⟨h.ow.upd u hb,fun x hx=>(h.el x hx).upd u hn⟩
theorem LsR.uin (h:LsR w A c L):Uin w A c L:=⟨h.ow.sl,fun x hx=>(h.el x hx).udr⟩
theorem LsR.nil (w:World):LsR w none 0 []:=⟨Own.nil _ _ _ _,fun x hx=>(nomatch hx)⟩
theorem ty_noDat {k:Nat} {e:TypeId} (h:Ty w k e) (h1:e≠55) (h2:e≠103) (h3:e≠3) : ¬ Ty w k 55 ∧ ¬ Ty w k 103 ∧ ¬ Ty w k 3:=⟨fun q=>h1 (h.ne q),fun q=>h2 (h.ne q),fun q=>h3 (h.ne q)⟩
theorem map_noDat {b n:Nat} {D:DataW Value} (h:OwnsJ w b n D) : ¬ Ty w b 55 ∧ ¬ Ty w b 103 ∧ ¬ Ty w b 3:=by
 obtain ⟨es,cl,hb,_⟩:=h
 refine ⟨?_,?_,?_⟩<;>(rintro ⟨cur,z,q⟩;rw [hb] at q;cases q)
variable {s:SdM}
theorem SdR.ext (h:SdR w s) (e:Ext w w'):SdR w' s:=⟨h.cl.ext e,h.mp.ext e,h.has,h.atk,h.nd,fun x hx=>(h.es x hx).ext e,h.rs.ext e,h.ap,h.ar⟩
theorem SdR.upd (h:SdR w s) (u:Upd S w w') (hn:NoDat w S) (hS : ∀ k,s.blks k → ¬ S k):SdR w' s :=
 ⟨h.cl.upd u (fun k hk q=>(hn k q).2.2 (h.cl.ty hk)),h.mp.upd u (hS _ (.inl rfl)),h.has,h.atk,h.nd,fun x hx=>(h.es x hx).upd u hn (fun k hk=>hS k (.inr (.inr ⟨x,hx,hk⟩))),h.rs.upd u hn (fun k hk=>hS k (.inr (.inl hk))),h.ap,h.ar⟩
theorem SdR.lt (h:SdR w s) {k:Nat} (hk:s.blks k):k<w.heap.size:=by
 rcases hk with rfl | hk | ⟨x,hx,hk⟩
 ·exact World.ownsMap.lt h.mp
 ·exact (h.rs.ow.lt k hk).2
 ·exact ((h.es x hx).ow.lt k hk).2
theorem SdR.noDat (h:SdR w s):NoDat w s.blks:=fun k hk=>by
 rcases hk with rfl | hk | ⟨x,hx,hk⟩
 ·exact map_noDat h.mp
 ·exact ty_noDat (h.rs.ow.ty hk) (by decide) (by decide) (by decide)
 ·exact ty_noDat ((h.es x hx).ow.ty hk) (by decide) (by decide) (by decide)
theorem SdR.not_map (h:SdR w s) {x:Ls} (hx:x∈s.E):blk x.A x.c≠some s.mb:=fun q=>by
 obtain ⟨cur,z,e⟩:=(h.es x hx).ow.ty q
 obtain ⟨es,cl,hb,_⟩:=h.mp
 rw [hb] at e
 cases e
theorem SdR.not_mapr (h:SdR w s):blk s.A s.c≠some s.mb:=fun q=>by
 obtain ⟨cur,z,e⟩:=h.rs.ow.ty q
 obtain ⟨es,cl,hb,_⟩:=h.mp
 rw [hb] at e
 cases e
/-- the list of a name: its own, or none -/
def fnd (E:List Ls) (k:List UInt8):Ls:=(E.find? fun x=>decide (x.k=k)).getD ⟨k,none,0,[]⟩
theorem fnd_mem {E:List Ls} {k:List UInt8} (h : ∃ x∈E,x.k=k):fnd E k∈E∧(fnd E k).k=k:=by
 unfold fnd
 cases e:E.find? fun x=>decide (x.k=k) with
 | none =>
  obtain ⟨x,hx,hk⟩:=h
  have:=List.find?_eq_none.1 e x hx
  simp [hk] at this
 | some y=>exact ⟨List.mem_of_find?_eq_some e,by simpa using List.find?_some e⟩
theorem fnd_none {E:List Ls} {k:List UInt8} (h : ¬ ∃ x∈E,x.k=k):fnd E k=⟨k,none,0,[]⟩:=by
 unfold fnd
 cases e:E.find? fun x=>decide (x.k=k) with
 | none=>rfl
 | some y=>exact absurd ⟨y,List.mem_of_find?_eq_some e,by simpa using List.find?_some e⟩ h
theorem SdR.fnd (h:SdR w s) (k:List UInt8):LsR w (fnd s.E k).A (fnd s.E k).c (fnd s.E k).l:=by
 by_cases q : ∃ x∈s.E,x.k=k
 ·exact h.es _ (fnd_mem q).1
 ·rw [fnd_none q];exact LsR.nil w
theorem SdR.fnd_blk (_:SdR w s) (k:List UInt8) {b:Nat} (hb:blk (Proofs.Ytdgbkpoickbidaa.fnd s.E k).A (Proofs.Ytdgbkpoickbidaa.fnd s.E k).c=some b):s.blks b:=by
 by_cases q : ∃ x∈s.E,x.k=k
 ·exact .inr (.inr ⟨_,(fnd_mem q).1,hb⟩)
 ·rw [fnd_none q] at hb;cases hb
theorem nd_eq {E:List Ls} (h:(E.map Ls.k).Nodup) {x y:Ls} (hx:x∈E) (hy:y∈E) (e:x.k=y.k):x=y:=by
 induction E with
 | nil=>cases hx
 | cons a E ih =>
  rw [List.map_cons,List.nodup_cons] at h
  rcases List.mem_cons.1 hx with hx2 | hx2
  ·rcases List.mem_cons.1 hy with hy2 | hy2
   ·rw [hx2,hy2]
   ·exact absurd (show a.k∈E.map Ls.k by rw [← hx2,e];exact List.mem_map.2 ⟨y,hy2,rfl⟩) h.1
  ·rcases List.mem_cons.1 hy with hy2 | hy2
   ·exact absurd (show a.k∈E.map Ls.k by rw [← hy2, ← e];exact List.mem_map.2 ⟨x,hx2,rfl⟩) h.1
   ·exact ih h.2 hx2 hy2
theorem pw_ne {E:List Ls} (h:E.Pairwise fun x y => ∀ k,blk x.A x.c=some k→blk y.A y.c≠some k) {x y:Ls} (hx:x∈E) (hy:y∈E) (e:x≠y) : ∀ k,blk x.A x.c=some k→blk y.A y.c≠some k:=by
 induction E with
 | nil=>cases hx
 | cons a E ih =>
  rw [List.pairwise_cons] at h
  rcases List.mem_cons.1 hx with hx2 | hx2
  ·rcases List.mem_cons.1 hy with hy2 | hy2
   ·exact absurd (hx2.trans hy2.symm) e
   ·rw [hx2];exact h.1 y hy2
  ·rcases List.mem_cons.1 hy with hy2 | hy2
   ·rw [hy2];exact fun k h1 h2=>h.1 x hx2 k h2 h1
   ·exact ih h.2 hx2 hy2
set_option maxRecDepth 100000 in
/-- a name is looked up -/
theorem SdR.look (h:SdR w s) (hm:OwnsJ w' s.mb s.nn s.D) {k:List UInt8} (hk:k.length≤1000000000):(Instr.lookup 59 (.map (some s.mb)) (.string ⟨k.toArray⟩) false).run Try.prog w' = .ok (.slice (Proofs.Ytdgbkpoickbidaa.fnd s.E k).A (Proofs.Ytdgbkpoickbidaa.fnd s.E k).l.length (Proofs.Ytdgbkpoickbidaa.fnd s.E k).c) w':=by
 obtain ⟨z,ps,hrun,hz⟩:=World.ownsMap.lookup hm keyedJ Try.underlying59 (zeroUps w') (z := .slice none 0 0) (zd := .held (.slice none 0 0)) (zp:=[]) rfl (keyOfJ hk)
 rw [hrun]
 have hz1:(.held z:DataW Value)=s.D.atKey (.string k) (.held (.slice none 0 0)):=by
  unfold tokJ at hz
  injection hz with hz
  exact (Prod.mk.inj hz).1
 by_cases q : ∃ x∈s.E,x.k=k
 ·obtain ⟨h1,h2⟩:=fnd_mem q
  have:=h.atk _ h1 (.held (.slice none 0 0))
  rw [h2] at this
  rw [this] at hz1
  injection hz1 with hz1
  rw [hz1]
  rfl
 ·have hno:Maps.has s.D (.string k)=false:=by
   rw [Bool.eq_false_iff]
   intro e
   obtain ⟨x,hx,e⟩:=(h.has _).1 e
   injection e with e
   exact q ⟨x,hx,e⟩
  rw [Maps.atKey_of_not_has hno] at hz1
  injection hz1 with hz1
  rw [hz1,fnd_none q]
  rfl
theorem SdR.not_bk (h:SdR w s) {g:Nat} {t:TypeId} {cs:Array Value} (hb:Bk w g t cs) (ht:t≠51) (hk:s.blks g):False:=by
 rcases hk with rfl | hk | ⟨x,hx,hk⟩
 ·obtain ⟨es,cl,hm,_⟩:=h.mp
  have:=hb.symm.trans hm
  cases this
 ·exact ht (hb.ty.ne (h.rs.ow.ty hk))
 ·exact ht (hb.ty.ne ((h.es x hx).ow.ty hk))
/-- the side with a list put at a name -/
def SdM.put (s:SdM) (x:Ls):SdM:={ s with nn:=s.nn+1,D:=s.D.put (.string x.k) (.held (lsV x)),E:=s.E.filter (fun y=>decide (y.k≠x.k))++[x] }
def SdM.rest (s:SdM) (A:Option Addr) (c:Nat) (r:List Ud):SdM:={ s with A:=A,c:=c,r:=r }
theorem put_case {s:SdM} {x y:Ls} (hy:y∈(s.put x).E):(y∈s.E∧y.k≠x.k)∨y=x:=by
 rcases List.mem_append.1 hy with hy | hy
 ·have:=List.mem_filter.1 hy
  exact .inl ⟨this.1,by simpa using this.2⟩
 ·exact .inr (List.mem_singleton.1 hy)
/-- a name's list is grown, then put back -/
theorem SdR.put (h:SdR w s) {x:Ls} {w2:World} (g:Upd (fun k=>blk (Proofs.Ytdgbkpoickbidaa.fnd s.E x.k).A (Proofs.Ytdgbkpoickbidaa.fnd s.E x.k).c=some k) w w2) (hx:LsR w2 x.A x.c x.l) (hb : ∀ k,blk x.A x.c=some k→blk (Proofs.Ytdgbkpoickbidaa.fnd s.E x.k).A (Proofs.Ytdgbkpoickbidaa.fnd s.E x.k).c=some k∨w.heap.size≤k) (hm:OwnsJ w' s.mb (s.nn+1) (s.D.put (.string x.k) (.held (lsV x)))) (gm:w2.grownBy w' (some s.mb)):SdR w' (s.put x):=by
 have kl:WideAt.IsKeyLit (.string x.k):=trivial
 have him:=World.ownsMap.isMap h.mp
 have hnd:NoDat w (fun k=>blk (Proofs.Ytdgbkpoickbidaa.fnd s.E x.k).A (Proofs.Ytdgbkpoickbidaa.fnd s.E x.k).c=some k):=fun k hk=>h.noDat k (h.fnd_blk x.k hk)
 have um:Upd (fun k=>k=s.mb) w2 w':=(Upd.refl _ w2).grown gm (fun k hk => .inl (by injection hk with hk;exact hk.symm))
 have hm2:OwnsJ w2 s.mb s.nn s.D:=h.mp.upd g (fun q=>by
  by_cases e : ∃ y∈s.E,y.k=x.k
  ·exact h.not_map (fnd_mem e).1 q
  ·rw [fnd_none e] at q;cases q)
 have nm:NoDat w2 (fun k=>k=s.mb):=fun k hk=>by subst hk;exact map_noDat hm2
 have nx:blk x.A x.c≠some s.mb:=fun q=>by
  obtain ⟨cur,z,e⟩:=hx.ow.ty q
  obtain ⟨es,cl,hb,_⟩:=hm2
  rw [hb] at e
  cases e
 have far : ∀ y∈s.E,y.k≠x.k → ∀ k,blk y.A y.c=some k → ¬ blk (Proofs.Ytdgbkpoickbidaa.fnd s.E x.k).A (Proofs.Ytdgbkpoickbidaa.fnd s.E x.k).c=some k:=fun y hy hn k hk q=>by
  by_cases e : ∃ z∈s.E,z.k=x.k
  ·obtain ⟨h1,h2⟩:=fnd_mem e
   have hne:y≠Proofs.Ytdgbkpoickbidaa.fnd s.E x.k:=fun e2=>hn (by rw [e2];exact h2)
   exact pw_ne h.ap hy h1 hne k hk q
  ·rw [fnd_none e] at q;cases q
 have farr : ∀ k,blk s.A s.c=some k → ¬ blk (Proofs.Ytdgbkpoickbidaa.fnd s.E x.k).A (Proofs.Ytdgbkpoickbidaa.fnd s.E x.k).c=some k:=fun k hk q=>by
  by_cases e : ∃ z∈s.E,z.k=x.k
  ·exact h.ar _ (fnd_mem e).1 k q hk
  ·rw [fnd_none e] at q;cases q
 refine ⟨?_,hm,fun l=>?_,fun y hy z=>?_,?_,fun y hy=>?_,?_,?_,fun y hy k hk q=>?_⟩
 ·exact (h.cl.upd g (fun k hk q=>(hnd k q).2.2 (h.cl.ty hk))).upd um (fun k hk q=>by subst q;exact (map_noDat hm2).2.2 ((h.cl.upd g (fun k hk q=>(hnd k q).2.2 (h.cl.ty hk))).ty hk))
 ·by_cases e:l = .string x.k
  ·subst e
   show Maps.has (s.D.put _ _) _=true↔_
   rw [Maps.has_put_same him kl]
   exact ⟨fun _=>⟨x,List.mem_append_right _ (by simp),rfl⟩,fun _=>rfl⟩
  ·show Maps.has (s.D.put _ _) _=true↔_
   rw [Maps.has_put_other e,h.has]
   constructor
   ·rintro ⟨y,hy,rfl⟩
    exact ⟨y,List.mem_append_left _ (List.mem_filter.2 ⟨hy,decide_eq_true (fun q=>e (by rw [q]))⟩),rfl⟩
   ·rintro ⟨y,hy,rfl⟩
    rcases put_case hy with q | rfl
    ·exact ⟨y,q.1,rfl⟩
    ·exact absurd rfl e
 ·rcases put_case hy with q | rfl
  ·show (s.D.put _ _).atKey _ z=_
   rw [Maps.atKey_put_other (fun e=>q.2 (by injection e))]
   exact h.atk y q.1 z
  ·exact Maps.atKey_put_same him kl _ _
 ·show ((s.E.filter _++[x]).map Ls.k).Nodup
  rw [List.map_append]
  refine List.nodup_append.2 ⟨(List.filter_sublist.map _).nodup h.nd,by simp,fun a ha b hb2 e=>?_⟩
  obtain ⟨y,hy,rfl⟩:=List.mem_map.1 ha
  have:=(List.mem_filter.1 hy).2
  rw [List.mem_singleton.1 (show b∈[x.k] from hb2)] at e
  rw [decide_eq_true_iff] at this
  exact this e
 ·rcases put_case hy with q | rfl
  ·exact ((h.es y q.1).upd g hnd (far y q.1 q.2)).upd um nm (fun k hk e=>by subst e;exact h.not_map q.1 hk)
  ·exact hx.upd um nm (fun k hk e=>by subst e;exact nx hk)
 ·exact (h.rs.upd g hnd farr).upd um nm (fun k hk e=>by subst e;exact h.not_mapr hk)
 ·refine List.pairwise_append.2 ⟨h.ap.filter _,List.pairwise_singleton _ _,fun y hy z hz k h1 h2=>?_⟩
  have hy2:=List.mem_filter.1 hy
  rw [List.mem_singleton.1 hz] at h2
  rcases hb k h2 with q | q
  ·exact far y hy2.1 (by simpa using hy2.2) k h1 q
  ·have:=((h.es y hy2.1).ow.lt k h1).2;omega
 ·rcases put_case hy with r | rfl
  ·exact h.ar y r.1 k hk q
  ·rcases hb k hk with r | r
   ·exact farr k q r
   ·have:=(h.rs.ow.lt k q).2;omega
/-- the rest is grown -/
theorem SdR.rest (h:SdR w s) {A:Option Addr} {c:Nat} {r:List Ud} (g:Upd (fun k=>blk s.A s.c=some k) w w') (hx:LsR w' A c r) (hb : ∀ k,blk A c=some k→blk s.A s.c=some k∨w.heap.size≤k):SdR w' (s.rest A c r):=by
 have hnd:NoDat w (fun k=>blk s.A s.c=some k):=fun k hk=>h.noDat k (.inr (.inl hk))
 refine ⟨h.cl.upd g (fun k hk q=>(hnd k q).2.2 (h.cl.ty hk)),h.mp.upd g (fun q=>h.not_mapr q),h.has,h.atk,h.nd,fun y hy=>(h.es y hy).upd g hnd (fun k hk=>h.ar y hy k hk),hx,h.ap,fun y hy k hk q=>?_⟩
 rcases hb k q with q | q
 ·exact h.ar y hy k hk q
 ·have:=((h.es y hy).ow.lt k hk).2;omega
end
theorem namT_false {cols:List Int} {l:List Dat} {r:List UInt8} (h:namT cols l=(r,false)):r=[]:=by
 unfold namT at h
 split at h
 ·cases h
 ·injection h with h1 _
  exact h1.symm
theorem namT_len {cols:List Int} {l:List Dat} {r:List UInt8} {is:Bool} (h:namT cols l=(r,is)) (hl:NamR l) (hc:cols.length≤1000):r.length≤1009000:=by
 unfold namT at h
 split at h
 ·injection h with h1 _
  have:=namL_len hl.s cols
  rw [← h1]
  omega
 ·injection h with h1 _
  rw [← h1]
  exact Nat.zero_le _
/-! ### its value -/
structure SdV (s:SdM) (T:List UV):Prop where
 get : ∀ k,(fnd s.E k).l.map Ud.uv=T.filter fun u=>decide (namT s.cols u.1.1=(k,true))
 all:((s.r++s.E.flatMap Ls.l).map Ud.uv).Perm T
 cnt:s.nn≤T.length
theorem fnd_put_same (s:SdM) (x:Ls):fnd (s.put x).E x.k=x:=by
 unfold fnd SdM.put
 rw [List.find?_append,List.find?_eq_none.2 (fun y hy=>by have:=(List.mem_filter.1 hy).2;simpa using this)]
 simp
theorem fnd_put_other {s:SdM} {x:Ls} {k:List UInt8} (h:k≠x.k):fnd (s.put x).E k=fnd s.E k:=by
 unfold fnd SdM.put
 rw [List.find?_append,List.find?_filter]
 have e1:(s.E.find? fun a=>decide (decide (a.k≠x.k)=true∧decide (a.k=k)=true))=s.E.find? fun a=>decide (a.k=k):=by
  congr 1
  funext a
  by_cases e:a.k=k
  ·simp [e,h]
  ·simp [e]
 rw [e1]
 cases s.E.find? fun a=>decide (a.k=k) with
 | some y=>rfl
 | none =>
  have:([x].find? fun a=>decide (a.k=k))=none:=by simp [Ne.symm h]
  rw [this]
  rfl
/-- the lists of all names but one, and that one's -/
theorem flat_split {E:List Ls} (h:(E.map Ls.k).Nodup) (k:List UInt8):(E.flatMap Ls.l).Perm ((E.filter fun y=>decide (y.k≠k)).flatMap Ls.l++(fnd E k).l):=by
 induction E with
 | nil=>exact List.Perm.refl _
 | cons x E ih =>
  rw [List.map_cons,List.nodup_cons] at h
  by_cases e:x.k=k
  ·have hf:E.filter (fun y=>decide (y.k≠k))=E:=List.filter_eq_self.2 fun y hy=>decide_eq_true fun q=>h.1 (e.trans q.symm ▸ List.mem_map.2 ⟨y,hy,rfl⟩)
   rw [List.filter_cons_of_neg (by simpa using e),hf,List.flatMap_cons]
   have:fnd (x :: E) k=x:=by unfold fnd;rw [List.find?_cons_of_pos (by simpa using e)];rfl
   rw [this]
   exact List.perm_append_comm
  ·rw [List.filter_cons_of_pos (by simpa using e),List.flatMap_cons,List.flatMap_cons]
   have:fnd (x :: E) k=fnd E k:=by unfold fnd;rw [List.find?_cons_of_neg (by simpa using e)]
   rw [this,List.append_assoc]
   exact (ih h.2).append_left _
theorem SdV.put {s:SdM} {T:List UV} (h:SdV s T) (hd:(s.E.map Ls.k).Nodup) {x:Ls} {u:Ud} (hx:x.l=(fnd s.E x.k).l++[u]) (hn:namT s.cols u.l=(x.k,true)):SdV (s.put x) (T++[u.uv]):=by
 refine ⟨fun k=>?_,?_,?_⟩
 ·by_cases e:k=x.k
  ·subst e
   rw [fnd_put_same,hx,List.map_append,List.filter_append,h.get]
   congr 1
   show [u.uv]=[u.uv].filter _
   rw [List.filter_cons_of_pos (by exact decide_eq_true hn)]
   rfl
  ·rw [fnd_put_other e,h.get,List.filter_append]
   show _=_++[u.uv].filter _
   rw [List.filter_cons_of_neg (by
    intro q
    have:=of_decide_eq_true q
    rw [show u.uv.1.1=u.l from rfl,show (s.put x).cols=s.cols from rfl,hn] at this
    exact e (Prod.mk.inj this).1.symm)]
   simp
   rfl
 ·show ((s.r++(s.E.filter _++[x]).flatMap Ls.l).map Ud.uv).Perm _
  rw [List.flatMap_append,List.flatMap_singleton,hx]
  have h1:=flat_split hd x.k
  have h2:(s.r++((s.E.filter fun y=>decide (y.k≠x.k)).flatMap Ls.l++((fnd s.E x.k).l++[u]))).Perm ((s.r++s.E.flatMap Ls.l)++[u]):=by
   rw [← List.append_assoc ((s.E.filter fun y=>decide (y.k≠x.k)).flatMap Ls.l), ← List.append_assoc]
   exact ((h1.symm.append_left s.r).append_right [u])
  refine (h2.map Ud.uv).trans ?_
  rw [List.map_append]
  exact h.all.append_right _
 ·show s.nn+1≤_
  have:=h.cnt
  simp
  omega
theorem SdV.rest {s:SdM} {T:List UV} (h:SdV s T) {A:Option Addr} {c:Nat} {u:Ud} (hn:namT s.cols u.l=([],false)):SdV (s.rest A c (s.r++[u])) (T++[u.uv]):=by
 refine ⟨fun k=>?_,?_,?_⟩
 ·show (fnd s.E k).l.map Ud.uv=_
  rw [h.get,List.filter_append]
  show _=_++[u.uv].filter _
  rw [List.filter_cons_of_neg (by
   intro q
   have:=of_decide_eq_true q
   rw [show u.uv.1.1=u.l from rfl,show (s.rest A c (s.r++[u])).cols=s.cols from rfl,hn] at this
   cases (Prod.mk.inj this).2)]
  simp
  rfl
 ·show ((s.r++[u]++s.E.flatMap Ls.l).map Ud.uv).Perm _
  rw [List.append_assoc,List.map_append,List.map_append]
  have h1:=h.all
  rw [List.map_append] at h1
  refine List.Perm.trans ?_ (h1.append_right [u.uv])
  rw [List.append_assoc]
  exact List.Perm.append_left _ (List.perm_append_comm (l₁:=[u.uv]))
 ·show s.nn≤_
  have:=h.cnt
  simp
  omega
open Go.RowKit
abbrev rnd (l:Nat):Fence:=Fence.wide.inRound l
section
variable {P:Program} {ops:Array Oper} {Q:Exit→Act→World→Prop} {n l:Nat}
def noDefer (ops:List Oper):Bool:=ops.all fun o=>match o.op with | .defer _=>false | _=>true
theorem noDefer_at {ol:List Oper} (h:noDefer ol=true) {o:Oper} (ho:o∈ol) : ∀ c,o.op ≠ .defer c:=fun c e=>by
 have:=List.all_eq_true.1 h o ho
 rw [e] at this
 cases this
theorem rows_in {row:String} {args:Array Value} {w:World} {R:Value→World→Prop} (h:Rows P row args w R):RowsIn (rnd l) n P row args w R:=fun c cs _ =>
 let ⟨v,w',r,s⟩:=h c cs;⟨v,w',r,stepsIn_wide.2 s⟩
theorem calls_in {f:FuncId} {args:Array Value} {w:World} {R:Ending→World→Prop} (h:Calls P f args w R):CallsIn (rnd l) n P f args w R:=CallsIn.inRound l (callsIn_wide.2 h)
theorem op_in {o:Oper} (hd : ∀ c,o.op ≠ .defer c) {a:Act} {w:World} {K:Act→World→Prop} (h:o.wp P a w K Q):o.wpIn (rnd l) n P a w K Q:=by
 refine ⟨fun _ _=>trivial,?_⟩
 rw [show (rnd l).round=some l from rfl,Oper.semAt_some _ _ _ hd]
 unfold Oper.wp at h
 generalize (execOp a.eval o).run P w=r at h ⊢
 cases r with
 | ok x w' =>
  cases x with
  | value v=>exact h
  | skip=>exact h
  | defer d=>exact h
  | enter f args=>exact ⟨fun h=>(by cases h),(calls_in h).mono fun e w'' he=>by cases e<;>exact he⟩
  | row row args=>exact ⟨fun h=>(by cases h),rows_in h⟩
  | _=>exact h.elim
 | halt x w'=>cases x<;>first | exact h | exact h.elim
theorem opn_in {ol:List Oper} (hd:noDefer ol=true) (hL : ∀ a w, ¬ Q .outgrown a w) {i:Nat} {K:Act→World→Prop} {a:Act} {w:World} (h:wpOp P ol.toArray Q i K a w):wpOpIn (rnd l) n P ol.toArray Q i K a w:=by
 unfold wpOp at h
 unfold Go.wpOpIn
 cases ho:ol.toArray[i]? with
 | none=>simpa only [ho] using h
 | some o =>
  simp only [ho] at h ⊢
  split at h
  ·rename_i hw
   rw [if_pos hw]
   rcases h with h | ⟨_,a0,w0,q⟩
   ·exact op_in (noDefer_at hd (by rw [List.getElem?_toArray] at ho;exact List.mem_of_getElem? ho)) h
   ·exact (hL _ _ q).elim
  ·rename_i hw
   rw [if_neg hw]
   exact ⟨fun _ _=>trivial,h⟩
theorem any_in {ol:List Oper} (hd:noDefer ol=true) (hL : ∀ a w, ¬ Q .outgrown a w) : ∀ (fuel:Nat) (listed:Array Bool) (a:Act) (w:World),wpAny P .any ol.toArray Q fuel listed a w→wpAnyIn (rnd l) n P .any ol.toArray Q fuel listed a w
 | 0,_,_,_,h=>h
 | fuel+1,_,_,_,h=>⟨h.1,fun i hi=>wpOpIn_mono (fun a w h=>any_in hd hL fuel _ a w h) (opn_in hd hL (h.2 i hi))⟩
/-- a region that draws its order, in one order, within a round -/
theorem in_region_ord {id:Nat} {a:Act} {w:World} {ol:List Oper} (bs:List Nat) (p:Plan) (hm:P.follows .mixedOrders=true)
  (hB:(ancOkB ol.toArray bs.toArray&&Region.noSelect ol.toArray&&ordB ol.toArray bs.toArray (extIdx p) p (Array.replicate ol.toArray.size false)&&decide (total p≤ol.toArray.size))=true) (hd:noDefer ol=true)
  (hL : ∀ a w, ¬ Q .outgrown a w) (hQ : ∀ c a d v w,Q (.panic c) (a.put d v) w→Q (.panic c) a w)
  (h:ordWalk P ol.toArray Q p w.drew a w.drew):(Code.region id ol.toArray true).wpIn (rnd l) n P Q a w:=by
 simp only [Bool.and_eq_true,decide_eq_true_eq] at hB
 obtain ⟨⟨⟨h1,h2⟩,h3⟩,h4⟩:=hB
 refine wpIn_region_any hm (any_in hd hL _ _ _ _ (wpAny_of_X _ _ _ _ (X_of_ord h1 h2 hQ _ p w.drew _ a w.drew _ (Ext.refl _) h4 ?_ h3 h)))
 intro j hj
 exfalso
 simp [Array.getD] at hj
theorem list_in {os:List Oper} (hL : ∀ a w, ¬ Q .outgrown a w) : ∀ (ol:List Oper) (_:noDefer ol=true) (a:Act) (w:World),wpList P os.toArray Q ol a w→wpListIn (rnd l) n P os.toArray Q ol a w
 | [],_,_,_,h=>h
 | o :: ol,hd,a,w,h=>by
  unfold wpList at h
  unfold wpListIn
  split at h
  ·rename_i hw
   rw [if_pos hw]
   rcases h with h | ⟨_,a0,w0,q⟩
   ·exact Oper.wpIn_mono (fun a w h=>list_in hL ol (List.all_eq_true.2 fun x hx=>List.all_eq_true.1 hd x (List.mem_cons_of_mem _ hx)) a w h) (op_in (noDefer_at hd (List.mem_cons_self ..)) h)
   ·exact (hL _ _ q).elim
  ·rename_i hw
   rw [if_neg hw]
   exact ⟨fun _ _=>trivial,list_in hL ol (List.all_eq_true.2 fun x hx=>List.all_eq_true.1 hd x (List.mem_cons_of_mem _ hx)) _ w h⟩
/-- a region of one order within a round -/
theorem in_region {id:Nat} {a:Act} {w:World} {ol:List Oper} (hd:noDefer ol=true) (hL : ∀ a w, ¬ Q .outgrown a w) (h:wpList P ol.toArray Q ol a w):(Code.region id ol.toArray false).wpIn (rnd l) n P Q a w :=
 wpIn_region_lit (list_in hL ol hd a w h)
end
end Go.Proofs.Ytdgbkpoickbidaa
