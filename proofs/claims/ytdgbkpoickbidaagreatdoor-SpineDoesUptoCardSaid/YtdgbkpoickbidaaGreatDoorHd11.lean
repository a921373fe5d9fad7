/- Parts of the proof, put together. Conditions: each theorem states its own. -/
import Derived.Test.YtdgbkpoickbidaaGreatDoorHd10
import Derived.LaidEqlPtr
set_option maxRecDepth 100000
set_option maxHeartbeats 4000000
open Go.RowKit
namespace Go.Proofs.YtdgbkpoickbidaaGreatDoor
structure Yt (S:Nat->Prop) (w:World) where
 W:World
 x:Upd S w W
instance Yt.any (S:Nat->Prop) (w:World):Nonempty (Yt S w):=⟨⟨w,Upd.refl S w⟩⟩
section
variable{P:Program}{ops:Array Oper}{Q:Exit->Act->World->Prop}{bs:Array Nat}{S:Nat->Prop}
def Vh(S:Nat->Prop)(P:Program)(ops:Array Oper)(Q:Exit->Act->World->Prop)(X:Nat->Bool):Nat->Array Bool->Act->World->Prop
 | 0,listed,a,w=>Region.ready .any ops listed=[]/\Q .normal a w
 | fuel+1,listed,a,w =>
  (Region.ready .any ops listed=[]->Q .normal a w) /\
  ∀i∈Region.ready .any ops listed,wpOp P ops Q i (fun a' w'=>(X i=true->Upd S w w')/\Vh S P ops Q X fuel (listed.setIfInBounds i true) a' w') a w
theorem Qh{X:Nat->Bool}:∀(fuel:Nat) (listed:Array Bool) (a:Act) (w:World),Vh S P ops Q X fuel listed a w->wpAny P .any ops Q fuel listed a w
 | 0,_,_,_,h=>h
 | fuel+1,_,_,_,h=>⟨h.1,fun i hi=>wpOp_mono (fun a' w' h'=>Qh fuel _ a' w' h'.2) (h.2 i hi)⟩
theorem kQ{X:Nat->Bool}{listed:Array Bool}{a:Act}{w:World}(hr:Region.ready .any ops listed=[])(h:Q .normal a w):∀fuel,Vh S P ops Q X fuel listed a w
 | 0=>⟨hr,h⟩
 | _+1=>⟨fun _=>h,by rw[hr];simp⟩
theorem Vj{o:Oper}{v:Value}{a:Act}{w w':World}(h:YieldsIf P ops (Upd S w) o v a)(x:Upd S w w'):YieldsIf P ops (Upd S w') o v a :=
 h.imp (fun ⟨h1,h2⟩=>⟨h1,fun u hu=>h2 u (x.trans hu)⟩) id
theorem fZ{X:Nat->Bool}(hok:Fv ops bs=true){i:Nat}{oi:Oper}{v:Value}(hi:ops[i]?=some oi)(hsel:∀(j:Nat) (o:Oper) cs b,ops[j]?=some o->o.op≠.select cs b)
  (hQ:∀c a d v w,Q (.panic c) (a.put d v) w->Q (.panic c) a w) :
  ∀(fuel:Nat) (listed:Array Bool) (a:Act) (w:World),Jh ops bs listed ->
   (∀j oj,ops[j]?=some oj->j≠i->listed.getD j true=false->Fr ops bs i j=false->oi.apart ops oj=true/\X j=true) ->
   i∈Region.ready .any ops listed->YieldsIf P ops (Upd S w) oi v a ->
   Vh S P ops Q X fuel (listed.setIfInBounds i true) (a.put oi.dst v) w->Vh S P ops Q X (fuel+1) listed a w:=by
 intro fuel;induction fuel with
 | zero =>
  intro listed a w hcl _ hr hy H;refine⟨fun h=>(by rw[h]at hr;cases hr),fun j hj=>?_⟩;by_cases hji:j=i
  ·subst hji;exact hy.wpOp hi (Upd.refl S w) ⟨fun _=>Upd.refl S w,H⟩
  ·have:=ready_mono hj hji;rw[H.1]at this;cases this
 | succ fuel ih =>
  intro listed a w hcl hfree hr hy H;refine⟨fun h=>(by rw[h]at hr;cases hr),fun j hj=>?_⟩;by_cases hji:j=i
  ·subst hji;exact hy.wpOp hi (Upd.refl S w) ⟨fun _=>Upd.refl S w,H⟩
  ·have h1:=H.2 j (ready_mono hj hji);obtain⟨hjun,oj,hoj,hall⟩:=mem_ready.1 hj;have hiun:=(mem_ready.1 hr).1;have hnot:Fr ops bs i j=false:=by
    cases hb:Fr ops bs i j with
    | false=>rfl
    | true =>
     have h2:=Jq hok hcl hj hb;rcases DP i listed.size with h'|h'
     ·simp[h']at h2 hiun;rw[hiun]at h2;cases h2
     ·simp[FE h']at h2
   obtain⟨hap,hX⟩:=hfree j oj hoj hji hjun hnot;have h2:=wpOp_putIf hoj hap (fun cs b=>hsel i oi cs b hi) (fun cs b=>hsel j oj cs b hoj) (fun c a w=>hQ c a _ _ w) hy h1;have hfree':∀k ok,ops[k]?=some ok->k≠i->(listed.setIfInBounds j true).getD k true=false->Fr ops bs i k=false->oi.apart ops ok=true/\X k=true:=fun k ok hk hki hun hno=>by
    refine hfree k ok hk hki ?_ hno;by_cases hjk:j=k
    ·subst hjk;exact hjun
    ·rw[getD_set_ne true hjk]at hun;exact hun
   refine wpOp_mono (fun a' w' h3=>⟨h3.2.1,ih (listed.setIfInBounds j true) a' w' (hcl.add hok hj) hfree' (ready_mono hr (Ne.symm hji)) (Vj h3.1 (h3.2.1 hX)) ?_⟩) h2;rw[EW _ _ hji];exact h3.2.2
theorem Rj{X:Nat->Bool}(hok:Fv ops bs=true){i:Nat}{oi:Oper}{v:Value}(hi:ops[i]?=some oi)(hsel:∀(j:Nat) (o:Oper) cs b,ops[j]?=some o->o.op≠.select cs b)
  (hQ:∀c a d v w,Q (.panic c) (a.put d v) w->Q (.panic c) a w) :
  ∀(fuel:Nat) (listed:Array Bool) (a:Act) (w:World),Jh ops bs listed ->
   (∀j oj,ops[j]?=some oj->j≠i->listed.getD j true=false->Fr ops bs i j=false->oi.apart ops oj=true) ->
   i∈Region.ready .any ops listed->YieldsIf P ops (fun _=>True) oi v a ->
   Vh S P ops Q X fuel (listed.setIfInBounds i true) (a.put oi.dst v) w->Vh S P ops Q X (fuel+1) listed a w:=by
 intro fuel;induction fuel with
 | zero =>
  intro listed a w hcl _ hr hy H;refine⟨fun h=>(by rw[h]at hr;cases hr),fun j hj=>?_⟩;by_cases hji:j=i
  ·subst hji;exact hy.wpOp hi trivial ⟨fun _=>Upd.refl S w,H⟩
  ·have:=ready_mono hj hji;rw[H.1]at this;cases this
 | succ fuel ih =>
  intro listed a w hcl hfree hr hy H;refine⟨fun h=>(by rw[h]at hr;cases hr),fun j hj=>?_⟩;by_cases hji:j=i
  ·subst hji;exact hy.wpOp hi trivial ⟨fun _=>Upd.refl S w,H⟩
  ·have h1:=H.2 j (ready_mono hj hji);obtain⟨hjun,oj,hoj,hall⟩:=mem_ready.1 hj;have hiun:=(mem_ready.1 hr).1;have hnot:Fr ops bs i j=false:=by
    cases hb:Fr ops bs i j with
    | false=>rfl
    | true =>
     have h2:=Jq hok hcl hj hb;rcases DP i listed.size with h'|h'
     ·simp[h']at h2 hiun;rw[hiun]at h2;cases h2
     ·simp[FE h']at h2
   have hap:=hfree j oj hoj hji hjun hnot;have h2:=wpOp_putIf hoj hap (fun cs b=>hsel i oi cs b hi) (fun cs b=>hsel j oj cs b hoj) (fun c a w=>hQ c a _ _ w) hy h1;have hfree':∀k ok,ops[k]?=some ok->k≠i->(listed.setIfInBounds j true).getD k true=false->Fr ops bs i k=false->oi.apart ops ok=true:=fun k ok hk hki hun hno=>by
    refine hfree k ok hk hki ?_ hno;by_cases hjk:j=k
    ·subst hjk;exact hjun
    ·rw[getD_set_ne true hjk]at hun;exact hun
   refine wpOp_mono (fun a' w' h3=>⟨h3.2.1,ih (listed.setIfInBounds j true) a' w' (hcl.add hok hj) hfree' (ready_mono hr (Ne.symm hji)) h3.1 ?_⟩) h2;rw[EW _ _ hji];exact h3.2.2
def Bc(S:Nat->Prop)(P:Program)(ops:Array Oper)(Q:Exit->Act->World->Prop):Fq->World->Act->World->Prop
 | .fin,_,a,w=>Q .normal a w
 | .flo l r,b,a,w=>wpQuiet P ops (fun w'=>∃y:Yt S b,w'=y.W) (fun a'=>Bc S P ops Q r b a' w) (Ai ops l) a
 | .pur l r,b,a,w=>wpQuiet P ops (fun _=>True) (fun a'=>Bc S P ops Q r b a' w) (Ai ops l) a
 | .ext i r,b,a,w=>wpList P ops (Exit.then (fun a' w'=>Upd S w w'/\Bc S P ops Q r b a' w') Q) (Ai ops [i]) a w
 | .one i r,_,a,w=>wpList P ops (Exit.then (fun a' w'=>Bc S P ops Q r w' a' w') Q) (Ai ops [i]) a w
 | .both i j r q,b,a,w=>wpList P ops (Exit.then (fun a' w'=>Upd S w w'/\Bc S P ops Q r b a' w') Q) (Ai ops [i]) a w/\wpList P ops (Exit.then (fun a' w'=>Upd S w w'/\Bc S P ops Q q b a' w') Q) (Ai ops [j]) a w
theorem Vr{o:Oper}{a:Act}{w:World}{K:Act->Prop}(ho:Kx o.op=true)(h:o.quiet P a (fun w'=>∃y:Yt S w,w'=y.W) K) :
  ∃v,(∀u,Upd S w u->(execOp a.eval o).run P u=.ok (.value v) u)/\K (a.put o.dst v):=by
 obtain⟨v,h1,h2⟩:=h;refine⟨v,fun u hu=>?_,h2⟩;have h3:=h1 u ⟨⟨u,hu⟩,rfl⟩;unfold Oper.quietAt at h3;cases hr:(execOp a.eval o).run P u with
 | ok n u' =>
  rw[hr]at h3;obtain⟨x,rfl⟩:=Pv ho hr;obtain⟨e1,e2⟩:=h3;rw[e1,e2]
 | halt x u'=>rw[hr]at h3;exact h3.elim
theorem oJ(hok:Fv ops bs=true)(hsel:Region.noSelect ops=true)(hQ:∀c a d v w,Q (.panic c) (a.put d v) w->Q (.panic c) a w)(es:List Nat) :
  ∀(p:Fq) (b:World) (listed:Array Bool) (a:Act) (w:World) (fuel:Nat),Upd S b w->By p<=fuel->Jh ops bs listed->Eu ops bs es p listed=true->Bc S P ops Q p b a w ->
   Vh S P ops Q (inX ops es) fuel listed a w:=by
 intro p;induction p with
 | fin =>
  intro b listed a w fuel _ _ _ hB h;exact kQ (by simpa [Eu] using hB) h fuel
 | flo l r ih =>
  induction l with
  | nil =>
   intro b listed a w fuel hx hf hc hB h;refine ih b listed a w fuel hx (by simpa [By] using hf) hc (by simpa [Eu,We,Fz] using hB) ?_;simpa [Bc,Ai,wpQuiet] using h
  | cons i l ihl =>
   intro b listed a w fuel hx hf hc hB h;simp only[Eu,We,Fz,Bool.and_eq_true]at hB;obtain⟨⟨hi,hl⟩,hr⟩:=hB;cases ho:ops[i]? with
   | none=>simp[oM,ho]at hi
   | some oi =>
    simp only[oM,ho,Bool.and_eq_true]at hi;obtain⟨⟨hflo,hrd⟩,hfr⟩:=hi;have hrd':i∈Region.ready .any ops listed:=by simpa using hrd
    obtain⟨fuel,rfl⟩:∃f,fuel=f+1:=⟨fuel-1,by simp[By]at hf;omega⟩;have hfree:∀j oj,ops[j]?=some oj->j≠i->listed.getD j true=false->Fr ops bs i j=false->oi.apart ops oj=true/\inX ops es j=true:=by
     intro j oj hj hne hun hno;have:=EK.1 hfr j (DM.2 (BJ.1 hj).1);simpa [hne,hun,hno,hj] using this
    have hp:Ai ops (i::l)=oi::Ai ops l:=by simp[Ai,ho]
    simp only[Bc,hp]at h;unfold wpQuiet at h;have go:∀v,YieldsIf P ops (Upd S w) oi v a->wpQuiet P ops (fun w'=>∃y:Yt S b,w'=y.W) (fun a'=>Bc S P ops Q r b a' w) (Ai ops l) (a.put oi.dst v)->Vh S P ops Q (inX ops es) (fuel+1) listed a w:=by
     intro v hy hk;refine fZ hok ho (Region.noSelect_spec hsel) hQ fuel listed a w hc hfree hrd' hy ?_;refine ihl b (listed.setIfInBounds i true) (a.put oi.dst v) w fuel hx (by simp[By]at hf ⊢;omega) (hc.add hok hrd') ?_ ?_
     ·simp only[Eu,Bool.and_eq_true];exact⟨hl,hr⟩
     ·simpa only[Bc] using hk
    split at h
    ·rename_i hw;obtain⟨v,hv,hk⟩:=Vr hflo h;exact go v (.inl ⟨hw,fun u hu=>hv u (hx.trans hu)⟩) hk
    ·rename_i hw;exact go undef (.inr ⟨by simpa using hw,rfl⟩) h
 | pur l r ih =>
  induction l with
  | nil =>
   intro b listed a w fuel hx hf hc hB h;refine ih b listed a w fuel hx (by simpa [By] using hf) hc (by simpa [Eu,Wd,Fz] using hB) ?_;simpa [Bc,Ai,wpQuiet] using h
  | cons i l ihl =>
   intro b listed a w fuel hx hf hc hB h;simp only[Eu,Wd,Fz,Bool.and_eq_true]at hB;obtain⟨⟨hi,hl⟩,hr⟩:=hB;cases ho:ops[i]? with
   | none=>simp[oK,ho]at hi
   | some oi =>
    simp only[oK,ho,Bool.and_eq_true]at hi;obtain⟨⟨hflo,hrd⟩,hfr⟩:=hi;have hrd':i∈Region.ready .any ops listed:=by simpa using hrd
    obtain⟨fuel,rfl⟩:∃f,fuel=f+1:=⟨fuel-1,by simp[By]at hf;omega⟩;have hfree:∀j oj,ops[j]?=some oj->j≠i->listed.getD j true=false->Fr ops bs i j=false->oi.apart ops oj=true:=by
     intro j oj hj hne hun hno;have:=EK.1 hfr j (DM.2 (BJ.1 hj).1);simpa [hne,hun,hno,hj] using this
    have hp:Ai ops (i::l)=oi::Ai ops l:=by simp[Ai,ho]
    simp only[Bc,hp]at h;unfold wpQuiet at h;have go:∀v,YieldsIf P ops (fun _=>True) oi v a->wpQuiet P ops (fun _=>True) (fun a'=>Bc S P ops Q r b a' w) (Ai ops l) (a.put oi.dst v)->Vh S P ops Q (inX ops es) (fuel+1) listed a w:=by
     intro v hy hk;refine Rj hok ho (Region.noSelect_spec hsel) hQ fuel listed a w hc hfree hrd' hy ?_;refine ihl b (listed.setIfInBounds i true) (a.put oi.dst v) w fuel hx (by simp[By]at hf ⊢;omega) (hc.add hok hrd') ?_ ?_
     ·simp only[Eu,Bool.and_eq_true];exact⟨hl,hr⟩
     ·simpa only[Bc] using hk
    split at h
    ·rename_i hw;obtain⟨v,hv,hk⟩:=Jf hflo h;exact go v (.inl ⟨hw,fun u _=>hv u⟩) hk
    ·rename_i hw;exact go undef (.inr ⟨by simpa using hw,rfl⟩) h
 | ext i r ih =>
  intro b listed a w fuel hx hf hc hB h;simp only[Eu,Bool.and_eq_true]at hB;obtain⟨hr,hr2⟩:=hB;have hr':Region.ready .any ops listed=[i]:=by simpa using hr
  have hmem:i∈Region.ready .any ops listed:=by rw[hr'];simp
  obtain⟨_,o,ho,_⟩:=mem_ready.1 hmem;obtain⟨fuel,rfl⟩:∃f,fuel=f+1:=⟨fuel-1,by simp[By]at hf;omega⟩;refine⟨fun h0=>(by rw[hr']at h0;cases h0),fun j hj=>?_⟩;rw[hr']at hj;obtain rfl:j=i:=by simpa using hj
  exact wpOp_mono (fun a' w' hh=>⟨fun _=>hh.1,ih b _ a' w' fuel (hx.trans hh.1) (by simp[By]at hf ⊢;omega) (hc.add hok hmem) hr2 hh.2⟩) (Hl ho h)
 | one i r ih =>
  intro b listed a w fuel hx hf hc hB h;simp only[Eu,Bool.and_eq_true]at hB;obtain⟨⟨hr,hk⟩,hr2⟩:=hB;have hr':Region.ready .any ops listed=[i]:=by simpa using hr
  have hmem:i∈Region.ready .any ops listed:=by rw[hr'];simp
  obtain⟨_,o,ho,_⟩:=mem_ready.1 hmem;obtain⟨fuel,rfl⟩:∃f,fuel=f+1:=⟨fuel-1,by simp[By]at hf;omega⟩;refine⟨fun h0=>(by rw[hr']at h0;cases h0),fun j hj=>?_⟩;rw[hr']at hj;obtain rfl:j=i:=by simpa using hj
  have hnx:inX ops es j=false:=by simpa using hk
  exact wpOp_mono (fun a' w' hh=>⟨fun hX=>(by rw[hnx]at hX;cases hX),ih w' _ a' w' fuel (Upd.refl S w') (by simp[By]at hf ⊢;omega) (hc.add hok hmem) hr2 hh⟩) (Hl ho h)
 | both i j r q ihr ihq =>
  intro b listed a w fuel hx hf hc hB h;simp only[Eu,Bool.and_eq_true]at hB;obtain⟨⟨hr,hr2⟩,hq2⟩:=hB;have hr':Region.ready .any ops listed=[i,j]:=by simpa using hr
  obtain⟨fuel,rfl⟩:∃f,fuel=f+1:=⟨fuel-1,by simp[By]at hf;omega⟩;have mi:i∈Region.ready .any ops listed:=by rw[hr'];simp
  have mj:j∈Region.ready .any ops listed:=by rw[hr'];simp
  refine⟨fun h0=>(by rw[hr']at h0;cases h0),fun k hk=>?_⟩;rw[hr']at hk;rcases AZ.1 hk with rfl|hk
  ·obtain⟨_,o,ho,_⟩:=mem_ready.1 mi;exact wpOp_mono (fun a' w' hh=>⟨fun _=>hh.1,ihr b _ a' w' fuel (hx.trans hh.1) (by simp[By]at hf ⊢;omega) (hc.add hok mi) hr2 hh.2⟩) (Hl ho h.1)
  ·obtain rfl:k=j:=by simpa using hk
   obtain⟨_,o,ho,_⟩:=mem_ready.1 mj;exact wpOp_mono (fun a' w' hh=>⟨fun _=>hh.1,ihq b _ a' w' fuel (hx.trans hh.1) (by simp[By]at hf ⊢;omega) (hc.add hok mj) hq2 hh.2⟩) (Hl ho h.2)
theorem Us{id:Nat}{a:Act}{w:World}{l:List Oper}(bs:List Nat)(p:Fq)(hm:P.follows .mixedOrders=true)
  (hB:(Fv l.toArray bs.toArray&&Region.noSelect l.toArray&&Eu l.toArray bs.toArray (Jg p) p (Array.replicate l.toArray.size false)&&decide (By p<=l.toArray.size))=true)
  (hQ:∀c a d v w,Q (.panic c) (a.put d v) w->Q (.panic c) a w)
  (h:Bc S P l.toArray Q p w.drew a w.drew):(Code.region id l.toArray true).wp P Q a w:=by
 simp only[Bool.and_eq_true,decide_eq_true_eq]at hB;obtain⟨⟨⟨h1,h2⟩,h3⟩,h4⟩:=hB;refine wp_region_any hm (Qh _ _ _ _ (oJ h1 h2 hQ _ p w.drew _ a w.drew _ (Upd.refl S _) h4 ?_ h3 h));intro j hj;exfalso;rcases DP j l.toArray.size with h'|h'
 ·simp[Array.getD]at hj
 ·simp[Array.getD]at hj
theorem oqU{r:Fq}{a:Act}{b w:World}{X:World->Prop}(h:Bc S P ops Q r b a w):wpQuiet P ops X (fun a'=>Bc S P ops Q r b a' w) [] a:=wpQuiet_nil h
theorem uC{id:Nat}{a:Act}{w:World}{l:List Oper}(bs:List Nat)(p:Fq)(h:Bc S P l.toArray Q p w.drew a w.drew)
 (hm:P.follows .mixedOrders=true:=by kernel_rfl)
 (hB:(Fv l.toArray bs.toArray && Region.noSelect l.toArray && Eu l.toArray bs.toArray (Jg p) p (Array.replicate l.toArray.size false) && decide (By p<=l.toArray.size))=true:=by kernel_rfl)
 (hQ:∀c a d v w,Q (.panic c) (a.put d v) w->Q (.panic c) a w:=by intro _ _ d _ _ h;cases d<;>exact h):(Code.region id l.toArray true).wp P Q a w:=Us bs p hm hB hQ h
def Eb(S:Nat->Prop)(P:Program)(ops:Array Oper)(Q:Exit->Act->World->Prop)(r:Fq)(b w:World)(a':Act)(w':World):Prop:=Upd S w w'/\Bc S P ops Q r b a' w'
theorem Eb.mk{r:Fq}{b w w':World}{a:Act}(x:Upd S w w')(h:Bc S P ops Q r b a w'):Eb S P ops Q r b w a w':=⟨x,h⟩
theorem Ey{l:List Nat}{r:Fq}{a:Act}{b w:World}{ol:List Oper}(hp:Ai ops l=ol)
  (h:wpQuiet P ops (fun w'=>∃y:Yt S b,w'=y.W) (fun a'=>Bc S P ops Q r b a' w) ol a):Bc S P ops Q (.flo l r) b a w:=by
 subst hp;exact h
theorem Hk{i:Nat}{r:Fq}{a:Act}{b w:World}{o:Oper}(hp:Ai ops [i]=[o])
  (h:∀K:Act->World->Prop,(∀a' w',Eb S P ops Q r b w a' w'->K a' w')->wpList P ops (Exit.then K Q) [o] a w):Bc S P ops Q (.ext i r) b a w:=by
 show wpList P ops _ (Ai ops [i]) a w;rw[hp];exact h _ fun _ _ h=>h
theorem bQ{i:Nat}{r:Fq}{a:Act}{b w:World}{o:Oper}(hp:Ai ops [i]=[o])
  (h:∀K:Act->World->Prop,(∀a' w',Bc S P ops Q r w' a' w'->K a' w')->wpList P ops (Exit.then K Q) [o] a w):Bc S P ops Q (.one i r) b a w:=by
 show wpList P ops _ (Ai ops [i]) a w;rw[hp];exact h _ fun _ _ h=>h
theorem Om{a:Act}{b w:World}(h:Q .normal a w):Bc S P ops Q .fin b a w:=h
end
def Cq(s:SV)(l:List UV)(X:List TV):Int×SV :=
 if Bn X=false then (110,s) else if l.any Cf=true then (110,s) else if l.any (Cj s.U X)=true then (111,s) else if Ho s.U X=false then (110,s)
 else (0,{ s with bs:=if UdS.sumV l=[] then s.bs else s.bs++[UdS.sumV l],U:=ofV X })
section
variable{w w1 w3:World}{R:Nat->Prop}{gs:Nat}{m:SpM}
theorem cG{l:List Bt}{i:Nat}(h:i<l.length)(b:Bt):Cc (l++[b]) i=Cc l i:=by
 unfold Cc;rw[AB,AB,BI h]
abbrev Fs(m:SpM)(k:Nat):Prop:=blk m.A m.c=some k
theorem SpR.own_(h:SpR w R gs m){k:Nat}(hk:Fs m k):Ks w k:=.inr (.inl (h.b.ow.ty hk))
theorem SpR.not_gs(h:SpR w R gs m):¬Fs m gs:=fun e=>absurd ((h.b.ow.ty e).ne h.bk.ty) (by decide)
theorem SpR.put_b(h:SpR w R gs m)(x:Ext w w1){b:Bt}(hb:Bk w1 b.g 197 #[.slice b.A b.l.length b.c])(hbg:w.heap.size<=b.g)(u:Cl w1 w.heap.size b.A b.c b.l){A3:Option Addr}{c3:Nat}
  (o3:Own w3 0 195 1 A3 (m.bs.length+1) c3 (m.bs.map Bt.p++[b.p])) (g3:w1.grownBy w3 (blk m.A m.c)) (x3:(A3=m.A/\c3=m.c)\/(blk A3 c3=some w1.heap.size/\Ext w1 w3)) :
  SpR (w3.setCell ⟨gs,0,none⟩ (.slice A3 (m.bs.length+1) c3)) (Rg R w (w3.setCell ⟨gs,0,none⟩ (.slice A3 (m.bs.length+1) c3))) gs { m with A:=A3,c:=c3,bs:=m.bs++[b] }/\Upd R w (w3.setCell ⟨gs,0,none⟩ (.slice A3 (m.bs.length+1) c3)):=by
 have hz:(w3.setCell ⟨gs,0,none⟩ (.slice A3 (m.bs.length+1) c3)).heap.size=w3.heap.size:=by simp
 have hx:=x.size;have h1:=h.ext x;have u3:Upd (Fs m) w1 w3:=(Upd.refl _ w1).grown g3 (fun k hk=>.inl hk);have hS:∀k,k<w1.heap.size->Fs m k->Ks w1 k:=fun k _ hk=>h1.own_ hk;have hR:∀k,R k->Rg R w (w3.setCell ⟨gs,0,none⟩ (.slice A3 (m.bs.length+1) c3)) k:=fun k hk=>.inl hk;have hnew:∀k,blk A3 c3=some k->blk m.A m.c=some k\/(w.heap.size<=k/\k<w3.heap.size):=fun k hk=>by
  rcases x3 with ⟨rfl,rfl⟩|⟨h2,_⟩
  ·exact .inl hk
  ·have h3:=(o3.lt k hk).2;rw[h2]at hk;injection hk with hk;exact .inr ⟨by omega,h3⟩
 have bk3:Bk w3 gs 192 (Nz m):=h1.bk.upd u3 h1.not_gs;have b3:BtR w1 (Rg R w (w3.setCell ⟨gs,0,none⟩ (.slice A3 (m.bs.length+1) c3))) b:=⟨hb,.inr ⟨hbg,by rw[hz];exact BF hb.lt u3.size⟩,u.mono (AE _),fun k hk=>.inr ⟨(u.lt hk).1,by rw[hz];exact BF (u.lt hk).2 u3.size⟩⟩;have hlen:(m.bs++[b]).length=m.bs.length+1:=by simp
 have part:SpB w3 (Rg R w (w3.setCell ⟨gs,0,none⟩ (.slice A3 (m.bs.length+1) c3))) { m with A:=A3,c:=c3,bs:=m.bs++[b] }:=by
  refine⟨?_,fun k hk=>?_,fun y hy=>?_,?_,fun p hp=>?_,(h1.b.sn.safe u3 hS).wide fun k _ hk=>hR k hk,(h1.b.up.safe u3 hS).wide fun k _ hk=>hR k hk⟩
  ·show Own w3 0 _ 1 A3 (m.bs++[b]).length c3 ((m.bs++[b]).map Bt.p);rw[hlen,AO];exact o3
  ·rcases hnew k hk with q|q
   ·exact hR k (h.b.ro k q)
   ·exact .inr ⟨q.1,by rw[hz];exact q.2⟩
  ·rcases AR.1 hy with hy|hy
   ·exact((h1.b.bt y hy).safe u3 hS).wide fun k _ hk=>hR k hk
   ·rw[AH.1 hy];exact b3.safe u3 hS
  ·show((m.bs++[b]).map Bt.g).Nodup;rw[AO,List.nodup_append];refine⟨h.b.nd,by simp,fun p hp q hq e=>?_⟩;obtain⟨y,hy,rfl⟩:=AW.1 hp;have:=(h.b.bt y hy).bk.lt;simp at hq;omega
  ·have hu:=h1.b.un p hp;have hg:¬Fs m p.g:=fun e=>absurd ((h1.b.ow.ty e).ne hu.bk.ty) (by decide);refine⟨?_,hR _ hu.rg,by rw[hlen];have:=hu.lt;omega⟩;show Bk w3 p.g _ #[(Cc (m.bs++[b]) p.i).p,(Cc (m.bs++[b]) (p.i+1)).p,.int .i64 p.left];rw[cG (by have:=hu.lt;omega),cG hu.lt];exact hu.bk.upd u3 hg
 have hd:=bk3.set 0 (.slice A3 (m.bs.length+1) c3);refine⟨⟨?_,.inl h.rg,part.head bk3 0 _⟩,(((Upd.ext x).trans (u3.mono fun k _ hk=>h.b.ro k hk))).setCell (.inl h.rg) _⟩;show Bk _ gs _ #[.slice A3 (m.bs++[b]).length c3,unV m.un,.slice m.sA m.S.length m.sc,.slice m.uA m.U.length m.uc];rw[hlen];exact hd
end
theorem pL{s:SV}{l:List UV}{X:List TV}(h1:Bn X=false):Cq s l X=(110,s):=by unfold Cq;rw[if_pos h1]
theorem pK{s:SV}{l:List UV}{X:List TV}(h1:Bn X=true)(h2:l.any Cf=true):Cq s l X=(110,s):=by unfold Cq;rw[h1,if_neg (by decide),if_pos h2]
theorem pJ{s:SV}{l:List UV}{X:List TV}(h1:Bn X=true)(h2:l.any Cf=false)(h3:l.any (Cj s.U X)=true):Cq s l X=(111,s):=by unfold Cq;rw[h1,h2,if_neg (by decide),if_neg (by decide),if_pos h3]
theorem pI{s:SV}{l:List UV}{X:List TV}(h1:Bn X=true)(h2:l.any Cf=false)(h3:l.any (Cj s.U X)=false)(h4:Ho s.U X=false):Cq s l X=(110,s):=by unfold Cq;rw[h1,h2,h3,if_neg (by decide),if_neg (by decide),if_neg (by decide),if_pos h4]
theorem fW{s:SV}{l:List UV}{X:List TV}(h1:Bn X=true)(h2:l.any Cf=false)(h3:l.any (Cj s.U X)=false)(h4:Ho s.U X=true):Cq s l X=(0,{ s with bs:=if UdS.sumV l=[] then s.bs else s.bs++[UdS.sumV l],U:=ofV X }):=by
 unfold Cq;rw[h1,h2,h3,h4,if_neg (by decide),if_neg (by decide),if_neg (by decide),if_neg (by decide)]
theorem Jx{L:List Ud}(p:UV->Bool):(L.any fun x=>p x.uv)=(L.map Ud.uv).any p:=by rw[List.any_map];rfl
theorem Yu:Gj Tryz.prog 189 195 1 8 (.pointer none):=⟨by kernel_rfl,by kernel_rfl,rfl,by decide⟩
theorem Dd.two{w w1 w2:World}{R:Nat->Prop}{gs:Nat}{m2:SpM}{q:Int×SV}{e:Ending}(u1:Upd R w w1)(s2:SpR w2 (Rg (Rg R w w1) w1 w2) gs m2)(u2:Upd (Rg R w w1) w1 w2)(he:e=.returned (.int .u16 q.1))(hv:m2.v=q.2):Dd w R gs q e w2 :=
 ⟨m2,he,s2.wide fun k _ hk=>Rg.step u1.size u2.size k hk,hv,oX u1 u2⟩
theorem uT{q:Int×SV}(gs:Nat)(m:SpM)(R:Nat->Prop)(AL:Option Addr)(cL n:Nat)(L:List Ud)(AX:Option Addr)(cX nX:Nat)(X:List Tm)(w:World)(hq:Hid (Cq m.v (L.map Ud.uv) (X.map Tm.v)=q))(HM:Hid (SpR w R gs m))(hn:Hid (n=L.length))(hL:Hid (Uin w AL cL L))(h9:n<=1000000)(hin:Hid (∀x∈L,InU x))(hnX:Hid (nX=X.length))(hX:Hid (∀W,Upd R w W->Tin W AX cX X))(hf:Hid (Jv X))(hb9:m.bs.length<=1000000)(G:Hid (Good w))(HB1:Hid (Bn (X.map Tm.v)=false)) :
  Calls Tryz.prog 44 #[.pointer (some ⟨gs,0,none⟩),.slice AL n cL,.slice AX nX cX] w (Dd w R gs q):=by
 rw[<-hq.out,pL HB1.out];clear hq;obtain⟨w2,hw2⟩:∃w2,w2=(w.alloc (.cells #[.pointer (some ⟨gs,0,none⟩)] 76)).alloc (.cells #[.slice AX nX cX] 27):=⟨_,rfl⟩;obtain⟨g1,hg1⟩:∃g1,g1=w.heap.size:=⟨_,rfl⟩;obtain⟨g2,hg2⟩:∃g2,g2=w.heap.size+1:=⟨_,rfl⟩;have X2:Hid (Ext w w2):=hid (by rw[hw2];exact((Ext.refl _).alloc _).alloc _);have B1:Hid (Bk w2 g1 76 #[.pointer (some ⟨gs,0,none⟩)]):=hid (by rw[hw2,hg1];exact(Bk.new _ _ _).alloc _);have B2:Hid (Bk w2 g2 27 #[.slice AX nX cX]):=hid (by rw[hw2,hg2];exact Bk.at (by simp));have HXT:Hid (∀W,Ext w W->Tin W AX cX X):=hid (fun W x=>hX.out W (Upd.ext x));obtain⟨nU,hnU⟩:∃k,k=m.U.length:=⟨_,rfl⟩;have HNU:=hid hnU;have HC:Hid (∀W,Ext w W->W.cell? ⟨gs,3,none⟩=some (.slice m.uA nU m.uc)):=hid (fun W x=>by have:=(HM.out.bk.ext x).cell 3;rw[hnU];exact this);have HTU:Hid (Tin w m.uA m.uc m.U):=hid HM.out.b.up.t.tin;have P1:Hid (Le 153 #[] (fun x=>Cf x.uv) L w):=hid (fun W x hx y=>Ib x W (hid ((hL.out.ls x hx).ext y)) (hid (hin.out x hx)) (G.out.ext y));have P2:Hid (Ld 155 #[.pointer (some ⟨g1,0,none⟩),.pointer (some ⟨g2,0,none⟩)] (fun x=>Cj (m.U.map Tm.v) (X.map Tm.v) x.uv) L w2):=hid (fun W x hx y=>Hc x g1 g2 gs m.uA nU m.uc m.U AX nX cX X W (hid ((hL.out.ls x hx).ext (X2.out.trans y))) (hid (B1.out.ext y)) (hid (B2.out.ext y)) (hid (HC.out W (X2.out.trans y))) HNU (hid (HTU.out.ext (X2.out.trans y))) hnX (hid (HXT.out W (X2.out.trans y))));clear hnU;have hw2s:∀y:Xt w2,y.W.cell? ⟨g2,0,none⟩=some (.slice AX nX cX):=fun y=>(B2.out.ext y.x).cell 0;have m1:True:=trivial;go_enter Tryz.func44,Tryz.ntmps44;go_wp2_with (first
  | (go_at_call 156;have mk:=m1;clear m1 mk;refine(Gf AX cX nX X _ HB1 hnX (hid (HXT.out _ (by rw[<-hw2];exact X2.out)))).mono ?_;rintro r w3 ⟨rfl,x3⟩;have X3:Hid (Ext w2 w3):=hid (by rw[hw2];exact x3);clear x3;have m2:True:=trivial)
  | fail)
 go_ret;exact Dd.stay HM.out (X2.out.trans X3.out) rfl
theorem uS{q:Int×SV}(gs:Nat)(m:SpM)(R:Nat->Prop)(AL:Option Addr)(cL n:Nat)(L:List Ud)(AX:Option Addr)(cX nX:Nat)(X:List Tm)(w:World)(hq:Hid (Cq m.v (L.map Ud.uv) (X.map Tm.v)=q))(HM:Hid (SpR w R gs m))(hn:Hid (n=L.length))(hL:Hid (Uin w AL cL L))(h9:n<=1000000)(hin:Hid (∀x∈L,InU x))(hnX:Hid (nX=X.length))(hX:Hid (∀W,Upd R w W->Tin W AX cX X))(hf:Hid (Jv X))(hb9:m.bs.length<=1000000)(G:Hid (Good w))(HB1:Hid (Bn (X.map Tm.v)=true))(HB2:Hid ((L.any fun x=>Cf x.uv)=true)) :
  Calls Tryz.prog 44 #[.pointer (some ⟨gs,0,none⟩),.slice AL n cL,.slice AX nX cX] w (Dd w R gs q):=by
 rw[<-hq.out,pK HB1.out (by rw[<-Jx];exact HB2.out)];clear hq;obtain⟨w2,hw2⟩:∃w2,w2=(w.alloc (.cells #[.pointer (some ⟨gs,0,none⟩)] 76)).alloc (.cells #[.slice AX nX cX] 27):=⟨_,rfl⟩;obtain⟨g1,hg1⟩:∃g1,g1=w.heap.size:=⟨_,rfl⟩;obtain⟨g2,hg2⟩:∃g2,g2=w.heap.size+1:=⟨_,rfl⟩;have X2:Hid (Ext w w2):=hid (by rw[hw2];exact((Ext.refl _).alloc _).alloc _);have B1:Hid (Bk w2 g1 76 #[.pointer (some ⟨gs,0,none⟩)]):=hid (by rw[hw2,hg1];exact(Bk.new _ _ _).alloc _);have B2:Hid (Bk w2 g2 27 #[.slice AX nX cX]):=hid (by rw[hw2,hg2];exact Bk.at (by simp));have HXT:Hid (∀W,Ext w W->Tin W AX cX X):=hid (fun W x=>hX.out W (Upd.ext x));obtain⟨nU,hnU⟩:∃k,k=m.U.length:=⟨_,rfl⟩;have HNU:=hid hnU;have HC:Hid (∀W,Ext w W->W.cell? ⟨gs,3,none⟩=some (.slice m.uA nU m.uc)):=hid (fun W x=>by have:=(HM.out.bk.ext x).cell 3;rw[hnU];exact this);have HTU:Hid (Tin w m.uA m.uc m.U):=hid HM.out.b.up.t.tin;have P1:Hid (Le 153 #[] (fun x=>Cf x.uv) L w):=hid (fun W x hx y=>Ib x W (hid ((hL.out.ls x hx).ext y)) (hid (hin.out x hx)) (G.out.ext y));have P2:Hid (Ld 155 #[.pointer (some ⟨g1,0,none⟩),.pointer (some ⟨g2,0,none⟩)] (fun x=>Cj (m.U.map Tm.v) (X.map Tm.v) x.uv) L w2):=hid (fun W x hx y=>Hc x g1 g2 gs m.uA nU m.uc m.U AX nX cX X W (hid ((hL.out.ls x hx).ext (X2.out.trans y))) (hid (B1.out.ext y)) (hid (B2.out.ext y)) (hid (HC.out W (X2.out.trans y))) HNU (hid (HTU.out.ext (X2.out.trans y))) hnX (hid (HXT.out W (X2.out.trans y))));clear hnU;have hw2s:∀y:Xt w2,y.W.cell? ⟨g2,0,none⟩=some (.slice AX nX cX):=fun y=>(B2.out.ext y.x).cell 0;have m1:True:=trivial;go_enter Tryz.func44,Tryz.ntmps44;go_wp2_with (first
  | (go_at_call 156;have mk:=m1;clear m1 mk;refine(Gf AX cX nX X _ HB1 hnX (hid (HXT.out _ (by rw[<-hw2];exact X2.out)))).mono ?_;rintro r w3 ⟨rfl,x3⟩;have X3:Hid (Ext w2 w3):=hid (by rw[hw2];exact x3);clear x3;have m2:True:=trivial)
  | (go_at_call 157;have mk:=m2;clear m2 mk;refine(Fd _ 153 Gi AL cL n L _ hn (hid (hL.out.ext (X2.out.trans X3.out))) (hid (fun W x hx y=>P1.out W x hx ((X2.out.trans X3.out).trans y)))).mono ?_;rw[HB2.out];rintro r w4 ⟨rfl,x4⟩;have X4:Hid (Ext w2 w4):=hid (X3.out.trans x4);clear x4;have m3:True:=trivial)
  | fail)
 go_ret;exact Dd.stay HM.out (X2.out.trans X4.out) rfl
theorem uR{q:Int×SV}(gs:Nat)(m:SpM)(R:Nat->Prop)(AL:Option Addr)(cL n:Nat)(L:List Ud)(AX:Option Addr)(cX nX:Nat)(X:List Tm)(w:World)(hq:Hid (Cq m.v (L.map Ud.uv) (X.map Tm.v)=q))(HM:Hid (SpR w R gs m))(hn:Hid (n=L.length))(hL:Hid (Uin w AL cL L))(h9:n<=1000000)(hin:Hid (∀x∈L,InU x))(hnX:Hid (nX=X.length))(hX:Hid (∀W,Upd R w W->Tin W AX cX X))(hf:Hid (Jv X))(hb9:m.bs.length<=1000000)(G:Hid (Good w))(HB1:Hid (Bn (X.map Tm.v)=true))(HB2:Hid ((L.any fun x=>Cf x.uv)=false))(HB3:Hid ((L.any fun x=>Cj (m.U.map Tm.v) (X.map Tm.v) x.uv)=true)) :
  Calls Tryz.prog 44 #[.pointer (some ⟨gs,0,none⟩),.slice AL n cL,.slice AX nX cX] w (Dd w R gs q):=by
 rw[<-hq.out,pJ HB1.out (by rw[<-Jx];exact HB2.out) (by rw[<-Jx];exact HB3.out)];clear hq;obtain⟨w2,hw2⟩:∃w2,w2=(w.alloc (.cells #[.pointer (some ⟨gs,0,none⟩)] 76)).alloc (.cells #[.slice AX nX cX] 27):=⟨_,rfl⟩;obtain⟨g1,hg1⟩:∃g1,g1=w.heap.size:=⟨_,rfl⟩;obtain⟨g2,hg2⟩:∃g2,g2=w.heap.size+1:=⟨_,rfl⟩;have X2:Hid (Ext w w2):=hid (by rw[hw2];exact((Ext.refl _).alloc _).alloc _);have B1:Hid (Bk w2 g1 76 #[.pointer (some ⟨gs,0,none⟩)]):=hid (by rw[hw2,hg1];exact(Bk.new _ _ _).alloc _);have B2:Hid (Bk w2 g2 27 #[.slice AX nX cX]):=hid (by rw[hw2,hg2];exact Bk.at (by simp));have HXT:Hid (∀W,Ext w W->Tin W AX cX X):=hid (fun W x=>hX.out W (Upd.ext x));obtain⟨nU,hnU⟩:∃k,k=m.U.length:=⟨_,rfl⟩;have HNU:=hid hnU;have HC:Hid (∀W,Ext w W->W.cell? ⟨gs,3,none⟩=some (.slice m.uA nU m.uc)):=hid (fun W x=>by have:=(HM.out.bk.ext x).cell 3;rw[hnU];exact this);have HTU:Hid (Tin w m.uA m.uc m.U):=hid HM.out.b.up.t.tin;have P1:Hid (Le 153 #[] (fun x=>Cf x.uv) L w):=hid (fun W x hx y=>Ib x W (hid ((hL.out.ls x hx).ext y)) (hid (hin.out x hx)) (G.out.ext y));have P2:Hid (Ld 155 #[.pointer (some ⟨g1,0,none⟩),.pointer (some ⟨g2,0,none⟩)] (fun x=>Cj (m.U.map Tm.v) (X.map Tm.v) x.uv) L w2):=hid (fun W x hx y=>Hc x g1 g2 gs m.uA nU m.uc m.U AX nX cX X W (hid ((hL.out.ls x hx).ext (X2.out.trans y))) (hid (B1.out.ext y)) (hid (B2.out.ext y)) (hid (HC.out W (X2.out.trans y))) HNU (hid (HTU.out.ext (X2.out.trans y))) hnX (hid (HXT.out W (X2.out.trans y))));clear hnU;have hw2s:∀y:Xt w2,y.W.cell? ⟨g2,0,none⟩=some (.slice AX nX cX):=fun y=>(B2.out.ext y.x).cell 0;have m1:True:=trivial;go_enter Tryz.func44,Tryz.ntmps44;go_wp2_with (first
  | (go_at_call 156;have mk:=m1;clear m1 mk;refine(Gf AX cX nX X _ HB1 hnX (hid (HXT.out _ (by rw[<-hw2];exact X2.out)))).mono ?_;rintro r w3 ⟨rfl,x3⟩;have X3:Hid (Ext w2 w3):=hid (by rw[hw2];exact x3);clear x3;have m2:True:=trivial)
  | (go_at_call 157;have mk:=m2;clear m2 mk;refine(Fd _ 153 Gi AL cL n L _ hn (hid (hL.out.ext (X2.out.trans X3.out))) (hid (fun W x hx y=>P1.out W x hx ((X2.out.trans X3.out).trans y)))).mono ?_;rw[HB2.out];rintro r w4 ⟨rfl,x4⟩;have X4:Hid (Ext w2 w4):=hid (X3.out.trans x4);clear x4;have m3:True:=trivial)
  | (go_at_call 157;have mk:=m3;clear m3 mk;refine(Hf _ 155 _ _ He AL cL n L _ hn (hid (hL.out.ext (X2.out.trans X4.out))) (hid (fun W x hx y=>by have:=P2.out W x hx (X4.out.trans y);rw[hg1,hg2]at this;exact this))).mono ?_;rw[HB3.out];rintro r w5 ⟨rfl,x5⟩;have X5:Hid (Ext w2 w5):=hid (X4.out.trans x5);clear x5;have m4:True:=trivial)
  | fail)
 go_ret;exact Dd.stay HM.out (X2.out.trans X5.out) rfl
theorem uQ{q:Int×SV}(gs:Nat)(m:SpM)(R:Nat->Prop)(AL:Option Addr)(cL n:Nat)(L:List Ud)(AX:Option Addr)(cX nX:Nat)(X:List Tm)(w:World)(hq:Hid (Cq m.v (L.map Ud.uv) (X.map Tm.v)=q))(HM:Hid (SpR w R gs m))(hn:Hid (n=L.length))(hL:Hid (Uin w AL cL L))(h9:n<=1000000)(hin:Hid (∀x∈L,InU x))(hnX:Hid (nX=X.length))(hX:Hid (∀W,Upd R w W->Tin W AX cX X))(hf:Hid (Jv X))(hb9:m.bs.length<=1000000)(G:Hid (Good w))(HB1:Hid (Bn (X.map Tm.v)=true))(HB2:Hid ((L.any fun x=>Cf x.uv)=false))(HB3:Hid ((L.any fun x=>Cj (m.U.map Tm.v) (X.map Tm.v) x.uv)=false))(HB4:Hid (Ho (m.U.map Tm.v) (X.map Tm.v)=false)) :
  Calls Tryz.prog 44 #[.pointer (some ⟨gs,0,none⟩),.slice AL n cL,.slice AX nX cX] w (Dd w R gs q):=by
 rw[<-hq.out,pI HB1.out (by rw[<-Jx];exact HB2.out) (by rw[<-Jx];exact HB3.out) HB4.out];clear hq;obtain⟨w2,hw2⟩:∃w2,w2=(w.alloc (.cells #[.pointer (some ⟨gs,0,none⟩)] 76)).alloc (.cells #[.slice AX nX cX] 27):=⟨_,rfl⟩;obtain⟨g1,hg1⟩:∃g1,g1=w.heap.size:=⟨_,rfl⟩;obtain⟨g2,hg2⟩:∃g2,g2=w.heap.size+1:=⟨_,rfl⟩;have X2:Hid (Ext w w2):=hid (by rw[hw2];exact((Ext.refl _).alloc _).alloc _);have B1:Hid (Bk w2 g1 76 #[.pointer (some ⟨gs,0,none⟩)]):=hid (by rw[hw2,hg1];exact(Bk.new _ _ _).alloc _);have B2:Hid (Bk w2 g2 27 #[.slice AX nX cX]):=hid (by rw[hw2,hg2];exact Bk.at (by simp));have HXT:Hid (∀W,Ext w W->Tin W AX cX X):=hid (fun W x=>hX.out W (Upd.ext x));obtain⟨nU,hnU⟩:∃k,k=m.U.length:=⟨_,rfl⟩;have HNU:=hid hnU;have HC:Hid (∀W,Ext w W->W.cell? ⟨gs,3,none⟩=some (.slice m.uA nU m.uc)):=hid (fun W x=>by have:=(HM.out.bk.ext x).cell 3;rw[hnU];exact this);have HTU:Hid (Tin w m.uA m.uc m.U):=hid HM.out.b.up.t.tin;have P1:Hid (Le 153 #[] (fun x=>Cf x.uv) L w):=hid (fun W x hx y=>Ib x W (hid ((hL.out.ls x hx).ext y)) (hid (hin.out x hx)) (G.out.ext y));have P2:Hid (Ld 155 #[.pointer (some ⟨g1,0,none⟩),.pointer (some ⟨g2,0,none⟩)] (fun x=>Cj (m.U.map Tm.v) (X.map Tm.v) x.uv) L w2):=hid (fun W x hx y=>Hc x g1 g2 gs m.uA nU m.uc m.U AX nX cX X W (hid ((hL.out.ls x hx).ext (X2.out.trans y))) (hid (B1.out.ext y)) (hid (B2.out.ext y)) (hid (HC.out W (X2.out.trans y))) HNU (hid (HTU.out.ext (X2.out.trans y))) hnX (hid (HXT.out W (X2.out.trans y))));clear hnU;have hw2s:∀y:Xt w2,y.W.cell? ⟨g2,0,none⟩=some (.slice AX nX cX):=fun y=>(B2.out.ext y.x).cell 0;have m1:True:=trivial;go_enter Tryz.func44,Tryz.ntmps44
 go_upto_region 7 with (first
  | (go_at_call 156;have mk:=m1;clear m1 mk;refine(Gf AX cX nX X _ HB1 hnX (hid (HXT.out _ (by rw[<-hw2];exact X2.out)))).mono ?_;rintro r w3 ⟨rfl,x3⟩;have X3:Hid (Ext w2 w3):=hid (by rw[hw2];exact x3);clear x3;have m2:True:=trivial)
  | (go_at_call 157;have mk:=m2;clear m2 mk;refine(Fd _ 153 Gi AL cL n L _ hn (hid (hL.out.ext (X2.out.trans X3.out))) (hid (fun W x hx y=>P1.out W x hx ((X2.out.trans X3.out).trans y)))).mono ?_;rw[HB2.out];rintro r w4 ⟨rfl,x4⟩;have X4:Hid (Ext w2 w4):=hid (X3.out.trans x4);clear x4;have m3:True:=trivial)
  | (go_at_call 157;have mk:=m3;clear m3 mk;refine(Hf _ 155 _ _ He AL cL n L _ hn (hid (hL.out.ext (X2.out.trans X4.out))) (hid (fun W x hx y=>by have:=P2.out W x hx (X4.out.trans y);rw[hg1,hg2]at this;exact this))).mono ?_;rw[HB3.out];rintro r w5 ⟨rfl,x5⟩;have X5:Hid (Ext w2 w5):=hid (X4.out.trans x5);clear x5;have m4:True:=trivial)
  | fail)
 rw[<-hg2,<-hg1];have HG1:=hid hg1;have HG2:=hid hg2;clear hg1 hg2 hw2 hw2s;have X6:Hid (Ext w2 w5.drew):=hid X5.out.drew;have XD:Ext w5 w5.drew:=(Ext.refl w5).drew;have Q0:∀y:Xt w5.drew,y.W.cell? ⟨g1,0,none⟩=some (.pointer (some ⟨gs,0,none⟩)):=fun y=>(B1.out.ext (X6.out.trans y.x)).cell 0;have Q1:∀y:Xt w5.drew,y.W.cell? ⟨g2,0,none⟩=some (.slice AX nX cX):=fun y=>(B2.out.ext (X6.out.trans y.x)).cell 0;have Q2:∀y:Xt w5.drew,y.W.cell? ⟨gs,3,none⟩=some (.slice m.uA nU m.uc):=fun y=>HC.out _ ((X2.out.trans X6.out).trans y.x);refine wro [0,1,3,7,0,31,63,127] (.flo [0,1,2,3,4] (.one 5 (.flo [6,7] (.fin)))) ?_
 (refine Aa (pks rfl) ?_;(repeat (go_big_quiet_step (fail)));refine oq ?_)
 refine Ac (pks rfl) ?_;intro K_ hK_;go_wp2_with (go_at_call 158;refine(Js m.uA AX m.uc cX nU nX m.U X _ HNU hnX (hid (HTU.out.ext (X2.out.trans X6.out))) (hid (HXT.out _ (X2.out.trans X6.out)))).mono ?_;rw[HB4.out];rintro r w7 ⟨rfl,x7⟩;have X7:Hid (Ext w2 w7):=hid (X6.out.trans x7);clear x7)
 clear Q0 Q1 Q2 XD
 (refine Aa (pks rfl) ?_;(repeat (go_big_quiet_step (fail)));refine oq ?_)
 refine Ad ?_;go_wp2;go_ret;exact Dd.stay HM.out (X2.out.trans X7.out) rfl
theorem uP{q:Int×SV}(gs:Nat)(m:SpM)(R:Nat->Prop)(AL:Option Addr)(cL n:Nat)(L:List Ud)(AX:Option Addr)(cX nX:Nat)(X:List Tm)(w:World)(hq:Hid (Cq m.v (L.map Ud.uv) (X.map Tm.v)=q))(HM:Hid (SpR w R gs m))(hn:Hid (n=L.length))(hL:Hid (Uin w AL cL L))(h9:n<=1000000)(hin:Hid (∀x∈L,InU x))(hnX:Hid (nX=X.length))(hX:Hid (∀W,Upd R w W->Tin W AX cX X))(hf:Hid (Jv X))(hb9:m.bs.length<=1000000)(G:Hid (Good w))(HB1:Hid (Bn (X.map Tm.v)=true))(HB2:Hid ((L.any fun x=>Cf x.uv)=false))(HB3:Hid ((L.any fun x=>Cj (m.U.map Tm.v) (X.map Tm.v) x.uv)=false))(HB4:Hid (Ho (m.U.map Tm.v) (X.map Tm.v)=true))(HB5:Hid (UdS.sumV (L.map Ud.uv)=[])) :
  Calls Tryz.prog 44 #[.pointer (some ⟨gs,0,none⟩),.slice AL n cL,.slice AX nX cX] w (Dd w R gs q):=by
 have HQ:Hid (q=(0,{ m.v with bs:=if UdS.sumV (L.map Ud.uv)=[] then m.v.bs else m.v.bs++[UdS.sumV (L.map Ud.uv)],U:=ofV (X.map Tm.v) })):=hid (by rw[<-hq.out,fW HB1.out (by rw[<-Jx];exact HB2.out) (by rw[<-Jx];exact HB3.out) HB4.out]);clear hq;obtain⟨w2,hw2⟩:∃w2,w2=(w.alloc (.cells #[.pointer (some ⟨gs,0,none⟩)] 76)).alloc (.cells #[.slice AX nX cX] 27):=⟨_,rfl⟩;obtain⟨g1,hg1⟩:∃g1,g1=w.heap.size:=⟨_,rfl⟩;obtain⟨g2,hg2⟩:∃g2,g2=w.heap.size+1:=⟨_,rfl⟩;have X2:Hid (Ext w w2):=hid (by rw[hw2];exact((Ext.refl _).alloc _).alloc _);have B1:Hid (Bk w2 g1 76 #[.pointer (some ⟨gs,0,none⟩)]):=hid (by rw[hw2,hg1];exact(Bk.new _ _ _).alloc _);have B2:Hid (Bk w2 g2 27 #[.slice AX nX cX]):=hid (by rw[hw2,hg2];exact Bk.at (by simp));have HXT:Hid (∀W,Ext w W->Tin W AX cX X):=hid (fun W x=>hX.out W (Upd.ext x));obtain⟨nU,hnU⟩:∃k,k=m.U.length:=⟨_,rfl⟩;have HNU:=hid hnU;have HC:Hid (∀W,Ext w W->W.cell? ⟨gs,3,none⟩=some (.slice m.uA nU m.uc)):=hid (fun W x=>by have:=(HM.out.bk.ext x).cell 3;rw[hnU];exact this);have HTU:Hid (Tin w m.uA m.uc m.U):=hid HM.out.b.up.t.tin;have P1:Hid (Le 153 #[] (fun x=>Cf x.uv) L w):=hid (fun W x hx y=>Ib x W (hid ((hL.out.ls x hx).ext y)) (hid (hin.out x hx)) (G.out.ext y));have P2:Hid (Ld 155 #[.pointer (some ⟨g1,0,none⟩),.pointer (some ⟨g2,0,none⟩)] (fun x=>Cj (m.U.map Tm.v) (X.map Tm.v) x.uv) L w2):=hid (fun W x hx y=>Hc x g1 g2 gs m.uA nU m.uc m.U AX nX cX X W (hid ((hL.out.ls x hx).ext (X2.out.trans y))) (hid (B1.out.ext y)) (hid (B2.out.ext y)) (hid (HC.out W (X2.out.trans y))) HNU (hid (HTU.out.ext (X2.out.trans y))) hnX (hid (HXT.out W (X2.out.trans y))));clear hnU;have hw2s:∀y:Xt w2,y.W.cell? ⟨g2,0,none⟩=some (.slice AX nX cX):=fun y=>(B2.out.ext y.x).cell 0;have m1:True:=trivial;go_enter Tryz.func44,Tryz.ntmps44
 go_upto_region 7 with (first
  | (go_at_call 156;have mk:=m1;clear m1 mk;refine(Gf AX cX nX X _ HB1 hnX (hid (HXT.out _ (by rw[<-hw2];exact X2.out)))).mono ?_;rintro r w3 ⟨rfl,x3⟩;have X3:Hid (Ext w2 w3):=hid (by rw[hw2];exact x3);clear x3;have m2:True:=trivial)
  | (go_at_call 157;have mk:=m2;clear m2 mk;refine(Fd _ 153 Gi AL cL n L _ hn (hid (hL.out.ext (X2.out.trans X3.out))) (hid (fun W x hx y=>P1.out W x hx ((X2.out.trans X3.out).trans y)))).mono ?_;rw[HB2.out];rintro r w4 ⟨rfl,x4⟩;have X4:Hid (Ext w2 w4):=hid (X3.out.trans x4);clear x4;have m3:True:=trivial)
  | (go_at_call 157;have mk:=m3;clear m3 mk;refine(Hf _ 155 _ _ He AL cL n L _ hn (hid (hL.out.ext (X2.out.trans X4.out))) (hid (fun W x hx y=>by have:=P2.out W x hx (X4.out.trans y);rw[hg1,hg2]at this;exact this))).mono ?_;rw[HB3.out];rintro r w5 ⟨rfl,x5⟩;have X5:Hid (Ext w2 w5):=hid (X4.out.trans x5);clear x5;have m4:True:=trivial)
  | fail)
 rw[<-hg2,<-hg1];have HG1:=hid hg1;have HG2:=hid hg2;clear hg1 hg2 hw2 hw2s;have X6:Hid (Ext w2 w5.drew):=hid X5.out.drew;have XD:Ext w5 w5.drew:=(Ext.refl w5).drew;have Q0:∀y:Xt w5.drew,y.W.cell? ⟨g1,0,none⟩=some (.pointer (some ⟨gs,0,none⟩)):=fun y=>(B1.out.ext (X6.out.trans y.x)).cell 0;have Q1:∀y:Xt w5.drew,y.W.cell? ⟨g2,0,none⟩=some (.slice AX nX cX):=fun y=>(B2.out.ext (X6.out.trans y.x)).cell 0;have Q2:∀y:Xt w5.drew,y.W.cell? ⟨gs,3,none⟩=some (.slice m.uA nU m.uc):=fun y=>HC.out _ ((X2.out.trans X6.out).trans y.x);refine wro [0,1,3,7,0,31,63,127] (.flo [0,1,2,3,4] (.one 5 (.flo [6,7] (.fin)))) ?_
 (refine Aa (pks rfl) ?_;(repeat (go_big_quiet_step (fail)));refine oq ?_)
 refine Ac (pks rfl) ?_;intro K_ hK_;go_wp2_with (go_at_call 158;refine(Js m.uA AX m.uc cX nU nX m.U X _ HNU hnX (hid (HTU.out.ext (X2.out.trans X6.out))) (hid (HXT.out _ (X2.out.trans X6.out)))).mono ?_;rw[HB4.out];rintro r w7 ⟨rfl,x7⟩;have X7:Hid (Ext w2 w7):=hid (X6.out.trans x7);clear x7)
 clear Q0 Q1 Q2 XD
 (refine Aa (pks rfl) ?_;(repeat (go_big_quiet_step (fail)));refine oq ?_)
 refine Ad ?_
 go_upto_region 12 with (first
  | (go_at_call 16;have mk:=m4;clear m4 mk;refine(UdS.a0c AL cL n L _ hn (hid (hL.out.ext (X2.out.trans X7.out))) h9 (hid (fun x hx=>(hin.out x hx).num)) (hid (fun x hx=>(hin.out x hx).lens))).mono ?_;rintro r w8 hres;obtain⟨A8,m8,R8,rfl,hm8,hu8,hv8,hx8⟩:=hres;have HM8:=hid hm8;have HU8:=hid hu8;have HV8:=hid hv8;have X8:Hid (Ext w2 w8):=hid (X7.out.trans hx8);have XS8:=hid hx8;have hz8:¬(0:Int)<(m8:Int):=(by have h:=congrArg List.length hv8;rw[AN,<-hm8]at h;have h2:=HB5.out;rw[h2]at h;simp at h;omega);clear hm8 hu8 hv8 hx8)
  | fail)
 have HS8:Hid (SpR w8 R gs m):=hid (HM.out.ext (X2.out.trans X8.out));have XD:Ext w8 w8.drew:=(Ext.refl w8).drew;have Q0:∀y:Xt w8.drew,y.W.cell? ⟨g1,0,none⟩=some (.pointer (some ⟨gs,0,none⟩)):=fun y=>((B1.out.ext X8.out).ext (XD.trans y.x)).cell 0;have Q1:∀y:Xt w8.drew,y.W.cell? ⟨g2,0,none⟩=some (.slice AX nX cX):=fun y=>((B2.out.ext X8.out).ext (XD.trans y.x)).cell 0;refine wro [0,0,2,7,15,31] (.flo [0,1] (.ext 2 (.flo [3,4] (.one 5 (.fin))))) ?_
 (refine Aa (pks rfl) ?_;(repeat (go_big_quiet_step (fail)));refine oq ?_)
 refine Bi (pks rfl) ?_;intro K_ hK_;go_wp2_with (go_at_call 137;refine(Sg AX cX nX X _ hnX (hid ((HXT.out _ (X2.out.trans X8.out)).ext XD)) (hid hf.out.2) (by rw[hnX.out];exact hf.out.1)).mono ?_;rintro r w13 hres;obtain⟨A13,c13,n13,M13,rfl,hn13,hT13,hV13,hx13⟩:=hres;have HN13:=hid hn13;have HT13:=hid hT13;have HV13:=hid hV13;have X13:=hid hx13;clear hn13 hT13 hV13 hx13)
 refine Aq.mk X13.out ?_;have c3:=(HS8.out.bk.ext (XD.trans X13.out)).cell 3;have f3:=(HS8.out.bk.ext (XD.trans X13.out)).free 3;have hlt3:=(HS8.out.bk.ext (XD.trans X13.out)).lt;have HP:=hid (HS8.out.put_u (XD.trans X13.out) HT13.out);rw[<-HN13.out]at HP
 (refine Aa (pks rfl) ?_;(repeat (go_big_quiet_step (fail)));refine oq ?_)
 refine Ac (pks rfl) ?_;intro K_ hK_;go_wp2;refine Ad ?_;go_wp2;go_ret;have hq:=HQ.out;rw[if_pos HB5.out]at hq;rw[hq];exact Dd.two (Upd.ext (X2.out.trans X8.out)) (HP.out.1.wide fun k _ hk=>hk.imp .inl id) (HP.out.2.mono fun k _ hk=>.inl hk) rfl (by show SpM.v _=_;rw[<-HV13.out];rfl)
theorem uO{q:Int×SV}(gs:Nat)(m:SpM)(R:Nat->Prop)(AL:Option Addr)(cL n:Nat)(L:List Ud)(AX:Option Addr)(cX nX:Nat)(X:List Tm)(w:World)(hq:Hid (Cq m.v (L.map Ud.uv) (X.map Tm.v)=q))(HM:Hid (SpR w R gs m))(hn:Hid (n=L.length))(hL:Hid (Uin w AL cL L))(h9:n<=1000000)(hin:Hid (∀x∈L,InU x))(hnX:Hid (nX=X.length))(hX:Hid (∀W,Upd R w W->Tin W AX cX X))(hf:Hid (Jv X))(hb9:m.bs.length<=1000000)(G:Hid (Good w))(HB1:Hid (Bn (X.map Tm.v)=true))(HB2:Hid ((L.any fun x=>Cf x.uv)=false))(HB3:Hid ((L.any fun x=>Cj (m.U.map Tm.v) (X.map Tm.v) x.uv)=false))(HB4:Hid (Ho (m.U.map Tm.v) (X.map Tm.v)=true))(HB5:Hid (UdS.sumV (L.map Ud.uv)≠[])) :
  Calls Tryz.prog 44 #[.pointer (some ⟨gs,0,none⟩),.slice AL n cL,.slice AX nX cX] w (Dd w R gs q):=by
 have HQ:Hid (q=(0,{ m.v with bs:=if UdS.sumV (L.map Ud.uv)=[] then m.v.bs else m.v.bs++[UdS.sumV (L.map Ud.uv)],U:=ofV (X.map Tm.v) })):=hid (by rw[<-hq.out,fW HB1.out (by rw[<-Jx];exact HB2.out) (by rw[<-Jx];exact HB3.out) HB4.out]);clear hq;obtain⟨w2,hw2⟩:∃w2,w2=(w.alloc (.cells #[.pointer (some ⟨gs,0,none⟩)] 76)).alloc (.cells #[.slice AX nX cX] 27):=⟨_,rfl⟩;obtain⟨g1,hg1⟩:∃g1,g1=w.heap.size:=⟨_,rfl⟩;obtain⟨g2,hg2⟩:∃g2,g2=w.heap.size+1:=⟨_,rfl⟩;have X2:Hid (Ext w w2):=hid (by rw[hw2];exact((Ext.refl _).alloc _).alloc _);have B1:Hid (Bk w2 g1 76 #[.pointer (some ⟨gs,0,none⟩)]):=hid (by rw[hw2,hg1];exact(Bk.new _ _ _).alloc _);have B2:Hid (Bk w2 g2 27 #[.slice AX nX cX]):=hid (by rw[hw2,hg2];exact Bk.at (by simp));have HXT:Hid (∀W,Ext w W->Tin W AX cX X):=hid (fun W x=>hX.out W (Upd.ext x));obtain⟨nU,hnU⟩:∃k,k=m.U.length:=⟨_,rfl⟩;have HNU:=hid hnU;have HC:Hid (∀W,Ext w W->W.cell? ⟨gs,3,none⟩=some (.slice m.uA nU m.uc)):=hid (fun W x=>by have:=(HM.out.bk.ext x).cell 3;rw[hnU];exact this);have HTU:Hid (Tin w m.uA m.uc m.U):=hid HM.out.b.up.t.tin;have P1:Hid (Le 153 #[] (fun x=>Cf x.uv) L w):=hid (fun W x hx y=>Ib x W (hid ((hL.out.ls x hx).ext y)) (hid (hin.out x hx)) (G.out.ext y));have P2:Hid (Ld 155 #[.pointer (some ⟨g1,0,none⟩),.pointer (some ⟨g2,0,none⟩)] (fun x=>Cj (m.U.map Tm.v) (X.map Tm.v) x.uv) L w2):=hid (fun W x hx y=>Hc x g1 g2 gs m.uA nU m.uc m.U AX nX cX X W (hid ((hL.out.ls x hx).ext (X2.out.trans y))) (hid (B1.out.ext y)) (hid (B2.out.ext y)) (hid (HC.out W (X2.out.trans y))) HNU (hid (HTU.out.ext (X2.out.trans y))) hnX (hid (HXT.out W (X2.out.trans y))));clear hnU;have hw2s:∀y:Xt w2,y.W.cell? ⟨g2,0,none⟩=some (.slice AX nX cX):=fun y=>(B2.out.ext y.x).cell 0;have m1:True:=trivial;go_enter Tryz.func44,Tryz.ntmps44
 go_upto_region 7 with (first
  | (go_at_call 156;have mk:=m1;clear m1 mk;refine(Gf AX cX nX X _ HB1 hnX (hid (HXT.out _ (by rw[<-hw2];exact X2.out)))).mono ?_;rintro r w3 ⟨rfl,x3⟩;have X3:Hid (Ext w2 w3):=hid (by rw[hw2];exact x3);clear x3;have m2:True:=trivial)
  | (go_at_call 157;have mk:=m2;clear m2 mk;refine(Fd _ 153 Gi AL cL n L _ hn (hid (hL.out.ext (X2.out.trans X3.out))) (hid (fun W x hx y=>P1.out W x hx ((X2.out.trans X3.out).trans y)))).mono ?_;rw[HB2.out];rintro r w4 ⟨rfl,x4⟩;have X4:Hid (Ext w2 w4):=hid (X3.out.trans x4);clear x4;have m3:True:=trivial)
  | (go_at_call 157;have mk:=m3;clear m3 mk;refine(Hf _ 155 _ _ He AL cL n L _ hn (hid (hL.out.ext (X2.out.trans X4.out))) (hid (fun W x hx y=>by have:=P2.out W x hx (X4.out.trans y);rw[hg1,hg2]at this;exact this))).mono ?_;rw[HB3.out];rintro r w5 ⟨rfl,x5⟩;have X5:Hid (Ext w2 w5):=hid (X4.out.trans x5);clear x5;have m4:True:=trivial)
  | fail)
 rw[<-hg2,<-hg1];have HG1:=hid hg1;have HG2:=hid hg2;clear hg1 hg2 hw2 hw2s;have X6:Hid (Ext w2 w5.drew):=hid X5.out.drew;have XD:Ext w5 w5.drew:=(Ext.refl w5).drew;have Q0:∀y:Xt w5.drew,y.W.cell? ⟨g1,0,none⟩=some (.pointer (some ⟨gs,0,none⟩)):=fun y=>(B1.out.ext (X6.out.trans y.x)).cell 0;have Q1:∀y:Xt w5.drew,y.W.cell? ⟨g2,0,none⟩=some (.slice AX nX cX):=fun y=>(B2.out.ext (X6.out.trans y.x)).cell 0;have Q2:∀y:Xt w5.drew,y.W.cell? ⟨gs,3,none⟩=some (.slice m.uA nU m.uc):=fun y=>HC.out _ ((X2.out.trans X6.out).trans y.x);refine wro [0,1,3,7,0,31,63,127] (.flo [0,1,2,3,4] (.one 5 (.flo [6,7] (.fin)))) ?_
 (refine Aa (pks rfl) ?_;(repeat (go_big_quiet_step (fail)));refine oq ?_)
 refine Ac (pks rfl) ?_;intro K_ hK_;go_wp2_with (go_at_call 158;refine(Js m.uA AX m.uc cX nU nX m.U X _ HNU hnX (hid (HTU.out.ext (X2.out.trans X6.out))) (hid (HXT.out _ (X2.out.trans X6.out)))).mono ?_;rw[HB4.out];rintro r w7 ⟨rfl,x7⟩;have X7:Hid (Ext w2 w7):=hid (X6.out.trans x7);clear x7)
 clear Q0 Q1 Q2 XD
 (refine Aa (pks rfl) ?_;(repeat (go_big_quiet_step (fail)));refine oq ?_)
 refine Ad ?_
 go_upto_region 11 with (first
  | (go_at_call 16;have mk:=m4;clear m4 mk;refine(UdS.a0c AL cL n L _ hn (hid (hL.out.ext (X2.out.trans X7.out))) h9 (hid (fun x hx=>(hin.out x hx).num)) (hid (fun x hx=>(hin.out x hx).lens))).mono ?_;rintro r w8 hres;obtain⟨A8,m8,R8,rfl,hm8,hu8,hv8,hx8⟩:=hres;have HM8:=hid hm8;have HU8:=hid hu8;have HV8:=hid hv8;have X8:Hid (Ext w2 w8):=hid (X7.out.trans hx8);have XS8:=hid hx8;have hz8:(0:Int)<(m8:Int):=(by have h:=congrArg List.length hv8;rw[AN,<-hm8]at h;have h2:=HB5.out;have h3:=EA.2 h2;omega);clear hm8 hu8 hv8 hx8)
  | fail)
 obtain⟨nb,hnb⟩:∃k,k=m.bs.length:=⟨_,rfl⟩;have HNB:=hid hnb;have HS8:Hid (SpR w8 R gs m):=hid (HM.out.ext (X2.out.trans X8.out));have hg1m:¬Fs m g1:=fun e=>(by have h1:=(HM.out.b.ow.lt g1 e).2;rw[HG1.out]at h1;omega);have hgsm:¬Fs m gs:=HM.out.not_gs;have HL0:Hid (∀W,Upd (Fs m) w8 W->W.cell? ⟨gs,0,none⟩=some (.slice m.A nb m.c)):=hid (fun W u=>by have:=(HS8.out.bk.upd u hgsm).cell 0;rw[hnb];exact this);clear hnb;have U0:Upd (Fs m) w8 w8.drew:=Upd.ext (Ext.refl w8).drew;have Q0:∀y:Yt (Fs m) w8.drew,y.W.cell? ⟨g1,0,none⟩=some (.pointer (some ⟨gs,0,none⟩)):=fun y=>((B1.out.ext X8.out).upd (U0.trans y.x) hg1m).cell 0;have Q1:∀y:Yt (Fs m) w8.drew,y.W.cell? ⟨gs,0,none⟩=some (.slice m.A nb m.c):=fun y=>HL0.out y.W (U0.trans y.x);refine uC (S:=Fs m) [0,0,2,6,14,0,32,96,224,510,1023,2047,4095] (.flo [0,1,2,3,4,5,6] (.ext 7 (.ext 8 (.ext 9 (.flo [10,11] (.one 12 (.fin))))))) ?_
 (refine Ey (pks rfl) ?_;(repeat (go_big_quiet_step (fail)));refine oqU ?_)
 refine Hk (pks rfl) ?_;intro K_ hK_;go_wp2;refine Eb.mk (Upd.ext ((Ext.refl _).alloc _)) ?_;refine Hk (pks rfl) ?_;intro K_ hK_;go_wp2;refine Eb.mk (Upd.ext ((Ext.refl _).alloc _)) ?_;refine Hk (pks rfl) ?_;intro K_ hK_;have XW:Hid (Ext w7 (((w8.alloc (.cells #[.slice A8 m8 m8] 197)).alloc (.cells #[.pointer (some ⟨w8.heap.size,0,none⟩)] 195)).drew)):=hid (((XS8.out.alloc _).alloc _).drew);have HS7:Hid (SpR w7 R gs m):=hid (HM.out.ext (X2.out.trans X7.out));have HOW:Hid (Own (((w8.alloc (.cells #[.slice A8 m8 m8] 197)).alloc (.cells #[.pointer (some ⟨w8.heap.size,0,none⟩)] 195)).drew) 0 195 1 m.A nb m.c (m.bs.map Bt.p)):=hid (by rw[HNB.out];exact HS7.out.b.ow.ext XW.out);have HBB:Hid (Bk (((w8.alloc (.cells #[.slice A8 m8 m8] 197)).alloc (.cells #[.pointer (some ⟨w8.heap.size,0,none⟩)] 195)).drew) w8.heap.size 197 #[.slice A8 R8.length m8]):=hid (by rw[<-HM8.out];exact(Bk.new w8 _ _).alloc _);clear Q0 Q1;go_wp2_with (at_builtin;refine Ab _ Yu 0 _ _ rfl rfl m.A nb m.c (m.bs.map Bt.p) rfl HOW.out (some ⟨w8.heap.size+1,0,none⟩) 1 1 [.pointer (some ⟨w8.heap.size,0,none⟩)] rfl (by have:=Sl.one (w8.alloc (.cells #[.slice A8 m8 m8] 197)) #[.pointer (some ⟨w8.heap.size,0,none⟩)] 195 1 rfl;simpa using this.drew) (by intro u hu;simp at hu;subst hu;rfl) (by have:=HNB.out;omega) (by decide) (AE _) ?_;intro A9 c9 w9 o9 g9 x9;have HO9:=hid o9;have HG9:=hid g9;have HX9:=hid x9;clear o9 g9 x9)
 go_simp;have U9:Upd (Fs m) (((w8.alloc (.cells #[.slice A8 m8 m8] 197)).alloc (.cells #[.pointer (some ⟨w8.heap.size,0,none⟩)] 195)).drew) w9:=(Upd.refl _ _).grown HG9.out (fun k hk=>.inl hk);refine Eb.mk U9 ?_;have bk9:Bk w9 gs 192 (Nz m):=(HS7.out.bk.ext XW.out).upd U9 hgsm;have k9:=bk9.cell 0;have f9:=bk9.free 0;have l9:=bk9.lt;have HP:=hid (HS7.out.put_b XW.out (b:=⟨w8.heap.size,A8,m8,R8⟩) HBB.out (by exact XS8.out.size) (HU8.out.ext ((((Ext.refl w8).alloc _).alloc _).drew)) (by rw[<-HNB.out];exact HO9.out) HG9.out HX9.out);have HU9:=hid ((Upd.ext (S:=fun k=>Fs m k\/k=gs) XW.out).trans (U9.mono fun k _ hk=>.inl hk));rw[<-HNB.out]at HP;clear bk9 U9 U0
 (refine Ey (pks rfl) ?_;(repeat (go_big_quiet_step (fail)));refine oqU ?_)
 refine bQ (pks rfl) ?_;intro K_ hK_;go_wp2;refine Om ?_;go_wp2;obtain⟨w11,hw11⟩:∃w11,w11=w9.setCell ⟨gs,0,none⟩ (.slice A9 (nb+1) c9):=⟨_,rfl⟩;rw[<-hw11]at HP ⊢;have HU11:Hid (Upd (fun k=>Fs m k\/k=gs) w7 w11):=hid (by rw[hw11];exact HU9.out.setCell (p:=⟨gs,0,none⟩) (.inl (.inr rfl)) _);clear hw11;have HUW:Hid (Upd R w w11):=hid ((Upd.ext (X2.out.trans X7.out)).trans HP.out.2);have HS11:Hid (SpR w11 (Rg R w w11) gs { m with A:=A9,c:=c9,bs:=m.bs++[⟨w8.heap.size,A8,m8,R8⟩] }):=hid (HP.out.1.wide fun k _ hk=>hk.imp id fun h=>⟨AQ (X2.out.trans X7.out).size h.1,h.2⟩);have hg1g:¬(Fs m g1\/g1=gs):=fun e=>e.elim hg1m (fun e=>by have:=HM.out.bk.lt;rw[<-e,HG1.out]at this;omega);have hg2g:¬(Fs m g2\/g2=gs):=fun e=>e.elim (fun e=>by have h1:=(HM.out.b.ow.lt g2 e).2;rw[HG2.out]at h1;omega) (fun e=>by have:=HM.out.bk.lt;rw[<-e,HG2.out]at this;omega);have C1:Hid (Bk w11 g1 76 #[.pointer (some ⟨gs,0,none⟩)]):=hid ((B1.out.ext X7.out).upd HU11.out hg1g);have C2:Hid (Bk w11 g2 27 #[.slice AX nX cX]):=hid ((B2.out.ext X7.out).upd HU11.out hg2g);have CX:Hid (Tin w11 AX cX X):=hid (hX.out w11 HUW.out);clear HP hg1g hg2g hg1m;have XD:Ext w11 w11.drew:=(Ext.refl w11).drew;have Q0:∀y:Xt w11.drew,y.W.cell? ⟨g1,0,none⟩=some (.pointer (some ⟨gs,0,none⟩)):=fun y=>(C1.out.ext (XD.trans y.x)).cell 0;have Q1:∀y:Xt w11.drew,y.W.cell? ⟨g2,0,none⟩=some (.slice AX nX cX):=fun y=>(C2.out.ext (XD.trans y.x)).cell 0;refine wro [0,0,2,7,15,31] (.flo [0,1] (.ext 2 (.flo [3,4] (.one 5 (.fin))))) ?_
 (refine Aa (pks rfl) ?_;(repeat (go_big_quiet_step (fail)));refine oq ?_)
 refine Bi (pks rfl) ?_;intro K_ hK_;go_wp2_with (go_at_call 137;refine(Sg AX cX nX X _ hnX (hid (CX.out.ext XD)) (hid hf.out.2) (by rw[hnX.out];exact hf.out.1)).mono ?_;rintro r w13 hres;obtain⟨A13,c13,n13,M13,rfl,hn13,hT13,hV13,hx13⟩:=hres;have HN13:=hid hn13;have HT13:=hid hT13;have HV13:=hid hV13;have X13:=hid hx13;clear hn13 hT13 hV13 hx13)
 refine Aq.mk X13.out ?_;have c3:=(HS11.out.bk.ext (XD.trans X13.out)).cell 3;have f3:=(HS11.out.bk.ext (XD.trans X13.out)).free 3;have hlt3:=(HS11.out.bk.ext (XD.trans X13.out)).lt;have HP:=hid (HS11.out.put_u (XD.trans X13.out) HT13.out);rw[<-HN13.out]at HP
 (refine Aa (pks rfl) ?_;(repeat (go_big_quiet_step (fail)));refine oq ?_)
 refine Ac (pks rfl) ?_;intro K_ hK_;go_wp2;refine Ad ?_;go_wp2;go_ret;have hq:=HQ.out;rw[if_neg HB5.out]at hq;rw[hq];refine Dd.two HUW.out HP.out.1 HP.out.2 rfl ?_;show SpM.v _=_;rw[<-HV13.out,<-HV8.out];unfold SpM.v;simp only[AO];rfl
theorem Pn{q:Int×SV}(gs:Nat)(m:SpM)(R:Nat->Prop)(AL:Option Addr)(cL n:Nat)(L:List Ud)(AX:Option Addr)(cX nX:Nat)(X:List Tm)(w:World)(hq:Hid (Cq m.v (L.map Ud.uv) (X.map Tm.v)=q))(HM:Hid (SpR w R gs m))(hn:Hid (n=L.length))(hL:Hid (Uin w AL cL L))(h9:n<=1000000)(hin:Hid (∀x∈L,InU x))(hnX:Hid (nX=X.length))(hX:Hid (∀W,Upd R w W->Tin W AX cX X))(hf:Hid (Jv X))(hb9:m.bs.length<=1000000)(G:Hid (Good w)) :
  Calls Tryz.prog 44 #[.pointer (some ⟨gs,0,none⟩),.slice AL n cL,.slice AX nX cX] w (Dd w R gs q):=by
 cases h1:Bn (X.map Tm.v)with
 | false=>exact uT gs m R AL cL n L AX cX nX X w hq HM hn hL h9 hin hnX hX hf hb9 G (hid h1)
 | true =>
  cases h2:(L.any fun x=>Cf x.uv)with
  | true=>exact uS gs m R AL cL n L AX cX nX X w hq HM hn hL h9 hin hnX hX hf hb9 G (hid h1) (hid h2)
  | false =>
   cases h3:(L.any fun x=>Cj (m.U.map Tm.v) (X.map Tm.v) x.uv)with
   | true=>exact uR gs m R AL cL n L AX cX nX X w hq HM hn hL h9 hin hnX hX hf hb9 G (hid h1) (hid h2) (hid h3)
   | false =>
    cases h4:Ho (m.U.map Tm.v) (X.map Tm.v)with
    | false=>exact uQ gs m R AL cL n L AX cX nX X w hq HM hn hL h9 hin hnX hX hf hb9 G (hid h1) (hid h2) (hid h3) (hid h4)
    | true =>
     by_cases h5:UdS.sumV (L.map Ud.uv)=[]
     ·exact uP gs m R AL cL n L AX cX nX X w hq HM hn hL h9 hin hnX hX hf hb9 G (hid h1) (hid h2) (hid h3) (hid h4) (hid h5)
     ·exact uO gs m R AL cL n L AX cX nX X w hq HM hn hL h9 hin hnX hX hf hb9 G (hid h1) (hid h2) (hid h3) (hid h4) (hid h5)
theorem rR{l:List Bt}{i k:Nat}(nd:(l.map Bt.g).Nodup)(hi:i<l.length)(hk:k<l.length)(h:i≠k):(Cc l i).g≠(Cc l k).g:=by
 unfold Cc;rw[AB,AB,AC hi,AC hk];have hp:=CZ.1 nd;rcases Nat.lt_or_gt_of_ne h with q|q
 ·have:=hp i k (by simpa using hi) (by simpa using hk) q;simpa using this
 ·have:=hp k i (by simpa using hk) (by simpa using hi) q;simpa using this.symm
theorem Uj:∃j,Tryz.prog.info? 197=some j/\j.size≠0:=by
 have h:(Tryz.prog.info? 197).map (·.size)=some 1:=by kernel_rfl
 cases hj:Tryz.prog.info? 197 with
 | none=>rw[hj]at h;cases h
 | some j =>
  rw[hj]at h;injection h with h;exact⟨j,rfl,by rw[show j.size=1 from h];decide⟩
theorem a0d{w:World}{A:Option Addr}{n c:Nat}{l:List Bt}(h:Sl w 1 A n c (l.map Bt.p)){i:Nat}(hi:i<l.length):∃ad,A=some ad/\w.cell? (ad.add i)=some (Cc l i).p:=by
 have hl:=h.1;rw[AN]at hl;obtain⟨ad,h1,h2⟩:=h.2.2.2.2 (by omega);exact⟨ad,h1,h2 i _ (fX hi)⟩
theorem iP(A:Option Addr)(c n:Nat)(l:List Bt)(k gk:Nat)(w:World)(hgk:Hid ((Cc l k).g=gk))(hn:Hid (n=l.length))(hk:Hid (k<l.length))(nd:Hid ((l.map Bt.g).Nodup))(h:Hid (Sl w 1 A n c (l.map Bt.p)))(hb:Hid (∀b∈l,∃cs,Bk w b.g 197 cs)) :
  Calls Tryz.prog 214 #[.slice A n c,.pointer (some ⟨gk,0,none⟩)] w fun e w'=>e=.returned (.int .i64 k)/\w=w':=by
 have hbig:n<=9223372036854775807:=h.out.le;go_enter Tryz.func214,Tryz.ntmps214;go_wp2
 go_loopg [8] n (fun z u wr=>∃i:Nat,z=n-i/\i<=k/\u=.int .i64 i/\w=wr)
 case atStart=>exact⟨0,rfl,AE _,rfl,rfl⟩
 case round =>
  obtain⟨i,rfl,hi,rfl,rfl⟩:=hrel;have hil:i<l.length:=by have:=hk.out;omega
  have hin:i<n:=by rw[hn.out];exact hil
  obtain⟨ad,rfl,p0⟩:=a0d h.out hil;by_cases hik:i=k
  ·subst hik;rw[show(Cc l i).p=.pointer (some ⟨gk,0,none⟩)by rw[<-hgk.out]]at p0;obtain⟨jj,hj1,_⟩:=Uj;have e0:(binOp .eql 195 (.pointer (some ⟨gk,0,none⟩)) (.pointer (some ⟨gk,0,none⟩))).run Tryz.prog w=.ok (.bool true) w:=run_eql_ptr_same w _ Tryz.underlying195 hj1;go_wp2;go_ret;exact⟨rfl,rfl⟩
  ·have hne:(Cc l i).g≠gk:=by rw[<-hgk.out];exact rR nd.out hil hk.out hik
   obtain⟨gi,hgi⟩:∃gi,(Cc l i).g=gi:=⟨_,rfl⟩;rw[show(Cc l i).p=.pointer (some ⟨gi,0,none⟩)by rw[<-hgi]]at p0;rw[hgi]at hne;obtain⟨jj,hj1,hj2⟩:=Uj;obtain⟨ca,hca⟩:=hb.out _ (Hm hk.out);obtain⟨cb,hcb⟩:=hb.out _ (Hm hil);rw[hgk.out]at hca;rw[hgi]at hcb;have e0:(binOp .eql 195 (.pointer (some ⟨gk,0,none⟩)) (.pointer (some ⟨gi,0,none⟩))).run Tryz.prog w=.ok (.bool false) w:=run_eql_ptr_other w (a:=⟨gk,0,none⟩) (b:=⟨gi,0,none⟩) Tryz.underlying195 hj1 hj2 (fun e=>hne (congrArg Addr.block e).symm) hca hcb;clear hgi hil hca hcb hne;go_wp2
   go_roundg (n-(i+1))
   case measure=>omega
   case rel=>exact⟨i+1,rfl,by omega,by go_num,rfl⟩
theorem bP{w:World}{B s n c g:Nat}{e:TypeId}{xs:List Value}(h:Own w B e s (some ⟨g,0,none⟩) n c xs)(hc:0<c){t:Nat}(ht:t<c*s):(w.cell? ⟨g,t,none⟩).isSome=true/\w.frozen? ⟨g,t,none⟩=false:=by
 rcases h.2 with ⟨h1,_⟩|⟨g',cur,e,hb,hg,hnc,hcm,hcs,htake⟩
 ·omega
 ·cases e;refine⟨?_,by simp[World.frozen?,hg]⟩;rw[cell_of_row w g t cur _ (0,0) hg,ET (BF ht hcs)];rfl
theorem Pq{B g n c:Nat}{e:TypeId}{s:Nat}{xs:List Value}:∀(vs:List Value) (w:World) (k:Nat),Own w B e s (some ⟨g,0,none⟩) n c xs->xs.length<=k->Own (w.setCells g k vs) B e s (some ⟨g,0,none⟩) n c xs
 | [],_,_,h,_=>h
 | v::vs,w,k,h,hk=>Pq vs _ (k+1) (by have:=h.put k v;rwa [FW hk]at this) (by omega)
theorem uI(w:World):(zeroValue 195).run Tryz.prog w=.ok (.pointer none) w:=Tryz.zeroValue195 w
theorem Up{w:World}{B k m c g:Nat}{xs:List Value}(h:Own w B 195 1 (some ⟨g,0,none⟩) k c xs)(hk:k<m)(hm:m<=c) :
  ∃vs,∀ty,(Builtin.clear_ #[189] ty #[.slice (some ⟨g,k,none⟩) (m-k) (c-k)]).run Tryz.prog w=.ok (.tuple #[]) (w.setCells g k vs):=
 ⟨_,fun ty=>Lib.run_clear_slice (P:=Tryz.prog) w 189 195 ty (.pointer none) Tryz.underlying189 uI rfl rfl g k (m-k) (c-k) (by omega) (fun t ht=>(bP h (by omega) (by omega)).1) (fun t ht=>(bP h (by omega) (by omega)).2)⟩
theorem tD(g c n i j:Nat)(xs:List Value)(w:World)(h:Hid (Own w 0 195 1 (some ⟨g,0,none⟩) n c xs))(h1:Hid (∀u∈xs,u.oneCell'=true))(hij:i<j)(hj:j<=n) :
  Calls Tryz.prog 216 #[.slice (some ⟨g,0,none⟩) n c,.int .i64 i,.int .i64 j] w fun e w'=>e=.returned (.slice (some ⟨g,0,none⟩) (i+(n-j)) c)/\Own w' 0 195 1 (some ⟨g,0,none⟩) (i+(n-j)) c (xs.take i++xs.drop j)/\w.grownBy w' (some g):=by
 have hle:=h.out.le;have hbig:n<=9223372036854775807:=by omega
 have hnc:=hle.1;clear hle;go_enter Tryz.func216,Tryz.ntmps216;have hjc:j<=c:=by omega
 have hic:i<=c:=by omega
 have hin:i<=n:=by omega
 have HT:Hid (Own w.drew 0 195 1 (some ⟨g,0,none⟩) i c (xs.take i)):=hid (by
  have:=h.out.drew;obtain⟨q1,q2⟩:=this;refine⟨by rw[CA,q1];omega,?_⟩;rcases q2 with ⟨q3,q4⟩|⟨g',cur,e,hb,hg,hnc,hcm,hcs,ht⟩
  ·omega
  ·refine .inr ⟨g',cur,e,hb,hg,hic,hcm,hcs,?_⟩;rw[<-ht,List.take_take]
   congr 1
   omega)
 have HS:Hid (Sl w.drew 1 (if c=j then some ⟨g,0,none⟩ else some ⟨g,j,none⟩) (n-j) (c-j) (xs.drop j)):=hid (by
  have:=h.out.drew.sl.drop (k:=j) hj;rw[EU]at this;by_cases hcj:c=j
  ·rw[if_pos hcj]at this ⊢;exact this
  ·rw[if_neg hcj]at this ⊢;have e:(Option.map (·.add j) (some (⟨g,0,none⟩:Addr)))=some ⟨g,j,none⟩:=by
    show some ((⟨g,0,none⟩:Addr).add j)=_;unfold Addr.add;split<;>simp_all
   rw[e]at this;exact this)
 obtain⟨k,hk⟩:∃k,i+(n-j)=k:=⟨_,rfl⟩;have hkn:k<n:=by omega
 have hkc:¬c=k:=by omega
 have hkz:(k:Int)<=(n:Int):=by omega
 have hn2:n-k<=c-k:=by omega
 rw[hk];by_cases hcj:c=j
 ·have e1:n=c:=by omega
  have e2:j=n:=by omega
  rw[if_pos hcj]at HS;clear hcj;subst e1;subst e2
  go_upto_region 5 with fail
  refine wro [0,0,3,0,0,24,63,127] (.flo [0,1,2,3,4,5] (.one 6 (.flo [7] (.fin)))) ?_
  (refine Aa (pks rfl) ?_;(repeat (go_big_quiet_step (fail)));refine oq ?_)
  refine Ac (pks rfl) ?_;intro K_ hK_;go_wp2_with (at_builtin;refine Bd _ Yu 0 _ _ rfl rfl g i j (xs.take i) rfl HT.out (by omega) _ (j-j) (j-j) (xs.drop j) (by simp[Act.eval,Act.put]) HS.out (fun u hu=>h1.out u (CP hu)) (by omega) ?_;intro w1 o1 g1;rw[hk]at o1 ⊢;have HO1:=hid o1;have HG1:=hid g1;clear o1 g1)
  go_simp
  (refine Aa (pks rfl) ?_;(repeat (go_big_quiet_step (fail)));refine oq ?_)
  refine Ad ?_;obtain⟨vs,hcl⟩:=Up HO1.out (m:=j) hkn hnc;go_wp2;go_ret;exact⟨rfl,Pq vs w1 _ HO1.out (by have:=HO1.out.1;omega),((Av (Ext.refl w).drew g).trans HG1.out).trans (upd_sets g vs w1 _)⟩
 ·rw[if_neg hcj]at HS
  go_upto_region 5 with fail
  refine wro [0,0,3,0,0,24,63,127] (.flo [0,1,2,3,4,5] (.one 6 (.flo [7] (.fin)))) ?_
  (refine Aa (pks rfl) ?_;(repeat (go_big_quiet_step (fail)));refine oq ?_)
  refine Ac (pks rfl) ?_;intro K_ hK_;go_wp2_with (at_builtin;refine Bd _ Yu 0 _ _ rfl rfl g i c (xs.take i) rfl HT.out (by omega) _ (n-j) (c-j) (xs.drop j) (by simp[Act.eval,Act.put]) HS.out (fun u hu=>h1.out u (CP hu)) (by omega) ?_;intro w1 o1 g1;rw[hk]at o1 ⊢;have HO1:=hid o1;have HG1:=hid g1;clear o1 g1)
  go_simp
  (refine Aa (pks rfl) ?_;(repeat (go_big_quiet_step (fail)));refine oq ?_)
  refine Ad ?_;obtain⟨vs,hcl⟩:=Up HO1.out (m:=n) hkn hnc;go_wp2;go_ret;exact⟨rfl,Pq vs w1 _ HO1.out (by have:=HO1.out.1;omega),((Av (Ext.refl w).drew g).trans HG1.out).trans (upd_sets g vs w1 _)⟩
theorem Qb{P:Program}(w:World)(t u ty e:TypeId)(i:TypeInfo)(z:Value)(ht:P.underlying t=some (.slice e))(hu:P.underlying u=some (.int .i64))(hi:P.info? e=some i)(hz:i.zero=some z)(hs:0<i.size)
  (n:Nat) (h0:0<n) (h63:(n:Int)<=9223372036854775807) (h48:n*i.bytes<=281474976710656) :
  (Builtin.append_ #[t,u] ty #[.slice none 0 0,.int .i64 n]).run P w =
   .ok (.slice (some ⟨w.heap.size,0,none⟩) n (grownCap w n 0 e)) (w.drew.alloc (.cells (Builtin.zeroCells z.cells n++Builtin.zeroCells z.cells (grownCap w n 0 e-n)) e)):=by
 have hn:n≠0:=by omega
 have hw:IntKind.i64.wrap (n:Int)=n:=DB _ (by omega);have hneg:¬((n:Int)<0):=by omega
 have h63':¬(9223372036854775807<(n:Int)):=by omega
 have h48':¬(281474976710656<Builtin.nextslicecap n 0*i.bytes):=by rw[nextslicecap_zero h0];omega
 have h48z:¬(281474976710656<(n:Int)*(i.bytes:Int)):=by rw[<-Int.natCast_mul];omega
 have hsz:¬(i.size=0):=by omega
 simp[Builtin.append_,asInt,asIntOf,run_underlying ht,run_underlying hu,sizeOf,typeInfo,zeroValue,hi,hz,hw,hneg,hn,h63',h48',h48z,hsz,Question.forced,run_firstCells_none,newRow,grownCap];intro h;have:=Nat.mul_pos h0 hs;omega
theorem qR{n:Nat}(w:World)(ty:TypeId)(h0:0<n)(h9:n<=1000000):∃g c w',(Builtin.append_ #[22,3] ty #[.slice none 0 0,.int .i64 n]).run Tryz.prog w=.ok (.slice (some ⟨g,0,none⟩) n c) w'/\n<=c/\Own w' w.heap.size 95 4 (some ⟨g,0,none⟩) 0 c []/\Ext w w':=by
 obtain⟨i,hi,hz,hs,hby⟩:=info_parts Aw.info;have hr:=Qb (P:=Tryz.prog) w 22 3 ty 95 i _ Aw.under Tryz.underlying3 hi hz (by omega) n h0 (by omega) (by rw[hby];omega);have hge:=grownCap_ge w n 0 95;have hcm:grownCap w n 0 95<=maxLen:=grownCap_le_maxLen w n 0 95 (by unfold maxLen;omega);refine⟨w.heap.size,_,_,hr,hge,⟨rfl,.inr ⟨w.heap.size,_,rfl,AD _,heap_alloc_new w.drew _,AE _,hcm,?_,rfl⟩⟩,((Ext.refl w).drew).alloc _⟩;refine EF (Eq.symm ?_);simp only[FF,size_zeroCells,Aw.zsize];rw[<-DE,Nat.add_sub_cancel' hge]
theorem dH(w:World){ops:Array Oper}{rest:List Oper}{o:Oper}{a:Act}{Q:Exit->Act->World->Prop}(s x:Operand)
  (ho:o.op=.call { callee:=.builtin .append,args:=#[s,x],argTypes:=#[22,3] }) (hgd:o.guard=none) {n:Nat} (hs:a.eval s=.slice none 0 0) (hx:a.eval x=.int .i64 n) (h0:0<n) (h9:n<=1000000)
  (h:∀g c w',n<=c->Own w' w.heap.size 95 4 (some ⟨g,0,none⟩) 0 c []->Ext w w'->wpList Tryz.prog ops Q rest (a.put o.dst (.slice (some ⟨g,0,none⟩) n c)) w'):wpList Tryz.prog ops Q (o::rest) a w :=
 wpList_plain hgd fun _ hK=>by
  obtain⟨g,c,w',hrun,h1,h2,h3⟩:=qR (n:=n) w o.type h0 h9;unfold Oper.wp execOp;simp only[ho,resolve,invoke,builtin,Sem.run_bind,Sem.run_pure,Result.andThen_ok,FN,CN,EM,hs,hx,hrun];exact hK _ _ (h g c w' h1 h2 h3)
def xG(w:World)(e:Ending)(w':World):Prop:=∃A c,e=.returned (.slice A 0 c)/\Own w' w.heap.size 95 4 A 0 c []/\Ext w w'
theorem sN(n:Nat)(w:World)(h9:n<=1000000):Calls Tryz.prog 249 #[.slice none 0 0,.int .i64 n] w (xG w):=by
 go_enter Tryz.func249,Tryz.ntmps249;rcases CL n with h0|h0
 ·subst h0;go_wp2;go_ret;exact⟨none,0,rfl,Own.nil _ _ _ _,Ext.refl w⟩
 ·have h0z:(0:Int)<(n:Int):=by omega
  have hneg:¬((n:Int)<0):=by omega
  go_wp2_with (at_builtin;refine dH _ _ _ rfl rfl (n:=n) rfl rfl h0 h9 ?_;intro g c w1 hc o1 x1;have HO1:=hid o1;have HX1:=hid x1;clear o1 x1)
  go_ret;exact⟨_,_,rfl,HO1.out,HX1.out⟩
def zI(w:World)(L:List Ud)(e:Ending)(w':World):Prop:=∃A n c,e=.returned (.slice A n c)/\n=L.length/\Own w' w.heap.size 95 4 A n c (Ah L)/\Ext w w'
theorem iU(g n1 n2 c1 c2:Nat)(A1 A2:Option Addr)(L1 L2:List Ud)(w:World)(hb:Hid (Bk w g 22 #[.slice A1 n1 c1,.slice A2 n2 c2]))(h1:Hid (n1=L1.length))(h2:Hid (n2=L2.length))(s1:Hid (Sl w 4 A1 n1 c1 (Ah L1)))(s2:Hid (Sl w 4 A2 n2 c2 (Ah L2)))(h9:n1+n2<=1000000) :
  Calls Tryz.prog 215 #[.slice (some ⟨g,0,none⟩) 2 2] w (zI w (L1++L2)):=by
 have q0:w.cell? ⟨g,0,none⟩=some (.slice A1 n1 c1):=hb.out.cell 0;have q1:w.cell? ⟨g,1,none⟩=some (.slice A2 n2 c2):=hb.out.cell 1;have w1:IntKind.i64.wrap ((n1:Int)+(n2:Int))=((n1+n2:Nat):Int):=by rw[<-Int.natCast_add];exact DB _ (by omega)
 have p1:¬((n1:Int)<0):=by omega
 have p2:¬(((n1+n2:Nat):Int)<0):=by omega
 go_enter Tryz.func215,Tryz.ntmps215;go_wp2;refine wp_loop_rounds 3 ?_;rw[rounds_succ];go_wp2;rw[rounds_succ];go_wp2;rw[rounds_succ];have m1:True:=trivial;go_wp2_with (go_at_call 249;have mk:=m1;clear m1 mk;refine(sN (n1+n2) _ h9).mono ?_;rintro r w3 ⟨A3,c3,rfl,o3,x3⟩;have HO3:=hid o3;have X3:=hid x3;have q0:=x3.cell q0;have q1:=x3.cell q1;clear o3 x3)
 have m2:True:=trivial;refine wp_loop_rounds 3 ?_;rw[rounds_succ];go_wp2_with (at_builtin;have mk:=m2;clear m2 mk;refine Ab _ Aw w.heap.size _ _ rfl rfl A3 0 c3 [] rfl HO3.out A1 n1 c1 (Ah L1) rfl (s1.out.ext X3.out) (Ca _) (by omega) (by decide) X3.out.size ?_;intro A4 c4 w4 o4 g4 x4;rw[BR,BC]at o4;rw[BR];have HO4:=hid o4;have X4:=hid (X3.out.grown g4 (fun k hk=>(HO3.out.lt k hk).1));have q0:=X4.out.cell (hb.out.cell 0);have q1:=X4.out.cell (hb.out.cell 1);clear o4 g4 x4)
 have m3:True:=trivial;rw[rounds_succ];go_wp2_with (at_builtin;have mk:=m3;clear m3 mk;refine Ab _ Aw w.heap.size _ _ rfl rfl A4 n1 c4 (Ah L1) rfl HO4.out A2 n2 c2 (Ah L2) rfl (s2.out.ext X4.out) (Ca _) (by omega) (by decide) X4.out.size ?_;intro A5 c5 w5 o5 g5 x5;have HO5:=hid o5;have X5:=hid (X4.out.grown g5 (fun k hk=>(HO4.out.lt k hk).1));clear o5 g5 x5)
 rw[rounds_succ];go_wp2;go_ret;exact⟨_,_,_,rfl,by rw[AA,h1.out,h2.out],by rw[Bb];exact HO5.out,X5.out⟩
def Fe:Nat->List (List UV)->Option Nat
 | 0,_=>none
 | k+1,bs=>if (bs.getD k []).length<=2*(bs.getD (k+1) []).length then some k else Fe k bs
def Bo(s:SV):SV×Bool :=
 match s.un with
 | some _=>(s,true)
 | none=>match Fe (s.bs.length-1) s.bs with
  | some i=>({ s with un:=some (i,(s.bs.getD i []).length+(s.bs.getD (i+1) []).length) },true)
  | none=>(s,false)
def Fi(w:World)(R:Nat->Prop)(gs:Nat)(n:Nat)(b:Bool)(s:SV)(e:Ending)(w':World):Prop:=∃m',e=.returned (.tuple #[.int .i64 n,.bool b])/\SpR w' (Rg R w w') gs m'/\m'.v=s/\Upd R w w'
theorem Fi.stay{w w':World}{R:Nat->Prop}{gs n:Nat}{m:SpM}{b:Bool}{e:Ending}(h:SpR w R gs m)(x:Ext w w')(he:e=.returned (.tuple #[.int .i64 n,.bool b])):Fi w R gs n b m.v e w':=⟨m,he,(h.ext x).wide fun _ _ hk=>.inl hk,rfl,Upd.ext x⟩
theorem pM{l:List Bt}{i:Nat}(h:i<l.length):((l.map Bt.v).getD i []).length=(Cc l i).l.length:=by
 unfold Cc;rw[AB,AB,CI,AC h];show((l[i].l).map Ud.uv).length=_;rw[AN];rfl
section
variable{w w1 w3:World}{R:Nat->Prop}{gs:Nat}{m:SpM}
theorem SpR.put_p(h:SpR w R gs m)(x:Ext w w1){g i left:Nat}(hb:Bk w1 g 270 #[(Cc m.bs i).p,(Cc m.bs (i+1)).p,.int .i64 left])(hg:w.heap.size<=g)(hi:i+1<m.bs.length) :
  SpR (w1.setCell ⟨gs,1,none⟩ (.pointer (some ⟨g,0,none⟩))) (Rg R w (w1.setCell ⟨gs,1,none⟩ (.pointer (some ⟨g,0,none⟩)))) gs { m with un:=some ⟨g,i,left⟩ }/\Upd R w (w1.setCell ⟨gs,1,none⟩ (.pointer (some ⟨g,0,none⟩))):=by
 have hz:(w1.setCell ⟨gs,1,none⟩ (.pointer (some ⟨g,0,none⟩))).heap.size=w1.heap.size:=by simp
 have hb1:=h.bk.ext x;have k:=(h.b.ext x).wide (R':=Rg R w (w1.setCell ⟨gs,1,none⟩ (.pointer (some ⟨g,0,none⟩)))) fun k _ hk=>.inl hk;have b1:SpB w1 (Rg R w (w1.setCell ⟨gs,1,none⟩ (.pointer (some ⟨g,0,none⟩)))) { m with un:=some ⟨g,i,left⟩ }:=⟨k.ow,k.ro,k.bt,k.nd,fun p hp=>by
  injection hp with hp;subst hp;exact⟨hb,.inr ⟨hg,by rw[hz];exact hb.lt⟩,hi⟩,k.sn,k.up⟩
 exact⟨⟨hb1.set 1 _,.inl h.rg,b1.head hb1 1 _⟩,(Upd.ext x).setCell (.inl h.rg) _⟩
theorem SpR.put_left(h:SpR w R gs m){p:Pr}(hp:m.un=some p)(left:Nat) :
  SpR (w.setCell ⟨p.g,2,none⟩ (.int .i64 left)) (Rg R w (w.setCell ⟨p.g,2,none⟩ (.int .i64 left))) gs { m with un:=some ⟨p.g,p.i,left⟩ }/\Upd R w (w.setCell ⟨p.g,2,none⟩ (.int .i64 left)):=by
 have hu:=h.b.un p hp;have x:Upd (fun k=>k=p.g) w (w.setCell ⟨p.g,2,none⟩ (.int .i64 left)):=(Upd.refl (fun k=>k=p.g) w).setCell (p:=⟨p.g,2,none⟩) (.inl rfl) _;have hS:∀k,k<w.heap.size->k=p.g->Ks w k:=fun k _ e=>by subst e;exact .inr (.inr hu.bk.ty)
 have hng:gs≠p.g:=fun e=>absurd ((e▸h.bk.ty:Ty w p.g _).ne hu.bk.ty) (by decide);have hR:∀k,k<(w.setCell ⟨p.g,2,none⟩ (.int .i64 left)).heap.size->R k->Rg R w (w.setCell ⟨p.g,2,none⟩ (.int .i64 left)) k:=fun k _ hk=>.inl hk;refine⟨SpR.wide ⟨?_,h.rg,⟨h.b.ow.upd x fun k hk e=>?_,h.b.ro,fun b hb=>(h.b.bt b hb).safe x hS,h.b.nd,fun q hq=>?_,h.b.sn.safe x hS,h.b.up.safe x hS⟩⟩ hR,(Upd.refl R w).setCell (.inl hu.rg) _⟩
 ·have hd:=h.bk.upd x hng;unfold Nz at hd;rw[hp]at hd;exact hd
 ·subst e;exact absurd ((h.b.ow.ty hk).ne hu.bk.ty) (by decide)
 ·injection hq with hq;subst hq;exact⟨hu.bk.set 2 _,hu.rg,hu.lt⟩
end
theorem Own.lit{w:World}{B s n c:Nat}{e:TypeId}{A:Option Addr}{xs:List Value}(h:Own w B e s A n c xs)(hn:0<n):∃g,A=some ⟨g,0,none⟩:=by
 rcases h.2 with ⟨_,h2⟩|⟨g,cur,rfl,_⟩
 ·omega
 ·exact⟨g,rfl⟩
theorem iZ(gs n:Nat)(m:SpM)(p:Pr)(R:Nat->Prop)(w:World)(hp:m.un=some p)(HM:Hid (SpR w R gs m)):Calls Tryz.prog 160 #[.pointer (some ⟨gs,0,none⟩),.int .i64 n] w (Fi w R gs n true m.v):=by
 have c1:w.cell? ⟨gs,1,none⟩=some (.pointer (some ⟨p.g,0,none⟩)):=by have:=HM.out.bk.cell 1;unfold Nz at this;rw[hp]at this;exact this
 go_enter Tryz.func160,Tryz.ntmps160;go_wp2;go_returns;exact Fi.stay HM.out (Ext.refl w) rfl
theorem jA(gs n:Nat)(m:SpM)(R:Nat->Prop)(w:World)(hp:m.un=none)(HM:Hid (SpR w R gs m))(h9:m.bs.length<=1000000)(hA0:Hid (∀b∈m.bs,b.l.length<=1000000)):Calls Tryz.prog 160 #[.pointer (some ⟨gs,0,none⟩),.int .i64 n] w (Fi w R gs n (Bo m.v).2 (Bo m.v).1):=by
 obtain⟨N,hN⟩:∃N,N=m.bs.length:=⟨_,rfl⟩;obtain⟨mA,hmA⟩:∃a,m.A=a:=⟨_,rfl⟩;have HC:Hid (∀W,Ext w W->W.cell? ⟨gs,0,none⟩=some (.slice mA N m.c)/\W.cell? ⟨gs,1,none⟩=some (.pointer none)/\W.frozen? ⟨gs,1,none⟩=false):=hid (fun W x=>by
  have hb:=HM.out.bk.ext x;have h0:=hb.cell 0;have h1:=hb.cell 1;unfold Nz at h0 h1;rw[hp]at h1;rw[hmA,<-hN]at h0;exact⟨h0,h1,hb.free 1⟩)
 obtain⟨c0,c1,_⟩:=HC.out w (Ext.refl w);rw[<-hN]at h9;have HN:=hid hN;have HB:=hid HM.out.b;obtain⟨q,hq⟩:∃q,Bo m.v=q:=⟨_,rfl⟩;rw[hq];have HQ:=hid hq;have HP:=hid hp;clear hN hq hp;rcases CL N with hz|hz
 ·subst hz;have hb:m.bs=[]:=AG HN.out.symm;have hq:Hid (q=(m.v,false)):=hid (by rw[<-HQ.out];unfold Bo SpM.v;rw[HP.out,hb];rfl);go_enter Tryz.func160,Tryz.ntmps160;go_wp2;refine wp_loop_rounds 1 ?_;rw[rounds_succ];go_wp2;go_returns;rw[hq.out];exact Fi.stay HM.out (Ext.refl w) rfl
 ·have hN2:((N:Int)-2)=((N-1:Nat):Int)-1:=by omega
  have hv:m.v.bs.length=N:=by rw[HN.out];exact AN ..
  have HV:=hid hv;have hw:IntKind.i64.wrap ((N:Int)-2)=(N:Int)-2:=DB _ (by omega);clear hv c0 c1;obtain⟨c0,c1,_⟩:=HC.out w (Ext.refl w);go_enter Tryz.func160,Tryz.ntmps160;go_wp2
  go_loopg [6] (N-1) (fun z u wr=>∃k:Nat,z=k/\k<=N-1/\u=.int .i64 ((k:Int)-1)/\Hid (Fe (N-1) m.v.bs=Fe k m.v.bs)/\Hid (Ext w wr))
  case atStart=>exact⟨N-1,rfl,AD _,(by first|rfl|rw[hN2]),hid rfl,hid (Ext.refl w)⟩
  case round =>
   obtain⟨k,hzk,hk,rfl,HF,HX⟩:=hrel;clear c0 c1;cases k with
   | zero =>
    have hq:Hid (q=(m.v,false)):=hid (by rw[<-HQ.out];unfold Bo;rw[show m.v.un=none by unfold SpM.v;rw[HP.out];rfl,HV.out,HF.out];rfl);go_wp2;go_returns;rw[hq.out];exact Fi.stay HM.out HX.out rfl
   | succ j =>
    have e:((j+1:Nat):Int)-1=j:=by omega
    rw[e];clear e;have hj:j+1<N:=by omega
    have hj0:j<m.bs.length:=by rw[<-HN.out];omega
    have hj1:j+1<m.bs.length:=by rw[<-HN.out];omega
    have HX1:Hid (Ext w wr.drew):=hid HX.out.drew;obtain⟨ad,hA,p0,p1⟩:=(HB.out.ext HX1.out).at hj0;obtain⟨ad',hA',r0,r1⟩:=(HB.out.ext HX1.out).at hj1;obtain⟨gl,hgl⟩:=(HB.out.ow).lit (by omega);obtain rfl:ad=⟨gl,0,none⟩:=Option.some.inj (hA.symm.trans hgl);obtain rfl:ad'=⟨gl,0,none⟩:=Option.some.inj (hA'.symm.trans hgl);obtain rfl:mA=some ⟨gl,0,none⟩:=hmA.symm.trans hA;rw[Addr.add_lit,BR]at p0 r0;clear hgl;have l0:=hA0.out _ (Hm hj0);have l1:=hA0.out _ (Hm hj1);have v0:=pM hj0;have v1:=pM hj1;clear hA hA';obtain⟨a,ha⟩:∃a,Cc m.bs j=a:=⟨_,rfl⟩;obtain⟨b,hb⟩:∃b,Cc m.bs (j+1)=b:=⟨_,rfl⟩;rw[ha]at p0 p1 l0 v0;rw[hb]at r0 r1 l1 v1;have HA:=hid ha;have HB':=hid hb;obtain⟨na,hna⟩:∃k,k=a.l.length:=⟨_,rfl⟩;obtain⟨nb,hnb⟩:∃k,k=b.l.length:=⟨_,rfl⟩;rw[<-hna]at p1 l0 v0;rw[<-hnb]at r1 l1 v1;have HNA:=hid hna;have HNB:=hid hnb;have V0:=hid v0;have V1:=hid v1;have C0:∀y:Xt wr.drew,y.W.cell? ⟨gs,0,none⟩=some (.slice (some ⟨gl,0,none⟩) N m.c):=fun y=>(HC.out _ (HX1.out.trans y.x)).1;have P0:∀y:Xt wr.drew,y.W.cell? ⟨gl,j,none⟩=some a.p:=fun y=>y.x.cell p0;have R0:∀y:Xt wr.drew,y.W.cell? ⟨gl,j+1,none⟩=some b.p:=fun y=>y.x.cell r0;clear ha hb hna hnb v0 v1 p0 r0 hj0 hj1
    go_upto_region 6 with fail
    refine wro [0,1,3,7,0,31,63,0,128,384,896,0,2048,8064,16256,127,65535] (.flo [0,1,2,3,4,5,6,7,8,9,10,11,12,13,14,15,16] (.fin)) ?_
    (refine Aa (pks rfl) ?_;(repeat (go_big_quiet_step (fail)));refine oq ?_)
    refine Ad ?_;clear C0 P0 R0;have w2:IntKind.i64.wrap (2*(nb:Int))=((2*nb:Nat):Int):=by
     have e:(2*(nb:Int))=((2*nb:Nat):Int):=by omega
     rw[e];exact DB _ (by omega)
    have w3:IntKind.i64.wrap ((na:Int)+(nb:Int))=(na:Int)+(nb:Int):=DB _ (by omega);by_cases hdue:na<=2*nb
    ·have hdz:(na:Int)<=((2*nb:Nat):Int):=by omega
     have hq:Hid (q=({ m.v with un:=some (j,na+nb) },true)):=hid (by
      have hf:Fe (j+1) m.v.bs=some j:=by
       show(if (m.v.bs.getD j []).length<=2*(m.v.bs.getD (j+1) []).length then some j else Fe j m.v.bs)=_;rw[if_pos];show((m.bs.map Bt.v).getD j []).length<=2*((m.bs.map Bt.v).getD (j+1) []).length;rw[V0.out,V1.out];exact hdue
      rw[<-HQ.out];unfold Bo;rw[show m.v.un=none by unfold SpM.v;rw[HP.out];rfl,HV.out,HF.out,hf];show({ m.v with un:=some (j,((m.bs.map Bt.v).getD j []).length+((m.bs.map Bt.v).getD (j+1) []).length) },true)=_;rw[V0.out,V1.out])
     have XW:Hid (Ext w (wr.alloc (.cells #[a.p,b.p,.int .i64 ((na:Int)+(nb:Int))] 270)).drew):=hid ((HX.out.alloc _).drew);obtain⟨_,k1,f1⟩:=HC.out _ XW.out;have BK:Hid (Bk (wr.alloc (.cells #[a.p,b.p,.int .i64 ((na:Int)+(nb:Int))] 270)).drew wr.heap.size 270 #[(Cc m.bs j).p,(Cc m.bs (j+1)).p,.int .i64 ((na+nb:Nat):Int)]):=hid (by rw[HA.out,HB'.out,Int.natCast_add];exact(Bk.new wr _ _));have HPP:=hid (HM.out.put_p XW.out BK.out HX.out.size (by rw[<-HN.out];exact hj));go_wp2_with (first
      | (go_at_call 163;refine(Jt a na _ HNA p1).mono ?_;rintro r w1 ⟨rfl,rfl⟩)
      | (go_at_call 163;refine(Jt b nb _ HNB r1).mono ?_;rintro r w1 ⟨rfl,rfl⟩)
      | fail)
     go_returns;rw[hq.out];exact⟨_,rfl,HPP.out.1,rfl,HPP.out.2⟩
    ·have hdz:¬(na:Int)<=((2*nb:Nat):Int):=by omega
     go_wp2_with (first
      | (go_at_call 163;refine(Jt a na _ HNA p1).mono ?_;rintro r w1 ⟨rfl,rfl⟩)
      | (go_at_call 163;refine(Jt b nb _ HNB r1).mono ?_;rintro r w1 ⟨rfl,rfl⟩)
      | fail)
     go_roundg j
     case measure=>omega
     case rel =>
      refine⟨j,rfl,by omega,by go_num,hid ?_,HX1⟩;rw[HF.out];show(if (m.v.bs.getD j []).length<=2*(m.v.bs.getD (j+1) []).length then some j else Fe j m.v.bs)=_;rw[if_neg];show ¬((m.bs.map Bt.v).getD j []).length<=2*((m.bs.map Bt.v).getD (j+1) []).length;rw[V0.out,V1.out];exact hdue
theorem vB(gs n:Nat)(m:SpM)(p:Pr)(R:Nat->Prop)(w:World)(hp:m.un=some p)(HM:Hid (SpR w R gs m))(hn9:n<=9223372036854775807)(hl9:p.left<=1000000000) :
  Calls Tryz.prog 161 #[.pointer (some ⟨gs,0,none⟩),.int .i64 n] w (Fi w R gs (n-min n p.left) true { m.v with un:=some (p.i,p.left-min n p.left) }):=by
 have HPP:=hid (HM.out.put_left hp (p.left-min n p.left));obtain⟨pg,pi,pl⟩:=p;have c1:w.cell? ⟨gs,1,none⟩=some (.pointer (some ⟨pg,0,none⟩)):=by have:=HM.out.bk.cell 1;unfold Nz at this;rw[hp]at this;exact this
 have hu:=HM.out.b.un _ hp;have k2:w.cell? ⟨pg,2,none⟩=some (.int .i64 pl):=hu.bk.cell 2;have f2:=hu.bk.free 2;have l2:=hu.bk.lt;simp only at HPP l2 f2 hl9 ⊢;obtain⟨k,hk⟩:∃k,min n pl=k:=⟨_,rfl⟩;rw[hk]at HPP ⊢;have hkn:k<=n:=by omega
 have hkl:k<=pl:=by omega
 have hm1:min (n:Int) (pl:Int)=(k:Int):=by omega
 have hm2:(if (pl:Int)<(n:Int) then (pl:Int) else (n:Int))=(k:Int):=by split<;>omega
 have hw1:IntKind.i64.wrap ((pl:Int)-(k:Int))=((pl-k:Nat):Int):=by rw[<-GK hkl];exact DB _ (by omega)
 have hw2:IntKind.i64.wrap ((n:Int)-(k:Int))=((n-k:Nat):Int):=by rw[<-GK hkn];exact DB _ (by omega)
 clear hu hk hkn hkl hn9 hl9;have hv:Hid ({ m with un:=some ⟨pg,pi,pl-k⟩:SpM }.v={ m.v with un:=some (pi,pl-k) }):=hid rfl;go_enter Tryz.func161,Tryz.ntmps161;go_wp2;go_returns;exact⟨_,rfl,HPP.out.1,hv.out,HPP.out.2⟩
def Mr(s:SV):List UV:=if s.S=[] then [] else UdS.sumV (s.bs.flatten.map (Bp s.S))
theorem tG{w w':World}(x:Ext w w'):Gc w [] (.returned (.slice none 0 0)) w':=⟨none,0,[],rfl,rfl,Cl.nil _ _,rfl,x⟩
theorem nP{w w1 w':World}{V:List UV}{e:Ending}(h:Gc w1 V e w')(x:Ext w w1):Gc w V e w':=by
 obtain⟨A,m,R,e1,e2,o,v,x2⟩:=h;exact⟨A,m,R,e1,e2,o.mono x.size,v,x.trans x2⟩
theorem SpR.uin{w w':World}{R:Nat->Prop}{gs:Nat}{m:SpM}{A:Option Addr}{n c:Nat}(h:SpR w R gs m)(x:Ext w w')(hn:n=(Ep m.bs).length)(s:Sl w' 4 A n c (Ah (Ep m.bs))):Uin w' A c (Ep m.bs):=
 ⟨hn▸s,fun y hy=>by
  obtain⟨b,hb,hxb⟩:=DH.1 hy;exact((h.b.bt b hb).u.uin.ls y hxb).ext x⟩
theorem Po{V:List UV}(gs:Nat)(m:SpM)(R:Nat->Prop)(w:World)(hV:Hid (Mr m.v=V))(HM:Hid (SpR w R gs m))(ok:Hid (oO m)) :
  Calls Tryz.prog 48 #[.pointer (some ⟨gs,0,none⟩)] w (Gc w V):=by
 obtain⟨nS,hnS⟩:∃k,k=m.S.length:=⟨_,rfl⟩;have HNS:=hid hnS;have HC:Hid (∀W,Ext w W->W.cell? ⟨gs,2,none⟩=some (.slice m.sA nS m.sc)):=hid (fun W x=>by have:=(HM.out.bk.ext x).cell 2;rw[hnS];exact this);have HTS:Hid (Tin w m.sA m.sc m.S):=hid HM.out.b.sn.t.tin;have c2:=HC.out w (Ext.refl w);clear hnS;rcases CL nS with h0|h0
 ·subst h0;have HV:Hid (V=[]):=hid (by rw[<-hV.out];unfold Mr;rw[if_pos];show m.S.map Tm.v=[];rw[AG HNS.out.symm];rfl);clear hV;go_enter Tryz.func48,Tryz.ntmps48;go_wp2;go_ret;rw[HV.out];exact tG (Ext.refl w)
 ·have h0z:¬((nS:Int)=0):=by omega
  have HV:Hid (UdS.sumV (((Ep m.bs).map Ud.uv).map (Bp (m.S.map Tm.v)))=V):=hid (by
   rw[<-hV.out,Yd];unfold Mr;rw[if_neg]
   ·rfl
   ·intro e;have e2:=congrArg List.length e;have:=HNS.out;simp[SpM.v]at e2;rw[e2]at this;simp at this;omega)
  clear hV;go_enter Tryz.func48,Tryz.ntmps48
  go_upto_region 3 with fail
  clear c2;have X:Ext w w.drew:=(Ext.refl w).drew;have P2:∀y:Xt w.drew,y.W.cell? ⟨gs,2,none⟩=some (.slice m.sA nS m.sc):=fun y=>HC.out _ (X.trans y.x);refine wro [0,1,0,4,12,28,63,127] (.flo [0,2,3,4,5] (.ext 1 (.one 6 (.flo [7] (.fin))))) ?_
  (refine Aa (pks rfl) ?_;(repeat (go_big_quiet_step (fail)));refine oq ?_)
  refine Bi (pks rfl) ?_;intro K_ hK_;go_wp2_with (go_at_call 159;refine(Pb gs m R _ (hid (HM.out.ext X)) ok.out.nb ok.out.na).mono ?_;rintro r w4 ⟨A4,n4,c4,rfl,e4,o4,x4⟩;have HN4:=hid e4;have HO4:=hid o4;have X4:=hid x4;clear e4 o4 x4)
  refine Aq.mk X4.out ?_;refine Ac (pks rfl) ?_;intro K_ hK_;go_wp2_with (go_at_call 18;refine(cQ A4 c4 n4 (Ep m.bs) m.sA m.sc nS m.S _ HV HN4 (hid (HM.out.uin (X.trans X4.out) HN4.out HO4.out.sl)) (by rw[HN4.out];exact ok.out.na) (hid ok.out.ins) HNS (hid ((HTS.out.ext X).ext X4.out)) (hid ok.out.ss) (by rw[HNS.out];exact ok.out.fs)).mono ?_;rintro r w5 hres;have HR:=hid hres;obtain⟨A5,m5,R5,rfl,h5⟩:=hres;clear h5)
  (refine Aa (pks rfl) ?_;(repeat (go_big_quiet_step (fail)));refine oq ?_)
  refine Ad ?_;go_wp2;go_ret;exact nP HR.out (X.trans X4.out)
end Go.Proofs.YtdgbkpoickbidaaGreatDoor
