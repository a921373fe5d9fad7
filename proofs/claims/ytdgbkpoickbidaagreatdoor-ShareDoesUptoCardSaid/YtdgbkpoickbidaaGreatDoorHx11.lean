/- Parts of the proof. Conditions: as stated. -/
import Derived.Test.YtdgbkpoickbidaaGreatDoorHx10
import Derived.LaidEqlPtr
set_option maxRecDepth 100000
set_option maxHeartbeats 4000000
open Go.RowKit Go.Proofs.Tryz
set_option linter.defProp false
namespace Go.Proofs.YtdgbkpoickbidaaGreatDoor
variable{xs:List Value}{B c g gs i m n:Nat}{R:Nat->Prop}{A:Option Addr}{e:TypeId}{w w' w1 w2:World}
structure Yt (S:Nat->Prop) (w:World) where
 W:World
 x:Upd S w W
instance Yt.any (S:Nat->Prop) (w:World):Nonempty (Yt S w):=⟨⟨w,Upd.refl S w⟩⟩
section
variable{P:Program}{ops:Array Oper}{Q:Exit->Act->World->Prop}{bs:Array Nat}{S:Nat->Prop}
def Wa(S:Nat->Prop)(P:Program)(ops:Array Oper)(Q:Exit->Act->World->Prop)(X:Nat->Bool):Nat->Array Bool->Act->World->Prop
 | 0,listed,a,w=>Region.ready .any ops listed=[]/\Q .normal a w
 | fuel+1,listed,a,w =>
  (Region.ready .any ops listed=[]->Q .normal a w) /\
  ∀i∈Region.ready .any ops listed,wpOp P ops Q i (λa' w'=>(X i=true->Upd S w w')/\Wa S P ops Q X fuel (listed.setIfInBounds i true) a' w') a w
def Qy{X:Nat->Bool}:∀(fuel:Nat) (listed:Array Bool) (a:Act) (w:World),Wa S P ops Q X fuel listed a w->wpAny P .any ops Q fuel listed a w
 | 0,_,_,_,h=>h
 | fuel+1,_,_,_,h=>⟨h.1,λi hi=>wpOp_mono (λa' w' h'=>Qy fuel _ a' w' h'.2) (h.2 i hi)⟩
def nE{X:Nat->Bool}{listed:Array Bool}{a:Act}(hr:Region.ready .any ops listed=[])(h:Q .normal a w):∀fuel,Wa S P ops Q X fuel listed a w
 | 0=>⟨hr,h⟩
 | _+1=>⟨λ_=>h,by rw[hr];simp⟩
def Wd{o:Oper}{v:Value}{a:Act}(h:YieldsIf P ops (Upd S w) o v a)(x:Upd S w w'):YieldsIf P ops (Upd S w') o v a :=
 h.imp (λ⟨h1,h2⟩=>⟨h1,λu hu=>h2 u (x.trans hu)⟩) id
def iH{X:Nat->Bool}(hok:Fv ops bs=true){i:Nat}{oi:Oper}{v:Value}(hi:ops[i]?=some oi)(hsel:∀(j:Nat) (o:Oper) cs b,ops[j]?=some o->o.op≠.select cs b)
  (hQ:∀c a d v w,Q (.panic c) (a.put d v) w->Q (.panic c) a w) :
  ∀(fuel:Nat) (listed:Array Bool) (a:Act) (w:World),Ka ops bs listed ->
   (∀j oj,ops[j]?=some oj->j≠i->listed.getD j true=false->Fr ops bs i j=false->oi.apart ops oj=true/\X j=true) ->
   i∈Region.ready .any ops listed->YieldsIf P ops (Upd S w) oi v a ->
   Wa S P ops Q X fuel (listed.setIfInBounds i true) (a.put oi.dst v) w->Wa S P ops Q X (fuel+1) listed a w:=by
 intro fuel;induction fuel with
 | zero =>
  intro listed a w f _ hr hy H;refine⟨λh=>(by rw[h]at hr;cases hr),λj hj=>?_⟩;by_cases hji:j=i
  ·subst hji;exact hy.wpOp hi (Upd.refl S w) ⟨λ_=>Upd.refl S w,H⟩
  ·have:=ready_mono hj hji;rw[H.1]at this;cases this
 | succ fuel ih =>
  intro listed a w f e hr hy H;refine⟨λh=>(by rw[h]at hr;cases hr),λj hj=>?_⟩;by_cases hji:j=i
  ·subst hji;exact hy.wpOp hi (Upd.refl S w) ⟨λ_=>Upd.refl S w,H⟩
  ·have h1:=H.2 j (ready_mono hj hji);have⟨m,oj,n,t⟩:=mem_ready.1 hj;have l:=(mem_ready.1 hr).1;have q:Fr ops bs i j=false:=by
    cases hb:Fr ops bs i j with
    | false=>rfl
    | true =>
     have h2:=Kh hok f hj hb;rcases DO i listed.size with h'|h'
     ·simp[h']at h2 l;rw[l]at h2;cases h2
     ·simp[ER h']at h2
   have⟨r,hX⟩:=e j oj n hji m q;have h2:=wpOp_putIf n r (λcs b=>hsel i oi cs b hi) (λcs b=>hsel j oj cs b n) (λc a w=>hQ c a _ _ w) hy h1;have g:∀k ok,ops[k]?=some ok->k≠i->(listed.setIfInBounds j true).getD k true=false->Fr ops bs i k=false->oi.apart ops ok=true/\X k=true:=λk ok hk hki hun hno=>by
    refine e k ok hk hki ?_ hno;by_cases hjk:j=k
    ·subst hjk;exact m
    ·rw[getD_set_ne true hjk]at hun;exact hun
   refine wpOp_mono (λa' w' h3=>⟨h3.2.1,ih (listed.setIfInBounds j true) a' w' (f.add hok hj) g (ready_mono hr (Ne.symm hji)) (Wd h3.1 (h3.2.1 hX)) ?_⟩) h2;rw[FC _ _ hji];exact h3.2.2
def Rz{X:Nat->Bool}(hok:Fv ops bs=true){i:Nat}{oi:Oper}{v:Value}(hi:ops[i]?=some oi)(hsel:∀(j:Nat) (o:Oper) cs b,ops[j]?=some o->o.op≠.select cs b)
  (hQ:∀c a d v w,Q (.panic c) (a.put d v) w->Q (.panic c) a w) :
  ∀(fuel:Nat) (listed:Array Bool) (a:Act) (w:World),Ka ops bs listed ->
   (∀j oj,ops[j]?=some oj->j≠i->listed.getD j true=false->Fr ops bs i j=false->oi.apart ops oj=true) ->
   i∈Region.ready .any ops listed->YieldsIf P ops (λ_=>True) oi v a ->
   Wa S P ops Q X fuel (listed.setIfInBounds i true) (a.put oi.dst v) w->Wa S P ops Q X (fuel+1) listed a w:=by
 intro fuel;induction fuel with
 | zero =>
  intro listed a w f _ hr hy H;refine⟨λh=>(by rw[h]at hr;cases hr),λj hj=>?_⟩;by_cases hji:j=i
  ·subst hji;exact hy.wpOp hi trivial ⟨λ_=>Upd.refl S w,H⟩
  ·have:=ready_mono hj hji;rw[H.1]at this;cases this
 | succ fuel ih =>
  intro listed a w f e hr hy H;refine⟨λh=>(by rw[h]at hr;cases hr),λj hj=>?_⟩;by_cases hji:j=i
  ·subst hji;exact hy.wpOp hi trivial ⟨λ_=>Upd.refl S w,H⟩
  ·have h1:=H.2 j (ready_mono hj hji);have⟨m,oj,n,t⟩:=mem_ready.1 hj;have l:=(mem_ready.1 hr).1;have q:Fr ops bs i j=false:=by
    cases hb:Fr ops bs i j with
    | false=>rfl
    | true =>
     have h2:=Kh hok f hj hb;rcases DO i listed.size with h'|h'
     ·simp[h']at h2 l;rw[l]at h2;cases h2
     ·simp[ER h']at h2
   have r:=e j oj n hji m q;have h2:=wpOp_putIf n r (λcs b=>hsel i oi cs b hi) (λcs b=>hsel j oj cs b n) (λc a w=>hQ c a _ _ w) hy h1;have g:∀k ok,ops[k]?=some ok->k≠i->(listed.setIfInBounds j true).getD k true=false->Fr ops bs i k=false->oi.apart ops ok=true:=λk ok hk hki hun hno=>by
    refine e k ok hk hki ?_ hno;by_cases hjk:j=k
    ·subst hjk;exact m
    ·rw[getD_set_ne true hjk]at hun;exact hun
   refine wpOp_mono (λa' w' h3=>⟨h3.2.1,ih (listed.setIfInBounds j true) a' w' (f.add hok hj) g (ready_mono hr (Ne.symm hji)) h3.1 ?_⟩) h2;rw[FC _ _ hji];exact h3.2.2
def Bb(S:Nat->Prop)(P:Program)(ops:Array Oper)(Q:Exit->Act->World->Prop):Fp->World->Act->World->Prop
 | .fin,_,a,w=>Q .normal a w
 | .flo l r,b,a,w=>wpQuiet P ops (λw'=>∃y:Yt S b,w'=y.W) (λa'=>Bb S P ops Q r b a' w) (Ai ops l) a
 | .pur l r,b,a,w=>wpQuiet P ops (λ_=>True) (λa'=>Bb S P ops Q r b a' w) (Ai ops l) a
 | .ext i r,b,a,w=>wpList P ops (Exit.then (λa' w'=>Upd S w w'/\Bb S P ops Q r b a' w') Q) (Ai ops [i]) a w
 | .one i r,_,a,w=>wpList P ops (Exit.then (λa' w'=>Bb S P ops Q r w' a' w') Q) (Ai ops [i]) a w
 | .both i j r q,b,a,w=>wpList P ops (Exit.then (λa' w'=>Upd S w w'/\Bb S P ops Q r b a' w') Q) (Ai ops [i]) a w/\wpList P ops (Exit.then (λa' w'=>Upd S w w'/\Bb S P ops Q q b a' w') Q) (Ai ops [j]) a w
def Wn{o:Oper}{a:Act}{K:Act->Prop}(ho:Lm o.op=true)(h:o.quiet P a (λw'=>∃y:Yt S w,w'=y.W) K) :
  ∃v,(∀u,Upd S w u->(execOp a.eval o).run P u=.ok (.value v) u)/\K (a.put o.dst v):=by
 obtain⟨v,h1,h2⟩:=h;refine⟨v,λu hu=>?_,h2⟩;have h3:=h1 u ⟨⟨u,hu⟩,rfl⟩;unfold Oper.quietAt at h3;cases hr:(execOp a.eval o).run P u with
 | ok n u' =>
  rw[hr]at h3;obtain⟨x,rfl⟩:=Qm ho hr;obtain⟨e1,e2⟩:=h3;rw[e1,e2]
 | halt x u'=>rw[hr]at h3;exact h3.elim
def rM(hok:Fv ops bs=true)(hsel:Region.noSelect ops=true)(hQ:∀c a d v w,Q (.panic c) (a.put d v) w->Q (.panic c) a w)(es:List Nat) :
  ∀(p:Fp) (b:World) (listed:Array Bool) (a:Act) (w:World) (fuel:Nat),Upd S b w->Bv p<=fuel->Ka ops bs listed->Ey ops bs es p listed=true->Bb S P ops Q p b a w ->
   Wa S P ops Q (inX ops es) fuel listed a w:=by
 intro p;induction p with
 | fin =>
  intro b listed a w fuel _ _ _ hB h;exact nE (by simpa [Ey] using hB) h fuel
 | flo l r ih =>
  induction l with
  | nil =>
   intro b listed a w fuel hx hf hc hB h;refine ih b listed a w fuel hx (by simpa [Bv] using hf) hc (by simpa [Ey,Xd,Fx] using hB) ?_;simpa [Bb,Ai,wpQuiet] using h
  | cons i l ihl =>
   intro b listed a w fuel hx hf hc hB h;simp only[Ey,Xd,Fx,Bool.and_eq_true]at hB;obtain⟨⟨hi,hl⟩,hr⟩:=hB;cases ho:ops[i]? with
   | none=>simp[rQ,ho]at hi
   | some oi =>
    simp only[rQ,ho,Bool.and_eq_true]at hi;obtain⟨⟨x,C⟩,z⟩:=hi;have m:i∈Region.ready .any ops listed:=by simpa using C
    obtain⟨fuel,rfl⟩:∃f,fuel=f+1:=⟨fuel-1,by simp[Bv]at hf;omega⟩;have n:∀j oj,ops[j]?=some oj->j≠i->listed.getD j true=false->Fr ops bs i j=false->oi.apart ops oj=true/\inX ops es j=true:=by
     intro j oj hj A D B;have:=EO.1 z j (DW.2 (BP.1 hj).1);simpa [A,D,B,hj] using this
    have hp:Ai ops (i::l)=oi::Ai ops l:=by simp[Ai,ho]
    simp only[Bb,hp]at h;unfold wpQuiet at h;have go:∀v,YieldsIf P ops (Upd S w) oi v a->wpQuiet P ops (λw'=>∃y:Yt S b,w'=y.W) (λa'=>Bb S P ops Q r b a' w) (Ai ops l) (a.put oi.dst v)->Wa S P ops Q (inX ops es) (fuel+1) listed a w:=by
     intro v hy hk;refine iH hok ho (Region.noSelect_spec hsel) hQ fuel listed a w hc n m hy ?_;refine ihl b (listed.setIfInBounds i true) (a.put oi.dst v) w fuel hx (by simp[Bv]at hf ⊢;omega) (hc.add hok m) ?_ ?_
     ·simp only[Ey,Bool.and_eq_true];exact⟨hl,hr⟩
     ·simpa only[Bb] using hk
    split at h
    ·rename_i hw;have⟨v,hv,hk⟩:=Wn x h;exact go v (.inl ⟨hw,λu hu=>hv u (hx.trans hu)⟩) hk
    ·rename_i hw;exact go undef (.inr ⟨by simpa using hw,rfl⟩) h
 | pur l r ih =>
  induction l with
  | nil =>
   intro b listed a w fuel hx hf hc hB h;refine ih b listed a w fuel hx (by simpa [Bv] using hf) hc (by simpa [Ey,Wy,Fx] using hB) ?_;simpa [Bb,Ai,wpQuiet] using h
  | cons i l ihl =>
   intro b listed a w fuel hx hf hc hB h;simp only[Ey,Wy,Fx,Bool.and_eq_true]at hB;obtain⟨⟨hi,hl⟩,hr⟩:=hB;cases ho:ops[i]? with
   | none=>simp[rO,ho]at hi
   | some oi =>
    simp only[rO,ho,Bool.and_eq_true]at hi;obtain⟨⟨x,C⟩,z⟩:=hi;have m:i∈Region.ready .any ops listed:=by simpa using C
    obtain⟨fuel,rfl⟩:∃f,fuel=f+1:=⟨fuel-1,by simp[Bv]at hf;omega⟩;have n:∀j oj,ops[j]?=some oj->j≠i->listed.getD j true=false->Fr ops bs i j=false->oi.apart ops oj=true:=by
     intro j oj hj A D B;have:=EO.1 z j (DW.2 (BP.1 hj).1);simpa [A,D,B,hj] using this
    have hp:Ai ops (i::l)=oi::Ai ops l:=by simp[Ai,ho]
    simp only[Bb,hp]at h;unfold wpQuiet at h;have go:∀v,YieldsIf P ops (λ_=>True) oi v a->wpQuiet P ops (λ_=>True) (λa'=>Bb S P ops Q r b a' w) (Ai ops l) (a.put oi.dst v)->Wa S P ops Q (inX ops es) (fuel+1) listed a w:=by
     intro v hy hk;refine Rz hok ho (Region.noSelect_spec hsel) hQ fuel listed a w hc n m hy ?_;refine ihl b (listed.setIfInBounds i true) (a.put oi.dst v) w fuel hx (by simp[Bv]at hf ⊢;omega) (hc.add hok m) ?_ ?_
     ·simp only[Ey,Bool.and_eq_true];exact⟨hl,hr⟩
     ·simpa only[Bb] using hk
    split at h
    ·rename_i hw;have⟨v,hv,hk⟩:=Jx x h;exact go v (.inl ⟨hw,λu _=>hv u⟩) hk
    ·rename_i hw;exact go undef (.inr ⟨by simpa using hw,rfl⟩) h
 | ext i r ih =>
  intro b listed a w fuel hx hf hc hB h;simp only[Ey,Bool.and_eq_true]at hB;obtain⟨hr,t⟩:=hB;have e:Region.ready .any ops listed=[i]:=by simpa using hr
  have g:i∈Region.ready .any ops listed:=by rw[e];simp
  have⟨_,o,ho,_⟩:=mem_ready.1 g;obtain⟨fuel,rfl⟩:∃f,fuel=f+1:=⟨fuel-1,by simp[Bv]at hf;omega⟩;refine⟨λh0=>(by rw[e]at h0;cases h0),λj hj=>?_⟩;rw[e]at hj;obtain rfl:j=i:=by simpa using hj
  exact wpOp_mono (λa' w' hh=>⟨λ_=>hh.1,ih b _ a' w' fuel (hx.trans hh.1) (by simp[Bv]at hf ⊢;omega) (hc.add hok g) t hh.2⟩) (Hr ho h)
 | one i r ih =>
  intro b listed a w fuel hx hf hc hB h;simp only[Ey,Bool.and_eq_true]at hB;obtain⟨⟨hr,hk⟩,t⟩:=hB;have e:Region.ready .any ops listed=[i]:=by simpa using hr
  have g:i∈Region.ready .any ops listed:=by rw[e];simp
  have⟨_,o,ho,_⟩:=mem_ready.1 g;obtain⟨fuel,rfl⟩:∃f,fuel=f+1:=⟨fuel-1,by simp[Bv]at hf;omega⟩;refine⟨λh0=>(by rw[e]at h0;cases h0),λj hj=>?_⟩;rw[e]at hj;obtain rfl:j=i:=by simpa using hj
  have E:inX ops es j=false:=by simpa using hk
  exact wpOp_mono (λa' w' hh=>⟨λhX=>(by rw[E]at hX;cases hX),ih w' _ a' w' fuel (Upd.refl S w') (by simp[Bv]at hf ⊢;omega) (hc.add hok g) t hh⟩) (Hr ho h)
 | both i j r q ihr ihq =>
  intro b listed a w fuel hx hf hc hB h;simp only[Ey,Bool.and_eq_true]at hB;obtain⟨⟨hr,t⟩,F⟩:=hB;have e:Region.ready .any ops listed=[i,j]:=by simpa using hr
  obtain⟨fuel,rfl⟩:∃f,fuel=f+1:=⟨fuel-1,by simp[Bv]at hf;omega⟩;have mi:i∈Region.ready .any ops listed:=by rw[e];simp
  have mj:j∈Region.ready .any ops listed:=by rw[e];simp
  refine⟨λh0=>(by rw[e]at h0;cases h0),λk hk=>?_⟩;rw[e]at hk;rcases AY.1 hk with rfl|hk
  ·have⟨_,o,ho,_⟩:=mem_ready.1 mi;exact wpOp_mono (λa' w' hh=>⟨λ_=>hh.1,ihr b _ a' w' fuel (hx.trans hh.1) (by simp[Bv]at hf ⊢;omega) (hc.add hok mi) t hh.2⟩) (Hr ho h.1)
  ·obtain rfl:k=j:=by simpa using hk
   have⟨_,o,ho,_⟩:=mem_ready.1 mj;exact wpOp_mono (λa' w' hh=>⟨λ_=>hh.1,ihq b _ a' w' fuel (hx.trans hh.1) (by simp[Bv]at hf ⊢;omega) (hc.add hok mj) F hh.2⟩) (Hr ho h.2)
def Vm{id:Nat}{a:Act}{l:List Oper}(bs:List Nat)(p:Fp)(hm:P.follows .mixedOrders=true)
  (hB:(Fv l.toArray bs.toArray&&Region.noSelect l.toArray&&Ey l.toArray bs.toArray (Jz p) p (Array.replicate l.toArray.size false)&&decide (Bv p<=l.toArray.size))=true)
  (hQ:∀c a d v w,Q (.panic c) (a.put d v) w->Q (.panic c) a w)
  (h:Bb S P l.toArray Q p w.drew a w.drew):(Code.region id l.toArray true).wp P Q a w:=by
 simp only[Bool.and_eq_true,decide_eq_true_eq]at hB;obtain⟨⟨⟨h1,h2⟩,h3⟩,h4⟩:=hB;refine wp_region_any hm (Qy _ _ _ _ (rM h1 h2 hQ _ p w.drew _ a w.drew _ (Upd.refl S _) h4 ?_ h3 h));intro j hj;exfalso;rcases DO j l.toArray.size with h'|h'
 ·simp[Array.getD]at hj
 ·simp[Array.getD]at hj
def oqU{r:Fp}{a:Act}{b:World}{X:World->Prop}(h:Bb S P ops Q r b a w):wpQuiet P ops X (λa'=>Bb S P ops Q r b a' w) [] a:=wpQuiet_nil h
def rN{id:Nat}{a:Act}{l:List Oper}(bs:List Nat)(p:Fp)(h:Bb S P l.toArray Q p w.drew a w.drew)
 (hm:P.follows .mixedOrders=true:=by kernel_rfl)
 (hB:(Fv l.toArray bs.toArray && Region.noSelect l.toArray && Ey l.toArray bs.toArray (Jz p) p (Array.replicate l.toArray.size false) && decide (Bv p<=l.toArray.size))=true:=by kernel_rfl)
 (hQ:∀c a d v w,Q (.panic c) (a.put d v) w->Q (.panic c) a w:=by intro _ _ d _ _ h;cases d<;>exact h):(Code.region id l.toArray true).wp P Q a w:=Vm bs p hm hB hQ h
def Dh(S:Nat->Prop)(P:Program)(ops:Array Oper)(Q:Exit->Act->World->Prop)(r:Fp)(b w:World)(a':Act)(w':World):Prop:=Upd S w w'/\Bb S P ops Q r b a' w'
def Dh.mk{r:Fp}{b:World}{a:Act}(x:Upd S w w')(h:Bb S P ops Q r b a w'):Dh S P ops Q r b w a w':=⟨x,h⟩
def Dg{l:List Nat}{r:Fp}{a:Act}{b:World}{ol:List Oper}(hp:Ai ops l=ol)
  (h:wpQuiet P ops (λw'=>∃y:Yt S b,w'=y.W) (λa'=>Bb S P ops Q r b a' w) ol a):Bb S P ops Q (.flo l r) b a w:=by
 subst hp;exact h
def Fa{r:Fp}{a:Act}{b:World}{o:Oper}(hp:Ai ops [i]=[o])
  (h:∀K:Act->World->Prop,(∀a' w',Dh S P ops Q r b w a' w'->K a' w')->wpList P ops (Exit.then K Q) [o] a w):Bb S P ops Q (.ext i r) b a w:=by
 show wpList P ops _ (Ai ops [i]) a w;rw[hp];exact h _ λ_ _ h=>h
def dC{r:Fp}{a:Act}{b:World}{o:Oper}(hp:Ai ops [i]=[o])
  (h:∀K:Act->World->Prop,(∀a' w',Bb S P ops Q r w' a' w'->K a' w')->wpList P ops (Exit.then K Q) [o] a w):Bb S P ops Q (.one i r) b a w:=by
 show wpList P ops _ (Ai ops [i]) a w;rw[hp];exact h _ λ_ _ h=>h
def Md{a:Act}{b:World}(h:Q .normal a w):Bb S P ops Q .fin b a w:=h
end
def Cd(s:SV)(l:List UV)(X:List TV):Int×SV :=
 if Bg X=false then (110,s) else if l.any Cb=true then (110,s) else if l.any (Br s.U X)=true then (111,s) else if Gq s.U X=false then (110,s)
 else (0,{ s with bs:=if UdS.sumV l=[] then s.bs else s.bs++[UdS.sumV l],U:=ofV X })
section
variable{w w1 w3:World}{R:Nat->Prop}{gs:Nat}{m:SpM}
def dO{l:List Bt}(h:i<l.length)(b:Bt):Ci (l++[b]) i=Ci l i:=by
 unfold Ci;rw[AB,AB,BS h]
abbrev Ft(m:SpM)(k:Nat):Prop:=blk m.A m.c=some k
def SpR.own_(h:SpR w R gs m){k:Nat}(hk:Ft m k):Lh w k:=.inr (.inl (h.b.ow.ty hk))
def SpR.not_gs(h:SpR w R gs m):¬Ft m gs:=λe=>absurd ((h.b.ow.ty e).ne h.bk.ty) (by decide)
def SpR.put_b(h:SpR w R gs m)(x:Ext w w1){b:Bt}(hb:Bk w1 b.g 197 #[.slice b.A b.l.length b.c])(hbg:w.heap.size<=b.g)(u:Bu w1 w.heap.size b.A b.c b.l){A3:Option Addr}{c3:Nat}
  (o3:Own w3 0 195 1 A3 (m.bs.length+1) c3 (m.bs.map Bt.p++[b.p])) (g3:w1.grownBy w3 (blk m.A m.c)) (x3:(A3=m.A/\c3=m.c)\/(blk A3 c3=some w1.heap.size/\Ext w1 w3)) :
  SpR (w3.setCell ⟨gs,0,none⟩ (.slice A3 (m.bs.length+1) c3)) (Rg R w (w3.setCell ⟨gs,0,none⟩ (.slice A3 (m.bs.length+1) c3))) gs { m with A:=A3,c:=c3,bs:=m.bs++[b] }/\Upd R w (w3.setCell ⟨gs,0,none⟩ (.slice A3 (m.bs.length+1) c3)):=by
 have hz:(w3.setCell ⟨gs,0,none⟩ (.slice A3 (m.bs.length+1) c3)).heap.size=w3.heap.size:=by simp
 have hx:=x.size;have h1:=h.ext x;have u3:Upd (Ft m) w1 w3:=(Upd.refl _ w1).grown g3 (λk hk=>.inl hk);have hS:∀k,k<w1.heap.size->Ft m k->Lh w1 k:=λk _ hk=>h1.own_ hk;have hR:∀k,R k->Rg R w (w3.setCell ⟨gs,0,none⟩ (.slice A3 (m.bs.length+1) c3)) k:=λk hk=>.inl hk;have f:∀k,blk A3 c3=some k->blk m.A m.c=some k\/(w.heap.size<=k/\k<w3.heap.size):=λk hk=>by
  rcases x3 with ⟨rfl,rfl⟩|⟨h2,_⟩
  ·exact .inl hk
  ·have h3:=(o3.lt k hk).2;rw[h2]at hk;injection hk with hk;exact .inr ⟨by omega,h3⟩
 have d:Bk w3 gs 192 (Ov m):=h1.bk.upd u3 h1.not_gs;have b3:BtR w1 (Rg R w (w3.setCell ⟨gs,0,none⟩ (.slice A3 (m.bs.length+1) c3))) b:=⟨hb,.inr ⟨hbg,by rw[hz];exact AZ hb.lt u3.size⟩,u.mono (AG _),λk hk=>.inr ⟨(u.lt hk).1,by rw[hz];exact AZ (u.lt hk).2 u3.size⟩⟩;have a:(m.bs++[b]).length=m.bs.length+1:=by simp
 have j:SpB w3 (Rg R w (w3.setCell ⟨gs,0,none⟩ (.slice A3 (m.bs.length+1) c3))) { m with A:=A3,c:=c3,bs:=m.bs++[b] }:=by
  refine⟨?_,λk hk=>?_,λy hy=>?_,?_,λp hp=>?_,(h1.b.sn.safe u3 hS).wide λk _ hk=>hR k hk,(h1.b.up.safe u3 hS).wide λk _ hk=>hR k hk⟩
  ·show Own w3 0 _ 1 A3 (m.bs++[b]).length c3 ((m.bs++[b]).map Bt.p);rw[a,AI];exact o3
  ·rcases f k hk with q|q
   ·exact hR k (h.b.ro k q)
   ·exact .inr ⟨q.1,by rw[hz];exact q.2⟩
  ·rcases AQ.1 hy with hy|hy
   ·exact((h1.b.bt y hy).safe u3 hS).wide λk _ hk=>hR k hk
   ·rw[AE.1 hy];exact b3.safe u3 hS
  ·show((m.bs++[b]).map Bt.g).Nodup;rw[AI,EY];refine⟨h.b.nd,by simp,λp hp q hq e=>?_⟩;obtain⟨y,hy,rfl⟩:=AP.1 hp;have:=(h.b.bt y hy).bk.lt;simp at hq;omega
  ·have hu:=h1.b.un p hp;have hg:¬Ft m p.g:=λe=>absurd ((h1.b.ow.ty e).ne hu.bk.ty) (by decide);refine⟨?_,hR _ hu.rg,by rw[a];have:=hu.lt;omega⟩;show Bk w3 p.g _ #[(Ci (m.bs++[b]) p.i).p,(Ci (m.bs++[b]) (p.i+1)).p,.int .i64 p.left];rw[dO (by have:=hu.lt;omega),dO hu.lt];exact hu.bk.upd u3 hg
 have hd:=d.set 0 (.slice A3 (m.bs.length+1) c3);refine⟨⟨?_,.inl h.rg,j.head d 0 _⟩,(((Upd.ext x).trans (u3.mono λk _ hk=>h.b.ro k hk))).setCell (.inl h.rg) _⟩;show Bk _ gs _ #[.slice A3 (m.bs++[b]).length c3,unV m.un,.slice m.sA m.S.length m.sc,.slice m.uA m.U.length m.uc];rw[a];exact hd
end
def sU{s:SV}{l:List UV}{X:List TV}(h1:Bg X=false):Cd s l X=(110,s):=by unfold Cd;rw[if_pos h1]
def sT{s:SV}{l:List UV}{X:List TV}(h1:Bg X=true)(h2:l.any Cb=true):Cd s l X=(110,s):=by unfold Cd;rw[h1,if_neg (by decide),if_pos h2]
def sS{s:SV}{l:List UV}{X:List TV}(h1:Bg X=true)(h2:l.any Cb=false)(h3:l.any (Br s.U X)=true):Cd s l X=(111,s):=by unfold Cd;rw[h1,h2,if_neg (by decide),if_neg (by decide),if_pos h3]
def sR{s:SV}{l:List UV}{X:List TV}(h1:Bg X=true)(h2:l.any Cb=false)(h3:l.any (Br s.U X)=false)(h4:Gq s.U X=false):Cd s l X=(110,s):=by unfold Cd;rw[h1,h2,h3,if_neg (by decide),if_neg (by decide),if_neg (by decide),if_pos h4]
def iD{s:SV}{l:List UV}{X:List TV}(h1:Bg X=true)(h2:l.any Cb=false)(h3:l.any (Br s.U X)=false)(h4:Gq s.U X=true):Cd s l X=(0,{ s with bs:=if UdS.sumV l=[] then s.bs else s.bs++[UdS.sumV l],U:=ofV X }):=by
 unfold Cd;rw[h1,h2,h3,h4,if_neg (by decide),if_neg (by decide),if_neg (by decide),if_neg (by decide)]
def Kn{L:List Ud}(p:UV->Bool):(L.any λx=>p x.uv)=(L.map Ud.uv).any p:=by rw[List.any_map];rfl
def Zy:Gr prog 189 195 1 8 (.pointer none):=⟨by kernel_rfl,by kernel_rfl,rfl,by decide⟩
def Df.two{m2:SpM}{q:Int×SV}{e:Ending}(u1:Upd R w w1)(s2:SpR w2 (Rg (Rg R w w1) w1 w2) gs m2)(u2:Upd (Rg R w w1) w1 w2)(he:e=.returned (.int .u16 q.1))(hv:m2.v=q.2):Df w R gs q e w2 :=
 ⟨m2,he,s2.wide λk _ hk=>Rg.step u1.size u2.size k hk,hv,sB u1 u2⟩
def yQ{q:Int×SV}(gs:Nat)(m:SpM)(R:Nat->Prop)(AL:Option Addr)(cL n:Nat)(L:List Ud)(AX:Option Addr)(cX nX:Nat)(X:List Tm)(w:World)(hq:H0 (Cd m.v (L.map Ud.uv) (X.map Tm.v)=q))(HM:H0 (SpR w R gs m))(hn:H0 (n=L.length))(hL:H0 (Uin w AL cL L))(h9:n<=1000000)(hin:H0 (∀x∈L,InU x))(hnX:H0 (nX=X.length))(hX:H0 (∀W,Upd R w W->Tin W AX cX X))(hf:H0 (Oq X))(hb9:m.bs.length<=1000000)(G:H0 (Good w))(HB1:H0 (Bg (X.map Tm.v)=false)) :
  C3 44 #[.pointer (some ⟨gs,0,none⟩),.slice AL n cL,.slice AX nX cX] w (Df w R gs q):=by
 rw[<-hq.o,sU HB1.o];clear hq;have⟨w2,a⟩:=E9 ((w.alloc (.cells #[.pointer (some ⟨gs,0,none⟩)] 76)).alloc (.cells #[.slice AX nX cX] 27));have⟨g1,g⟩:=E9 w.heap.size;have⟨g2,h⟩:=E9 (w.heap.size+1);have X2:H0 (Ext w w2):=j6 (by rw[a];exact((Ext.refl _).alloc _).alloc _);have B1:H0 (Bk w2 g1 76 #[.pointer (some ⟨gs,0,none⟩)]):=j6 (by rw[a,g];exact(Bk.new _ _ _).alloc _);have B2:H0 (Bk w2 g2 27 #[.slice AX nX cX]):=j6 (by rw[a,h];exact Bk.at (by simp));have d:H0 (∀W,Ext w W->Tin W AX cX X):=j6 (λW x=>hX.o W (Upd.ext x));have⟨nU,c⟩:=E9 m.U.length;have e:=j6 c;have HC:H0 (∀W,Ext w W->W.cell? ⟨gs,3,none⟩=some (.slice m.uA nU m.uc)):=j6 (λW x=>by have:=(HM.o.bk.ext x).cell 3;rw[c];exact this);have f:H0 (Tin w m.uA m.uc m.U):=j6 HM.o.b.up.t.tin;have P1:H0 (Lq 153 #[] (λx=>Cb x.uv) L w):=j6 (λW x hx y=>It x W (j6 ((hL.o.ls x hx).ext y)) (j6 (hin.o x hx)) (G.o.ext y));have P2:H0 (Lp 155 #[.pointer (some ⟨g1,0,none⟩),.pointer (some ⟨g2,0,none⟩)] (λx=>Br (m.U.map Tm.v) (X.map Tm.v) x.uv) L w2):=j6 (λW x hx y=>Hf x g1 g2 gs m.uA nU m.uc m.U AX nX cX X W (j6 ((hL.o.ls x hx).ext (X2.o.trans y))) (j6 (B1.o.ext y)) (j6 (B2.o.ext y)) (j6 (HC.o W (X2.o.trans y))) e (j6 (f.o.ext (X2.o.trans y))) hnX (j6 (d.o W (X2.o.trans y))));clear c;have i:∀y:Xt w2,y.W.cell? ⟨g2,0,none⟩=some (.slice AX nX cX):=λy=>(B2.o.ext y.x).cell 0;have m1:=TI;go_enter func44,ntmps44;go_wp2_with (first
  | (go_at_call 156;clear m1;refine(Gc AX cX nX X _ HB1 hnX (j6 (d.o _ (by rw[<-a];exact X2.o)))).mono ?_;rintro r w3 ⟨rfl,x3⟩;have X3:H0 (Ext w2 w3):=j6 (by rw[a];exact x3);clear x3;have m2:=TI)
  | fail)
 go_ret;exact Df.stay HM.o (X2.o.trans X3.o) rfl
def yP{q:Int×SV}(gs:Nat)(m:SpM)(R:Nat->Prop)(AL:Option Addr)(cL n:Nat)(L:List Ud)(AX:Option Addr)(cX nX:Nat)(X:List Tm)(w:World)(hq:H0 (Cd m.v (L.map Ud.uv) (X.map Tm.v)=q))(HM:H0 (SpR w R gs m))(hn:H0 (n=L.length))(hL:H0 (Uin w AL cL L))(h9:n<=1000000)(hin:H0 (∀x∈L,InU x))(hnX:H0 (nX=X.length))(hX:H0 (∀W,Upd R w W->Tin W AX cX X))(hf:H0 (Oq X))(hb9:m.bs.length<=1000000)(G:H0 (Good w))(HB1:H0 (Bg (X.map Tm.v)=true))(HB2:H0 ((L.any λx=>Cb x.uv)=true)) :
  C3 44 #[.pointer (some ⟨gs,0,none⟩),.slice AL n cL,.slice AX nX cX] w (Df w R gs q):=by
 rw[<-hq.o,sT HB1.o (by rw[<-Kn];exact HB2.o)];clear hq;have⟨w2,a⟩:=E9 ((w.alloc (.cells #[.pointer (some ⟨gs,0,none⟩)] 76)).alloc (.cells #[.slice AX nX cX] 27));have⟨g1,g⟩:=E9 w.heap.size;have⟨g2,h⟩:=E9 (w.heap.size+1);have X2:H0 (Ext w w2):=j6 (by rw[a];exact((Ext.refl _).alloc _).alloc _);have B1:H0 (Bk w2 g1 76 #[.pointer (some ⟨gs,0,none⟩)]):=j6 (by rw[a,g];exact(Bk.new _ _ _).alloc _);have B2:H0 (Bk w2 g2 27 #[.slice AX nX cX]):=j6 (by rw[a,h];exact Bk.at (by simp));have d:H0 (∀W,Ext w W->Tin W AX cX X):=j6 (λW x=>hX.o W (Upd.ext x));have⟨nU,c⟩:=E9 m.U.length;have e:=j6 c;have HC:H0 (∀W,Ext w W->W.cell? ⟨gs,3,none⟩=some (.slice m.uA nU m.uc)):=j6 (λW x=>by have:=(HM.o.bk.ext x).cell 3;rw[c];exact this);have f:H0 (Tin w m.uA m.uc m.U):=j6 HM.o.b.up.t.tin;have P1:H0 (Lq 153 #[] (λx=>Cb x.uv) L w):=j6 (λW x hx y=>It x W (j6 ((hL.o.ls x hx).ext y)) (j6 (hin.o x hx)) (G.o.ext y));have P2:H0 (Lp 155 #[.pointer (some ⟨g1,0,none⟩),.pointer (some ⟨g2,0,none⟩)] (λx=>Br (m.U.map Tm.v) (X.map Tm.v) x.uv) L w2):=j6 (λW x hx y=>Hf x g1 g2 gs m.uA nU m.uc m.U AX nX cX X W (j6 ((hL.o.ls x hx).ext (X2.o.trans y))) (j6 (B1.o.ext y)) (j6 (B2.o.ext y)) (j6 (HC.o W (X2.o.trans y))) e (j6 (f.o.ext (X2.o.trans y))) hnX (j6 (d.o W (X2.o.trans y))));clear c;have i:∀y:Xt w2,y.W.cell? ⟨g2,0,none⟩=some (.slice AX nX cX):=λy=>(B2.o.ext y.x).cell 0;have m1:=TI;go_enter func44,ntmps44;go_wp2_with (first
  | (go_at_call 156;clear m1;refine(Gc AX cX nX X _ HB1 hnX (j6 (d.o _ (by rw[<-a];exact X2.o)))).mono ?_;rintro r w3 ⟨rfl,x3⟩;have X3:H0 (Ext w2 w3):=j6 (by rw[a];exact x3);clear x3;have m2:=TI)
  | (go_at_call 157;clear m2;refine(Fd _ 153 Gg AL cL n L _ hn (j6 (hL.o.ext (X2.o.trans X3.o))) (j6 (λW x hx y=>P1.o W x hx ((X2.o.trans X3.o).trans y)))).mono ?_;rw[HB2.o];rintro r w4 ⟨rfl,x4⟩;have X4:H0 (Ext w2 w4):=j6 (X3.o.trans x4);clear x4;have m3:=TI)
  | fail)
 go_ret;exact Df.stay HM.o (X2.o.trans X4.o) rfl
def yO{q:Int×SV}(gs:Nat)(m:SpM)(R:Nat->Prop)(AL:Option Addr)(cL n:Nat)(L:List Ud)(AX:Option Addr)(cX nX:Nat)(X:List Tm)(w:World)(hq:H0 (Cd m.v (L.map Ud.uv) (X.map Tm.v)=q))(HM:H0 (SpR w R gs m))(hn:H0 (n=L.length))(hL:H0 (Uin w AL cL L))(h9:n<=1000000)(hin:H0 (∀x∈L,InU x))(hnX:H0 (nX=X.length))(hX:H0 (∀W,Upd R w W->Tin W AX cX X))(hf:H0 (Oq X))(hb9:m.bs.length<=1000000)(G:H0 (Good w))(HB1:H0 (Bg (X.map Tm.v)=true))(HB2:H0 ((L.any λx=>Cb x.uv)=false))(HB3:H0 ((L.any λx=>Br (m.U.map Tm.v) (X.map Tm.v) x.uv)=true)) :
  C3 44 #[.pointer (some ⟨gs,0,none⟩),.slice AL n cL,.slice AX nX cX] w (Df w R gs q):=by
 rw[<-hq.o,sS HB1.o (by rw[<-Kn];exact HB2.o) (by rw[<-Kn];exact HB3.o)];clear hq;have⟨w2,a⟩:=E9 ((w.alloc (.cells #[.pointer (some ⟨gs,0,none⟩)] 76)).alloc (.cells #[.slice AX nX cX] 27));have⟨g1,e⟩:=E9 w.heap.size;have⟨g2,f⟩:=E9 (w.heap.size+1);have X2:H0 (Ext w w2):=j6 (by rw[a];exact((Ext.refl _).alloc _).alloc _);have B1:H0 (Bk w2 g1 76 #[.pointer (some ⟨gs,0,none⟩)]):=j6 (by rw[a,e];exact(Bk.new _ _ _).alloc _);have B2:H0 (Bk w2 g2 27 #[.slice AX nX cX]):=j6 (by rw[a,f];exact Bk.at (by simp));have d:H0 (∀W,Ext w W->Tin W AX cX X):=j6 (λW x=>hX.o W (Upd.ext x));have⟨nU,c⟩:=E9 m.U.length;have g:=j6 c;have HC:H0 (∀W,Ext w W->W.cell? ⟨gs,3,none⟩=some (.slice m.uA nU m.uc)):=j6 (λW x=>by have:=(HM.o.bk.ext x).cell 3;rw[c];exact this);have h:H0 (Tin w m.uA m.uc m.U):=j6 HM.o.b.up.t.tin;have P1:H0 (Lq 153 #[] (λx=>Cb x.uv) L w):=j6 (λW x hx y=>It x W (j6 ((hL.o.ls x hx).ext y)) (j6 (hin.o x hx)) (G.o.ext y));have P2:H0 (Lp 155 #[.pointer (some ⟨g1,0,none⟩),.pointer (some ⟨g2,0,none⟩)] (λx=>Br (m.U.map Tm.v) (X.map Tm.v) x.uv) L w2):=j6 (λW x hx y=>Hf x g1 g2 gs m.uA nU m.uc m.U AX nX cX X W (j6 ((hL.o.ls x hx).ext (X2.o.trans y))) (j6 (B1.o.ext y)) (j6 (B2.o.ext y)) (j6 (HC.o W (X2.o.trans y))) g (j6 (h.o.ext (X2.o.trans y))) hnX (j6 (d.o W (X2.o.trans y))));clear c;have i:∀y:Xt w2,y.W.cell? ⟨g2,0,none⟩=some (.slice AX nX cX):=λy=>(B2.o.ext y.x).cell 0;have m1:=TI;go_enter func44,ntmps44;go_wp2_with (first
  | (go_at_call 156;clear m1;refine(Gc AX cX nX X _ HB1 hnX (j6 (d.o _ (by rw[<-a];exact X2.o)))).mono ?_;rintro r w3 ⟨rfl,x3⟩;have X3:H0 (Ext w2 w3):=j6 (by rw[a];exact x3);clear x3;have m2:=TI)
  | (go_at_call 157;clear m2;refine(Fd _ 153 Gg AL cL n L _ hn (j6 (hL.o.ext (X2.o.trans X3.o))) (j6 (λW x hx y=>P1.o W x hx ((X2.o.trans X3.o).trans y)))).mono ?_;rw[HB2.o];rintro r w4 ⟨rfl,x4⟩;have X4:H0 (Ext w2 w4):=j6 (X3.o.trans x4);clear x4;have m3:=TI)
  | (go_at_call 157;clear m3;refine(Hm _ 155 _ _ Hl AL cL n L _ hn (j6 (hL.o.ext (X2.o.trans X4.o))) (j6 (λW x hx y=>by have:=P2.o W x hx (X4.o.trans y);rw[e,f]at this;exact this))).mono ?_;rw[HB3.o];rintro r w5 ⟨rfl,x5⟩;have X5:H0 (Ext w2 w5):=j6 (X4.o.trans x5);clear x5;have m4:=TI)
  | fail)
 go_ret;exact Df.stay HM.o (X2.o.trans X5.o) rfl
def yN{q:Int×SV}(gs:Nat)(m:SpM)(R:Nat->Prop)(AL:Option Addr)(cL n:Nat)(L:List Ud)(AX:Option Addr)(cX nX:Nat)(X:List Tm)(w:World)(hq:H0 (Cd m.v (L.map Ud.uv) (X.map Tm.v)=q))(HM:H0 (SpR w R gs m))(hn:H0 (n=L.length))(hL:H0 (Uin w AL cL L))(h9:n<=1000000)(hin:H0 (∀x∈L,InU x))(hnX:H0 (nX=X.length))(hX:H0 (∀W,Upd R w W->Tin W AX cX X))(hf:H0 (Oq X))(hb9:m.bs.length<=1000000)(G:H0 (Good w))(HB1:H0 (Bg (X.map Tm.v)=true))(HB2:H0 ((L.any λx=>Cb x.uv)=false))(HB3:H0 ((L.any λx=>Br (m.U.map Tm.v) (X.map Tm.v) x.uv)=false))(HB4:H0 (Gq (m.U.map Tm.v) (X.map Tm.v)=false)) :
  C3 44 #[.pointer (some ⟨gs,0,none⟩),.slice AL n cL,.slice AX nX cX] w (Df w R gs q):=by
 rw[<-hq.o,sR HB1.o (by rw[<-Kn];exact HB2.o) (by rw[<-Kn];exact HB3.o) HB4.o];clear hq;have⟨w2,a⟩:=E9 ((w.alloc (.cells #[.pointer (some ⟨gs,0,none⟩)] 76)).alloc (.cells #[.slice AX nX cX] 27));have⟨g1,c⟩:=E9 w.heap.size;have⟨g2,d⟩:=E9 (w.heap.size+1);have X2:H0 (Ext w w2):=j6 (by rw[a];exact((Ext.refl _).alloc _).alloc _);have B1:H0 (Bk w2 g1 76 #[.pointer (some ⟨gs,0,none⟩)]):=j6 (by rw[a,c];exact(Bk.new _ _ _).alloc _);have B2:H0 (Bk w2 g2 27 #[.slice AX nX cX]):=j6 (by rw[a,d];exact Bk.at (by simp));have e:H0 (∀W,Ext w W->Tin W AX cX X):=j6 (λW x=>hX.o W (Upd.ext x));have⟨nU,f⟩:=E9 m.U.length;have g:=j6 f;have HC:H0 (∀W,Ext w W->W.cell? ⟨gs,3,none⟩=some (.slice m.uA nU m.uc)):=j6 (λW x=>by have:=(HM.o.bk.ext x).cell 3;rw[f];exact this);have h:H0 (Tin w m.uA m.uc m.U):=j6 HM.o.b.up.t.tin;have P1:H0 (Lq 153 #[] (λx=>Cb x.uv) L w):=j6 (λW x hx y=>It x W (j6 ((hL.o.ls x hx).ext y)) (j6 (hin.o x hx)) (G.o.ext y));have P2:H0 (Lp 155 #[.pointer (some ⟨g1,0,none⟩),.pointer (some ⟨g2,0,none⟩)] (λx=>Br (m.U.map Tm.v) (X.map Tm.v) x.uv) L w2):=j6 (λW x hx y=>Hf x g1 g2 gs m.uA nU m.uc m.U AX nX cX X W (j6 ((hL.o.ls x hx).ext (X2.o.trans y))) (j6 (B1.o.ext y)) (j6 (B2.o.ext y)) (j6 (HC.o W (X2.o.trans y))) g (j6 (h.o.ext (X2.o.trans y))) hnX (j6 (e.o W (X2.o.trans y))));clear f;have i:∀y:Xt w2,y.W.cell? ⟨g2,0,none⟩=some (.slice AX nX cX):=λy=>(B2.o.ext y.x).cell 0;have m1:=TI;go_enter func44,ntmps44
 go_upto_region 7 with (first
  | (go_at_call 156;clear m1;refine(Gc AX cX nX X _ HB1 hnX (j6 (e.o _ (by rw[<-a];exact X2.o)))).mono ?_;rintro r w3 ⟨rfl,x3⟩;have X3:H0 (Ext w2 w3):=j6 (by rw[a];exact x3);clear x3;have m2:=TI)
  | (go_at_call 157;clear m2;refine(Fd _ 153 Gg AL cL n L _ hn (j6 (hL.o.ext (X2.o.trans X3.o))) (j6 (λW x hx y=>P1.o W x hx ((X2.o.trans X3.o).trans y)))).mono ?_;rw[HB2.o];rintro r w4 ⟨rfl,x4⟩;have X4:H0 (Ext w2 w4):=j6 (X3.o.trans x4);clear x4;have m3:=TI)
  | (go_at_call 157;clear m3;refine(Hm _ 155 _ _ Hl AL cL n L _ hn (j6 (hL.o.ext (X2.o.trans X4.o))) (j6 (λW x hx y=>by have:=P2.o W x hx (X4.o.trans y);rw[c,d]at this;exact this))).mono ?_;rw[HB3.o];rintro r w5 ⟨rfl,x5⟩;have X5:H0 (Ext w2 w5):=j6 (X4.o.trans x5);clear x5;have m4:=TI)
  | fail)
 rw[<-d,<-c];have j:=j6 c;have l:=j6 d;clear c d a i;have X6:H0 (Ext w2 w5.drew):=j6 X5.o.drew;have XD:Ext w5 w5.drew:=(Ext.refl w5).drew;have Q0:∀y:Xt w5.drew,y.W.cell? ⟨g1,0,none⟩=some (.pointer (some ⟨gs,0,none⟩)):=λy=>(B1.o.ext (X6.o.trans y.x)).cell 0;have Q1:∀y:Xt w5.drew,y.W.cell? ⟨g2,0,none⟩=some (.slice AX nX cX):=λy=>(B2.o.ext (X6.o.trans y.x)).cell 0;have Q2:∀y:Xt w5.drew,y.W.cell? ⟨gs,3,none⟩=some (.slice m.uA nU m.uc):=λy=>HC.o _ ((X2.o.trans X6.o).trans y.x);refine wro [0,1,3,7,0,31,63,127] (.flo [0,1,2,3,4] (.one 5 (.flo [6,7] (.fin)))) ?_
 (refine Aa (pks rfl) ?_;(repeat (go_big_quiet_step (fail)));refine oq ?_)
 refine Ac (pks rfl) ?_;intro K_ z;go_wp2_with (go_at_call 158;refine(Kj m.uA AX m.uc cX nU nX m.U X _ g hnX (j6 (h.o.ext (X2.o.trans X6.o))) (j6 (e.o _ (X2.o.trans X6.o)))).mono ?_;rw[HB4.o];rintro r w7 ⟨rfl,x7⟩;have X7:H0 (Ext w2 w7):=j6 (X6.o.trans x7);clear x7)
 clear Q0 Q1 Q2 XD
 (refine Aa (pks rfl) ?_;(repeat (go_big_quiet_step (fail)));refine oq ?_)
 refine Ad ?_;go_wp2;go_ret;exact Df.stay HM.o (X2.o.trans X7.o) rfl
def yM{q:Int×SV}(gs:Nat)(m:SpM)(R:Nat->Prop)(AL:Option Addr)(cL n:Nat)(L:List Ud)(AX:Option Addr)(cX nX:Nat)(X:List Tm)(w:World)(hq:H0 (Cd m.v (L.map Ud.uv) (X.map Tm.v)=q))(HM:H0 (SpR w R gs m))(hn:H0 (n=L.length))(hL:H0 (Uin w AL cL L))(h9:n<=1000000)(hin:H0 (∀x∈L,InU x))(hnX:H0 (nX=X.length))(hX:H0 (∀W,Upd R w W->Tin W AX cX X))(hf:H0 (Oq X))(hb9:m.bs.length<=1000000)(G:H0 (Good w))(HB1:H0 (Bg (X.map Tm.v)=true))(HB2:H0 ((L.any λx=>Cb x.uv)=false))(HB3:H0 ((L.any λx=>Br (m.U.map Tm.v) (X.map Tm.v) x.uv)=false))(HB4:H0 (Gq (m.U.map Tm.v) (X.map Tm.v)=true))(HB5:H0 (UdS.sumV (L.map Ud.uv)=[])) :
  C3 44 #[.pointer (some ⟨gs,0,none⟩),.slice AL n cL,.slice AX nX cX] w (Df w R gs q):=by
 have HQ:H0 (q=(0,{ m.v with bs:=if UdS.sumV (L.map Ud.uv)=[] then m.v.bs else m.v.bs++[UdS.sumV (L.map Ud.uv)],U:=ofV (X.map Tm.v) })):=j6 (by rw[<-hq.o,iD HB1.o (by rw[<-Kn];exact HB2.o) (by rw[<-Kn];exact HB3.o) HB4.o]);clear hq;have⟨w2,a⟩:=E9 ((w.alloc (.cells #[.pointer (some ⟨gs,0,none⟩)] 76)).alloc (.cells #[.slice AX nX cX] 27));have⟨g1,d⟩:=E9 w.heap.size;have⟨g2,e⟩:=E9 (w.heap.size+1);have X2:H0 (Ext w w2):=j6 (by rw[a];exact((Ext.refl _).alloc _).alloc _);have B1:H0 (Bk w2 g1 76 #[.pointer (some ⟨gs,0,none⟩)]):=j6 (by rw[a,d];exact(Bk.new _ _ _).alloc _);have B2:H0 (Bk w2 g2 27 #[.slice AX nX cX]):=j6 (by rw[a,e];exact Bk.at (by simp));have i:H0 (∀W,Ext w W->Tin W AX cX X):=j6 (λW x=>hX.o W (Upd.ext x));have⟨nU,B⟩:=E9 m.U.length;have F:=j6 B;have HC:H0 (∀W,Ext w W->W.cell? ⟨gs,3,none⟩=some (.slice m.uA nU m.uc)):=j6 (λW x=>by have:=(HM.o.bk.ext x).cell 3;rw[B];exact this);have H:H0 (Tin w m.uA m.uc m.U):=j6 HM.o.b.up.t.tin;have P1:H0 (Lq 153 #[] (λx=>Cb x.uv) L w):=j6 (λW x hx y=>It x W (j6 ((hL.o.ls x hx).ext y)) (j6 (hin.o x hx)) (G.o.ext y));have P2:H0 (Lp 155 #[.pointer (some ⟨g1,0,none⟩),.pointer (some ⟨g2,0,none⟩)] (λx=>Br (m.U.map Tm.v) (X.map Tm.v) x.uv) L w2):=j6 (λW x hx y=>Hf x g1 g2 gs m.uA nU m.uc m.U AX nX cX X W (j6 ((hL.o.ls x hx).ext (X2.o.trans y))) (j6 (B1.o.ext y)) (j6 (B2.o.ext y)) (j6 (HC.o W (X2.o.trans y))) F (j6 (H.o.ext (X2.o.trans y))) hnX (j6 (i.o W (X2.o.trans y))));clear B;have O:∀y:Xt w2,y.W.cell? ⟨g2,0,none⟩=some (.slice AX nX cX):=λy=>(B2.o.ext y.x).cell 0;have m1:=TI;go_enter func44,ntmps44
 go_upto_region 7 with (first
  | (go_at_call 156;clear m1;refine(Gc AX cX nX X _ HB1 hnX (j6 (i.o _ (by rw[<-a];exact X2.o)))).mono ?_;rintro r w3 ⟨rfl,x3⟩;have X3:H0 (Ext w2 w3):=j6 (by rw[a];exact x3);clear x3;have m2:=TI)
  | (go_at_call 157;clear m2;refine(Fd _ 153 Gg AL cL n L _ hn (j6 (hL.o.ext (X2.o.trans X3.o))) (j6 (λW x hx y=>P1.o W x hx ((X2.o.trans X3.o).trans y)))).mono ?_;rw[HB2.o];rintro r w4 ⟨rfl,x4⟩;have X4:H0 (Ext w2 w4):=j6 (X3.o.trans x4);clear x4;have m3:=TI)
  | (go_at_call 157;clear m3;refine(Hm _ 155 _ _ Hl AL cL n L _ hn (j6 (hL.o.ext (X2.o.trans X4.o))) (j6 (λW x hx y=>by have:=P2.o W x hx (X4.o.trans y);rw[d,e]at this;exact this))).mono ?_;rw[HB3.o];rintro r w5 ⟨rfl,x5⟩;have X5:H0 (Ext w2 w5):=j6 (X4.o.trans x5);clear x5;have m4:=TI)
  | fail)
 rw[<-e,<-d];have S:=j6 d;have T:=j6 e;clear d e a O;have X6:H0 (Ext w2 w5.drew):=j6 X5.o.drew;have XD:Ext w5 w5.drew:=(Ext.refl w5).drew;have Q0:∀y:Xt w5.drew,y.W.cell? ⟨g1,0,none⟩=some (.pointer (some ⟨gs,0,none⟩)):=λy=>(B1.o.ext (X6.o.trans y.x)).cell 0;have Q1:∀y:Xt w5.drew,y.W.cell? ⟨g2,0,none⟩=some (.slice AX nX cX):=λy=>(B2.o.ext (X6.o.trans y.x)).cell 0;have Q2:∀y:Xt w5.drew,y.W.cell? ⟨gs,3,none⟩=some (.slice m.uA nU m.uc):=λy=>HC.o _ ((X2.o.trans X6.o).trans y.x);refine wro [0,1,3,7,0,31,63,127] (.flo [0,1,2,3,4] (.one 5 (.flo [6,7] (.fin)))) ?_
 (refine Aa (pks rfl) ?_;(repeat (go_big_quiet_step (fail)));refine oq ?_)
 refine Ac (pks rfl) ?_;intro K_ I;go_wp2_with (go_at_call 158;refine(Kj m.uA AX m.uc cX nU nX m.U X _ F hnX (j6 (H.o.ext (X2.o.trans X6.o))) (j6 (i.o _ (X2.o.trans X6.o)))).mono ?_;rw[HB4.o];rintro r w7 ⟨rfl,x7⟩;have X7:H0 (Ext w2 w7):=j6 (X6.o.trans x7);clear x7)
 clear Q0 Q1 Q2 XD
 (refine Aa (pks rfl) ?_;(repeat (go_big_quiet_step (fail)));refine oq ?_)
 refine Ad ?_
 go_upto_region 12 with (first
  | (go_at_call 16;clear m4;refine(UdS.a3v AL cL n L _ hn (j6 (hL.o.ext (X2.o.trans X7.o))) h9 (j6 (λx hx=>(hin.o x hx).num)) (j6 (λx hx=>(hin.o x hx).lens))).mono ?_;rintro r w8 f;obtain⟨A8,m8,R8,rfl,z,J,C,E⟩:=f;have Y:=j6 z;have Z:=j6 J;have a0:=j6 C;have X8:H0 (Ext w2 w8):=j6 (X7.o.trans E);have a2:=j6 E;have a4:¬(0:Int)<(m8:Int):=(by have h:=congrArg List.length C;rw[AN,<-z]at h;have h2:=HB5.o;rw[h2]at h;simp at h;omega);clear z J C E)
  | fail)
 have g:H0 (SpR w8 R gs m):=j6 (HM.o.ext (X2.o.trans X8.o));have XD:Ext w8 w8.drew:=(Ext.refl w8).drew;have Q0:∀y:Xt w8.drew,y.W.cell? ⟨g1,0,none⟩=some (.pointer (some ⟨gs,0,none⟩)):=λy=>((B1.o.ext X8.o).ext (XD.trans y.x)).cell 0;have Q1:∀y:Xt w8.drew,y.W.cell? ⟨g2,0,none⟩=some (.slice AX nX cX):=λy=>((B2.o.ext X8.o).ext (XD.trans y.x)).cell 0;refine wro [0,0,2,7,15,31] (.flo [0,1] (.ext 2 (.flo [3,4] (.one 5 (.fin))))) ?_
 (refine Aa (pks rfl) ?_;(repeat (go_big_quiet_step (fail)));refine oq ?_)
 refine Ar (pks rfl) ?_;intro K_ I;go_wp2_with (go_at_call 137;refine(Tb AX cX nX X _ hnX (j6 ((i.o _ (X2.o.trans X8.o)).ext XD)) (j6 hf.o.2) (by rw[hnX.o];exact hf.o.1)).mono ?_;rintro r a6 f;obtain⟨Q,a3,a5,a1,rfl,A,j,l,D⟩:=f;have K:=j6 A;have M:=j6 j;have N:=j6 l;have c:=j6 D;clear A j l D)
 refine An.mk c.o ?_;have c3:=(g.o.bk.ext (XD.trans c.o)).cell 3;have f3:=(g.o.bk.ext (XD.trans c.o)).free 3;have P:=(g.o.bk.ext (XD.trans c.o)).lt;have HP:=j6 (g.o.put_u (XD.trans c.o) M.o);rw[<-K.o]at HP
 (refine Aa (pks rfl) ?_;(repeat (go_big_quiet_step (fail)));refine oq ?_)
 refine Ac (pks rfl) ?_;intro K_ I;go_wp2;refine Ad ?_;go_wp2;go_ret;have hq:=HQ.o;rw[if_pos HB5.o]at hq;rw[hq];exact Df.two (Upd.ext (X2.o.trans X8.o)) (HP.o.1.wide λk _ hk=>hk.imp .inl id) (HP.o.2.mono λk _ hk=>.inl hk) rfl (by show SpM.v _=_;rw[<-N.o];rfl)
def yL{q:Int×SV}(gs:Nat)(m:SpM)(R:Nat->Prop)(AL:Option Addr)(cL n:Nat)(L:List Ud)(AX:Option Addr)(cX nX:Nat)(X:List Tm)(w:World)(hq:H0 (Cd m.v (L.map Ud.uv) (X.map Tm.v)=q))(HM:H0 (SpR w R gs m))(hn:H0 (n=L.length))(hL:H0 (Uin w AL cL L))(h9:n<=1000000)(hin:H0 (∀x∈L,InU x))(hnX:H0 (nX=X.length))(hX:H0 (∀W,Upd R w W->Tin W AX cX X))(hf:H0 (Oq X))(hb9:m.bs.length<=1000000)(G:H0 (Good w))(HB1:H0 (Bg (X.map Tm.v)=true))(HB2:H0 ((L.any λx=>Cb x.uv)=false))(HB3:H0 ((L.any λx=>Br (m.U.map Tm.v) (X.map Tm.v) x.uv)=false))(HB4:H0 (Gq (m.U.map Tm.v) (X.map Tm.v)=true))(HB5:H0 (UdS.sumV (L.map Ud.uv)≠[])) :
  C3 44 #[.pointer (some ⟨gs,0,none⟩),.slice AL n cL,.slice AX nX cX] w (Df w R gs q):=by
 have HQ:H0 (q=(0,{ m.v with bs:=if UdS.sumV (L.map Ud.uv)=[] then m.v.bs else m.v.bs++[UdS.sumV (L.map Ud.uv)],U:=ofV (X.map Tm.v) })):=j6 (by rw[<-hq.o,iD HB1.o (by rw[<-Kn];exact HB2.o) (by rw[<-Kn];exact HB3.o) HB4.o]);clear hq;have⟨w2,f⟩:=E9 ((w.alloc (.cells #[.pointer (some ⟨gs,0,none⟩)] 76)).alloc (.cells #[.slice AX nX cX] 27));have⟨g1,j⟩:=E9 w.heap.size;have⟨g2,l⟩:=E9 (w.heap.size+1);have X2:H0 (Ext w w2):=j6 (by rw[f];exact((Ext.refl _).alloc _).alloc _);have B1:H0 (Bk w2 g1 76 #[.pointer (some ⟨gs,0,none⟩)]):=j6 (by rw[f,j];exact(Bk.new _ _ _).alloc _);have B2:H0 (Bk w2 g2 27 #[.slice AX nX cX]):=j6 (by rw[f,l];exact Bk.at (by simp));have I:H0 (∀W,Ext w W->Tin W AX cX X):=j6 (λW x=>hX.o W (Upd.ext x));have⟨nU,T⟩:=E9 m.U.length;have a5:=j6 T;have HC:H0 (∀W,Ext w W->W.cell? ⟨gs,3,none⟩=some (.slice m.uA nU m.uc)):=j6 (λW x=>by have:=(HM.o.bk.ext x).cell 3;rw[T];exact this);have a6:H0 (Tin w m.uA m.uc m.U):=j6 HM.o.b.up.t.tin;have P1:H0 (Lq 153 #[] (λx=>Cb x.uv) L w):=j6 (λW x hx y=>It x W (j6 ((hL.o.ls x hx).ext y)) (j6 (hin.o x hx)) (G.o.ext y));have P2:H0 (Lp 155 #[.pointer (some ⟨g1,0,none⟩),.pointer (some ⟨g2,0,none⟩)] (λx=>Br (m.U.map Tm.v) (X.map Tm.v) x.uv) L w2):=j6 (λW x hx y=>Hf x g1 g2 gs m.uA nU m.uc m.U AX nX cX X W (j6 ((hL.o.ls x hx).ext (X2.o.trans y))) (j6 (B1.o.ext y)) (j6 (B2.o.ext y)) (j6 (HC.o W (X2.o.trans y))) a5 (j6 (a6.o.ext (X2.o.trans y))) hnX (j6 (I.o W (X2.o.trans y))));clear T;have b3:∀y:Xt w2,y.W.cell? ⟨g2,0,none⟩=some (.slice AX nX cX):=λy=>(B2.o.ext y.x).cell 0;have m1:=TI;go_enter func44,ntmps44
 go_upto_region 7 with (first
  | (go_at_call 156;clear m1;refine(Gc AX cX nX X _ HB1 hnX (j6 (I.o _ (by rw[<-f];exact X2.o)))).mono ?_;rintro r w3 ⟨rfl,x3⟩;have X3:H0 (Ext w2 w3):=j6 (by rw[f];exact x3);clear x3;have m2:=TI)
  | (go_at_call 157;clear m2;refine(Fd _ 153 Gg AL cL n L _ hn (j6 (hL.o.ext (X2.o.trans X3.o))) (j6 (λW x hx y=>P1.o W x hx ((X2.o.trans X3.o).trans y)))).mono ?_;rw[HB2.o];rintro r w4 ⟨rfl,x4⟩;have X4:H0 (Ext w2 w4):=j6 (X3.o.trans x4);clear x4;have m3:=TI)
  | (go_at_call 157;clear m3;refine(Hm _ 155 _ _ Hl AL cL n L _ hn (j6 (hL.o.ext (X2.o.trans X4.o))) (j6 (λW x hx y=>by have:=P2.o W x hx (X4.o.trans y);rw[j,l]at this;exact this))).mono ?_;rw[HB3.o];rintro r w5 ⟨rfl,x5⟩;have X5:H0 (Ext w2 w5):=j6 (X4.o.trans x5);clear x5;have m4:=TI)
  | fail)
 rw[<-l,<-j];have a2:=j6 j;have a3:=j6 l;clear j l f b3;have X6:H0 (Ext w2 w5.drew):=j6 X5.o.drew;have XD:Ext w5 w5.drew:=(Ext.refl w5).drew;have Q0:∀y:Xt w5.drew,y.W.cell? ⟨g1,0,none⟩=some (.pointer (some ⟨gs,0,none⟩)):=λy=>(B1.o.ext (X6.o.trans y.x)).cell 0;have Q1:∀y:Xt w5.drew,y.W.cell? ⟨g2,0,none⟩=some (.slice AX nX cX):=λy=>(B2.o.ext (X6.o.trans y.x)).cell 0;have Q2:∀y:Xt w5.drew,y.W.cell? ⟨gs,3,none⟩=some (.slice m.uA nU m.uc):=λy=>HC.o _ ((X2.o.trans X6.o).trans y.x);refine wro [0,1,3,7,0,31,63,127] (.flo [0,1,2,3,4] (.one 5 (.flo [6,7] (.fin)))) ?_
 (refine Aa (pks rfl) ?_;(repeat (go_big_quiet_step (fail)));refine oq ?_)
 refine Ac (pks rfl) ?_;intro K_ d;go_wp2_with (go_at_call 158;refine(Kj m.uA AX m.uc cX nU nX m.U X _ a5 hnX (j6 (a6.o.ext (X2.o.trans X6.o))) (j6 (I.o _ (X2.o.trans X6.o)))).mono ?_;rw[HB4.o];rintro r w7 ⟨rfl,x7⟩;have X7:H0 (Ext w2 w7):=j6 (X6.o.trans x7);clear x7)
 clear Q0 Q1 Q2 XD
 (refine Aa (pks rfl) ?_;(repeat (go_big_quiet_step (fail)));refine oq ?_)
 refine Ad ?_
 go_upto_region 11 with (first
  | (go_at_call 16;clear m4;refine(UdS.a3v AL cL n L _ hn (j6 (hL.o.ext (X2.o.trans X7.o))) h9 (j6 (λx hx=>(hin.o x hx).num)) (j6 (λx hx=>(hin.o x hx).lens))).mono ?_;rintro r w8 B;obtain⟨A8,m8,R8,rfl,P,a9,Z,a1⟩:=B;have b6:=j6 P;have c0:=j6 a9;have c5:=j6 Z;have X8:H0 (Ext w2 w8):=j6 (X7.o.trans a1);have a8:=j6 a1;have d2:(0:Int)<(m8:Int):=(by have h:=congrArg List.length Z;rw[AN,<-P]at h;have h2:=HB5.o;have h3:=EG.2 h2;omega);clear P a9 Z a1)
  | fail)
 have⟨nb,Y⟩:=E9 m.bs.length;have D:=j6 Y;have b9:H0 (SpR w8 R gs m):=j6 (HM.o.ext (X2.o.trans X8.o));have z:¬Ft m g1:=λe=>(by have h1:=(HM.o.b.ow.lt g1 e).2;rw[a2.o]at h1;omega);have O:¬Ft m gs:=HM.o.not_gs;have b5:H0 (∀W,Upd (Ft m) w8 W->W.cell? ⟨gs,0,none⟩=some (.slice m.A nb m.c)):=j6 (λW u=>by have:=(b9.o.bk.upd u O).cell 0;rw[Y];exact this);clear Y;have U0:Upd (Ft m) w8 w8.drew:=Upd.ext (Ext.refl w8).drew;have Q0:∀y:Yt (Ft m) w8.drew,y.W.cell? ⟨g1,0,none⟩=some (.pointer (some ⟨gs,0,none⟩)):=λy=>((B1.o.ext X8.o).upd (U0.trans y.x) z).cell 0;have Q1:∀y:Yt (Ft m) w8.drew,y.W.cell? ⟨gs,0,none⟩=some (.slice m.A nb m.c):=λy=>b5.o y.W (U0.trans y.x);refine rN (S:=Ft m) [0,0,2,6,14,0,32,96,224,510,1023,2047,4095] (.flo [0,1,2,3,4,5,6] (.ext 7 (.ext 8 (.ext 9 (.flo [10,11] (.one 12 (.fin))))))) ?_
 (refine Dg (pks rfl) ?_;(repeat (go_big_quiet_step (fail)));refine oqU ?_)
 refine Fa (pks rfl) ?_;intro K_ d;go_wp2;refine Dh.mk (Upd.ext ((Ext.refl _).alloc _)) ?_;refine Fa (pks rfl) ?_;intro K_ d;go_wp2;refine Dh.mk (Upd.ext ((Ext.refl _).alloc _)) ?_;refine Fa (pks rfl) ?_;intro K_ d;have XW:H0 (Ext w7 (((w8.alloc (.cells #[.slice A8 m8 m8] 197)).alloc (.cells #[.pointer (some ⟨w8.heap.size,0,none⟩)] 195)).drew)):=j6 (((a8.o.alloc _).alloc _).drew);have F:H0 (SpR w7 R gs m):=j6 (HM.o.ext (X2.o.trans X7.o));have b8:H0 (Own (((w8.alloc (.cells #[.slice A8 m8 m8] 197)).alloc (.cells #[.pointer (some ⟨w8.heap.size,0,none⟩)] 195)).drew) 0 195 1 m.A nb m.c (m.bs.map Bt.p)):=j6 (by rw[D.o];exact F.o.b.ow.ext XW.o);have b4:H0 (Bk (((w8.alloc (.cells #[.slice A8 m8 m8] 197)).alloc (.cells #[.pointer (some ⟨w8.heap.size,0,none⟩)] 195)).drew) w8.heap.size 197 #[.slice A8 R8.length m8]):=j6 (by rw[<-b6.o];exact(Bk.new w8 _ _).alloc _);clear Q0 Q1;go_wp2_with (at_builtin;refine Ab _ Zy 0 _ _ rfl rfl m.A nb m.c (m.bs.map Bt.p) rfl b8.o (some ⟨w8.heap.size+1,0,none⟩) 1 1 [.pointer (some ⟨w8.heap.size,0,none⟩)] rfl (by have:=Sl.one (w8.alloc (.cells #[.slice A8 m8 m8] 197)) #[.pointer (some ⟨w8.heap.size,0,none⟩)] 195 1 rfl;simpa using this.drew) (by intro u hu;simp at hu;subst hu;rfl) (by have:=D.o;omega) (by decide) (AG _) ?_;intro A9 c9 w9 o9 g9 x9;have b7:=j6 o9;have a4:=j6 g9;have c6:=j6 x9;clear o9 g9 x9)
 go_simp;have U9:Upd (Ft m) (((w8.alloc (.cells #[.slice A8 m8 m8] 197)).alloc (.cells #[.pointer (some ⟨w8.heap.size,0,none⟩)] 195)).drew) w9:=(Upd.refl _ _).grown a4.o (λk hk=>.inl hk);refine Dh.mk U9 ?_;have E:Bk w9 gs 192 (Ov m):=(F.o.bk.ext XW.o).upd U9 O;have k9:=E.cell 0;have f9:=E.free 0;have l9:=E.lt;have HP:=j6 (F.o.put_b XW.o (b:=⟨w8.heap.size,A8,m8,R8⟩) b4.o (by exact a8.o.size) (c0.o.ext ((((Ext.refl w8).alloc _).alloc _).drew)) (by rw[<-D.o];exact b7.o) a4.o c6.o);have c4:=j6 ((Upd.ext (S:=λk=>Ft m k\/k=gs) XW.o).trans (U9.mono λk _ hk=>.inl hk));rw[<-D.o]at HP;clear E U9 U0
 (refine Dg (pks rfl) ?_;(repeat (go_big_quiet_step (fail)));refine oqU ?_)
 refine dC (pks rfl) ?_;intro K_ d;go_wp2;refine Md ?_;go_wp2;have⟨a,C⟩:=E9 (w9.setCell ⟨gs,0,none⟩ (.slice A9 (nb+1) c9));rw[<-C]at HP ⊢;have H:H0 (Upd (λk=>Ft m k\/k=gs) w7 a):=j6 (by rw[C];exact c4.o.setCell (p:=⟨gs,0,none⟩) (.inl (.inr rfl)) _);clear C;have a7:H0 (Upd R w a):=j6 ((Upd.ext (X2.o.trans X7.o)).trans HP.o.2);have g:H0 (SpR a (Rg R w a) gs { m with A:=A9,c:=c9,bs:=m.bs++[⟨w8.heap.size,A8,m8,R8⟩] }):=j6 (HP.o.1.wide λk _ hk=>hk.imp id λh=>⟨AR (X2.o.trans X7.o).size h.1,h.2⟩);have M:¬(Ft m g1\/g1=gs):=λe=>e.elim z (λe=>by have:=HM.o.bk.lt;rw[<-e,a2.o]at this;omega);have N:¬(Ft m g2\/g2=gs):=λe=>e.elim (λe=>by have h1:=(HM.o.b.ow.lt g2 e).2;rw[a3.o]at h1;omega) (λe=>by have:=HM.o.bk.lt;rw[<-e,a3.o]at this;omega);have C1:H0 (Bk a g1 76 #[.pointer (some ⟨gs,0,none⟩)]):=j6 ((B1.o.ext X7.o).upd H.o M);have C2:H0 (Bk a g2 27 #[.slice AX nX cX]):=j6 ((B2.o.ext X7.o).upd H.o N);have CX:H0 (Tin a AX cX X):=j6 (hX.o a a7.o);clear HP M N z;have XD:Ext a a.drew:=(Ext.refl a).drew;have Q0:∀y:Xt a.drew,y.W.cell? ⟨g1,0,none⟩=some (.pointer (some ⟨gs,0,none⟩)):=λy=>(C1.o.ext (XD.trans y.x)).cell 0;have Q1:∀y:Xt a.drew,y.W.cell? ⟨g2,0,none⟩=some (.slice AX nX cX):=λy=>(C2.o.ext (XD.trans y.x)).cell 0;refine wro [0,0,2,7,15,31] (.flo [0,1] (.ext 2 (.flo [3,4] (.one 5 (.fin))))) ?_
 (refine Aa (pks rfl) ?_;(repeat (go_big_quiet_step (fail)));refine oq ?_)
 refine Ar (pks rfl) ?_;intro K_ d;go_wp2_with (go_at_call 137;refine(Tb AX cX nX X _ hnX (j6 (CX.o.ext XD)) (j6 hf.o.2) (by rw[hnX.o];exact hf.o.1)).mono ?_;rintro r d4 B;obtain⟨c8,d1,d3,d0,rfl,Q,J,K,a0⟩:=B;have b0:=j6 Q;have b1:=j6 J;have b2:=j6 K;have i:=j6 a0;clear Q J K a0)
 refine An.mk i.o ?_;have c3:=(g.o.bk.ext (XD.trans i.o)).cell 3;have f3:=(g.o.bk.ext (XD.trans i.o)).free 3;have c7:=(g.o.bk.ext (XD.trans i.o)).lt;have HP:=j6 (g.o.put_u (XD.trans i.o) b1.o);rw[<-b0.o]at HP
 (refine Aa (pks rfl) ?_;(repeat (go_big_quiet_step (fail)));refine oq ?_)
 refine Ac (pks rfl) ?_;intro K_ d;go_wp2;refine Ad ?_;go_wp2;go_ret;have hq:=HQ.o;rw[if_neg HB5.o]at hq;rw[hq];refine Df.two a7.o HP.o.1 HP.o.2 rfl ?_;show SpM.v _=_;rw[<-b2.o,<-c5.o];unfold SpM.v;simp only[AI];rfl
def nV{q:Int×SV}(gs:Nat)(m:SpM)(R:Nat->Prop)(AL:Option Addr)(cL n:Nat)(L:List Ud)(AX:Option Addr)(cX nX:Nat)(X:List Tm)(w:World)(hq:H0 (Cd m.v (L.map Ud.uv) (X.map Tm.v)=q))(HM:H0 (SpR w R gs m))(hn:H0 (n=L.length))(hL:H0 (Uin w AL cL L))(h9:n<=1000000)(hin:H0 (∀x∈L,InU x))(hnX:H0 (nX=X.length))(hX:H0 (∀W,Upd R w W->Tin W AX cX X))(hf:H0 (Oq X))(hb9:m.bs.length<=1000000)(G:H0 (Good w)) :
  C3 44 #[.pointer (some ⟨gs,0,none⟩),.slice AL n cL,.slice AX nX cX] w (Df w R gs q):=by
 cases h1:Bg (X.map Tm.v)with
 | false=>exact yQ gs m R AL cL n L AX cX nX X w hq HM hn hL h9 hin hnX hX hf hb9 G (j6 h1)
 | true =>
  cases h2:(L.any λx=>Cb x.uv)with
  | true=>exact yP gs m R AL cL n L AX cX nX X w hq HM hn hL h9 hin hnX hX hf hb9 G (j6 h1) (j6 h2)
  | false =>
   cases h3:(L.any λx=>Br (m.U.map Tm.v) (X.map Tm.v) x.uv)with
   | true=>exact yO gs m R AL cL n L AX cX nX X w hq HM hn hL h9 hin hnX hX hf hb9 G (j6 h1) (j6 h2) (j6 h3)
   | false =>
    cases h4:Gq (m.U.map Tm.v) (X.map Tm.v)with
    | false=>exact yN gs m R AL cL n L AX cX nX X w hq HM hn hL h9 hin hnX hX hf hb9 G (j6 h1) (j6 h2) (j6 h3) (j6 h4)
    | true =>
     by_cases h5:UdS.sumV (L.map Ud.uv)=[]
     ·exact yM gs m R AL cL n L AX cX nX X w hq HM hn hL h9 hin hnX hX hf hb9 G (j6 h1) (j6 h2) (j6 h3) (j6 h4) (j6 h5)
     ·exact yL gs m R AL cL n L AX cX nX X w hq HM hn hL h9 hin hnX hX hf hb9 G (j6 h1) (j6 h2) (j6 h3) (j6 h4) (j6 h5)
def vO{l:List Bt}{k:Nat}(nd:(l.map Bt.g).Nodup)(hi:i<l.length)(hk:k<l.length)(h:i≠k):(Ci l i).g≠(Ci l k).g:=by
 unfold Ci;rw[AB,AB,AC hi,AC hk];have hp:=DH.1 nd;rcases Nat.lt_or_gt_of_ne h with q|q
 ·have:=hp i k (by simpa using hi) (by simpa using hk) q;simpa using this
 ·have:=hp k i (by simpa using hk) (by simpa using hi) q;simpa using this.symm
def Vd:∃j,prog.info? 197=some j/\j.size≠0:=by
 have h:(prog.info? 197).map (·.size)=some 1:=by kernel_rfl
 cases hj:prog.info? 197 with
 | none=>rw[hj]at h;cases h
 | some j =>
  rw[hj]at h;injection h with h;exact⟨j,rfl,by rw[show j.size=1 from h];decide⟩
def a3w{l:List Bt}(h:Sl w 1 A n c (l.map Bt.p)){i:Nat}(hi:i<l.length):∃ad,A=some ad/\w.cell? (ad.add i)=some (Ci l i).p:=by
 have hl:=h.1;rw[AN]at hl;have⟨ad,h1,h2⟩:=h.2.2.2.2 (by omega);exact⟨ad,h1,h2 i _ (iE hi)⟩
def kK(A:Option Addr)(c n:Nat)(l:List Bt)(k gk:Nat)(w:World)(hgk:H0 ((Ci l k).g=gk))(hn:H0 (n=l.length))(hk:H0 (k<l.length))(nd:H0 ((l.map Bt.g).Nodup))(h:H0 (Sl w 1 A n c (l.map Bt.p)))(hb:H0 (∀b∈l,∃cs,Bk w b.g 197 cs)) :
  C3 214 #[.slice A n c,.pointer (some ⟨gk,0,none⟩)] w λe w'=>e=.returned (.int .i64 k)/\w=w':=by
 have x:n<=9223372036854775807:=h.o.le;go_enter func214,ntmps214;go_wp2
 go_loopg [8] n (λz u wr=>∃i:Nat,z=n-i/\i<=k/\u=.int .i64 i/\w=wr)
 case atStart=>exact⟨0,rfl,AG _,rfl,rfl⟩
 case round =>
  obtain⟨i,rfl,hi,rfl,rfl⟩:=hrel;have d:i<l.length:=by have:=hk.o;omega
  have y:i<n:=by rw[hn.o];exact d
  obtain⟨ad,rfl,p0⟩:=a3w h.o d;by_cases hik:i=k
  ·subst hik;rw[show(Ci l i).p=.pointer (some ⟨gk,0,none⟩)by rw[<-hgk.o]]at p0;obtain⟨jj,q,_⟩:=Vd;have e0:(binOp .eql 195 (.pointer (some ⟨gk,0,none⟩)) (.pointer (some ⟨gk,0,none⟩))).run prog w=.ok (.bool true) w:=run_eql_ptr_same w _ Tryz.underlying195 q;go_wp2;go_ret;exact⟨rfl,rfl⟩
  ·have r:(Ci l i).g≠gk:=by rw[<-hgk.o];exact vO nd.o d hk.o hik
   have⟨gi,f⟩:=tz ((Ci l i).g);rw[show(Ci l i).p=.pointer (some ⟨gi,0,none⟩)by rw[<-f]]at p0;rw[f]at r;obtain⟨jj,q,t⟩:=Vd;have⟨ca,j⟩:=hb.o _ (Ht hk.o);have⟨cb,m⟩:=hb.o _ (Ht d);rw[hgk.o]at j;rw[f]at m;have e0:(binOp .eql 195 (.pointer (some ⟨gk,0,none⟩)) (.pointer (some ⟨gi,0,none⟩))).run prog w=.ok (.bool false) w:=run_eql_ptr_other w (a:=⟨gk,0,none⟩) (b:=⟨gi,0,none⟩) Tryz.underlying195 q t (λe=>r (congrArg Addr.block e).symm) j m;clear f d j m r;go_wp2
   go_roundg (n-(i+1))
   case measure=>omega
   case rel=>exact⟨i+1,rfl,by omega,by go_num,rfl⟩
def dB{s:Nat}(h:Own w B e s (some ⟨g,0,none⟩) n c xs)(hc:0<c){t:Nat}(ht:t<c*s):(w.cell? ⟨g,t,none⟩).isSome=true/\w.frozen? ⟨g,t,none⟩=false:=by
 rcases h.2 with ⟨h1,_⟩|⟨g',cur,e,hb,hg,hnc,hcm,hcs,htake⟩
 ·omega
 ·cases e;refine⟨?_,by simp[World.frozen?,hg]⟩;rw[cell_of_row w g t cur _ (0,0) hg,EZ (AZ ht hcs)];rfl
def Qj{s:Nat}:∀(vs:List Value) (w:World) (k:Nat),Own w B e s (some ⟨g,0,none⟩) n c xs->xs.length<=k->Own (w.setCells g k vs) B e s (some ⟨g,0,none⟩) n c xs
 | [],_,_,h,_=>h
 | v::vs,w,k,h,hk=>Qj vs _ (k+1) (by have:=h.put k v;rwa [GD hk]at this) (by omega)
def yF(w:World):(zeroValue 195).run prog w=.ok (.pointer none) w:=Tryz.zeroValue195 w
def Vj{k:Nat}(h:Own w B 195 1 (some ⟨g,0,none⟩) k c xs)(hk:k<m)(hm:m<=c) :
  ∃vs,∀ty,(Builtin.clear_ #[189] ty #[.slice (some ⟨g,k,none⟩) (m-k) (c-k)]).run prog w=.ok (.tuple #[]) (w.setCells g k vs):=
 ⟨_,λty=>Lib.run_clear_slice (P:=prog) w 189 195 ty (.pointer none) Tryz.underlying189 yF rfl rfl g k (m-k) (c-k) (by omega) (λt ht=>(dB h (by omega) (by omega)).1) (λt ht=>(dB h (by omega) (by omega)).2)⟩
def xC(g c n i j:Nat)(xs:List Value)(w:World)(h:H0 (Own w 0 195 1 (some ⟨g,0,none⟩) n c xs))(h1:H0 (∀u∈xs,u.oneCell'=true))(hij:i<j)(hj:j<=n) :
  C3 216 #[.slice (some ⟨g,0,none⟩) n c,.int .i64 i,.int .i64 j] w λe w'=>e=.returned (.slice (some ⟨g,0,none⟩) (i+(n-j)) c)/\Own w' 0 195 1 (some ⟨g,0,none⟩) (i+(n-j)) c (xs.take i++xs.drop j)/\w.grownBy w' (some g):=by
 have q:=h.o.le;have y:n<=9223372036854775807:=by omega
 have f:=q.1;clear q;go_enter func216,ntmps216;have A:j<=c:=by omega
 have x:i<=c:=by omega
 have z:i<=n:=by omega
 have HT:H0 (Own w.drew 0 195 1 (some ⟨g,0,none⟩) i c (xs.take i)):=j6 (by
  have:=h.o.drew;obtain⟨q1,q2⟩:=this;refine⟨by rw[CE,q1];omega,?_⟩;rcases q2 with ⟨q3,q4⟩|⟨g',cur,e,hb,hg,f,hcm,hcs,ht⟩
  ·omega
  ·refine .inr ⟨g',cur,e,hb,hg,x,hcm,hcs,?_⟩;rw[<-ht,List.take_take]
   congr 1
   omega)
 have HS:H0 (Sl w.drew 1 (if c=j then some ⟨g,0,none⟩ else some ⟨g,j,none⟩) (n-j) (c-j) (xs.drop j)):=j6 (by
  have:=h.o.drew.sl.drop (k:=j) hj;rw[FA]at this;by_cases hcj:c=j
  ·rw[if_pos hcj]at this ⊢;exact this
  ·rw[if_neg hcj]at this ⊢;have e:(Option.map (·.add j) (some (⟨g,0,none⟩:Addr)))=some ⟨g,j,none⟩:=by
    show some ((⟨g,0,none⟩:Addr).add j)=_;unfold Addr.add;split<;>simp_all
   rw[e]at this;exact this)
 have⟨k,hk⟩:=tz (i+(n-j));have l:k<n:=by omega
 have B:¬c=k:=by omega
 have C:(k:Int)<=(n:Int):=by omega
 have D:n-k<=c-k:=by omega
 rw[hk];by_cases hcj:c=j
 ·have e1:n=c:=by omega
  have e2:j=n:=by omega
  rw[if_pos hcj]at HS;clear hcj;subst e1;subst e2
  go_upto_region 5 with fail
  refine wro [0,0,3,0,0,24,63,127] (.flo [0,1,2,3,4,5] (.one 6 (.flo [7] (.fin)))) ?_
  (refine Aa (pks rfl) ?_;(repeat (go_big_quiet_step (fail)));refine oq ?_)
  refine Ac (pks rfl) ?_;intro K_ r;go_wp2_with (at_builtin;refine Bj _ Zy 0 _ _ rfl rfl g i j (xs.take i) rfl HT.o (by omega) _ (j-j) (j-j) (xs.drop j) (by simp[Act.eval,Act.put]) HS.o (λu hu=>h1.o u (CY hu)) (by omega) ?_;intro w1 o1 g1;rw[hk]at o1 ⊢;have a:=j6 o1;have d:=j6 g1;clear o1 g1)
  go_simp
  (refine Aa (pks rfl) ?_;(repeat (go_big_quiet_step (fail)));refine oq ?_)
  refine Ad ?_;have⟨vs,t⟩:=Vj a.o (m:=j) l f;go_wp2;go_ret;exact⟨rfl,Qj vs w1 _ a.o (by have:=a.o.1;omega),((Aq (Ext.refl w).drew g).trans d.o).trans (upd_sets g vs w1 _)⟩
 ·rw[if_neg hcj]at HS
  go_upto_region 5 with fail
  refine wro [0,0,3,0,0,24,63,127] (.flo [0,1,2,3,4,5] (.one 6 (.flo [7] (.fin)))) ?_
  (refine Aa (pks rfl) ?_;(repeat (go_big_quiet_step (fail)));refine oq ?_)
  refine Ac (pks rfl) ?_;intro K_ r;go_wp2_with (at_builtin;refine Bj _ Zy 0 _ _ rfl rfl g i c (xs.take i) rfl HT.o (by omega) _ (n-j) (c-j) (xs.drop j) (by simp[Act.eval,Act.put]) HS.o (λu hu=>h1.o u (CY hu)) (by omega) ?_;intro w1 o1 g1;rw[hk]at o1 ⊢;have a:=j6 o1;have d:=j6 g1;clear o1 g1)
  go_simp
  (refine Aa (pks rfl) ?_;(repeat (go_big_quiet_step (fail)));refine oq ?_)
  refine Ad ?_;have⟨vs,t⟩:=Vj a.o (m:=n) l f;go_wp2;go_ret;exact⟨rfl,Qj vs w1 _ a.o (by have:=a.o.1;omega),((Aq (Ext.refl w).drew g).trans d.o).trans (upd_sets g vs w1 _)⟩
def Qr{P:Program}(w:World)(t u ty e:TypeId)(i:TypeInfo)(z:Value)(ht:P.underlying t=some (.slice e))(hu:P.underlying u=some (.int .i64))(hi:P.info? e=some i)(hz:i.zero=some z)(hs:0<i.size)
  (n:Nat) (h0:0<n) (h63:(n:Int)<=9223372036854775807) (h48:n*i.bytes<=281474976710656) :
  (Builtin.append_ #[t,u] ty #[.slice none 0 0,.int .i64 n]).run P w =
   .ok (.slice (some ⟨w.heap.size,0,none⟩) n (grownCap w n 0 e)) (w.drew.alloc (.cells (Builtin.zeroCells z.cells n++Builtin.zeroCells z.cells (grownCap w n 0 e-n)) e)):=by
 have hn:n≠0:=by omega
 have hw:IntKind.i64.wrap (n:Int)=n:=CU _ (by omega);have f:¬((n:Int)<0):=by omega
 have d:¬(9223372036854775807<(n:Int)):=by omega
 have a:¬(281474976710656<Builtin.nextslicecap n 0*i.bytes):=by rw[nextslicecap_zero h0];omega
 have c:¬(281474976710656<(n:Int)*(i.bytes:Int)):=by rw[<-Int.natCast_mul];omega
 have g:¬(i.size=0):=by omega
 simp[Builtin.append_,asInt,asIntOf,run_underlying ht,run_underlying hu,sizeOf,typeInfo,zeroValue,hi,hz,hw,f,hn,d,a,c,g,Question.forced,run_firstCells_none,newRow,grownCap];intro h;have:=Nat.mul_pos h0 hs;omega
def uI(w:World)(ty:TypeId)(h0:0<n)(h9:n<=1000000):∃g c w',(Builtin.append_ #[22,3] ty #[.slice none 0 0,.int .i64 n]).run prog w=.ok (.slice (some ⟨g,0,none⟩) n c) w'/\n<=c/\Own w' w.heap.size 95 4 (some ⟨g,0,none⟩) 0 c []/\Ext w w':=by
 have⟨i,hi,hz,hs,d⟩:=info_parts Ao.info;have hr:=Qr (P:=prog) w 22 3 ty 95 i _ Ao.under Tryz.underlying3 hi hz (by omega) n h0 (by omega) (by rw[d];omega);have a:=grownCap_ge w n 0 95;have e:grownCap w n 0 95<=maxLen:=grownCap_le_maxLen w n 0 95 (by unfold maxLen;omega);refine⟨w.heap.size,_,_,hr,a,⟨rfl,.inr ⟨w.heap.size,_,rfl,AD _,heap_alloc_new w.drew _,AG _,e,?_,rfl⟩⟩,((Ext.refl w).drew).alloc _⟩;refine ET (Eq.symm ?_);simp only[FK,size_zeroCells,Ao.zsize];rw[<-DM,Nat.add_sub_cancel' a]
def eQ(w:World){ops:Array Oper}{rest:List Oper}{o:Oper}{a:Act}{Q:Exit->Act->World->Prop}(s x:Operand)
  (ho:o.op=.call { callee:=.builtin .append,args:=#[s,x],argTypes:=#[22,3] }) (hgd:o.guard=none) {n:Nat} (hs:a.eval s=.slice none 0 0) (hx:a.eval x=.int .i64 n) (h0:0<n) (h9:n<=1000000)
  (h:∀g c w',n<=c->Own w' w.heap.size 95 4 (some ⟨g,0,none⟩) 0 c []->Ext w w'->wpList prog ops Q rest (a.put o.dst (.slice (some ⟨g,0,none⟩) n c)) w'):wpList prog ops Q (o::rest) a w :=
 wpList_plain hgd λ_ hK=>by
  have⟨g,c,w',hrun,h1,h2,h3⟩:=uI (n:=n) w o.type h0 h9;unfold Oper.wp execOp;simp only[ho,resolve,invoke,builtin,Sem.run_bind,Sem.run_pure,Result.andThen_ok,FT,CJ,FO,hs,hx,hrun];exact hK _ _ (h g c w' h1 h2 h3)
def a1a(w:World)(e:Ending)(w':World):Prop:=∃A c,e=.returned (.slice A 0 c)/\Own w' w.heap.size 95 4 A 0 c []/\Ext w w'
def wP(n:Nat)(w:World)(h9:n<=1000000):C3 249 #[.slice none 0 0,.int .i64 n] w (a1a w):=by
 go_enter func249,ntmps249;rcases CS n with h0|h0
 ·subst h0;go_wp2;go_ret;exact⟨none,0,rfl,Own.nil _ _ _ _,Ext.refl w⟩
 ·have f:(0:Int)<(n:Int):=by omega
  have e:¬((n:Int)<0):=by omega
  go_wp2_with (at_builtin;refine eQ _ _ _ rfl rfl (n:=n) rfl rfl h0 h9 ?_;intro g c w1 hc o1 x1;have a:=j6 o1;have d:=j6 x1;clear o1 x1)
  go_ret;exact⟨_,_,rfl,a.o,d.o⟩
def a2y(w:World)(L:List Ud)(e:Ending)(w':World):Prop:=∃A n c,e=.returned (.slice A n c)/\n=L.length/\Own w' w.heap.size 95 4 A n c (Ah L)/\Ext w w'
def kS(g n1 n2 c1 c2:Nat)(A1 A2:Option Addr)(L1 L2:List Ud)(w:World)(hb:H0 (Bk w g 22 #[.slice A1 n1 c1,.slice A2 n2 c2]))(h1:H0 (n1=L1.length))(h2:H0 (n2=L2.length))(s1:H0 (Sl w 4 A1 n1 c1 (Ah L1)))(s2:H0 (Sl w 4 A2 n2 c2 (Ah L2)))(h9:n1+n2<=1000000) :
  C3 215 #[.slice (some ⟨g,0,none⟩) 2 2] w (a2y w (L1++L2)):=by
 have q0:w.cell? ⟨g,0,none⟩=some (.slice A1 n1 c1):=hb.o.cell 0;have q1:w.cell? ⟨g,1,none⟩=some (.slice A2 n2 c2):=hb.o.cell 1;have w1:IntKind.i64.wrap ((n1:Int)+(n2:Int))=((n1+n2:Nat):Int):=by rw[<-Int.natCast_add];exact CU _ (by omega)
 have p1:¬((n1:Int)<0):=by omega
 have p2:¬(((n1+n2:Nat):Int)<0):=by omega
 go_enter func215,ntmps215;go_wp2;refine wp_loop_rounds 3 ?_;rw[rounds_succ];go_wp2;rw[rounds_succ];go_wp2;rw[rounds_succ];have m1:=TI;go_wp2_with (go_at_call 249;clear m1;refine(wP (n1+n2) _ h9).mono ?_;rintro r w3 ⟨A3,c3,rfl,o3,x3⟩;have a:=j6 o3;have X3:=j6 x3;have q0:=x3.cell q0;have q1:=x3.cell q1;clear o3 x3)
 have m2:=TI;refine wp_loop_rounds 3 ?_;rw[rounds_succ];go_wp2_with (at_builtin;clear m2;refine Ab _ Ao w.heap.size _ _ rfl rfl A3 0 c3 [] rfl a.o A1 n1 c1 (Ah L1) rfl (s1.o.ext X3.o) (Bz _) (by omega) (by decide) X3.o.size ?_;intro A4 c4 w4 o4 g4 x4;rw[BV,BD]at o4;rw[BV];have c:=j6 o4;have X4:=j6 (X3.o.grown g4 (λk hk=>(a.o.lt k hk).1));have q0:=X4.o.cell (hb.o.cell 0);have q1:=X4.o.cell (hb.o.cell 1);clear o4 g4 x4)
 have m3:=TI;rw[rounds_succ];go_wp2_with (at_builtin;clear m3;refine Ab _ Ao w.heap.size _ _ rfl rfl A4 n1 c4 (Ah L1) rfl c.o A2 n2 c2 (Ah L2) rfl (s2.o.ext X4.o) (Bz _) (by omega) (by decide) X4.o.size ?_;intro A5 c5 w5 o5 g5 x5;have d:=j6 o5;have X5:=j6 (X4.o.grown g5 (λk hk=>(c.o.lt k hk).1));clear o5 g5 x5)
 rw[rounds_succ];go_wp2;go_ret;exact⟨_,_,_,rfl,by rw[AA,h1.o,h2.o],by rw[Au];exact d.o,X5.o⟩
def Fe:Nat->List (List UV)->Option Nat
 | 0,_=>none
 | k+1,bs=>if (bs.getD k []).length<=2*(bs.getD (k+1) []).length then some k else Fe k bs
def Bp(s:SV):SV×Bool :=
 match s.un with
 | some _=>(s,true)
 | none=>match Fe (s.bs.length-1) s.bs with
  | some i=>({ s with un:=some (i,(s.bs.getD i []).length+(s.bs.getD (i+1) []).length) },true)
  | none=>(s,false)
def Fi(w:World)(R:Nat->Prop)(gs:Nat)(n:Nat)(b:Bool)(s:SV)(e:Ending)(w':World):Prop:=∃m',e=.returned (.tuple #[.int .i64 n,.bool b])/\SpR w' (Rg R w w') gs m'/\m'.v=s/\Upd R w w'
def Fi.stay{m:SpM}{b:Bool}{e:Ending}(h:SpR w R gs m)(x:Ext w w')(he:e=.returned (.tuple #[.int .i64 n,.bool b])):Fi w R gs n b m.v e w':=⟨m,he,(h.ext x).wide λ_ _ hk=>.inl hk,rfl,Upd.ext x⟩
def sV{l:List Bt}(h:i<l.length):((l.map Bt.v).getD i []).length=(Ci l i).l.length:=by
 unfold Ci;rw[AB,AB,CG,AC h];show((l[i].l).map Ud.uv).length=_;rw[AN];rfl
section
variable{w w1 w3:World}{R:Nat->Prop}{gs:Nat}{m:SpM}
def SpR.put_p(h:SpR w R gs m)(x:Ext w w1){g i left:Nat}(hb:Bk w1 g 270 #[(Ci m.bs i).p,(Ci m.bs (i+1)).p,.int .i64 left])(hg:w.heap.size<=g)(hi:i+1<m.bs.length) :
  SpR (w1.setCell ⟨gs,1,none⟩ (.pointer (some ⟨g,0,none⟩))) (Rg R w (w1.setCell ⟨gs,1,none⟩ (.pointer (some ⟨g,0,none⟩)))) gs { m with un:=some ⟨g,i,left⟩ }/\Upd R w (w1.setCell ⟨gs,1,none⟩ (.pointer (some ⟨g,0,none⟩))):=by
 have hz:(w1.setCell ⟨gs,1,none⟩ (.pointer (some ⟨g,0,none⟩))).heap.size=w1.heap.size:=by simp
 have a:=h.bk.ext x;have k:=(h.b.ext x).wide (R':=Rg R w (w1.setCell ⟨gs,1,none⟩ (.pointer (some ⟨g,0,none⟩)))) λk _ hk=>.inl hk;have b1:SpB w1 (Rg R w (w1.setCell ⟨gs,1,none⟩ (.pointer (some ⟨g,0,none⟩)))) { m with un:=some ⟨g,i,left⟩ }:=⟨k.ow,k.ro,k.bt,k.nd,λp hp=>by
  injection hp with hp;subst hp;exact⟨hb,.inr ⟨hg,by rw[hz];exact hb.lt⟩,hi⟩,k.sn,k.up⟩
 exact⟨⟨a.set 1 _,.inl h.rg,b1.head a 1 _⟩,(Upd.ext x).setCell (.inl h.rg) _⟩
def SpR.put_left(h:SpR w R gs m){p:Pr}(hp:m.un=some p)(left:Nat) :
  SpR (w.setCell ⟨p.g,2,none⟩ (.int .i64 left)) (Rg R w (w.setCell ⟨p.g,2,none⟩ (.int .i64 left))) gs { m with un:=some ⟨p.g,p.i,left⟩ }/\Upd R w (w.setCell ⟨p.g,2,none⟩ (.int .i64 left)):=by
 have hu:=h.b.un p hp;have x:Upd (λk=>k=p.g) w (w.setCell ⟨p.g,2,none⟩ (.int .i64 left)):=(Upd.refl (λk=>k=p.g) w).setCell (p:=⟨p.g,2,none⟩) (.inl rfl) _;have hS:∀k,k<w.heap.size->k=p.g->Lh w k:=λk _ e=>by subst e;exact .inr (.inr hu.bk.ty)
 have a:gs≠p.g:=λe=>absurd ((e▸h.bk.ty:Ty w p.g _).ne hu.bk.ty) (by decide);have hR:∀k,k<(w.setCell ⟨p.g,2,none⟩ (.int .i64 left)).heap.size->R k->Rg R w (w.setCell ⟨p.g,2,none⟩ (.int .i64 left)) k:=λk _ hk=>.inl hk;refine⟨SpR.wide ⟨?_,h.rg,⟨h.b.ow.upd x λk hk e=>?_,h.b.ro,λb hb=>(h.b.bt b hb).safe x hS,h.b.nd,λq hq=>?_,h.b.sn.safe x hS,h.b.up.safe x hS⟩⟩ hR,(Upd.refl R w).setCell (.inl hu.rg) _⟩
 ·have hd:=h.bk.upd x a;unfold Ov at hd;rw[hp]at hd;exact hd
 ·subst e;exact absurd ((h.b.ow.ty hk).ne hu.bk.ty) (by decide)
 ·injection hq with hq;subst hq;exact⟨hu.bk.set 2 _,hu.rg,hu.lt⟩
end
def Own.lit{s:Nat}(h:Own w B e s A n c xs)(hn:0<n):∃g,A=some ⟨g,0,none⟩:=by
 rcases h.2 with ⟨_,h2⟩|⟨g,cur,rfl,_⟩
 ·omega
 ·exact⟨g,rfl⟩
def kY(gs n:Nat)(m:SpM)(p:Pr)(R:Nat->Prop)(w:World)(hp:m.un=some p)(HM:H0 (SpR w R gs m)):C3 160 #[.pointer (some ⟨gs,0,none⟩),.int .i64 n] w (Fi w R gs n true m.v):=by
 have c1:w.cell? ⟨gs,1,none⟩=some (.pointer (some ⟨p.g,0,none⟩)):=by have:=HM.o.bk.cell 1;unfold Ov at this;rw[hp]at this;exact this
 go_enter func160,ntmps160;go_wp2;go_returns;exact Fi.stay HM.o (Ext.refl w) rfl
def kZ(gs n:Nat)(m:SpM)(R:Nat->Prop)(w:World)(hp:m.un=none)(HM:H0 (SpR w R gs m))(h9:m.bs.length<=1000000)(hA0:H0 (∀b∈m.bs,b.l.length<=1000000)):C3 160 #[.pointer (some ⟨gs,0,none⟩),.int .i64 n] w (Fi w R gs n (Bp m.v).2 (Bp m.v).1):=by
 have⟨N,hN⟩:=E9 m.bs.length;have⟨mA,F⟩:=tz m.A;have HC:H0 (∀W,Ext w W->W.cell? ⟨gs,0,none⟩=some (.slice mA N m.c)/\W.cell? ⟨gs,1,none⟩=some (.pointer none)/\W.frozen? ⟨gs,1,none⟩=false):=j6 (λW x=>by
  have hb:=HM.o.bk.ext x;have h0:=hb.cell 0;have h1:=hb.cell 1;unfold Ov at h0 h1;rw[hp]at h1;rw[F,<-hN]at h0;exact⟨h0,h1,hb.free 1⟩)
 have⟨c0,c1,_⟩:=HC.o w (Ext.refl w);rw[<-hN]at h9;have HN:=j6 hN;have HB:=j6 HM.o.b;have⟨q,hq⟩:=tz (Bp m.v);rw[hq];have HQ:=j6 hq;have HP:=j6 hp;clear hN hq hp;rcases CS N with hz|hz
 ·subst hz;have hb:m.bs=[]:=AH HN.o.symm;have hq:H0 (q=(m.v,false)):=j6 (by rw[<-HQ.o];unfold Bp SpM.v;rw[HP.o,hb];rfl);go_enter func160,ntmps160;go_wp2;refine wp_loop_rounds 1 ?_;rw[rounds_succ];go_wp2;go_returns;rw[hq.o];exact Fi.stay HM.o (Ext.refl w) rfl
 ·have I:((N:Int)-2)=((N-1:Nat):Int)-1:=by omega
  have hv:m.v.bs.length=N:=by rw[HN.o];exact AN ..
  have HV:=j6 hv;have hw:IntKind.i64.wrap ((N:Int)-2)=(N:Int)-2:=CU _ (by omega);clear hv c0 c1;have⟨c0,c1,_⟩:=HC.o w (Ext.refl w);go_enter func160,ntmps160;go_wp2
  go_loopg [6] (N-1) (λz u wr=>∃k:Nat,z=k/\k<=N-1/\u=.int .i64 ((k:Int)-1)/\H0 (Fe (N-1) m.v.bs=Fe k m.v.bs)/\H0 (Ext w wr))
  case atStart=>exact⟨N-1,rfl,AD _,(by first|rfl|rw[I]),j6 rfl,j6 (Ext.refl w)⟩
  case round =>
   obtain⟨k,K,hk,rfl,HF,HX⟩:=hrel;clear c0 c1;cases k with
   | zero =>
    have hq:H0 (q=(m.v,false)):=j6 (by rw[<-HQ.o];unfold Bp;rw[show m.v.un=none by unfold SpM.v;rw[HP.o];rfl,HV.o,HF.o];rfl);go_wp2;go_returns;rw[hq.o];exact Fi.stay HM.o HX.o rfl
   | succ j =>
    have e:((j+1:Nat):Int)-1=j:=by omega
    rw[e];clear e;have hj:j+1<N:=by omega
    have f:j<m.bs.length:=by rw[<-HN.o];omega
    have g:j+1<m.bs.length:=by rw[<-HN.o];omega
    have d:H0 (Ext w wr.drew):=j6 HX.o.drew;have⟨ad,hA,p0,p1⟩:=(HB.o.ext d.o).at f;have⟨H,E,r0,r1⟩:=(HB.o.ext d.o).at g;have⟨gl,h⟩:=(HB.o.ow).lit (by omega);obtain rfl:ad=⟨gl,0,none⟩:=Option.some.inj (hA.symm.trans h);obtain rfl:H=⟨gl,0,none⟩:=Option.some.inj (E.symm.trans h);obtain rfl:mA=some ⟨gl,0,none⟩:=F.symm.trans hA;rw[Addr.add_lit,BV]at p0 r0;clear h;have l0:=hA0.o _ (Ht f);have l1:=hA0.o _ (Ht g);have v0:=sV f;have v1:=sV g;clear hA E;have⟨a,ha⟩:=tz (Ci m.bs j);have⟨b,hb⟩:=tz (Ci m.bs (j+1));rw[ha]at p0 p1 l0 v0;rw[hb]at r0 r1 l1 v1;have HA:=j6 ha;have G:=j6 hb;have⟨na,i⟩:=E9 a.l.length;have⟨nb,t⟩:=E9 b.l.length;rw[<-i]at p1 l0 v0;rw[<-t]at r1 l1 v1;have B:=j6 i;have C:=j6 t;have V0:=j6 v0;have V1:=j6 v1;have C0:∀y:Xt wr.drew,y.W.cell? ⟨gs,0,none⟩=some (.slice (some ⟨gl,0,none⟩) N m.c):=λy=>(HC.o _ (d.o.trans y.x)).1;have P0:∀y:Xt wr.drew,y.W.cell? ⟨gl,j,none⟩=some a.p:=λy=>y.x.cell p0;have R0:∀y:Xt wr.drew,y.W.cell? ⟨gl,j+1,none⟩=some b.p:=λy=>y.x.cell r0;clear ha hb i t v0 v1 p0 r0 f g
    go_upto_region 6 with fail
    refine wro [0,1,3,7,0,31,63,0,128,384,896,0,2048,8064,16256,127,65535] (.flo [0,1,2,3,4,5,6,7,8,9,10,11,12,13,14,15,16] (.fin)) ?_
    (refine Aa (pks rfl) ?_;(repeat (go_big_quiet_step (fail)));refine oq ?_)
    refine Ad ?_;clear C0 P0 R0;have w2:IntKind.i64.wrap (2*(nb:Int))=((2*nb:Nat):Int):=by
     have e:(2*(nb:Int))=((2*nb:Nat):Int):=by omega
     rw[e];exact CU _ (by omega)
    have w3:IntKind.i64.wrap ((na:Int)+(nb:Int))=(na:Int)+(nb:Int):=CU _ (by omega);by_cases hdue:na<=2*nb
    ·have J:(na:Int)<=((2*nb:Nat):Int):=by omega
     have hq:H0 (q=({ m.v with un:=some (j,na+nb) },true)):=j6 (by
      have hf:Fe (j+1) m.v.bs=some j:=by
       show(if (m.v.bs.getD j []).length<=2*(m.v.bs.getD (j+1) []).length then some j else Fe j m.v.bs)=_;rw[if_pos];show((m.bs.map Bt.v).getD j []).length<=2*((m.bs.map Bt.v).getD (j+1) []).length;rw[V0.o,V1.o];exact hdue
      rw[<-HQ.o];unfold Bp;rw[show m.v.un=none by unfold SpM.v;rw[HP.o];rfl,HV.o,HF.o,hf];show({ m.v with un:=some (j,((m.bs.map Bt.v).getD j []).length+((m.bs.map Bt.v).getD (j+1) []).length) },true)=_;rw[V0.o,V1.o])
     have XW:H0 (Ext w (wr.alloc (.cells #[a.p,b.p,.int .i64 ((na:Int)+(nb:Int))] 270)).drew):=j6 ((HX.o.alloc _).drew);have⟨_,k1,f1⟩:=HC.o _ XW.o;have BK:H0 (Bk (wr.alloc (.cells #[a.p,b.p,.int .i64 ((na:Int)+(nb:Int))] 270)).drew wr.heap.size 270 #[(Ci m.bs j).p,(Ci m.bs (j+1)).p,.int .i64 ((na+nb:Nat):Int)]):=j6 (by rw[HA.o,G.o,Int.natCast_add];exact(Bk.new wr _ _));have D:=j6 (HM.o.put_p XW.o BK.o HX.o.size (by rw[<-HN.o];exact hj));go_wp2_with (first
      | (go_at_call 163;refine(Nk a na _ B p1).mono ?_;rintro r w1 ⟨rfl,rfl⟩)
      | (go_at_call 163;refine(Nk b nb _ C r1).mono ?_;rintro r w1 ⟨rfl,rfl⟩)
      | fail)
     go_returns;rw[hq.o];exact⟨_,rfl,D.o.1,rfl,D.o.2⟩
    ·have J:¬(na:Int)<=((2*nb:Nat):Int):=by omega
     go_wp2_with (first
      | (go_at_call 163;refine(Nk a na _ B p1).mono ?_;rintro r w1 ⟨rfl,rfl⟩)
      | (go_at_call 163;refine(Nk b nb _ C r1).mono ?_;rintro r w1 ⟨rfl,rfl⟩)
      | fail)
     go_roundg j
     case measure=>omega
     case rel =>
      refine⟨j,rfl,by omega,by go_num,j6 ?_,d⟩;rw[HF.o];show(if (m.v.bs.getD j []).length<=2*(m.v.bs.getD (j+1) []).length then some j else Fe j m.v.bs)=_;rw[if_neg];show ¬((m.bs.map Bt.v).getD j []).length<=2*((m.bs.map Bt.v).getD (j+1) []).length;rw[V0.o,V1.o];exact hdue
def yZ(gs n:Nat)(m:SpM)(p:Pr)(R:Nat->Prop)(w:World)(hp:m.un=some p)(HM:H0 (SpR w R gs m))(hn9:n<=9223372036854775807)(hl9:p.left<=1000000000) :
  C3 161 #[.pointer (some ⟨gs,0,none⟩),.int .i64 n] w (Fi w R gs (n-min n p.left) true { m.v with un:=some (p.i,p.left-min n p.left) }):=by
 have a:=j6 (HM.o.put_left hp (p.left-min n p.left));obtain⟨pg,pi,pl⟩:=p;have c1:w.cell? ⟨gs,1,none⟩=some (.pointer (some ⟨pg,0,none⟩)):=by have:=HM.o.bk.cell 1;unfold Ov at this;rw[hp]at this;exact this
 have hu:=HM.o.b.un _ hp;have k2:w.cell? ⟨pg,2,none⟩=some (.int .i64 pl):=hu.bk.cell 2;have f2:=hu.bk.free 2;have l2:=hu.bk.lt;simp only at a l2 f2 hl9 ⊢;have⟨k,hk⟩:=tz (min n pl);rw[hk]at a ⊢;have d:k<=n:=by omega
 have c:k<=pl:=by omega
 have e:min (n:Int) (pl:Int)=(k:Int):=by omega
 have f:(if (pl:Int)<(n:Int) then (pl:Int) else (n:Int))=(k:Int):=by split<;>omega
 have g:IntKind.i64.wrap ((pl:Int)-(k:Int))=((pl-k:Nat):Int):=by rw[<-GS c];exact CU _ (by omega)
 have h:IntKind.i64.wrap ((n:Int)-(k:Int))=((n-k:Nat):Int):=by rw[<-GS d];exact CU _ (by omega)
 clear hu hk d c hn9 hl9;have hv:H0 ({ m with un:=some ⟨pg,pi,pl-k⟩:SpM }.v={ m.v with un:=some (pi,pl-k) }):=j6 rfl;go_enter func161,ntmps161;go_wp2;go_returns;exact⟨_,rfl,a.o.1,hv.o,a.o.2⟩
def Dr(s:SV):List UV:=if s.S=[] then [] else UdS.sumV (s.bs.flatten.map (Bm s.S))
def xE(x:Ext w w'):Dv w [] (.returned (.slice none 0 0)) w':=⟨none,0,[],rfl,rfl,Bu.nil _ _,rfl,x⟩
def qT{V:List UV}{e:Ending}(h:Dv w1 V e w')(x:Ext w w1):Dv w V e w':=by
 obtain⟨A,m,R,e1,e2,o,v,x2⟩:=h;exact⟨A,m,R,e1,e2,o.mono x.size,v,x.trans x2⟩
def SpR.uin{m:SpM}(h:SpR w R gs m)(x:Ext w w')(hn:n=(Dz m.bs).length)(s:Sl w' 4 A n c (Ah (Dz m.bs))):Uin w' A c (Dz m.bs):=
 ⟨hn▸s,λy hy=>by
  have⟨b,hb,hxb⟩:=DC.1 hy;exact((h.b.bt b hb).u.uin.ls y hxb).ext x⟩
def Xn{V:List UV}(gs:Nat)(m:SpM)(R:Nat->Prop)(w:World)(hV:H0 (Dr m.v=V))(HM:H0 (SpR w R gs m))(ok:H0 (rR m)) :
  C3 48 #[.pointer (some ⟨gs,0,none⟩)] w (Dv w V):=by
 have⟨nS,d⟩:=E9 m.S.length;have c:=j6 d;have HC:H0 (∀W,Ext w W->W.cell? ⟨gs,2,none⟩=some (.slice m.sA nS m.sc)):=j6 (λW x=>by have:=(HM.o.bk.ext x).cell 2;rw[d];exact this);have h:H0 (Tin w m.sA m.sc m.S):=j6 HM.o.b.sn.t.tin;have c2:=HC.o w (Ext.refl w);clear d;rcases CS nS with h0|h0
 ·subst h0;have HV:H0 (V=[]):=j6 (by rw[<-hV.o];unfold Dr;rw[if_pos];show m.S.map Tm.v=[];rw[AH c.o.symm];rfl);clear hV;go_enter func48,ntmps48;go_wp2;go_ret;rw[HV.o];exact xE (Ext.refl w)
 ·have j:¬((nS:Int)=0):=by omega
  have HV:H0 (UdS.sumV (((Dz m.bs).map Ud.uv).map (Bm (m.S.map Tm.v)))=V):=j6 (by
   rw[<-hV.o,Zi];unfold Dr;rw[if_neg]
   ·rfl
   ·intro e;have e2:=congrArg List.length e;have:=c.o;simp[SpM.v]at e2;rw[e2]at this;simp at this;omega)
  clear hV;go_enter func48,ntmps48
  go_upto_region 3 with fail
  clear c2;have X:Ext w w.drew:=(Ext.refl w).drew;have P2:∀y:Xt w.drew,y.W.cell? ⟨gs,2,none⟩=some (.slice m.sA nS m.sc):=λy=>HC.o _ (X.trans y.x);refine wro [0,1,0,4,12,28,63,127] (.flo [0,2,3,4,5] (.ext 1 (.one 6 (.flo [7] (.fin))))) ?_
  (refine Aa (pks rfl) ?_;(repeat (go_big_quiet_step (fail)));refine oq ?_)
  refine Ar (pks rfl) ?_;intro K_ i;go_wp2_with (go_at_call 159;refine(Pz gs m R _ (j6 (HM.o.ext X)) ok.o.nb ok.o.na).mono ?_;rintro r w4 ⟨A4,n4,c4,rfl,e4,o4,x4⟩;have a:=j6 e4;have g:=j6 o4;have X4:=j6 x4;clear e4 o4 x4)
  refine An.mk X4.o ?_;refine Ac (pks rfl) ?_;intro K_ i;go_wp2_with (go_at_call 18;refine(Yj A4 c4 n4 (Dz m.bs) m.sA m.sc nS m.S _ HV a (j6 (HM.o.uin (X.trans X4.o) a.o g.o.sl)) (by rw[a.o];exact ok.o.na) (j6 ok.o.ins) c (j6 ((h.o.ext X).ext X4.o)) (j6 ok.o.fl) (j6 ok.o.ft)).mono ?_;rintro r w5 f;have HR:=j6 f;obtain⟨A5,m5,R5,rfl,h5⟩:=f;clear h5)
  (refine Aa (pks rfl) ?_;(repeat (go_big_quiet_step (fail)));refine oq ?_)
  refine Ad ?_;go_wp2;go_ret;exact qT HR.o (X.trans X4.o)
end Go.Proofs.YtdgbkpoickbidaaGreatDoor
