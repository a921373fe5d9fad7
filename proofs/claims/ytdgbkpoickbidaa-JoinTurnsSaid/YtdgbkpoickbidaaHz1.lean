/- General words on worlds, slices and lists that all the walks of this seat use. Regions that draw their order: (1) all operations only read, callees at most make new memory; (2) a fixed order serves every order. stamp.each, Join, Meet: what they answer of any two times. stamp.Join: what it answers of any two times. slices.Clone at counters, SameWords: what they answer. cmp.Compare, cmp.Or, slices.Compare at counters, stamp.Cmp: what they answer. The plain law of StampOrder: times of one depth are ordered in part, with least and greatest bounds. The plain law of a stable sort. Conditions: each theorem states its own. -/
import Derived.WalkKit
import Derived.Deep.QuietTactic
import Derived.BigQuiet
import Derived.Lib.Hide
import Derived.Deep.AppendLies
import Derived.Deep.Draws
import Derived.Deep.RegionHeld3
import Derived.Deep.DrawnRows
import Derived.Deep.RegionLaw
import Derived.StillTailTactics
import Derived.WalkLawsBesides
import Derived.WalkSpells
import Derived.Outline
import Derived.Handy
import Derived.Deep.DeepCutAuto
import Derived.OrdersHeld
import Derived.Test.YtdgbkpoickbidaaChecked
namespace Go.Proofs.Ytdgbkpoickbidaa
open Go.RowKit

/-! ### worlds -/
/-- w' is w with new blocks, at most -/
def Ext (w w':World):Prop:=Below w.heap.size w w'
theorem Ext.refl (w:World):Ext w w:=Below.refl _ _
theorem Ext.size {w w':World} (h:Ext w w'):w.heap.size≤w'.heap.size:=Below.size h
theorem Ext.trans {a b c:World} (h:Ext a b) (k:Ext b c):Ext a c:=Below.trans h (Below.mono k h.size)
theorem Ext.drewN {a w:World} (h:Ext a w) (n:Nat):Ext a (w.drewN n):=h.trans ⟨rfl,rfl,rfl,Nat.le_refl _,fun _ _=>rfl⟩
theorem Ext.drew {a w:World} (h:Ext a w):Ext a w.drew:=h.trans ⟨rfl,rfl,rfl,Nat.le_refl _,fun _ _=>rfl⟩
theorem Ext.alloc {a w:World} (h:Ext a w) (o:Obj):Ext a (w.alloc o):=Below.alloc h h.size o
theorem Ext.set {a w:World} (h:Ext a w) {p:Addr} (hp:a.heap.size≤p.block) (u:Value):Ext a (w.setCell p u):=Below.setCell h hp u
theorem Ext.grown {a w w':World} {row:Option Nat} (h:Ext a w) (hg:w.grownBy w' row) (hr : ∀ k,row=some k→a.heap.size≤k):Ext a w':=Below.grown h hg h.size hr
theorem Ext.cell {w w':World} (h:Ext w w') {p:Addr} {u:Value} (hc:w.cell? p=some u):w'.cell? p=some u :=
 (Below.cell h (World.block_lt_of_cell? w p hc)).trans hc
theorem Ext.heap {w w':World} (h:Ext w w') {k:Nat} {o:Obj} (hc:w.heap[k]?=some o):w'.heap[k]?=some o :=
 (Below.block h k (Array.getElem?_eq_some_iff.1 hc).1).trans hc
theorem add_add' (a:Addr) (i j:Nat):(a.add i).add j=a.add (i+j):=by
 unfold Addr.add
 by_cases hi:i=0<;>by_cases hj:j=0<;>simp [hi,hj,Nat.add_assoc]
theorem block_add (a:Addr) (n:Nat):(a.add n).block=a.block:=by unfold Addr.add;split<;>rfl

/-! ### slices that are read -/
/-- the slice '.slice A n c' of elements of so many cells holds the cells xs -/
def Sl (w:World) (size:Nat) (A:Option Addr) (n c:Nat) (xs:List Value):Prop :=
 xs.length=n * size∧n≤c∧c≤maxLen∧(A=none→c=0)∧(0<n → ∃ ad,A=some ad ∧ ∀ j u,xs[j]?=some u→w.cell? (ad.add j)=some u)

theorem Sl.ext {w w':World} {size n c:Nat} {A:Option Addr} {xs:List Value} (h:Sl w size A n c xs) (e:Ext w w'):Sl w' size A n c xs :=
 ⟨h.1,h.2.1,h.2.2.1,h.2.2.2.1,fun hn=>by obtain ⟨ad,h1,h2⟩:=h.2.2.2.2 hn;exact ⟨ad,h1,fun j u hu=>e.cell (h2 j u hu)⟩⟩
theorem Sl.drewN {w:World} {size n c:Nat} {A:Option Addr} {xs:List Value} (h:Sl w size A n c xs) (k:Nat):Sl (w.drewN k) size A n c xs:=h
theorem Sl.drew {w:World} {size n c:Nat} {A:Option Addr} {xs:List Value} (h:Sl w size A n c xs):Sl w.drew size A n c xs:=h
theorem Sl.nil (w:World) (size:Nat):Sl w size none 0 0 []:=⟨by simp,Nat.le_refl _,Nat.zero_le _,fun _=>rfl,fun h=>absurd h (by omega)⟩
theorem Sl.le {w:World} {size n c:Nat} {A:Option Addr} {xs:List Value} (h:Sl w size A n c xs):n≤9223372036854775807:=by
 have:=h.2.1;have:=h.2.2.1;unfold maxLen at *;omega
theorem Sl.cap {w:World} {size n c:Nat} {A:Option Addr} {xs:List Value} (h:Sl w size A n c xs):n≤c∧c≤9223372036854775807:=by
 have:=h.2.1;have:=h.2.2.1;unfold maxLen at *;omega
/-- 's[:k]' -/
theorem Sl.take {w:World} {size n c k:Nat} {A:Option Addr} {xs:List Value} (h:Sl w size A n c xs) (hk:k≤n):Sl w size A k c (xs.take (k * size)):=by
 obtain ⟨h1,h2,h3,h4,h5⟩:=h
 refine ⟨?_,by omega,h3,h4,fun hn=>?_⟩
 ·rw [List.length_take,h1];exact Nat.min_eq_left (Nat.mul_le_mul_right _ hk)
 ·obtain ⟨ad,e,hc⟩:=h5 (by omega)
  refine ⟨ad,e,fun j u hu=>hc j u ?_⟩
  rw [List.getElem?_take] at hu
  split at hu
  ·exact hu
  ·cases hu
/-- 's[k:]' -/
theorem Sl.drop {w:World} {size n c k:Nat} {A:Option Addr} {xs:List Value} (h:Sl w size A n c xs) (hk:k≤n) :
  Sl w size (if c=k then A else A.map (·.add (k * size))) (n - k) (c - k) (xs.drop (k * size)):=by
 obtain ⟨h1,h2,h3,h4,h5⟩:=h
 refine ⟨by rw [List.length_drop,h1,Nat.sub_mul],by omega,by omega,fun hA=>?_,fun hn=>?_⟩
 ·split at hA
  ·omega
  ·cases A with
   | none=>have:=h4 rfl;omega
   | some a=>simp at hA
 ·obtain ⟨ad,e,hc⟩:=h5 (by omega)
  subst e
  rw [if_neg (by omega)]
  refine ⟨_,rfl,fun j u hu=>?_⟩
  rw [add_add']
  exact hc _ u (by rw [← hu,List.getElem?_drop])

/-! ### slices that the call itself has made -/
/-- the slice '.slice A n c' (elements of type e, so many cells each) owns the cells xs: it has no room at all, or lies at the head of a block from 'base' on -/
def Own (w:World) (base:Nat) (e:TypeId) (size:Nat) (A:Option Addr) (n c:Nat) (xs:List Value):Prop :=
 xs.length=n * size ∧
 ((c=0∧n=0) ∨
  ∃ g cur,A=some ⟨g,0,none⟩∧base≤g∧w.heap[g]?=some (.cells cur e (0,0))∧n≤c∧c≤maxLen∧c * size≤cur.size∧cur.toList.take (n * size)=xs)
/-- the block that may be written through it -/
def blk:Option Addr→Nat→Option Nat
 | some a,_+1=>some a.block
 | _,_=>none
theorem blk_zero (A:Option Addr):blk A 0=none:=by cases A<;>rfl

theorem Own.nil (w:World) (base:Nat) (e:TypeId) (size:Nat):Own w base e size none 0 0 []:=⟨by simp, .inl ⟨rfl,rfl⟩⟩
theorem Own.empty (w:World) (base:Nat) (e:TypeId) (size:Nat) (A:Option Addr):Own w base e size A 0 0 []:=⟨by simp, .inl ⟨rfl,rfl⟩⟩
section
variable {w w':World} {base base':Nat} {e:TypeId} {size:Nat} {A:Option Addr} {n c:Nat} {xs:List Value}
theorem Own.le (h:Own w base e size A n c xs):n≤c∧c≤9223372036854775807:=by
 rcases h.2 with ⟨h1,h2⟩ | ⟨g,cur,_,_,_,h1,h2,_⟩
 ·omega
 ·unfold maxLen at h2;omega
theorem Own.mono (h:Own w base e size A n c xs) (hb:base'≤base):Own w base' e size A n c xs:=by
 refine ⟨h.1,?_⟩
 rcases h.2 with h2 | ⟨g,cur,hv,hg,r⟩
 ·exact .inl h2
 ·exact .inr ⟨g,cur,hv,by omega,r⟩
theorem Own.lt (h:Own w base e size A n c xs) : ∀ k,blk A c=some k→base≤k∧k<w.heap.size:=by
 intro k hk
 rcases h.2 with ⟨rfl,_⟩ | ⟨g,cur,rfl,hb,hg,_⟩
 ·simp [blk_zero] at hk
 ·cases c with
  | zero=>simp [blk] at hk
  | succ c =>
   simp [blk] at hk
   subst hk
   exact ⟨hb,(Array.getElem?_eq_some_iff.1 hg).1⟩
/-- it shares no block with what lies below its base -/
theorem Own.ne (h:Own w base e size A n c xs) {k:Nat} (hk:k<base):blk A c≠some k:=fun e=>by have:=(h.lt k e).1;omega
theorem Own.kept {row:Option Nat} (h:Own w base e size A n c xs) (hg:w.grownBy w' row) (hne:blk A c=none∨blk A c≠row):Own w' base e size A n c xs:=by
 refine ⟨h.1,?_⟩
 rcases h.2 with hn | ⟨g,cur,rfl,hb,hgg,rest⟩
 ·exact .inl hn
 ·cases c with
  | zero =>
   obtain ⟨h1,_⟩:=rest
   exact .inl ⟨rfl,by omega⟩
  | succ c =>
   refine .inr ⟨g,cur,rfl,hb,?_,rest⟩
   rw [hg.block g (Array.getElem?_eq_some_iff.1 hgg).1 (by simpa [blk] using hne)]
   exact hgg
theorem Own.ext (h:Own w base e size A n c xs) (x:Ext w w'):Own w' base e size A n c xs:=by
 refine ⟨h.1,?_⟩
 rcases h.2 with hn | ⟨g,cur,rfl,hb,hgg,rest⟩
 ·exact .inl hn
 ·exact .inr ⟨g,cur,rfl,hb,x.heap hgg,rest⟩
theorem Own.drewN (h:Own w base e size A n c xs) (k:Nat):Own (w.drewN k) base e size A n c xs:=h
theorem Own.drew (h:Own w base e size A n c xs):Own w.drew base e size A n c xs:=h
theorem Own.alloc (h:Own w base e size A n c xs) (o:Obj):Own (w.alloc o) base e size A n c xs:=h.ext ((Ext.refl w).alloc o)
/-- a store elsewhere -/
theorem Own.far (h:Own w base e size A n c xs) {p:Addr} (hp:blk A c≠some p.block) (u:Value):Own (w.setCell p u) base e size A n c xs:=by
 refine ⟨h.1,?_⟩
 rcases h.2 with hn | ⟨g,cur,rfl,hb,hgg,rest⟩
 ·exact .inl hn
 ·cases c with
  | zero =>
   obtain ⟨h1,_⟩:=rest
   exact .inl ⟨rfl,by omega⟩
  | succ c =>
   refine .inr ⟨g,cur,rfl,hb,?_,rest⟩
   rw [Below.heap_setCell _ _ _ _ (by intro e;exact hp (by simp [blk,e]))]
   exact hgg
/-- it is read as any slice -/
theorem Own.sl (h:Own w base e size A n c xs):Sl w size A n c xs:=by
 obtain ⟨h1,h2⟩:=h
 rcases h2 with ⟨rfl,rfl⟩ | ⟨g,cur,rfl,hb,hg,hnc,hcm,hcs,htake⟩
 ·have:xs=[]:=List.eq_nil_of_length_eq_zero (by simpa using h1)
  subst this
  exact ⟨by simp,Nat.le_refl _,Nat.zero_le _,fun _=>rfl,fun h=>absurd h (by omega)⟩
 ·refine ⟨h1,hnc,hcm,(fun h=>nomatch h),fun _=>⟨_,rfl,fun j u hu=>?_⟩⟩
  have hadd:(⟨g,0,none⟩:Addr).add j=⟨g,j,none⟩:=by unfold Addr.add;split<;>simp_all
  rw [hadd,cell_of_row w g j cur e (0,0) hg]
  rw [← htake,List.getElem?_take] at hu
  split at hu
  ·simpa using hu
  ·cases hu
end

/-- the cells of a block's head -/
theorem head_cells {w:World} {g k:Nat} {cur:Array Value} {e:TypeId} {xs:List Value} (hg:w.heap[g]?=some (.cells cur e (0,0))) (ht:cur.toList.take k=xs) (j:Nat) (u:Value) (hu:xs[j]?=some u):w.cell? ((⟨g,0,none⟩:Addr).add j)=some u:=by
 have hadd:(⟨g,0,none⟩:Addr).add j=⟨g,j,none⟩:=by unfold Addr.add;split<;>simp_all
 rw [hadd,cell_of_row w g j cur e (0,0) hg]
 rw [← ht,List.getElem?_take] at hu
 split at hu
 ·simpa using hu
 ·cases hu
theorem Own.form {w:World} {base:Nat} {e:TypeId} {size:Nat} {A:Option Addr} {n c:Nat} {xs:List Value} (h:Own w base e size A n c xs) (hn:0<n) :
  ∃ g,A=some ⟨g,0,none⟩∧blk A c=some g∧base≤g∧g<w.heap.size∧(∀ j u,xs[j]?=some u→w.cell? ⟨g,j,none⟩=some u) ∧ ∀ j,w.frozen? ⟨g,j,none⟩=false:=by
 obtain ⟨h1,h2⟩:=h
 rcases h2 with ⟨rfl,rfl⟩ | ⟨g,cur,rfl,hb,hg,hnc,hcm,hcs,htake⟩
 ·omega
 ·obtain ⟨c,rfl⟩ : ∃ k,c=k+1:=⟨c - 1,by omega⟩
  refine ⟨g,rfl,rfl,hb,(Array.getElem?_eq_some_iff.1 hg).1,fun j u hu=>?_,fun j=>by simp [World.frozen?,hg]⟩
  rw [cell_of_row w g j cur e (0,0) hg]
  rw [← htake,List.getElem?_take] at hu
  split at hu
  ·simpa using hu
  ·cases hu
theorem Own.put {w:World} {base:Nat} {e:TypeId} {size g n c:Nat} {xs:List Value} (h:Own w base e size (some ⟨g,0,none⟩) n c xs) (k:Nat) (u:Value):Own (w.setCell ⟨g,k,none⟩ u) base e size (some ⟨g,0,none⟩) n c (xs.set k u):=by
 obtain ⟨h1,h2⟩:=h
 refine ⟨by simpa using h1,?_⟩
 rcases h2 with h2 | ⟨g',cur,e',hb,hg,hnc,hcm,hcs,htake⟩
 ·exact .inl h2
 ·cases e'
  refine .inr ⟨g,cur.setIfInBounds k u,rfl,hb,?_,hnc,hcm,by simpa using hcs,?_⟩
  ·simp [World.setCell,Array.getElem?_modify,hg]
  ·rw [Array.toList_setIfInBounds, ← htake,List.take_set]

/-! ### blocks that are known whole -/
def Bk (w:World) (g:Nat) (t:TypeId) (cs:Array Value):Prop:=w.heap[g]?=some (.cells cs t (0,0))
theorem Bk.lt {w:World} {g:Nat} {t:TypeId} {cs:Array Value} (h:Bk w g t cs):g<w.heap.size:=(Array.getElem?_eq_some_iff.1 h).1
theorem Bk.cell {w:World} {g:Nat} {t:TypeId} {cs:Array Value} (h:Bk w g t cs) (i:Nat):w.cell? ⟨g,i,none⟩=cs[i]?:=cell_of_row w g i cs t (0,0) h
theorem Bk.free {w:World} {g:Nat} {t:TypeId} {cs:Array Value} (h:Bk w g t cs) (i:Nat):w.frozen? ⟨g,i,none⟩=false:=by
 unfold Bk at h
 simp [World.frozen?,h]
theorem Bk.new (w:World) (t:TypeId) (cs:Array Value):Bk (w.alloc (.cells cs t)) w.heap.size t cs:=heap_alloc_new w _
theorem Bk.at {w:World} {g:Nat} {t:TypeId} {cs:Array Value} (hg:g=w.heap.size):Bk (w.alloc (.cells cs t)) g t cs:=hg ▸ heap_alloc_new w _
theorem Bk.drewN {w:World} {g:Nat} {t:TypeId} {cs:Array Value} (h:Bk w g t cs) (n:Nat):Bk (w.drewN n) g t cs:=h
theorem Bk.drew {w:World} {g:Nat} {t:TypeId} {cs:Array Value} (h:Bk w g t cs):Bk w.drew g t cs:=h
theorem Bk.alloc {w:World} {g:Nat} {t:TypeId} {cs:Array Value} (h:Bk w g t cs) (o:Obj):Bk (w.alloc o) g t cs:=(Below.heap_alloc w o g h.lt).trans h
theorem Bk.set {w:World} {g:Nat} {t:TypeId} {cs:Array Value} (h:Bk w g t cs) (i:Nat) (u:Value):Bk (w.setCell ⟨g,i,none⟩ u) g t (cs.setIfInBounds i u):=by
 unfold Bk at h ⊢
 simp [World.setCell,Array.getElem?_modify,h]
theorem Bk.far {w:World} {g:Nat} {t:TypeId} {cs:Array Value} (h:Bk w g t cs) {p:Addr} (hp:g≠p.block) (u:Value):Bk (w.setCell p u) g t cs:=(Below.heap_setCell w p u g hp).trans h
theorem Bk.ext {w w':World} {g:Nat} {t:TypeId} {cs:Array Value} (h:Bk w g t cs) (x:Ext w w'):Bk w' g t cs:=x.heap h
theorem Bk.below {w w':World} {B g:Nat} {t:TypeId} {cs:Array Value} (h:Bk w g t cs) (hb:Below B w w') (hg:g<B):Bk w' g t cs:=(hb.block g hg).trans h
theorem Bk.grown {w w':World} {g:Nat} {t:TypeId} {cs:Array Value} {row:Option Nat} (h:Bk w g t cs) (hb:w.grownBy w' row) (hg:row≠some g):Bk w' g t cs:=(hb.block g h.lt (Ne.symm hg)).trans h
theorem cell_below {w w':World} {B:Nat} (hb:Below B w w') {p:Addr} {u:Value} (hc:w.cell? p=some u) (hp:p.block<B):w'.cell? p=some u:=(hb.cell hp).trans hc
/-- a struct of two cells that is stored -/
theorem Bk.set2 {w:World} {g:Nat} {t:TypeId} {a b:Value} (h:Bk w g t #[a,b]) (u v:Value) :
  ((w.setCell ⟨g,0,none⟩ u).setCell ⟨g,1,none⟩ v).cell? ⟨g,0,none⟩=some u∧((w.setCell ⟨g,0,none⟩ u).setCell ⟨g,1,none⟩ v).cell? ⟨g,1,none⟩=some v:=by
 have bb:=(h.set 0 u).set 1 v
 exact ⟨bb.cell 0,bb.cell 1⟩
/-! ### append -/
/-- what the table of types says of a slice type t with elements e -/
structure Elem (P:Program) (t e size bytes:Nat) (z:Value):Prop where
 under:P.underlying t=some (.slice e)
 info:(P.info? e).map (fun i=>(i.zero,i.size,i.bytes))=some (some z,size,bytes)
 zsize:z.cells.size=size
 pos:0<size

theorem run_append_nothing {P:Program} (w:World) {t ty e size bytes:Nat} {z:Value} (E:Elem P t e size bytes z) (A:Option Addr) (n c:Nat) (hn:n≤c) (B:Option Addr) (c':Nat) :
  (Builtin.append_ #[t,t] ty #[.slice A n c, .slice B 0 c']).run P w = .ok (.slice A n c) w:=by
 obtain ⟨i,hi,hz,hs,hb⟩:=info_parts E.info
 cases A<;>cases B<;>simp [Builtin.append_,run_underlying E.under,sizeOf,typeInfo,hi,Builtin.lenOf,Builtin.firstCells,hn,storeCells,loadCells,loadCellsFrom]

theorem run_append_gen {P:Program} (w:World) {t ty e size bytes:Nat} {z:Value} (E:Elem P t e size bytes z) (base:Nat)
  (A0:Option Addr) (n c0:Nat) (xs:List Value) (hown:Own w base e size A0 n c0 xs)
  (A:Option Addr) (m c:Nat) (news:List Value) (hr:Sl w size A m c news) (h1 : ∀ u∈news,u.oneCell'=true)
  (hbytes:(n+m) * bytes≤140737488355328) (hb1:0<bytes) (hbase:base≤w.heap.size) :
  ∃ A' c' w',(Builtin.append_ #[t,t] ty #[.slice A0 n c0, .slice A m c]).run P w = .ok (.slice A' (n+m) c') w'∧Own w' base e size A' (n+m) c' (xs++news)∧w.grownBy w' (blk A0 c0) ∧
   (blk A' c'=blk A0 c0∨blk A' c'=some w.heap.size):=by
 obtain ⟨i,hi,hz,hs,hby⟩:=info_parts E.info
 have h63:n+m≤maxLen:=by
  have:n+m≤(n+m) * bytes:=Nat.le_mul_of_pos_right _ hb1
  unfold maxLen;omega
 rcases Nat.eq_zero_or_pos m with hm | hm
 ·subst hm
  have hnews:news=[]:=List.eq_nil_of_length_eq_zero (by simpa using hr.1)
  subst hnews
  exact ⟨_,_,w,run_append_nothing w E A0 n c0 hown.le.1 A c,by simpa using hown,World.grownBy.refl w _, .inl rfl⟩
 ·obtain ⟨ad,rfl,hcells⟩:=hr.2.2.2.2 hm
  rcases hown.2 with ⟨rfl,rfl⟩ | ⟨g,cur,rfl,hb,hg,hnc,hcm,hcs,htake⟩
  ·have hx:xs=[]:=List.eq_nil_of_length_eq_zero (by simpa using hown.1)
   subst hx
   have hge:=grownCap_ge w (0+m) 0 e
   have hcm:grownCap w (0+m) 0 e≤maxLen:=grownCap_le_maxLen w (0+m) 0 e h63
   obtain ⟨kk,hk⟩ : ∃ k,grownCap w (0+m) 0 e=k+1:=⟨_,(Nat.succ_pred_eq_of_pos (by omega)).symm⟩
   have hfin:Own (w.drew.alloc (.cells ((#[]:Array Value)++news.toArray++Builtin.zeroCells z.cells (grownCap w (0+m) 0 e - (0+m))) e)) base e size (some ⟨w.heap.size,0,none⟩) (0+m) (grownCap w (0+m) 0 e) ([]++news):=by
    refine ⟨by simpa using hr.1, .inr ⟨w.heap.size,_,rfl,hbase,heap_alloc_new w.drew _,hge,hcm,?_,?_⟩⟩
    ·refine Nat.le_of_eq (Eq.symm ?_)
     simp only [Array.size_append,List.size_toArray,size_zeroCells,E.zsize,hr.1,List.length_nil,Nat.zero_add, ← Nat.add_mul]
     congr 1
     simp only [Nat.zero_add] at hge
     omega
    ·have hlen:([]++news).length=(0+m) * size:=by simpa using hr.1
     simp only [Array.toList_append,List.append_assoc]
     rw [← List.append_assoc, ← hlen]
     exact List.take_left
   cases A0 with
   | none =>
    have hr2:=run_append_nil (P:=P) w t ty e i z E.under hi hz ad m c news (by rw [hs];exact hr.1) hcells hm (by unfold maxLen at h63;omega) (by rw [hby];simp only [Nat.zero_add] at hbytes;omega)
    simp only [Nat.zero_add,List.nil_append,Array.empty_append] at hfin hk ⊢
    refine ⟨_,_,_,hr2,hfin,⟨rfl,rfl,rfl,by simp,fun k hk _=>Below.heap_alloc w.drew _ k hk⟩, .inr ?_⟩
    rw [hk];rfl
   | some b =>
    have hr2:=run_append_grow (P:=P) w t ty e i z E.under hi hz b 0 0 [] (by simp) (by simp) ad m c news (by rw [hs];exact hr.1) hcells (by omega) (by unfold maxLen at h63;omega) (by rw [hby];exact growslice_fits (by omega) hbytes)
    refine ⟨_,_,_,hr2,hfin,⟨rfl,rfl,rfl,by simp,fun k hk _=>Below.heap_alloc w.drew _ k hk⟩, .inr ?_⟩
    rw [hk];rfl
  ·have hlen:(xs++news).length=(n+m) * size:=by rw [List.length_append,hown.1,hr.1,Nat.add_mul]
   by_cases hroom:n+m≤c0
   ·have hfit:n * i.size+news.length≤cur.size:=by rw [hr.1,hs, ← Nat.add_mul];exact Nat.le_trans (Nat.mul_le_mul_right _ hroom) hcs
    have hr2:=run_append_room (P:=P) w t ty e i E.under hi g n c0 cur hg ad m c news (by rw [hs];exact hr.1) hcells h1 hroom hfit
    refine ⟨_,_,_,hr2,⟨hlen, .inr ⟨g,_,rfl,hb,setRow_heap w g cur _ e _ hg,hroom,hcm,?_,?_⟩⟩,⟨rfl,rfl,rfl,by simp,fun k _ hk=>setRow_other w g k _ (fun e'=>hk (by
     obtain ⟨c1,rfl⟩ : ∃ c1,c0=c1+1:=⟨c0 - 1,by omega⟩
     simp [blk,e']))⟩, .inl rfl⟩
    ·simp only [List.size_toArray,List.length_append,List.length_take,List.length_drop,Array.length_toList]
     omega
    ·rw [hs,htake, ← hlen]
     exact List.take_left
   ·have holds : ∀ j u,xs[j]?=some u→w.cell? ((⟨g,0,none⟩:Addr).add j)=some u:=head_cells hg htake
    have hr2:=run_append_grow (P:=P) w t ty e i z E.under hi hz ⟨g,0,none⟩ n c0 xs (by rw [hs];exact hown.1) holds ad m c news (by rw [hs];exact hr.1) hcells (by omega) (by unfold maxLen at h63;omega) (by rw [hby];exact growslice_fits (by omega) hbytes)
    have hge:=grownCap_ge w (n+m) c0 e
    have hcm:grownCap w (n+m) c0 e≤maxLen:=grownCap_le_maxLen w (n+m) c0 e h63
    refine ⟨_,_,_,hr2,⟨hlen, .inr ⟨w.heap.size,_,rfl,hbase,heap_alloc_new w.drew _,hge,hcm,?_,?_⟩⟩,⟨rfl,rfl,rfl,by simp,fun k hk _=>Below.heap_alloc w.drew _ k hk⟩, .inr ?_⟩
    ·refine Nat.le_of_eq (Eq.symm ?_)
     simp only [Array.size_append,List.size_toArray,size_zeroCells,E.zsize,hr.1,hown.1, ← Nat.add_mul]
     congr 1
     omega
    ·simp only [Array.toList_append,List.append_assoc]
     rw [← List.append_assoc, ← hlen]
     exact List.take_left
    ·obtain ⟨kk,hk⟩ : ∃ k,grownCap w (n+m) c0 e=k+1:=⟨_,(Nat.succ_pred_eq_of_pos (by omega)).symm⟩
     rw [hk];rfl

theorem wp_append_gen {P:Program} (w:World) {o:Oper} {a:Act} {K:Act→World→Prop} {Q:Exit→Act→World→Prop} {t e size bytes:Nat} {z:Value} (E:Elem P t e size bytes z) (base:Nat) (s x:Operand)
  (ho:o.op = .call { callee := .builtin .append,args := #[s,x],argTypes := #[t,t] })
  (A0:Option Addr) (n c0:Nat) (xs:List Value) (hs:a.eval s = .slice A0 n c0) (hown:Own w base e size A0 n c0 xs)
  (A:Option Addr) (m c:Nat) (news:List Value) (hx:a.eval x = .slice A m c) (hr:Sl w size A m c news) (h1 : ∀ u∈news,u.oneCell'=true)
  (hbytes:(n+m) * bytes≤140737488355328) (hb1:0<bytes) (hbase:base≤w.heap.size)
  (h : ∀ A' c' w',Own w' base e size A' (n+m) c' (xs++news)→w.grownBy w' (blk A0 c0)→(blk A' c'=blk A0 c0∨blk A' c'=some w.heap.size)→K (a.put o.dst (.slice A' (n+m) c')) w'):o.wp P a w K Q:=by
 obtain ⟨A',c',w',hrun,h2,h3,h4⟩:=run_append_gen (P:=P) (ty:=o.type) w E base A0 n c0 xs hown A m c news hr h1 hbytes hb1 hbase
 unfold Oper.wp execOp
 simp only [ho,resolve,invoke,builtin,Sem.run_bind,Sem.run_pure,Result.andThen_ok,List.map_toArray,List.map_cons,List.map_nil,hs,hx,hrun]
 exact h A' c' w' h2 h3 h4

/-- append, in a plain region -/
theorem wpList_append_gen {P:Program} (w:World) {ops:Array Oper} {rest:List Oper} {o:Oper} {a:Act} {Q:Exit→Act→World→Prop} {t e size bytes:Nat} {z:Value} (E:Elem P t e size bytes z) (base:Nat) (s x:Operand)
  (ho:o.op = .call { callee := .builtin .append,args := #[s,x],argTypes := #[t,t] }) (hgd:o.guard=none)
  (A0:Option Addr) (n c0:Nat) (xs:List Value) (hs:a.eval s = .slice A0 n c0) (hown:Own w base e size A0 n c0 xs)
  (A:Option Addr) (m c:Nat) (news:List Value) (hx:a.eval x = .slice A m c) (hr:Sl w size A m c news) (h1 : ∀ u∈news,u.oneCell'=true)
  (hbytes:(n+m) * bytes≤140737488355328) (hb1:0<bytes) (hbase:base≤w.heap.size)
  (h : ∀ A' c' w',Own w' base e size A' (n+m) c' (xs++news)→w.grownBy w' (blk A0 c0)→(blk A' c'=blk A0 c0∨blk A' c'=some w.heap.size)→wpList P ops Q rest (a.put o.dst (.slice A' (n+m) c')) w'):wpList P ops Q (o :: rest) a w :=
 wpList_plain hgd fun _ hK=>wp_append_gen w E base s x ho A0 n c0 xs hs hown A m c news hx hr h1 hbytes hb1 hbase fun A' c' w' h2 h3 h4=>hK _ _ (h A' c' w' h2 h3 h4)

/-- a block just made, read as a slice of one element -/
theorem Sl.one (w:World) (cs:Array Value) (t:TypeId) (size:Nat) (hs:cs.size=size):Sl (w.alloc (.cells cs t)) size (some ⟨w.heap.size,0,none⟩) 1 1 cs.toList:=by
 refine ⟨by simp [hs],Nat.le_refl _,by unfold maxLen;omega,(fun h=>nomatch h),fun _=>⟨_,rfl,fun j u hu=>?_⟩⟩
 have hadd:(⟨w.heap.size,0,none⟩:Addr).add j=⟨w.heap.size,j,none⟩:=by unfold Addr.add;split<;>simp_all
 rw [hadd,cell_of_row _ w.heap.size j cs t (0,0) (heap_alloc_new w _)]
 simpa using hu

/-! ### ends -/
theorem ret_bool {a b:Bool} (h:a=b):Ending.returned (.bool a)=Ending.returned (.bool b):=by rw [h]
theorem ret_int {k:IntKind} {a b:Int} (h:a=b):Ending.returned (.int k a)=Ending.returned (.int k b):=by rw [h]

/-! ### lists of numbers -/
def U32 (l:List Int):Prop := ∀ x∈l,0≤x∧x≤4294967295
def wds (l:List Int):List Value:=l.map (Value.int .u32)
theorem wds_one (l:List Int) : ∀ u∈wds l,u.oneCell'=true:=by
 intro u hu
 obtain ⟨x,_,rfl⟩:=List.mem_map.1 hu
 rfl
theorem wds_append (a b:List Int):wds a++wds b=wds (a++b):=by simp [wds]
theorem Sl.wlen {w:World} {n c:Nat} {A:Option Addr} {l:List Int} (h:Sl w 1 A n c (wds l)):l.length=n:=by simpa [wds] using h.1
theorem Sl.word {w:World} {n c:Nat} {A:Option Addr} {l:List Int} (h:Sl w 1 A n c (wds l)) {k:Nat} (hk:k<n) :
  ∃ ad,A=some ad∧w.cell? (ad.add k)=some (.int .u32 (l.getD k 0))∧ad.block<w.heap.size:=by
 obtain ⟨ad,h1,h2⟩:=h.2.2.2.2 (by omega)
 have hl:=h.wlen
 have hc:=h2 k (.int .u32 (l.getD k 0)) ?_
 ·exact ⟨ad,h1,hc,by simpa [block_add] using World.block_lt_of_cell? w _ hc⟩
 simp [wds,List.getElem?_map,List.getD_eq_getElem?_getD,List.getElem?_eq_getElem (show k<l.length by omega)]
theorem U32.getD {l:List Int} (h:U32 l) (k:Nat):0≤l.getD k 0∧l.getD k 0≤4294967295:=by
 rw [List.getD_eq_getElem?_getD]
 by_cases hk:k<l.length
 ·rw [List.getElem?_eq_getElem hk];exact h _ (List.getElem_mem hk)
 ·rw [List.getElem?_eq_none (by omega)];simp
theorem U32.at {l:List Int} (h:U32 l) (k:Nat):0≤l[k]?.getD 0∧l[k]?.getD 0≤4294967295:=by
 have:=h.getD k
 rwa [List.getD_eq_getElem?_getD] at this
theorem take_succ_getD (l:List Int) (k:Nat) (h:k<l.length):l.take (k+1)=l.take k++[l.getD k 0]:=by
 rw [List.take_succ_eq_append_getElem h,List.getD_eq_getElem?_getD,List.getElem?_eq_getElem h];rfl

open Go.RowKit
/-- the worlds that have grown out of w -/
structure Xt (w:World) where
 W:World
 x:Ext w W

instance Xt.any (w:World):Nonempty (Xt w):=⟨⟨w,Ext.refl w⟩⟩

/-! ### a fixed order -/
/-- operations that yield a value and do nothing else -/
def isFlo:Op→Bool
 | .move _ | .assign _ | .pick .. | .build .. | .load .. | .nilCheck _ | .binOp .. | .unOp .. | .convert .. | .slice .. | .fieldAddr .. | .field .. | .indexAddr .. | .index .. | .lookup .. | .extract .. | .makeInterface .. | .makeFunc .. => true
 | .call { callee := .builtin .len, .. } | .call { callee := .builtin .cap, .. } | .call { callee := .builtin .min, .. } | .call { callee := .builtin .max, .. }=>true
 | _=>false

theorem value_of_bind {P:Program} {s:Sem Value} {w w':World} {r:Next} (h:(do let x ← s;pure (Next.value x):Sem Next).run P w = .ok r w') : ∃ v,r = .value v:=by
 simp only [Sem.run_bind] at h
 cases hs:s.run P w with
 | ok v w1=>rw [hs] at h;simp only [Result.andThen_ok,Sem.run_pure,Result.ok.injEq] at h;exact ⟨v,h.1.symm⟩
 | halt x w1=>rw [hs] at h;simp [Result.andThen] at h

theorem flo_value {P:Program} {o:Oper} (ho:isFlo o.op=true) {ρ:Operand→Value} {w w':World} {r:Next} (h:(execOp ρ o).run P w = .ok r w') : ∃ v,r = .value v:=by
 obtain ⟨dst,op,type,pos,after,guard⟩:=o
 cases op with
 | move x=>simp only [execOp,Sem.run_pure,Result.ok.injEq] at h;exact ⟨_,h.1.symm⟩
 | assign x=>simp only [execOp,Sem.run_pure,Result.ok.injEq] at h;exact ⟨_,h.1.symm⟩
 | pick c x y =>
  simp only [execOp,Sem.run_bind] at h
  cases hs:(asBool (ρ c)).run P w with
  | ok v w1=>rw [hs] at h;simp only [Result.andThen_ok,Sem.run_pure,Result.ok.injEq] at h;exact ⟨_,h.1.symm⟩
  | halt x w1=>rw [hs] at h;simp [Result.andThen] at h
 | nilCheck x =>
  simp only [execOp] at h
  have key : ∀ v:Value,(pure (Next.value v):Sem Next).run P w = .ok r w' → ∃ v,r = .value v:=fun v hh=>by
   simp only [Sem.run_pure,Result.ok.injEq] at hh;exact ⟨_,hh.1.symm⟩
  have bad:(runtimePanic RuntimeError.nilDeref:Sem Next).run P w = .ok r w' → ∃ v,r = .value v:=fun hh=>by
   simp [runtimePanic] at hh
  split at h
  ·exact bad h
  ·exact bad h
  ·exact bad h
  ·split at h
   ·exact bad h
   ·simp only [Sem.run_bind] at h
    cases h1:(Sem.run P program w) with
    | halt x w1=>rw [h1] at h;simp [Result.andThen] at h
    | ok p w1 =>
     rw [h1] at h
     simp only [Result.andThen_ok] at h
     cases hh:(nilAhead (p.types.size+Made.depth) _ _ _).run P w1 with
     | halt x w2=>rw [hh] at h;simp [Result.andThen] at h
     | ok b w2 =>
      rw [hh] at h
      simp only [Result.andThen_ok] at h
      split at h
      ·simp [unsupported,Result.andThen] at h
      ·simp only [Sem.run_pure,Result.ok.injEq] at h;exact ⟨_,h.1.symm⟩
   ·exact key _ h
  ·exact key _ h
 | build t parts=>exact value_of_bind h
 | load t x=>exact value_of_bind h
 | binOp op t x y u=>exact value_of_bind h
 | unOp op t x=>exact value_of_bind h
 | convert s d x=>exact value_of_bind h
 | slice t x lo hi mx=>exact value_of_bind h
 | fieldAddr s x f=>exact value_of_bind h
 | field t x f=>exact value_of_bind h
 | indexAddr t x i=>exact value_of_bind h
 | index t x i=>exact value_of_bind h
 | lookup t x i ok=>exact value_of_bind h
 | extract t i=>exact value_of_bind h
 | makeInterface t x=>exact value_of_bind h
 | makeFunc f a b=>exact value_of_bind h
 | call c =>
  obtain ⟨callee,args,ats⟩:=c
  cases callee with
  | builtin b =>
   have e:execOp ρ { dst,op := .call { callee := .builtin b,args,argTypes:=ats },type,pos,after,guard }=builtin b ats type (args.map fun | .const _=>true | _=>false) (args.map ρ):=rfl
   rw [e] at h
   cases b<;>first | exact value_of_bind h | (simp [isFlo] at ho)
  | value f=>simp [isFlo] at ho
  | invoke r m=>simp [isFlo] at ho
 | _=>simp [isFlo] at ho

section
variable {P:Program} {ops:Array Oper} {Q:Exit→Act→World→Prop} {bs:Array Nat}

/-- operation i comes ahead of operation j in every order -/
def ancB (ops:Array Oper) (bs:Array Nat) (i j:Nat):Bool:=decide (i<ops.size)&&(bs.getD j 0).testBit i
def ancOkB (ops:Array Oper) (bs:Array Nat):Bool :=
 (List.range ops.size).all fun j=>(List.range ops.size).all fun i => !ancB ops bs i j ||
  match ops[j]? with
  | some o=>o.after.toList.any fun e=>Region.binds .any e&&(e.on==i||ancB ops bs i e.on)
  | none=>false
theorem ancOk_spec (h:ancOkB ops bs=true) {i j:Nat} (hij:ancB ops bs i j=true) {o:Oper} (ho:ops[j]?=some o) :
  ∃ e∈o.after,Region.binds .any e=true∧(e.on=i∨ancB ops bs i e.on=true):=by
 have hj:j<ops.size:=(Array.getElem?_eq_some_iff.1 ho).1
 have hi:i<ops.size:=by
  unfold ancB at hij
  simp only [Bool.and_eq_true,decide_eq_true_eq] at hij
  exact hij.1
 unfold ancOkB at h
 have h1:=List.all_eq_true.1 (List.all_eq_true.1 h j (List.mem_range.2 hj)) i (List.mem_range.2 hi)
 rw [hij,ho] at h1
 simp only [Bool.not_true,Bool.false_or,List.any_eq_true,Bool.and_eq_true,Bool.or_eq_true,beq_iff_eq] at h1
 obtain ⟨e,he,hb,hh⟩:=h1
 exact ⟨e,Array.mem_toList_iff.1 he,hb,hh⟩

def Closed (ops:Array Oper) (bs:Array Nat) (listed:Array Bool):Prop := ∀ j,listed.getD j false=true → ∀ i,ancB ops bs i j=true→listed.getD i false=true

theorem ready_anc (hok:ancOkB ops bs=true) {listed:Array Bool} (hc:Closed ops bs listed) {j i:Nat} (hj:j∈Region.ready .any ops listed) (hij:ancB ops bs i j=true):listed.getD i false=true:=by
 obtain ⟨_,o,ho,hall⟩:=mem_ready.1 hj
 obtain ⟨e,he,hb,hh⟩:=ancOk_spec hok hij ho
 have h1:=hall e he hb
 rcases hh with rfl | hh
 ·exact h1
 ·exact hc _ h1 _ hh

theorem Closed.add (hok:ancOkB ops bs=true) {listed:Array Bool} (hc:Closed ops bs listed) {j:Nat} (hj:j∈Region.ready .any ops listed):Closed ops bs (listed.setIfInBounds j true):=by
 intro k hk i hik
 by_cases hjk:j=k
 ·subst hjk
  exact getD_set_true (ready_anc hok hc hj hik)
 ·rw [getD_set_ne false hjk] at hk
  exact getD_set_true (hc k hk i hik)

/-- whatever order is picked from here on, and operations of the set X at most make new memory -/
def wpX (P:Program) (ops:Array Oper) (Q:Exit→Act→World→Prop) (X:Nat→Bool):Nat→Array Bool→Act→World→Prop
 | 0,listed,a,w=>Region.ready .any ops listed=[]∧Q .normal a w
 | fuel+1,listed,a,w =>
  (Region.ready .any ops listed=[]→Q .normal a w) ∧
  ∀ i∈Region.ready .any ops listed,wpOp P ops Q i (fun a' w'=>(X i=true→Ext w w')∧wpX P ops Q X fuel (listed.setIfInBounds i true) a' w') a w

theorem wpAny_of_X {X:Nat→Bool} : ∀ (fuel:Nat) (listed:Array Bool) (a:Act) (w:World),wpX P ops Q X fuel listed a w→wpAny P .any ops Q fuel listed a w
 | 0,_,_,_,h=>h
 | fuel+1,_,_,_,h=>⟨h.1,fun i hi=>wpOp_mono (fun a' w' h'=>wpAny_of_X fuel _ a' w' h'.2) (h.2 i hi)⟩

theorem wpX_done {X:Nat→Bool} {listed:Array Bool} {a:Act} {w:World} (hr:Region.ready .any ops listed=[]) (h:Q .normal a w) : ∀ fuel,wpX P ops Q X fuel listed a w
 | 0=>⟨hr,h⟩
 | _+1=>⟨fun _=>h,by rw [hr];simp⟩

theorem yields_later {o:Oper} {v:Value} {a:Act} {w w':World} (h:YieldsIf P ops (Ext w) o v a) (x:Ext w w'):YieldsIf P ops (Ext w') o v a :=
 h.imp (fun ⟨h1,h2⟩=>⟨h1,fun u hu=>h2 u (x.trans hu)⟩) id

theorem wpX_first {X:Nat→Bool} (hok:ancOkB ops bs=true) {i:Nat} {oi:Oper} {v:Value} (hi:ops[i]?=some oi) (hsel : ∀ (j:Nat) (o:Oper) cs b,ops[j]?=some o→o.op ≠ .select cs b)
  (hQ : ∀ c a d v w,Q (.panic c) (a.put d v) w→Q (.panic c) a w) :
  ∀ (fuel:Nat) (listed:Array Bool) (a:Act) (w:World),Closed ops bs listed →
   (∀ j oj,ops[j]?=some oj→j≠i→listed.getD j true=false→ancB ops bs i j=false→oi.apart ops oj=true∧X j=true) →
   i∈Region.ready .any ops listed→YieldsIf P ops (Ext w) oi v a →
   wpX P ops Q X fuel (listed.setIfInBounds i true) (a.put oi.dst v) w→wpX P ops Q X (fuel+1) listed a w:=by
 intro fuel
 induction fuel with
 | zero =>
  intro listed a w hcl _ hr hy H
  refine ⟨fun h=>(by rw [h] at hr;cases hr),fun j hj=>?_⟩
  by_cases hji:j=i
  ·subst hji;exact hy.wpOp hi (Ext.refl w) ⟨fun _=>Ext.refl w,H⟩
  ·have:=ready_mono hj hji
   rw [H.1] at this
   cases this
 | succ fuel ih =>
  intro listed a w hcl hfree hr hy H
  refine ⟨fun h=>(by rw [h] at hr;cases hr),fun j hj=>?_⟩
  by_cases hji:j=i
  ·subst hji;exact hy.wpOp hi (Ext.refl w) ⟨fun _=>Ext.refl w,H⟩
  ·have h1:=H.2 j (ready_mono hj hji)
   obtain ⟨hjun,oj,hoj,hall⟩:=mem_ready.1 hj
   have hiun:=(mem_ready.1 hr).1
   have hnot:ancB ops bs i j=false:=by
    cases hb:ancB ops bs i j with
    | false=>rfl
    | true =>
     have h2:=ready_anc hok hcl hj hb
     rcases Nat.lt_or_ge i listed.size with h' | h'
     ·simp [h'] at h2 hiun;rw [hiun] at h2;cases h2
     ·simp [Array.getElem?_eq_none h'] at h2
   obtain ⟨hap,hX⟩:=hfree j oj hoj hji hjun hnot
   have h2:=wpOp_putIf hoj hap (fun cs b=>hsel i oi cs b hi) (fun cs b=>hsel j oj cs b hoj) (fun c a w=>hQ c a _ _ w) hy h1
   have hfree' : ∀ k ok,ops[k]?=some ok→k≠i→(listed.setIfInBounds j true).getD k true=false→ancB ops bs i k=false→oi.apart ops ok=true∧X k=true:=fun k ok hk hki hun hno=>by
    refine hfree k ok hk hki ?_ hno
    by_cases hjk:j=k
    ·subst hjk;exact hjun
    ·rw [getD_set_ne true hjk] at hun;exact hun
   refine wpOp_mono (fun a' w' h3=>⟨h3.2.1,ih (listed.setIfInBounds j true) a' w' (hcl.add hok hj) hfree' (ready_mono hr (Ne.symm hji)) (yields_later h3.1 (h3.2.1 hX)) ?_⟩) h2
   rw [Array.setIfInBounds_comm _ _ hji]
   exact h3.2.2

theorem wpX_first_pure {X:Nat→Bool} (hok:ancOkB ops bs=true) {i:Nat} {oi:Oper} {v:Value} (hi:ops[i]?=some oi) (hsel : ∀ (j:Nat) (o:Oper) cs b,ops[j]?=some o→o.op ≠ .select cs b)
  (hQ : ∀ c a d v w,Q (.panic c) (a.put d v) w→Q (.panic c) a w) :
  ∀ (fuel:Nat) (listed:Array Bool) (a:Act) (w:World),Closed ops bs listed →
   (∀ j oj,ops[j]?=some oj→j≠i→listed.getD j true=false→ancB ops bs i j=false→oi.apart ops oj=true) →
   i∈Region.ready .any ops listed→YieldsIf P ops (fun _=>True) oi v a →
   wpX P ops Q X fuel (listed.setIfInBounds i true) (a.put oi.dst v) w→wpX P ops Q X (fuel+1) listed a w:=by
 intro fuel
 induction fuel with
 | zero =>
  intro listed a w hcl _ hr hy H
  refine ⟨fun h=>(by rw [h] at hr;cases hr),fun j hj=>?_⟩
  by_cases hji:j=i
  ·subst hji;exact hy.wpOp hi trivial ⟨fun _=>Ext.refl w,H⟩
  ·have:=ready_mono hj hji
   rw [H.1] at this
   cases this
 | succ fuel ih =>
  intro listed a w hcl hfree hr hy H
  refine ⟨fun h=>(by rw [h] at hr;cases hr),fun j hj=>?_⟩
  by_cases hji:j=i
  ·subst hji;exact hy.wpOp hi trivial ⟨fun _=>Ext.refl w,H⟩
  ·have h1:=H.2 j (ready_mono hj hji)
   obtain ⟨hjun,oj,hoj,hall⟩:=mem_ready.1 hj
   have hiun:=(mem_ready.1 hr).1
   have hnot:ancB ops bs i j=false:=by
    cases hb:ancB ops bs i j with
    | false=>rfl
    | true =>
     have h2:=ready_anc hok hcl hj hb
     rcases Nat.lt_or_ge i listed.size with h' | h'
     ·simp [h'] at h2 hiun;rw [hiun] at h2;cases h2
     ·simp [Array.getElem?_eq_none h'] at h2
   have hap:=hfree j oj hoj hji hjun hnot
   have h2:=wpOp_putIf hoj hap (fun cs b=>hsel i oi cs b hi) (fun cs b=>hsel j oj cs b hoj) (fun c a w=>hQ c a _ _ w) hy h1
   have hfree' : ∀ k ok,ops[k]?=some ok→k≠i→(listed.setIfInBounds j true).getD k true=false→ancB ops bs i k=false→oi.apart ops ok=true:=fun k ok hk hki hun hno=>by
    refine hfree k ok hk hki ?_ hno
    by_cases hjk:j=k
    ·subst hjk;exact hjun
    ·rw [getD_set_ne true hjk] at hun;exact hun
   refine wpOp_mono (fun a' w' h3=>⟨h3.2.1,ih (listed.setIfInBounds j true) a' w' (hcl.add hok hj) hfree' (ready_mono hr (Ne.symm hji)) h3.1 ?_⟩) h2
   rw [Array.setIfInBounds_comm _ _ hji]
   exact h3.2.2

/-! #### the walk in the fixed order: 'flo': operations that only read; 'ext': one that may make new memory; 'one': one that is alone; 'both': either of two comes up -/
def pickOps (ops:Array Oper) (l:List Nat):List Oper:=l.filterMap (ops[·]?)
inductive Plan where
 | fin
 | flo (l:List Nat) (r:Plan)
 | pur (l:List Nat) (r:Plan)
 | ext (i:Nat) (r:Plan)
 | one (i:Nat) (r:Plan)
 | both (i j:Nat) (r q:Plan)
/-- b: the world of which the facts at hand speak; what is at hand has grown out of it -/
def ordWalk (P:Program) (ops:Array Oper) (Q:Exit→Act→World→Prop):Plan→World→Act→World→Prop
 | .fin,_,a,w=>Q .normal a w
 | .flo l r,b,a,w=>wpQuiet P ops (fun w' => ∃ y:Xt b,w'=y.W) (fun a'=>ordWalk P ops Q r b a' w) (pickOps ops l) a
 | .pur l r,b,a,w=>wpQuiet P ops (fun _=>True) (fun a'=>ordWalk P ops Q r b a' w) (pickOps ops l) a
 | .ext i r,b,a,w=>wpList P ops (Exit.then (fun a' w'=>Ext w w'∧ordWalk P ops Q r b a' w') Q) (pickOps ops [i]) a w
 | .one i r,_,a,w=>wpList P ops (Exit.then (fun a' w'=>ordWalk P ops Q r w' a' w') Q) (pickOps ops [i]) a w
 | .both i j r q,b,a,w=>wpList P ops (Exit.then (fun a' w'=>Ext w w'∧ordWalk P ops Q r b a' w') Q) (pickOps ops [i]) a w∧wpList P ops (Exit.then (fun a' w'=>Ext w w'∧ordWalk P ops Q q b a' w') Q) (pickOps ops [j]) a w

def extIdx:Plan→List Nat
 | .fin=>[]
 | .flo _ r=>extIdx r
 | .pur _ r=>extIdx r
 | .ext i r=>i :: extIdx r
 | .one _ r=>extIdx r
 | .both i j r q=>i :: j :: (extIdx r++extIdx q)
def inX (ops:Array Oper) (es:List Nat) (j:Nat):Bool:=es.contains j||((ops[j]?).map (isFlo ·.op)).getD false
def floB (ops:Array Oper) (bs:Array Nat) (es:List Nat) (i:Nat) (listed:Array Bool):Bool :=
 match ops[i]? with
 | some oi=>isFlo oi.op&&(Region.ready .any ops listed).contains i &&
   (List.range ops.size).all fun j=>j==i||listed.getD j true||ancB ops bs i j||(match ops[j]? with | some oj=>oi.apart ops oj&&inX ops es j | none=>true)
 | none=>false
def purB (ops:Array Oper) (bs:Array Nat) (i:Nat) (listed:Array Bool):Bool :=
 match ops[i]? with
 | some oi=>isFlo oi.op&&(Region.ready .any ops listed).contains i &&
   (List.range ops.size).all fun j=>j==i||listed.getD j true||ancB ops bs i j||(match ops[j]? with | some oj=>oi.apart ops oj | none=>true)
 | none=>false
def pursB (ops:Array Oper) (bs:Array Nat):List Nat→Array Bool→Bool
 | [],_=>true
 | i :: l,listed=>purB ops bs i listed&&pursB ops bs l (listed.setIfInBounds i true)
def flosB (ops:Array Oper) (bs:Array Nat) (es:List Nat):List Nat→Array Bool→Bool
 | [],_=>true
 | i :: l,listed=>floB ops bs es i listed&&flosB ops bs es l (listed.setIfInBounds i true)
def listAll:List Nat→Array Bool→Array Bool
 | [],listed=>listed
 | i :: l,listed=>listAll l (listed.setIfInBounds i true)
def ordB (ops:Array Oper) (bs:Array Nat) (es:List Nat):Plan→Array Bool→Bool
 | .fin,listed=>(Region.ready .any ops listed).isEmpty
 | .flo l r,listed=>flosB ops bs es l listed&&ordB ops bs es r (listAll l listed)
 | .pur l r,listed=>pursB ops bs l listed&&ordB ops bs es r (listAll l listed)
 | .ext i r,listed=>((Region.ready .any ops listed)==[i])&&ordB ops bs es r (listed.setIfInBounds i true)
 | .one i r,listed=>((Region.ready .any ops listed)==[i]) && !inX ops es i&&ordB ops bs es r (listed.setIfInBounds i true)
 | .both i j r q,listed=>((Region.ready .any ops listed)==[i,j])&&ordB ops bs es r (listed.setIfInBounds i true)&&ordB ops bs es q (listed.setIfInBounds j true)
def total:Plan→Nat
 | .fin=>0
 | .flo l r=>l.length+total r
 | .pur l r=>l.length+total r
 | .ext _ r=>1+total r
 | .one _ r=>1+total r
 | .both _ _ r q=>1+max (total r) (total q)

theorem quiet_yields {o:Oper} {a:Act} {w:World} {K:Act→Prop} (ho:isFlo o.op=true) (h:o.quiet P a (fun w' => ∃ y:Xt w,w'=y.W) K) :
  ∃ v,(∀ u,Ext w u→(execOp a.eval o).run P u = .ok (.value v) u)∧K (a.put o.dst v):=by
 obtain ⟨v,h1,h2⟩:=h
 refine ⟨v,fun u hu=>?_,h2⟩
 have h3:=h1 u ⟨⟨u,hu⟩,rfl⟩
 unfold Oper.quietAt at h3
 cases hr:(execOp a.eval o).run P u with
 | ok n u' =>
  rw [hr] at h3
  obtain ⟨x,rfl⟩:=flo_value ho hr
  obtain ⟨e1,e2⟩:=h3
  rw [e1,e2]
 | halt x u'=>rw [hr] at h3;exact h3.elim

theorem quiet_yields_pure {o:Oper} {a:Act} {K:Act→Prop} (ho:isFlo o.op=true) (h:o.quiet P a (fun _=>True) K) :
  ∃ v,(∀ u,(execOp a.eval o).run P u = .ok (.value v) u)∧K (a.put o.dst v):=by
 obtain ⟨v,h1,h2⟩:=h
 refine ⟨v,fun u=>?_,h2⟩
 have h3:=h1 u trivial
 unfold Oper.quietAt at h3
 cases hr:(execOp a.eval o).run P u with
 | ok n u' =>
  rw [hr] at h3
  obtain ⟨x,rfl⟩:=flo_value ho hr
  obtain ⟨e1,e2⟩:=h3
  rw [e1,e2]
 | halt x u'=>rw [hr] at h3;exact h3.elim

theorem one_step {K:Act→World→Prop} {i:Nat} {o:Oper} {a:Act} {w:World} (hi:ops[i]?=some o) (h:wpList P ops (Exit.then K Q) (pickOps ops [i]) a w):wpOp P ops Q i K a w:=by
 have e:pickOps ops [i]=[o]:=by simp [pickOps,hi]
 rw [e] at h
 unfold wpList at h
 unfold wpOp
 simp only [hi]
 split at h
 ·rename_i hw
  rw [if_pos hw]
  refine h.imp (fun hh=>?_) (fun ⟨h1,a0,w0,h2⟩=>⟨h1,a0,w0,h2⟩)
  unfold Oper.wp at hh ⊢
  generalize (execOp a.eval o).run P w=r at *
  cases r with
  | ok n w' =>
   cases n<;>simp only [Oper.upon] at hh ⊢ <;>
    first
     | exact hh
     | exact Calls.mono hh (fun e w'' he=>by cases e<;>exact he)
  | halt x w'=>cases x<;>simp only [Oper.upon] at hh ⊢ <;> exact hh
 ·rename_i hw
  rw [if_neg hw]
  exact h

theorem X_of_ord (hok:ancOkB ops bs=true) (hsel:Region.noSelect ops=true) (hQ : ∀ c a d v w,Q (.panic c) (a.put d v) w→Q (.panic c) a w) (es:List Nat) :
  ∀ (p:Plan) (b:World) (listed:Array Bool) (a:Act) (w:World) (fuel:Nat),Ext b w→total p≤fuel→Closed ops bs listed→ordB ops bs es p listed=true→ordWalk P ops Q p b a w →
   wpX P ops Q (inX ops es) fuel listed a w:=by
 intro p
 induction p with
 | fin =>
  intro b listed a w fuel _ _ _ hB h
  exact wpX_done (by simpa [ordB] using hB) h fuel
 | flo l r ih =>
  induction l with
  | nil =>
   intro b listed a w fuel hx hf hc hB h
   refine ih b listed a w fuel hx (by simpa [total] using hf) hc (by simpa [ordB,flosB,listAll] using hB) ?_
   simpa [ordWalk,pickOps,wpQuiet] using h
  | cons i l ihl =>
   intro b listed a w fuel hx hf hc hB h
   simp only [ordB,flosB,listAll,Bool.and_eq_true] at hB
   obtain ⟨⟨hi,hl⟩,hr⟩:=hB
   cases ho:ops[i]? with
   | none=>simp [floB,ho] at hi
   | some oi =>
    simp only [floB,ho,Bool.and_eq_true] at hi
    obtain ⟨⟨hflo,hrd⟩,hfr⟩:=hi
    have hrd':i∈Region.ready .any ops listed:=by simpa using hrd
    obtain ⟨fuel,rfl⟩ : ∃ f,fuel=f+1:=⟨fuel - 1,by simp [total] at hf;omega⟩
    have hfree : ∀ j oj,ops[j]?=some oj→j≠i→listed.getD j true=false→ancB ops bs i j=false→oi.apart ops oj=true∧inX ops es j=true:=by
     intro j oj hj hne hun hno
     have:=List.all_eq_true.1 hfr j (List.mem_range.2 (Array.getElem?_eq_some_iff.1 hj).1)
     simpa [hne,hun,hno,hj] using this
    have hp:pickOps ops (i :: l)=oi :: pickOps ops l:=by simp [pickOps,ho]
    simp only [ordWalk,hp] at h
    unfold wpQuiet at h
    have go : ∀ v,YieldsIf P ops (Ext w) oi v a→wpQuiet P ops (fun w' => ∃ y:Xt b,w'=y.W) (fun a'=>ordWalk P ops Q r b a' w) (pickOps ops l) (a.put oi.dst v)→wpX P ops Q (inX ops es) (fuel+1) listed a w:=by
     intro v hy hk
     refine wpX_first hok ho (Region.noSelect_spec hsel) hQ fuel listed a w hc hfree hrd' hy ?_
     refine ihl b (listed.setIfInBounds i true) (a.put oi.dst v) w fuel hx (by simp [total] at hf ⊢;omega) (hc.add hok hrd') ?_ ?_
     ·simp only [ordB,Bool.and_eq_true];exact ⟨hl,hr⟩
     ·simpa only [ordWalk] using hk
    split at h
    ·rename_i hw
     obtain ⟨v,hv,hk⟩:=quiet_yields hflo h
     exact go v (.inl ⟨hw,fun u hu=>hv u (hx.trans hu)⟩) hk
    ·rename_i hw
     exact go undef (.inr ⟨by simpa using hw,rfl⟩) h
 | pur l r ih =>
  induction l with
  | nil =>
   intro b listed a w fuel hx hf hc hB h
   refine ih b listed a w fuel hx (by simpa [total] using hf) hc (by simpa [ordB,pursB,listAll] using hB) ?_
   simpa [ordWalk,pickOps,wpQuiet] using h
  | cons i l ihl =>
   intro b listed a w fuel hx hf hc hB h
   simp only [ordB,pursB,listAll,Bool.and_eq_true] at hB
   obtain ⟨⟨hi,hl⟩,hr⟩:=hB
   cases ho:ops[i]? with
   | none=>simp [purB,ho] at hi
   | some oi =>
    simp only [purB,ho,Bool.and_eq_true] at hi
    obtain ⟨⟨hflo,hrd⟩,hfr⟩:=hi
    have hrd':i∈Region.ready .any ops listed:=by simpa using hrd
    obtain ⟨fuel,rfl⟩ : ∃ f,fuel=f+1:=⟨fuel - 1,by simp [total] at hf;omega⟩
    have hfree : ∀ j oj,ops[j]?=some oj→j≠i→listed.getD j true=false→ancB ops bs i j=false→oi.apart ops oj=true:=by
     intro j oj hj hne hun hno
     have:=List.all_eq_true.1 hfr j (List.mem_range.2 (Array.getElem?_eq_some_iff.1 hj).1)
     simpa [hne,hun,hno,hj] using this
    have hp:pickOps ops (i :: l)=oi :: pickOps ops l:=by simp [pickOps,ho]
    simp only [ordWalk,hp] at h
    unfold wpQuiet at h
    have go : ∀ v,YieldsIf P ops (fun _=>True) oi v a→wpQuiet P ops (fun _=>True) (fun a'=>ordWalk P ops Q r b a' w) (pickOps ops l) (a.put oi.dst v)→wpX P ops Q (inX ops es) (fuel+1) listed a w:=by
     intro v hy hk
     refine wpX_first_pure hok ho (Region.noSelect_spec hsel) hQ fuel listed a w hc hfree hrd' hy ?_
     refine ihl b (listed.setIfInBounds i true) (a.put oi.dst v) w fuel hx (by simp [total] at hf ⊢;omega) (hc.add hok hrd') ?_ ?_
     ·simp only [ordB,Bool.and_eq_true];exact ⟨hl,hr⟩
     ·simpa only [ordWalk] using hk
    split at h
    ·rename_i hw
     obtain ⟨v,hv,hk⟩:=quiet_yields_pure hflo h
     exact go v (.inl ⟨hw,fun u _=>hv u⟩) hk
    ·rename_i hw
     exact go undef (.inr ⟨by simpa using hw,rfl⟩) h
 | ext i r ih =>
  intro b listed a w fuel hx hf hc hB h
  simp only [ordB,Bool.and_eq_true] at hB
  obtain ⟨hr,hr2⟩:=hB
  have hr':Region.ready .any ops listed=[i]:=by simpa using hr
  have hmem:i∈Region.ready .any ops listed:=by rw [hr'];simp
  obtain ⟨_,o,ho,_⟩:=mem_ready.1 hmem
  obtain ⟨fuel,rfl⟩ : ∃ f,fuel=f+1:=⟨fuel - 1,by simp [total] at hf;omega⟩
  refine ⟨fun h0=>(by rw [hr'] at h0;cases h0),fun j hj=>?_⟩
  rw [hr'] at hj
  obtain rfl:j=i:=by simpa using hj
  exact wpOp_mono (fun a' w' hh=>⟨fun _=>hh.1,ih b _ a' w' fuel (hx.trans hh.1) (by simp [total] at hf ⊢;omega) (hc.add hok hmem) hr2 hh.2⟩) (one_step ho h)
 | one i r ih =>
  intro b listed a w fuel hx hf hc hB h
  simp only [ordB,Bool.and_eq_true] at hB
  obtain ⟨⟨hr,hk⟩,hr2⟩:=hB
  have hr':Region.ready .any ops listed=[i]:=by simpa using hr
  have hmem:i∈Region.ready .any ops listed:=by rw [hr'];simp
  obtain ⟨_,o,ho,_⟩:=mem_ready.1 hmem
  obtain ⟨fuel,rfl⟩ : ∃ f,fuel=f+1:=⟨fuel - 1,by simp [total] at hf;omega⟩
  refine ⟨fun h0=>(by rw [hr'] at h0;cases h0),fun j hj=>?_⟩
  rw [hr'] at hj
  obtain rfl:j=i:=by simpa using hj
  have hnx:inX ops es j=false:=by simpa using hk
  exact wpOp_mono (fun a' w' hh=>⟨fun hX=>(by rw [hnx] at hX;cases hX),ih w' _ a' w' fuel (Ext.refl w') (by simp [total] at hf ⊢;omega) (hc.add hok hmem) hr2 hh⟩) (one_step ho h)
 | both i j r q ihr ihq =>
  intro b listed a w fuel hx hf hc hB h
  simp only [ordB,Bool.and_eq_true] at hB
  obtain ⟨⟨hr,hr2⟩,hq2⟩:=hB
  have hr':Region.ready .any ops listed=[i,j]:=by simpa using hr
  obtain ⟨fuel,rfl⟩ : ∃ f,fuel=f+1:=⟨fuel - 1,by simp [total] at hf;omega⟩
  have mi:i∈Region.ready .any ops listed:=by rw [hr'];simp
  have mj:j∈Region.ready .any ops listed:=by rw [hr'];simp
  refine ⟨fun h0=>(by rw [hr'] at h0;cases h0),fun k hk=>?_⟩
  rw [hr'] at hk
  rcases List.mem_cons.1 hk with rfl | hk
  ·obtain ⟨_,o,ho,_⟩:=mem_ready.1 mi
   exact wpOp_mono (fun a' w' hh=>⟨fun _=>hh.1,ihr b _ a' w' fuel (hx.trans hh.1) (by simp [total] at hf ⊢;omega) (hc.add hok mi) hr2 hh.2⟩) (one_step ho h.1)
  ·obtain rfl:k=j:=by simpa using hk
   obtain ⟨_,o,ho,_⟩:=mem_ready.1 mj
   exact wpOp_mono (fun a' w' hh=>⟨fun _=>hh.1,ihq b _ a' w' fuel (hx.trans hh.1) (by simp [total] at hf ⊢;omega) (hc.add hok mj) hq2 hh.2⟩) (one_step ho h.2)

/-- A REGION THAT DRAWS ITS ORDER, WALKED IN ONE ORDER. 'bs': of each operation those that come ahead of it in every order, as bits. -/
theorem wp_region_ord {id:Nat} {a:Act} {w:World} {l:List Oper} (bs:List Nat) (p:Plan) (hm:P.follows .mixedOrders=true)
  (hB:(ancOkB l.toArray bs.toArray&&Region.noSelect l.toArray&&ordB l.toArray bs.toArray (extIdx p) p (Array.replicate l.toArray.size false)&&decide (total p≤l.toArray.size))=true)
  (hQ : ∀ c a d v w,Q (.panic c) (a.put d v) w→Q (.panic c) a w)
  (h:ordWalk P l.toArray Q p w.drew a w.drew):(Code.region id l.toArray true).wp P Q a w:=by
 simp only [Bool.and_eq_true,decide_eq_true_eq] at hB
 obtain ⟨⟨⟨h1,h2⟩,h3⟩,h4⟩:=hB
 refine wp_region_any hm (wpAny_of_X _ _ _ _ (X_of_ord h1 h2 hQ _ p w.drew _ a w.drew _ (Ext.refl _) h4 ?_ h3 h))
 intro j hj
 exfalso
 rcases Nat.lt_or_ge j l.toArray.size with h' | h'
 ·simp [Array.getD] at hj
 ·simp [Array.getD] at hj

theorem pick_nil:pickOps ops []=[]:=rfl
/-- the operation of number i, found by going down the list -/
def nth:List Oper→Nat→Option Oper
 | [],_=>none
 | o :: _,0=>some o
 | _ :: l,i+1=>nth l i
theorem nth_eq : ∀ (l:List Oper) (i:Nat),nth l i=l[i]?
 | [],_=>by simp [nth]
 | _ :: _,0=>rfl
 | _ :: l,i+1=>by simp [nth,nth_eq l i]
theorem pick_cons {i:Nat} {o:Oper} {ol:List Oper} {l:List Nat} {r:List Oper} (h:nth ol i=some o) (k:pickOps ol.toArray l=r):pickOps ol.toArray (i :: l)=o :: r:=by
 subst k;rw [nth_eq] at h;simp [pickOps,h]
/-- the steps of such a walk -/
def ordNext (P:Program) (ops:Array Oper) (Q:Exit→Act→World→Prop) (r:Plan) (b w:World) (a':Act) (w':World):Prop:=Ext w w'∧ordWalk P ops Q r b a' w'
theorem ordNext.mk {r:Plan} {b w w':World} {a:Act} (x:Ext w w') (h:ordWalk P ops Q r b a w'):ordNext P ops Q r b w a w':=⟨x,h⟩
theorem ord_flo {l:List Nat} {r:Plan} {a:Act} {b w:World} {ol:List Oper} (hp:pickOps ops l=ol)
  (h:wpQuiet P ops (fun w' => ∃ y:Xt b,w'=y.W) (fun a'=>ordWalk P ops Q r b a' w) ol a):ordWalk P ops Q (.flo l r) b a w:=by
 subst hp;exact h
theorem ord_pur {l:List Nat} {r:Plan} {a:Act} {b w:World} {ol:List Oper} (hp:pickOps ops l=ol)
  (h:wpQuiet P ops (fun _=>True) (fun a'=>ordWalk P ops Q r b a' w) ol a):ordWalk P ops Q (.pur l r) b a w:=by
 subst hp;exact h
theorem ord_ext {i:Nat} {r:Plan} {a:Act} {b w:World} {o:Oper} (hp:pickOps ops [i]=[o])
  (h : ∀ K:Act→World→Prop,(∀ a' w',ordNext P ops Q r b w a' w'→K a' w')→wpList P ops (Exit.then K Q) [o] a w):ordWalk P ops Q (.ext i r) b a w:=by
 show wpList P ops _ (pickOps ops [i]) a w
 rw [hp];exact h _ fun _ _ h=>h
theorem ord_one {i:Nat} {r:Plan} {a:Act} {b w:World} {o:Oper} (hp:pickOps ops [i]=[o])
  (h : ∀ K:Act→World→Prop,(∀ a' w',ordWalk P ops Q r w' a' w'→K a' w')→wpList P ops (Exit.then K Q) [o] a w):ordWalk P ops Q (.one i r) b a w:=by
 show wpList P ops _ (pickOps ops [i]) a w
 rw [hp];exact h _ fun _ _ h=>h
theorem ord_fin {a:Act} {b w:World} (h:Q .normal a w):ordWalk P ops Q .fin b a w:=h
end

open Go.RowKit
theorem elemWords:Elem Try.prog 45 103 1 4 (.int .u32 0):=⟨by kernel_rfl,by kernel_rfl,rfl,by omega⟩

set_option maxRecDepth 100000 in
set_option maxHeartbeats 800000 in
theorem each_same (g:Int→Int→Int) (F:Nat) (hent : ∀ args w,Sem.run Try.prog (callFunc F args) w = .ok (.enter F args) w) (hF : ∀ x y w,Calls Try.prog F #[.int .u64 x, .int .u64 y] w fun e w'=>e = .returned (.int .u64 (g x y))∧w=w')
  (hg : ∀ x y,0≤x→x≤4294967295→0≤y→y≤4294967295→0≤g x y∧g x y≤4294967295)
  (e1 e2:Int) (A1 A2:Option Addr) (n c1 c2:Nat) (l1 l2:List Int) (w:World) (h1:Sl w 1 A1 n c1 (wds l1)) (h2:Sl w 1 A2 n c2 (wds l2)) (u1:U32 l1) (u2:U32 l2) (hn:n * 4≤140737488355328) :
  Calls Try.prog 51 #[.agg #[.int .u64 e1, .slice A1 n c1], .agg #[.int .u64 e2, .slice A2 n c2], .func (.func F) #[] #[]] w fun e w' =>
   ∃ A c,e = .returned (.tuple #[.agg #[.int .u64 (g e1 e2), .slice A n c], .int .u16 0])∧Own w' w.heap.size 103 1 A n c (wds (List.zipWith g l1 l2))∧Ext w w':=by
 have hm:=h1.le
 have he:((n:Int) != (n:Int))=false:=by simp
 have HF:=Lib.hid hF
 have HG:=Lib.hid hg
 clear hF hg
 go_enter Try.func51,Try.ntmps51
 go_wp2_with (refine (HF.out _ _ _).mono ?_;rintro e w1 ⟨rfl,rfl⟩)
 obtain ⟨w0,hw0⟩ : ∃ w0,w0=((w.alloc (Obj.cells #[Value.int IntKind.u64 e1,Value.slice A1 n c1] 47)).alloc (Obj.cells #[Value.int IntKind.u64 e2,Value.slice A2 n c2] 47)).alloc
   (Obj.cells #[Value.int IntKind.u64 0,Value.slice none 0 0] 47):=⟨_,rfl⟩
 have x0:Ext w w0:=hw0 ▸ (((Ext.refl w).alloc _).alloc _).alloc _
 have s0:w0.heap.size=w.heap.size+3:=by subst hw0;simp
 have b3:w0.cell? ⟨w.heap.size,1,none⟩=some (Value.slice A1 n c1):=by subst hw0;go_simp
 have b4:w0.cell? ⟨w.heap.size+1,1,none⟩=some (Value.slice A2 n c2):=by subst hw0;go_simp
 have b6:Bk w0 (w.heap.size+1+1) 47 #[Value.int IntKind.u64 0,Value.slice none 0 0]:=by subst hw0;exact Bk.at (by simp)
 rw [← hw0]
 clear hw0
 have S0:=Lib.hid s0
 go_loopw [28] (fun t wr => ∃ (k:Nat) (A:Option Addr) (c:Nat),k≤n∧t = .int .i64 k∧Below (w.heap.size+3) w0 wr∧Bk wr (w.heap.size+1+1+1) 47 #[.int .u64 (g e1 e2), .slice A k c]∧Own wr (w.heap.size+4) 103 1 A k c (wds (List.zipWith g (l1.take k) (l2.take k))))
  (fun t _=>n - (intOf t).toNat)
 case atStart =>
  refine ⟨0,_,_,Nat.zero_le _,rfl,?_,?_,by simpa [wds] using Own.nil _ _ _ _⟩
  ·exact (Below.refl _ _).alloc (by omega) _
  ·have:=Bk.new w0 47 #[.int .u64 (g e1 e2),Value.slice none 0 0]
   rw [s0] at this
   exact this
 case round =>
  obtain ⟨k,A,c,hk,rfl,hbl,hb8,hown⟩:=hrel
  by_cases hlt:k<n
  ·obtain ⟨a1,ha1,hc1,k1⟩:=h1.word hlt
   obtain ⟨a2,ha2,hc2,k2⟩:=h2.word hlt
   have q3:=cell_below hbl b3 (by simp)
   have q4:=cell_below hbl b4 (by simp)
   have q8:=hb8.cell 1
   have f8:=hb8.free 1
   have d1:=cell_below hbl (x0.cell hc1) (by simp only [block_add];omega)
   have d2:=cell_below hbl (x0.cell hc2) (by simp only [block_add];omega)
   simp at q8
   have C1:=Lib.hid hc1
   have C2:=Lib.hid hc2
   clear hc1 hc2
   have i0:(0:Int)≤(k:Int):=Int.natCast_nonneg _
   have i1:(k:Int)<(n:Int):=by omega
   have hsz:=hbl.size
   have r1:=u1.at k
   have r2:=u2.at k
   have R:=HG.out _ _ r1.1 r1.2 r2.1 r2.2
   have E1:IntKind.u64.wrap (l1[k]?.getD 0)=l1[k]?.getD 0:=IntWalk.u64_in _ (by omega)
   have E2:IntKind.u64.wrap (l2[k]?.getD 0)=l2[k]?.getD 0:=IntWalk.u64_in _ (by omega)
   have E3:IntKind.u32.wrap (g (l1[k]?.getD 0) (l2[k]?.getD 0))=g (l1[k]?.getD 0) (l2[k]?.getD 0):=IntWalk.u32_in _ (by omega)
   go_wp2
   refine wp_region_ord [0,1,0,0,8,0,56,120,248,0,512,0,3584,7680,15872,32764,65532,131068,262143,524287,1048575] (.flo [0,1,2,3,4,5,6,7,8,9,10,11,12,13,14] (.ext 15 (.flo [16] (.ext 17 (.one 18 (.flo [19] (.one 20 (.fin)))))))) (by kernel_rfl) (by kernel_rfl) (by intro _ _ d _ _ h;cases d<;>exact h) ?_
   have X:Ext wr wr.drew:=(Ext.refl wr).drew
   have q3' : ∀ y:Xt wr.drew,y.W.cell? ⟨w.heap.size,1,none⟩=some (.slice A1 n c1):=fun y=>y.x.cell (X.cell q3)
   have q4' : ∀ y:Xt wr.drew,y.W.cell? ⟨w.heap.size+1,1,none⟩=some (.slice A2 n c2):=fun y=>y.x.cell (X.cell q4)
   have q8' : ∀ y:Xt wr.drew,y.W.cell? ⟨w.heap.size+1+1+1,1,none⟩=some (.slice A k c):=fun y=>y.x.cell (X.cell q8)
   have d1' : ∀ y:Xt wr.drew,y.W.cell? (a1.add k)=some (.int .u32 (l1.getD k 0)):=fun y=>y.x.cell (X.cell d1)
   have d2' : ∀ y:Xt wr.drew,y.W.cell? (a2.add k)=some (.int .u32 (l2.getD k 0)):=fun y=>y.x.cell (X.cell d2)
   (refine ord_flo (pick_cons rfl (pick_cons rfl (pick_cons rfl (pick_cons rfl (pick_cons rfl (pick_cons rfl (pick_cons rfl (pick_cons rfl (pick_cons rfl (pick_cons rfl (pick_cons rfl (pick_cons rfl (pick_cons rfl (pick_cons rfl (pick_cons rfl pick_nil))))))))))))))) ?_;(repeat (go_big_quiet_step (fail)));refine wpQuiet_nil ?_;show ordWalk _ _ _ _ _ _ _)
   refine ord_ext (pick_cons rfl pick_nil) ?_;intro K_ hK_
   go_wp2_with (refine (HF.out _ _ _).mono ?_;rintro e w1 ⟨rfl,rfl⟩)
   refine ordNext.mk (Ext.refl _) ?_
   (refine ord_flo (pick_cons rfl pick_nil) ?_;(repeat (go_big_quiet_step (fail)));refine wpQuiet_nil ?_;show ordWalk _ _ _ _ _ _ _)
   refine ord_ext (pick_cons rfl pick_nil) ?_;intro K_ hK_
   go_wp2
   refine ordNext.mk ((Ext.refl _).alloc _) ?_
   refine ord_one (pick_cons rfl pick_nil) ?_;intro K_ hK_
   go_wp2_with (at_builtin;refine wpList_append_gen _ elemWords (w.heap.size+4) _ _ (by rfl) (by rfl) A k c _ (by rfl) ((hown.alloc _).drew) (some ⟨wr.heap.size,0,none⟩) 1 1 _ (by rfl) ((Sl.one wr _ _ 1 rfl).drew) (by simp [Value.oneCell']) (by omega) (by omega) (by simp;omega) ?_;intro A' c' w1 ho1 hg1 hk1)
   have b81:=Bk.grown (by exact (hb8.alloc _).drew) hg1 (hown.ne (by simp))
   have f81:=b81.free 1
   have q81:w1.cell? ⟨w.heap.size+1+1+1,1,none⟩=some (.slice A k c):=b81.cell 1
   (refine ord_flo (pick_cons rfl pick_nil) ?_;(repeat (go_big_quiet_step (fail)));refine wpQuiet_nil ?_;show ordWalk _ _ _ _ _ _ _)
   refine ord_one (pick_cons rfl pick_nil) ?_;intro K_ hK_
   go_wp2
   refine ord_fin ?_
   go_wp2
   rw [← ha1, ← ha2]
   go_roundw
   case rel =>
    refine ⟨k+1,A',c',by omega,by go_num,?_,?_,?_⟩
    ·exact (((hbl.alloc (by omega) _).drew).grown hg1 (by simp;omega) (fun g hg=>by have:=hown.lt g hg;omega)).setCell (by simp) _
    ·exact b81.set 1 _
    ·refine (show Own _ _ _ _ _ _ _ _ from ?_)
     have hl1:=h1.wlen
     have hl2:=h2.wlen
     rw [take_succ_getD _ _ (by omega),take_succ_getD _ _ (by omega),List.zipWith_append (by simp;omega), ← wds_append]
     exact (ho1.far (by rcases hk1 with e | e<;>rw [e];exact hown.ne (by simp);simp;omega) _)
   case measure=>simp [intOf];omega
  ·obtain rfl:k=n:=by omega
   have r0:wr.cell? ⟨w.heap.size+1+1+1,0,none⟩=some (.int .u64 (g e1 e2)):=hb8.cell 0
   have r1:wr.cell? ⟨w.heap.size+1+1+1,1,none⟩=some (.slice A k c):=hb8.cell 1
   have b6r:=b6.below hbl (by omega)
   have r2:wr.cell? ⟨w.heap.size+1+1,0,none⟩=some (.int .u64 0):=b6r.cell 0
   have r3:wr.cell? ⟨w.heap.size+1+1,1,none⟩=some (.slice none 0 0):=b6r.cell 1
   have r4:=b6r.free 0
   have r5:=b6r.free 1
   have bb:=(b6r.set 0 (.int .u64 (g e1 e2))).set 1 (.slice A k c)
   have q0:((wr.setCell ⟨w.heap.size+1+1,0,none⟩ (.int .u64 (g e1 e2))).setCell ⟨w.heap.size+1+1,1,none⟩ (.slice A k c)).cell? ⟨w.heap.size+1+1,0,none⟩=some (.int .u64 (g e1 e2)):=bb.cell 0
   have q1:((wr.setCell ⟨w.heap.size+1+1,0,none⟩ (.int .u64 (g e1 e2))).setCell ⟨w.heap.size+1+1,1,none⟩ (.slice A k c)).cell? ⟨w.heap.size+1+1,1,none⟩=some (.slice A k c):=bb.cell 1
   go_wp2
   refine bodyPost_ret (v := .tuple #[.agg #[.int .u64 (g e1 e2), .slice A k c], .int .u16 0]) (by simp [results,Try.results51,go_sem,q0,q1]) rfl ?_
   refine ⟨A,c,rfl,?_,?_⟩
   ·have hl1:=h1.wlen
    have hl2:=h2.wlen
    rw [List.take_of_length_le (by omega),List.take_of_length_le (by omega)] at hown
    exact ((hown.mono (by omega)).far (hown.ne (by simp)) _).far (hown.ne (by simp)) _
   ·have e1:Ext w wr:=Below.trans x0 (hbl.mono (by omega))
    exact (e1.set (by simp;omega) _).set (by simp;omega) _
open Go.RowKit
set_option maxRecDepth 100000 in
set_option maxHeartbeats 400000 in
theorem max_any (x y:Int) (w:World):Calls Try.prog 52 #[.int .u64 x, .int .u64 y] w fun e w'=>e = .returned (.int .u64 (max x y))∧w=w':=by
 go_enter Try.func52,Try.ntmps52
 go_wp2
 all_goals go_ret
 all_goals exact ⟨ret_int (by omega),rfl⟩
set_option maxRecDepth 100000 in
set_option maxHeartbeats 400000 in
theorem join_same (e1 e2:Int) (A1 A2:Option Addr) (n c1 c2:Nat) (l1 l2:List Int) (w:World) (h1:Sl w 1 A1 n c1 (wds l1)) (h2:Sl w 1 A2 n c2 (wds l2)) (u1:U32 l1) (u2:U32 l2) (hn:n * 4≤140737488355328) :
  Calls Try.prog 35 #[.agg #[.int .u64 e1, .slice A1 n c1], .agg #[.int .u64 e2, .slice A2 n c2]] w fun e w' =>
   ∃ A c,e = .returned (.tuple #[.agg #[.int .u64 (max e1 e2), .slice A n c], .int .u16 0])∧Own w' w.heap.size 103 1 A n c (wds (List.zipWith max l1 l2))∧Ext w w':=by
 go_enter Try.func35,Try.ntmps35
 go_wp2_with (refine (each_same max 52 (fun _ _=>by kernel_rfl) max_any (by intros;omega) e1 e2 A1 A2 n c1 c2 l1 l2 _ (h1.ext ((((Ext.refl w).alloc _).alloc _).alloc _)) (h2.ext ((((Ext.refl w).alloc _).alloc _).alloc _)) u1 u2 hn).mono ?_;rintro e w1 ⟨A,c,rfl,ho,x1⟩;have b4:Bk w1 (w.heap.size+1+1) 47 #[.int .u64 0, .slice none 0 0]:=Bk.ext (Bk.at (by simp)) x1;have q0:=b4.cell 0;have q1:=b4.cell 1;have f0:=b4.free 0;have f1:=b4.free 1)
 have q:=b4.set2 (.int .u64 (max e1 e2)) (.slice A n c)
 refine bodyPost_ret (v := .tuple #[.agg #[.int .u64 (max e1 e2), .slice A n c], .int .u16 0]) (by simp [results,Try.results35,go_sem,q.1,q.2]) rfl ⟨A,c,rfl,?_,?_⟩
 ·exact ((ho.mono (by simp;omega)).far (ho.ne (by simp)) _).far (ho.ne (by simp)) _
 ·have x2:=((((Ext.refl w).alloc _).alloc _).alloc _).trans x1
  exact (x2.set (by simp;omega) _).set (by simp;omega) _

open Go.RowKit
set_option maxRecDepth 100000 in
set_option maxHeartbeats 400000 in
theorem clone_words (A:Option Addr) (n c:Nat) (xs:List Value) (w:World) (h:Sl w 1 A n c xs) (h1 : ∀ u∈xs,u.oneCell'=true) (hn:n * 4≤140737488355328) :
  Calls Try.prog 55 #[.slice A n c] w fun e w' => ∃ A' c',e = .returned (.slice A' n c')∧Own w' w.heap.size 103 1 A' n c' xs∧Ext w w':=by
 have hnil:=fun (W:World)=>Lib.run_eql_slice_nil (P:=Try.prog) W 45 103 A n c 0 0 Try.underlying45
 rcases A with _ | a
 ·obtain rfl:c=0:=h.2.2.2.1 rfl
  have hn0:n=0:=by have:=h.2.1;omega
  subst hn0
  have hx:xs=[]:=List.eq_nil_of_length_eq_zero (by simpa using h.1)
  subst hx
  go_enter Try.func55,Try.ntmps55
  go_wp2
  go_ret
  exact ⟨none,0,rfl,Own.nil _ _ _ _,Ext.refl _⟩
 ·go_enter Try.func55,Try.ntmps55
  go_wp2_with (at_builtin;refine wpList_append_gen _ elemWords w.heap.size _ _ (by rfl) (by rfl) _ 0 0 [] (by rfl) (Own.empty _ _ _ _ _) (some a) n c xs (by rfl) (h.ext ((Ext.refl w).alloc _)) h1 (by omega) (by omega) (by simp) ?_;intro A' c' w1 ho1 hg1 hk1)
  go_ret
  refine ⟨A',c',by simp,by simpa using ho1,?_⟩
  exact ((Ext.refl w).alloc _).grown hg1 (by simp [blk])

set_option maxRecDepth 100000 in
set_option maxHeartbeats 400000 in
theorem sameWords_diff (A1 A2:Option Addr) (n1 n2 c1 c2:Nat) (w:World) (hne:((n1:Int) != (n2:Int))=true) :
  Calls Try.prog 47 #[.slice A1 n1 c1, .slice A2 n2 c2] w fun e w'=>e = .returned (.bool false)∧Ext w w':=by
 go_enter Try.func47,Try.ntmps47
 go_wp2
 go_ret
 exact ⟨rfl,Ext.refl _⟩

theorem getD_ext {l1 l2:List Int} (hl:l1.length=l2.length):(∀ k,k<l1.length→l1.getD k 0=l2.getD k 0)↔l1=l2:=by
 constructor
 ·intro h
  refine List.ext_getElem hl fun k h1 h2=>?_
  have:=h k h1
  simpa [List.getD_eq_getElem?_getD,List.getElem?_eq_getElem h1,List.getElem?_eq_getElem h2] using this
 ·rintro rfl k _;rfl

set_option maxRecDepth 100000 in
set_option maxHeartbeats 400000 in
theorem sameWords_same (A1 A2:Option Addr) (n c1 c2:Nat) (l1 l2:List Int) (w:World) (h1:Sl w 1 A1 n c1 (wds l1)) (h2:Sl w 1 A2 n c2 (wds l2)) :
  Calls Try.prog 47 #[.slice A1 n c1, .slice A2 n c2] w fun e w'=>e = .returned (.bool (decide (l1=l2)))∧Ext w w':=by
 have hm:=h1.le
 have hl1:=Lib.hid h1.wlen
 have hl2:=Lib.hid h2.wlen
 have he:((n:Int) != (n:Int))=false:=by simp
 go_enter Try.func47,Try.ntmps47
 go_wp2
 go_loopw [5] (fun v wr => ∃ k:Nat,k≤n∧v = .int .i64 k∧(∀ j,j<k→l1.getD j 0=l2.getD j 0) ∧ ∃ m,wr=w.drewN m) (fun v _=>n - (intOf v).toNat)
 case atStart=>exact ⟨0,Nat.zero_le _,rfl,fun j hj=>absurd hj (by omega),0,rfl⟩
 case round =>
  obtain ⟨k,hk,rfl,hall,m,rfl⟩:=hrel
  have H:=Lib.hid hall
  clear hall
  by_cases hlt:k<n
  ·obtain ⟨a1,ha1,hc1,_⟩:=h1.word hlt
   obtain ⟨a2,ha2,hc2,_⟩:=h2.word hlt
   have T:Hid (k<l1.length):=by show k<l1.length;rw [hl1.out];exact hlt
   by_cases hq:(l1[k]?.getD 0 != l2[k]?.getD 0)=true
   ·go_wp2
    go_quiet (fail)
    go_wp2
    go_ret
    refine ⟨ret_bool (Eq.symm (decide_eq_false fun e=>?_)),((Ext.refl w).drewN _).drewN _⟩
    rw [e] at hq
    simp at hq
   ·have hq':(l1[k]?.getD 0 != l2[k]?.getD 0)=false:=by simpa using hq
    have Q:=Lib.hid hq
    clear hq
    go_wp2
    go_quiet (fail)
    go_wp2
    go_roundw
    case rel =>
     refine ⟨k+1,by omega,by go_num,fun j hj=>?_,_,rfl⟩
     by_cases hjk:j<k
     ·exact H.out j hjk
     ·obtain rfl:j=k:=by omega
      simpa [List.getD_eq_getElem?_getD] using hq'
    case measure=>simp [intOf];omega
  ·go_wp2
   go_ret
   refine ⟨ret_bool (Eq.symm (decide_eq_true ?_)),(Ext.refl w).drewN _⟩
   exact (getD_ext (by rw [hl1.out,hl2.out])).1 fun j hj=>H.out j (by rw [hl1.out] at hj;omega)

theorem sameWords_any (A1 A2:Option Addr) (n1 n2 c1 c2:Nat) (l1 l2:List Int) (w:World) (h1:Sl w 1 A1 n1 c1 (wds l1)) (h2:Sl w 1 A2 n2 c2 (wds l2)) :
  Calls Try.prog 47 #[.slice A1 n1 c1, .slice A2 n2 c2] w fun e w'=>e = .returned (.bool (decide (l1=l2)))∧Ext w w':=by
 by_cases hn:n1=n2
 ·subst hn;exact sameWords_same A1 A2 n1 c1 c2 l1 l2 w h1 h2
 ·have hf:decide (l1=l2)=false:=decide_eq_false fun e=>hn (by rw [← h1.wlen, ← h2.wlen,e])
  rw [hf]
  exact sameWords_diff A1 A2 n1 n2 c1 c2 w (by simp;omega)

def leqT (e1:Int) (l1:List Int) (e2:Int) (l2:List Int):Bool:=decide (l1.length=l2.length∧e1≤e2 ∧ ∀ k,k<l1.length→l1.getD k 0≤l2.getD k 0)
open Go.RowKit
def cmpT (x y:Int):Int:=if x<y then -1 else if y<x then 1 else 0
theorem cmpT_lt {x y:Int} (h:x<y):cmpT x y = -1:=by unfold cmpT;rw [if_pos h]
theorem cmpT_gt {x y:Int} (h:y<x):cmpT x y=1:=by unfold cmpT;rw [if_neg (by omega),if_pos h]
theorem cmpT_self (x:Int):cmpT x x=0:=by unfold cmpT;rw [if_neg (by omega),if_neg (by omega)]

set_option maxRecDepth 100000 in
set_option maxHeartbeats 400000 in
theorem nan_int (x:Int) (w:World):Calls Try.prog 81 #[.int .i64 x] w fun e w'=>e = .returned (.bool false)∧w=w':=by
 have h:(x != x)=false:=by simp
 go_enter Try.func81,Try.ntmps81
 go_wp2
 go_ret
 exact ⟨rfl,rfl⟩
set_option maxRecDepth 100000 in
set_option maxHeartbeats 400000 in
theorem nan_u64 (x:Int) (w:World):Calls Try.prog 82 #[.int .u64 x] w fun e w'=>e = .returned (.bool false)∧w=w':=by
 have h:(x != x)=false:=by simp
 go_enter Try.func82,Try.ntmps82
 go_wp2
 go_ret
 exact ⟨rfl,rfl⟩
set_option maxRecDepth 100000 in
set_option maxHeartbeats 400000 in
theorem nan_u32 (x:Int) (w:World):Calls Try.prog 89 #[.int .u32 x] w fun e w'=>e = .returned (.bool false)∧w=w':=by
 have h:(x != x)=false:=by simp
 go_enter Try.func89,Try.ntmps89
 go_wp2
 go_ret
 exact ⟨rfl,rfl⟩
set_option maxRecDepth 100000 in
set_option maxHeartbeats 400000 in
theorem compare_int (x y:Int) (w:World):Calls Try.prog 70 #[.int .i64 x, .int .i64 y] w fun e w'=>e = .returned (.int .i64 (cmpT x y))∧w=w':=by
 rcases Int.lt_trichotomy x y with h | h | h
 ·rw [cmpT_lt h]
  go_enter Try.func70,Try.ntmps70
  go_wp2_with (refine (nan_int _ _).mono ?_;rintro e w1 ⟨rfl,rfl⟩)
  go_ret
  exact ⟨rfl,rfl⟩
 ·subst h
  rw [cmpT_self]
  go_enter Try.func70,Try.ntmps70
  go_wp2_with (refine (nan_int _ _).mono ?_;rintro e w1 ⟨rfl,rfl⟩)
  go_ret
  exact ⟨rfl,rfl⟩
 ·rw [cmpT_gt h]
  go_enter Try.func70,Try.ntmps70
  go_wp2_with (refine (nan_int _ _).mono ?_;rintro e w1 ⟨rfl,rfl⟩)
  go_ret
  exact ⟨rfl,rfl⟩
set_option maxRecDepth 100000 in
set_option maxHeartbeats 400000 in
theorem compare_u64 (x y:Int) (w:World):Calls Try.prog 71 #[.int .u64 x, .int .u64 y] w fun e w'=>e = .returned (.int .i64 (cmpT x y))∧w=w':=by
 rcases Int.lt_trichotomy x y with h | h | h
 ·rw [cmpT_lt h]
  go_enter Try.func71,Try.ntmps71
  go_wp2_with (refine (nan_u64 _ _).mono ?_;rintro e w1 ⟨rfl,rfl⟩)
  go_ret
  exact ⟨rfl,rfl⟩
 ·subst h
  rw [cmpT_self]
  go_enter Try.func71,Try.ntmps71
  go_wp2_with (refine (nan_u64 _ _).mono ?_;rintro e w1 ⟨rfl,rfl⟩)
  go_ret
  exact ⟨rfl,rfl⟩
 ·rw [cmpT_gt h]
  go_enter Try.func71,Try.ntmps71
  go_wp2_with (refine (nan_u64 _ _).mono ?_;rintro e w1 ⟨rfl,rfl⟩)
  go_ret
  exact ⟨rfl,rfl⟩
set_option maxRecDepth 100000 in
set_option maxHeartbeats 400000 in
theorem compare_u32 (x y:Int) (w:World):Calls Try.prog 83 #[.int .u32 x, .int .u32 y] w fun e w'=>e = .returned (.int .i64 (cmpT x y))∧w=w':=by
 rcases Int.lt_trichotomy x y with h | h | h
 ·rw [cmpT_lt h]
  go_enter Try.func83,Try.ntmps83
  go_wp2_with (refine (nan_u32 _ _).mono ?_;rintro e w1 ⟨rfl,rfl⟩)
  go_ret
  exact ⟨rfl,rfl⟩
 ·subst h
  rw [cmpT_self]
  go_enter Try.func83,Try.ntmps83
  go_wp2_with (refine (nan_u32 _ _).mono ?_;rintro e w1 ⟨rfl,rfl⟩)
  go_ret
  exact ⟨rfl,rfl⟩
 ·rw [cmpT_gt h]
  go_enter Try.func83,Try.ntmps83
  go_wp2_with (refine (nan_u32 _ _).mono ?_;rintro e w1 ⟨rfl,rfl⟩)
  go_ret
  exact ⟨rfl,rfl⟩

/-- lists of counters, the first that differs tells -/
def lexT:List Int→List Int→Int
 | [],[]=>0
 | [],_ :: _ => -1
 | _ :: _,[]=>1
 | x :: l,y :: m=>if cmpT x y=0 then lexT l m else cmpT x y
theorem cmpT_zero {x y:Int}:cmpT x y=0↔x=y:=by
 unfold cmpT
 by_cases h1:x<y
 ·rw [if_pos h1];omega
 ·rw [if_neg h1]
  by_cases h2:y<x
  ·rw [if_pos h2];omega
  ·rw [if_neg h2];omega

theorem lexT_step : ∀ (k:Nat) (l m:List Int),k<l.length→k<m.length→lexT (l.drop k) (m.drop k)=if cmpT (l.getD k 0) (m.getD k 0)=0 then lexT (l.drop (k+1)) (m.drop (k+1)) else cmpT (l.getD k 0) (m.getD k 0):=by
 intro k l m h1 h2
 rw [List.drop_eq_getElem_cons h1,List.drop_eq_getElem_cons h2]
 simp [lexT,List.getD_eq_getElem?_getD,List.getElem?_eq_getElem h1,List.getElem?_eq_getElem h2]

set_option maxRecDepth 100000 in
set_option maxHeartbeats 400000 in
theorem lex_any (A1 A2:Option Addr) (n1 n2 c1 c2:Nat) (l1 l2:List Int) (w:World) (h1:Sl w 1 A1 n1 c1 (wds l1)) (h2:Sl w 1 A2 n2 c2 (wds l2)) :
  Calls Try.prog 72 #[.slice A1 n1 c1, .slice A2 n2 c2] w fun e w'=>e = .returned (.int .i64 (lexT l1 l2))∧w=w':=by
 have hm1:=h1.le
 have hm2:=h2.le
 have hl1:=Lib.hid h1.wlen
 have hl2:=Lib.hid h2.wlen
 obtain ⟨r,hr⟩ : ∃ r,r=lexT l1 l2:=⟨_,rfl⟩
 rw [← hr]
 have HR:=Lib.hid hr
 clear hr
 go_enter Try.func72,Try.ntmps72
 go_wp2
 go_loop [11] (fun v => ∃ k:Nat,k≤n1∧k≤n2∧v = .int .i64 k∧r=lexT (l1.drop k) (l2.drop k)) (fun v=>n1 - (intOf v).toNat)
 case atStart=>exact ⟨0,Nat.zero_le _,Nat.zero_le _,rfl,by simpa using HR.out⟩
 case round =>
  obtain ⟨k,hk1,hk2,rfl,hrk⟩:=hrel
  have RK:=Lib.hid hrk
  clear hrk
  by_cases q1:k<n1
  ·obtain ⟨a1,rfl,hc1,_⟩:=h1.word q1
   by_cases q2:k<n2
   ·obtain ⟨a2,rfl,hc2,_⟩:=h2.word q2
    have T:=lexT_step k l1 l2 (by rw [hl1.out];exact q1) (by rw [hl2.out];exact q2)
    by_cases q3:cmpT (l1.getD k 0) (l2.getD k 0)=0
    ·rw [if_pos q3] at T
     have HT:=Lib.hid T
     have q4:(cmpT (l1[k]?.getD 0) (l2[k]?.getD 0) != 0)=false:=by rw [← List.getD_eq_getElem?_getD, ← List.getD_eq_getElem?_getD,q3];rfl
     clear T q3
     go_wp2_with (refine (compare_u32 _ _ _).mono ?_;rintro e w1 ⟨rfl,rfl⟩)
     go_round
     case rel=>exact ⟨k+1,by omega,by omega,by go_num,by rw [RK.out,HT.out]⟩
     case measure=>simp [intOf];omega
    ·rw [if_neg q3] at T
     have HT:=Lib.hid T
     have q4:(cmpT (l1[k]?.getD 0) (l2[k]?.getD 0) != 0)=true:=by simpa [List.getD_eq_getElem?_getD] using q3
     clear T q3
     go_wp2_with (refine (compare_u32 _ _ _).mono ?_;rintro e w1 ⟨rfl,rfl⟩)
     go_ret
     exact ⟨ret_int (by rw [RK.out,HT.out];simp [List.getD_eq_getElem?_getD]),rfl⟩
   ·have e2:k=n2:=by omega
    have T:lexT (l1.drop k) (l2.drop k)=1:=by
     rw [List.drop_eq_getElem_cons (show k<l1.length by rw [hl1.out];exact q1),List.drop_eq_nil_of_le (show l2.length≤k by rw [hl2.out];omega)];rfl
    have HT:=Lib.hid T
    have E2:=Lib.hid e2
    clear T e2
    go_wp2
    go_ret
    exact ⟨ret_int (by rw [RK.out,HT.out]),rfl⟩
  ·have e1:k=n1:=by omega
   have E1:=Lib.hid e1
   clear e1
   by_cases q2:n1<n2
   ·have T:lexT (l1.drop k) (l2.drop k) = -1:=by
     rw [List.drop_eq_nil_of_le (show l1.length≤k by rw [hl1.out];omega),List.drop_eq_getElem_cons (show k<l2.length by rw [hl2.out,E1.out];exact q2)];rfl
    have HT:=Lib.hid T
    clear T
    go_wp2
    go_ret
    exact ⟨ret_int (by rw [RK.out,HT.out]),rfl⟩
   ·have T:lexT (l1.drop k) (l2.drop k)=0:=by
     rw [List.drop_eq_nil_of_le (show l1.length≤k by rw [hl1.out];omega),List.drop_eq_nil_of_le (show l2.length≤k by rw [hl2.out];omega)];rfl
    have HT:=Lib.hid T
    clear T
    go_wp2
    go_ret
    exact ⟨ret_int (by rw [RK.out,HT.out]),rfl⟩

/-- the first of three that is not 0 -/
def orT (x y z:Int):Int:=if x=0 then (if y=0 then z else y) else x
set_option maxRecDepth 100000 in
set_option maxHeartbeats 600000 in
theorem or_any (g:Nat) (t:TypeId) (x y z:Int) (w:World) (hb:Bk w g t #[.int .i64 x, .int .i64 y, .int .i64 z]) :
  Calls Try.prog 57 #[.slice (some ⟨g,0,none⟩) 3 3] w fun e w'=>e = .returned (.int .i64 (orT x y z))∧Ext w w':=by
 have hx:w.cell? ⟨g,0,none⟩=some (.int .i64 x):=hb.cell 0
 have hy:w.cell? ⟨g,1,none⟩=some (.int .i64 y):=hb.cell 1
 have hz:w.cell? ⟨g,2,none⟩=some (.int .i64 z):=hb.cell 2
 obtain ⟨r,hr⟩ : ∃ r,r=orT x y z:=⟨_,rfl⟩
 rw [← hr]
 have HR:=Lib.hid hr
 clear hr
 go_enter Try.func57,Try.ntmps57
 go_wp2
 go_loop [8] (fun v => ∃ k:Nat,k≤3∧v = .int .i64 k∧(0<k→x=0)∧(1<k→y=0)∧(2<k→z=0)) (fun v=>3 - (intOf v).toNat)
 case atStart=>exact ⟨0,by omega,rfl,by omega,by omega,by omega⟩
 case round =>
  obtain ⟨k,hk,rfl,k0,k1,k2⟩:=hrel
  have K0:=Lib.hid k0
  have K1:=Lib.hid k1
  have K2:=Lib.hid k2
  clear k0 k1 k2
  match k,hk with
  | 0,_ =>
   by_cases q:x=0
   ·have q':(x != 0)=false:=by simpa using q
    have Q:=Lib.hid q
    clear q
    go_wp2
    go_round
    case rel=>exact ⟨1,by omega,rfl,fun _=>Q.out,by omega,by omega⟩
    case measure=>simp [intOf]
   ·have q':(x != 0)=true:=by simpa using q
    go_wp2
    go_ret
    exact ⟨ret_int (by rw [HR.out];simp [orT,q]),Ext.refl _⟩
  | 1,_ =>
   by_cases q:y=0
   ·have q':(y != 0)=false:=by simpa using q
    have Q:=Lib.hid q
    clear q
    go_wp2
    go_round
    case rel=>exact ⟨2,by omega,rfl,fun _=>K0.out (by omega),fun _=>Q.out,by omega⟩
    case measure=>simp [intOf]
   ·have q':(y != 0)=true:=by simpa using q
    go_wp2
    go_ret
    exact ⟨ret_int (by rw [HR.out];simp [orT,q,K0.out (by omega)]),Ext.refl _⟩
  | 2,_ =>
   by_cases q:z=0
   ·have q':(z != 0)=false:=by simpa using q
    have Q:=Lib.hid q
    clear q
    go_wp2
    go_round
    case rel=>exact ⟨3,by omega,rfl,fun _=>K0.out (by omega),fun _=>K1.out (by omega),fun _=>Q.out⟩
    case measure=>simp [intOf]
   ·have q':(z != 0)=true:=by simpa using q
    go_wp2
    go_ret
    exact ⟨ret_int (by rw [HR.out];simp [orT,K1.out (by omega),K0.out (by omega)]),Ext.refl _⟩
  | 3,_ =>
   go_wp2
   go_ret
   exact ⟨ret_int (by rw [HR.out];simp [orT,K1.out (by omega),K0.out (by omega),K2.out (by omega)]),Ext.refl _⟩
  | k+4,hk=>omega

/-! ### stamp.Cmp -/
def cmpTT (e1:Int) (l1:List Int) (e2:Int) (l2:List Int):Int:=orT (cmpT l1.length l2.length) (cmpT e1 e2) (lexT l1 l2)
set_option maxRecDepth 100000 in
set_option maxHeartbeats 800000 in
theorem cmp_any (e1 e2:Int) (A1 A2:Option Addr) (n1 n2 c1 c2:Nat) (l1 l2:List Int) (w:World) (h1:Sl w 1 A1 n1 c1 (wds l1)) (h2:Sl w 1 A2 n2 c2 (wds l2)) :
  Calls Try.prog 59 #[.agg #[.int .u64 e1, .slice A1 n1 c1], .agg #[.int .u64 e2, .slice A2 n2 c2]] w fun e w'=>e = .returned (.int .i64 (cmpTT e1 l1 e2 l2))∧Ext w w':=by
 have hR:cmpTT e1 l1 e2 l2=orT (cmpT n1 n2) (cmpT e1 e2) (lexT l1 l2):=by unfold cmpTT;rw [h1.wlen,h2.wlen]
 rw [hR]
 clear hR
 go_enter Try.func59,Try.ntmps59
 go_upto_region 1 with fail
 obtain ⟨w0,hw0⟩ : ∃ w0,w0=(w.alloc (Obj.cells #[Value.int IntKind.u64 e1,Value.slice A1 n1 c1] 47)).alloc (Obj.cells #[Value.int IntKind.u64 e2,Value.slice A2 n2 c2] 47):=⟨_,rfl⟩
 have x0:Ext w w0:=hw0 ▸ ((Ext.refl w).alloc _).alloc _
 have a0:Bk w0 w.heap.size 47 #[Value.int IntKind.u64 e1,Value.slice A1 n1 c1]:=by subst hw0;exact (Bk.new _ _ _).alloc _
 have b0:Bk w0 (w.heap.size+1) 47 #[Value.int IntKind.u64 e2,Value.slice A2 n2 c2]:=by subst hw0;exact Bk.at (by simp)
 rw [← hw0]
 clear hw0
 have X:Ext w0 w0.drew:=(Ext.refl w0).drew
 have q1 : ∀ y:Xt w0.drew,y.W.cell? ⟨w.heap.size,0,none⟩=some (.int .u64 e1):=fun y=>(a0.ext (X.trans y.x)).cell 0
 have q2 : ∀ y:Xt w0.drew,y.W.cell? ⟨w.heap.size,1,none⟩=some (.slice A1 n1 c1):=fun y=>(a0.ext (X.trans y.x)).cell 1
 have q3 : ∀ y:Xt w0.drew,y.W.cell? ⟨w.heap.size+1,0,none⟩=some (.int .u64 e2):=fun y=>(b0.ext (X.trans y.x)).cell 0
 have q4 : ∀ y:Xt w0.drew,y.W.cell? ⟨w.heap.size+1,1,none⟩=some (.slice A2 n2 c2):=fun y=>(b0.ext (X.trans y.x)).cell 1
 refine wp_region_ord [0,1,3,0,8,24,63,0,128,0,512,2047,0,4096,0,16384,65535,131071,262143,524287] (.flo [0,1,2,3,4,5,7,8,9,10,12,13,14,15] (.ext 6 (.ext 11 (.one 16 (.one 17 (.one 18 (.flo [19] (.fin)))))))) (by kernel_rfl) (by kernel_rfl) (by intro _ _ d _ _ h;cases d<;>exact h) ?_
 (refine ord_flo (pick_cons rfl (pick_cons rfl (pick_cons rfl (pick_cons rfl (pick_cons rfl (pick_cons rfl (pick_cons rfl (pick_cons rfl (pick_cons rfl (pick_cons rfl (pick_cons rfl (pick_cons rfl (pick_cons rfl (pick_cons rfl pick_nil)))))))))))))) ?_;(repeat (go_big_quiet_step (fail)));refine wpQuiet_nil ?_;show ordWalk _ _ _ _ _ _ _)
 refine ord_ext (pick_cons rfl pick_nil) ?_;intro K_ hK_
 go_wp2_with (refine (compare_int _ _ _).mono ?_;rintro e w1 ⟨rfl,rfl⟩)
 refine ordNext.mk (Ext.refl _) ?_
 refine ord_ext (pick_cons rfl pick_nil) ?_;intro K_ hK_
 go_wp2_with (refine (compare_u64 _ _ _).mono ?_;rintro e w1 ⟨rfl,rfl⟩)
 refine ordNext.mk (Ext.refl _) ?_
 refine ord_one (pick_cons rfl pick_nil) ?_;intro K_ hK_
 go_wp2_with (refine (lex_any _ _ _ _ _ _ _ _ _ (h1.ext (x0.trans X)) (h2.ext (x0.trans X))).mono ?_;rintro e w1 ⟨rfl,rfl⟩)
 refine ord_one (pick_cons rfl pick_nil) ?_;intro K_ hK_
 go_wp2
 refine ord_one (pick_cons rfl pick_nil) ?_;intro K_ hK_
 go_wp2_with (refine (or_any _ _ _ _ _ _ (by exact (Bk.at (by simp)).drew)).mono ?_;rintro e w1 ⟨rfl,x1⟩)
 (refine ord_flo (pick_cons rfl pick_nil) ?_;(repeat (go_big_quiet_step (fail)));refine wpQuiet_nil ?_;show ordWalk _ _ _ _ _ _ _)
 refine ord_fin ?_
 go_wp2
 go_ret
 exact ⟨rfl,((x0.trans X).alloc _).trans x1⟩
end Go.Proofs.Ytdgbkpoickbidaa
namespace Go.Proofs.Ytdgbkpoickbidaa

theorem leq_iff (e1:Int) (l1:List Int) (e2:Int) (l2:List Int):leqT e1 l1 e2 l2=true↔l1.length=l2.length∧e1≤e2 ∧ ∀ k,k<l1.length→l1.getD k 0≤l2.getD k 0:=by
 unfold leqT
 exact decide_eq_true_iff
theorem leq_refl (e:Int) (l:List Int):leqT e l e l=true:=(leq_iff _ _ _ _).2 ⟨rfl,Int.le_refl _,fun _ _=>Int.le_refl _⟩
theorem leq_trans {e1 e2 e3:Int} {l1 l2 l3:List Int} (h:leqT e1 l1 e2 l2=true) (k:leqT e2 l2 e3 l3=true):leqT e1 l1 e3 l3=true:=by
 rw [leq_iff] at *
 obtain ⟨a1,a2,a3⟩:=h
 obtain ⟨b1,b2,b3⟩:=k
 exact ⟨by omega,by omega,fun i hi=>Int.le_trans (a3 i hi) (b3 i (by omega))⟩
theorem lex_le : ∀ (l m:List Int),l.length=m.length→(∀ k,k<l.length→l.getD k 0≤m.getD k 0)→lexT l m≤0
 | [],[],_,_=>Int.le_refl _
 | [],_ :: _,h,_=>by simp at h
 | _ :: _,[],h,_=>by simp at h
 | x :: l,y :: m,h,hh=>by
  have h0:x≤y:=by simpa using hh 0 (by simp)
  have hr:=lex_le l m (by simpa using h) (fun k hk=>by simpa using hh (k+1) (by simpa using hk))
  unfold lexT
  split
  ·exact hr
  ·unfold cmpT
   split
   ·omega
   ·split<;>omega
theorem lex_zero : ∀ (l m:List Int),lexT l m=0→l=m
 | [],[],_=>rfl
 | [],_ :: _,h=>by simp [lexT] at h
 | _ :: _,[],h=>by simp [lexT] at h
 | x :: l,y :: m,h=>by
  unfold lexT at h
  by_cases hc:cmpT x y=0
  ·rw [if_pos hc] at h
   rw [cmpT_zero.1 hc,lex_zero l m h]
  ·rw [if_neg hc] at h
   exact absurd h hc
theorem lex_self : ∀ l:List Int,lexT l l=0
 | []=>rfl
 | x :: l=>by
  unfold lexT
  rw [if_pos (cmpT_self x)]
  exact lex_self l

theorem cmp_zero {e1 e2:Int} {l1 l2:List Int}:cmpTT e1 l1 e2 l2=0↔e1=e2∧l1=l2:=by
 constructor
 ·intro h
  unfold cmpTT orT at h
  by_cases h1:cmpT (l1.length:Int) l2.length=0
  ·rw [if_pos h1] at h
   by_cases h2:cmpT e1 e2=0
   ·rw [if_pos h2] at h
    exact ⟨cmpT_zero.1 h2,lex_zero _ _ h⟩
   ·rw [if_neg h2] at h
    exact absurd h h2
  ·rw [if_neg h1] at h
   exact absurd h h1
 ·rintro ⟨rfl,rfl⟩
  simp [cmpTT,orT,cmpT_self,lex_self]
theorem cmp_le {e1 e2:Int} {l1 l2:List Int} (h:leqT e1 l1 e2 l2=true):cmpTT e1 l1 e2 l2≤0:=by
 obtain ⟨a1,a2,a3⟩:=(leq_iff _ _ _ _).1 h
 unfold cmpTT orT
 rw [a1,cmpT_self,if_pos rfl]
 split
 ·exact lex_le _ _ a1 a3
 ·unfold cmpT
  split
  ·omega
  ·split<;>omega
theorem getD_ext' {l1 l2:List Int} (hl:l1.length=l2.length) (h : ∀ k,k<l1.length→l1.getD k 0=l2.getD k 0):l1=l2:=(getD_ext hl).1 h
theorem cmp_both {e1 e2:Int} {l1 l2:List Int}:(leqT e1 l1 e2 l2=true∧leqT e2 l2 e1 l1=true)↔cmpTT e1 l1 e2 l2=0:=by
 rw [cmp_zero]
 constructor
 ·rintro ⟨h,k⟩
  rw [leq_iff] at h k
  obtain ⟨a1,a2,a3⟩:=h
  obtain ⟨b1,b2,b3⟩:=k
  exact ⟨by omega,getD_ext' a1 fun i hi=>Int.le_antisymm (a3 i hi) (b3 i (by omega))⟩
 ·rintro ⟨rfl,rfl⟩
  exact ⟨leq_refl _ _,leq_refl _ _⟩

open Go.RowKit
structure TotPre {α:Type} (cmp:α→α→Int):Prop where
 neg : ∀ x y,cmp x y = -cmp y x
 trans : ∀ x y z,cmp x y≤0→cmp y z≤0→cmp x z≤0
section
variable {α:Type} {cmp:α→α→Int}
theorem TotPre.refl (h:TotPre cmp) (x:α):cmp x x=0:=by have:=h.neg x x;omega
theorem TotPre.lt_of_lt_le (h:TotPre cmp) {x y z:α} (h1:cmp x y<0) (h2:cmp y z≤0):cmp x z<0:=by
 have a:=h.trans x y z (by omega) h2
 rcases Int.lt_or_eq_of_le a with q | q
 ·exact q
 ·have b:=h.trans y z x h2 (by rw [h.neg,q];decide)
  rw [h.neg] at b
  omega
theorem TotPre.lt_of_le_lt (h:TotPre cmp) {x y z:α} (h1:cmp x y≤0) (h2:cmp y z<0):cmp x z<0:=by
 have a:=h.trans x y z h1 (by omega)
 rcases Int.lt_or_eq_of_le a with q | q
 ·exact q
 ·have b:=h.trans z x y (by rw [h.neg,q];decide) h1
  rw [h.neg] at b
  omega
theorem TotPre.eq_trans (h:TotPre cmp) {x y z:α} (h1:cmp x y=0) (h2:cmp y z=0):cmp x z=0:=by
 have a:=h.trans x y z (by omega) (by omega)
 have b:=h.trans z y x (by rw [h.neg,h2];decide) (by rw [h.neg,h1];decide)
 rw [h.neg] at b
 omega
theorem TotPre.eq_left (h:TotPre cmp) {x y z:α} (h1:cmp x y=0):cmp x z=0↔cmp y z=0 :=
 ⟨fun q=>h.eq_trans (by rw [h.neg,h1];rfl) q,fun q=>h.eq_trans h1 q⟩
/-- those alike x -/
def alike (cmp:α→α→Int) (x:α) (l:List α):List α:=l.filter fun y=>cmp x y==0
/-- m is l, sorted, those that are alike in their order -/
structure Stable (cmp:α→α→Int) (l m:List α):Prop where
 sorted:m.Pairwise fun x y=>cmp x y≤0
 same : ∀ x,alike cmp x m=alike cmp x l
theorem Stable.nil:Stable cmp [] ([]:List α):=⟨List.Pairwise.nil,fun _=>rfl⟩
theorem Stable.one (x:α):Stable cmp [x] [x]:=⟨List.pairwise_singleton _ _,fun _=>rfl⟩
theorem alike_append (x:α) (l m:List α):alike cmp x (l++m)=alike cmp x l++alike cmp x m:=List.filter_append _ _
/-- what is sorted twice -/
theorem Stable.trans {l m n:List α} (h:Stable cmp l m) (k:Stable cmp m n):Stable cmp l n:=⟨k.sorted,fun x=>(k.same x).trans (h.same x)⟩
/-- parts that are sorted by themselves, then together -/
theorem Stable.join {l1 l2 m1 m2 n:List α} (h1:Stable cmp l1 m1) (h2:Stable cmp l2 m2) (h:Stable cmp (m1++m2) n):Stable cmp (l1++l2) n :=
 ⟨h.sorted,fun x=>by rw [h.same,alike_append,alike_append,h1.same,h2.same]⟩
theorem Stable.mem (T:TotPre cmp) {l m:List α} (h:Stable cmp l m) (x:α):x∈m↔x∈l:=by
 have e:=h.same x
 have key : ∀ n:List α,x∈alike cmp x n↔x∈n:=fun n=>by
  unfold alike
  rw [List.mem_filter]
  exact ⟨fun q=>q.1,fun q=>⟨q,by rw [beq_iff_eq];exact T.refl x⟩⟩
 rw [← key m, ← key l,e]
/-- one more, put into its place -/
theorem Stable.insert (T:TotPre cmp) {l s1 s2:List α} {x:α} (h:Stable cmp l (s1++s2)) (h2 : ∀ y∈s2,cmp x y<0) (h1 : ∀ y,s1.getLast?=some y → ¬ cmp x y<0):Stable cmp (l++[x]) (s1++x :: s2):=by
 have hs:=List.pairwise_append.1 h.sorted
 have hx : ∀ y∈s1,cmp y x≤0:=by
  intro y hy
  rcases List.eq_nil_or_concat s1 with rfl | ⟨t,z,rfl⟩
  ·cases hy
  ·rw [List.concat_eq_append] at hy hs h1
   have hz:cmp z x≤0:=by
    have:=h1 z (by simp)
    rw [T.neg]
    omega
   rcases List.mem_append.1 hy with q | q
   ·exact T.trans y z x ((List.pairwise_append.1 hs.1).2.2 y q z (by simp)) hz
   ·simp only [List.mem_singleton] at q
    subst q
    exact hz
 refine ⟨List.pairwise_append.2 ⟨hs.1,List.pairwise_cons.2 ⟨fun y hy=>Int.le_of_lt (h2 y hy),hs.2.1⟩,fun y hy z hz=>?_⟩,fun c=>?_⟩
 ·rcases List.mem_cons.1 hz with rfl | hz
  ·exact hx y hy
  ·exact hs.2.2 y hy z hz
 ·have e0:alike cmp c (l++[x])=(alike cmp c s1++alike cmp c s2)++alike cmp c [x]:=by rw [alike_append, ← h.same c,alike_append]
  rw [e0,alike_append]
  by_cases hc:cmp c x=0
  ·have e2:alike cmp c s2=[]:=by
    unfold alike
    rw [List.filter_eq_nil_iff]
    intro y hy q
    have q':cmp c y=0:=by simpa using q
    have:=h2 y hy
    have:=(T.eq_left hc).1 q'
    omega
   have e3:alike cmp c (x :: s2)=[x]:=by
    show List.filter _ (x :: s2)=_
    rw [List.filter_cons_of_pos (by simpa using hc)]
    show x :: alike cmp c s2=_
    rw [e2]
   have e4:alike cmp c [x]=[x]:=by
    show List.filter _ [x]=_
    rw [List.filter_cons_of_pos (by simpa using hc)]
    rfl
   rw [e3,e2,e4,List.append_nil]
  ·have e3 : ∀ t:List α,alike cmp c (x :: t)=alike cmp c t:=fun t=>by
    show List.filter _ (x :: t)=_
    rw [List.filter_cons_of_neg (by simpa using hc)]
    rfl
   rw [e3,e3]
   show _=_++[]
   rw [List.append_nil]
/-- there is one such list alone -/
theorem Stable.unique (T:TotPre cmp) : ∀ {m n l:List α},Stable cmp l m→Stable cmp l n→m=n
 | [],[],_,_,_=>rfl
 | [],y :: n,l,h,k=>absurd ((h.mem T y).2 ((k.mem T y).1 (List.mem_cons_self ..))) (List.not_mem_nil)
 | x :: m,[],l,h,k=>absurd ((k.mem T x).2 ((h.mem T x).1 (List.mem_cons_self ..))) (List.not_mem_nil)
 | x :: m,y :: n,l,h,k=>by
  have hxy:cmp x y≤0:=by
   have:y∈x :: m:=(h.mem T y).2 ((k.mem T y).1 (List.mem_cons_self ..))
   rcases List.mem_cons.1 this with rfl | q
   ·rw [T.refl];decide
   ·exact (List.pairwise_cons.1 h.sorted).1 y q
  have hyx:cmp y x≤0:=by
   have:x∈y :: n:=(k.mem T x).2 ((h.mem T x).1 (List.mem_cons_self ..))
   rcases List.mem_cons.1 this with rfl | q
   ·rw [T.refl];decide
   ·exact (List.pairwise_cons.1 k.sorted).1 x q
  have h0:cmp x y=0:=by rw [T.neg] at hyx;omega
  have e:alike cmp x (x :: m)=alike cmp x (y :: n):=(h.same x).trans (k.same x).symm
  have e1:alike cmp x (x :: m)=x :: alike cmp x m:=by
   show List.filter _ (x :: m)=_
   rw [List.filter_cons_of_pos (by simpa using T.refl x)]
   rfl
  have e2:alike cmp x (y :: n)=y :: alike cmp x n:=by
   show List.filter _ (y :: n)=_
   rw [List.filter_cons_of_pos (by simpa using h0)]
   rfl
  rw [e1,e2] at e
  injection e with e3 _
  subst e3
  have hm:Stable cmp m m:=⟨(List.pairwise_cons.1 h.sorted).2,fun _=>rfl⟩
  have hn:Stable cmp m n:=⟨(List.pairwise_cons.1 k.sorted).2,fun c=>by
   have q:alike cmp c (x :: m)=alike cmp c (x :: n):=(h.same c).trans (k.same c).symm
   unfold alike at q ⊢
   by_cases hc:cmp c x=0
   ·rw [List.filter_cons_of_pos (by simpa using hc),List.filter_cons_of_pos (by simpa using hc)] at q
    injection q with _ q
    exact q.symm
   ·rw [List.filter_cons_of_neg (by simpa using hc),List.filter_cons_of_neg (by simpa using hc)] at q
    exact q.symm⟩
  rw [Stable.unique T hm hn]
end
end Go.Proofs.Ytdgbkpoickbidaa
