/- General words on worlds, slices and lists that all the walks of this seat use. The frame of every law of this seat: a law that reads, makes new memory and returns true has its post; ways, times and integers that come in; the witness's world. append, once more: it stays where it was, or nothing that was there has turned. Worlds in which the library's functions that read tables answer as their contracts say. Contracts of library functions at this seat, laid by a tool of the kit. What comes in at this seat: data, texts, integers; and that the tables which are laid make the library's functions answer. datum.Check: what it answers of any datum. A datum, field by field. cmp.Compare at kinds, ints and numbers: what they answer. Regions that draw their order: (1) all operations only read, callees at most make new memory; (2) a fixed order serves every order. datum.Cmp: what it answers of any two data. Conditions: each theorem states its own. -/
import Derived.WalkKit
import Derived.Deep.QuietTactic
import Derived.BigQuiet
import Derived.Lib.Hide
import Derived.Deep.AppendLies
import Derived.Deep.Draws
import Derived.Deep.RegionHeld3
import Derived.Deep.DrawnRows
import Derived.Deep.RegionLaw
import Derived.StillTailTactics
import Derived.WalkLawsBesides
import Derived.WalkSpells
import Derived.Outline
import Derived.Handy
import Derived.Deep.DeepCutAuto
import Derived.Test.YtdgbkpoickbidaaGreatDoorCards
import Derived.Test.YtdgbkpoickbidaaGreatDoorTie
import Derived.ProofKit
import Derived.OpenShut
import Derived.Lay
import Derived.Lib.SmallJoins
import Derived.Deep.DeepHandedRow
import Derived.MakeChecks
import Derived.Test.YtdgbkpoickbidaaGreatDoorProg
import Derived.Lib.ValidU
import Derived.Shelf.Unicode.ValidAny
import Derived.Ground.NamesProg
import Derived.Lib.LaidU8T
import Derived.Lib.IndexBytes
import Derived.OrdersHeld
namespace Go.Proofs.YtdgbkpoickbidaaGreatDoor
open Go.RowKit

/-! ### worlds -/
/-- w' is w with new blocks, at most -/
def Ext (w w':World):Prop:=Below w.heap.size w w'
theorem Ext.refl (w:World):Ext w w:=Below.refl _ _
theorem Ext.size {w w':World} (h:Ext w w'):w.heap.size≤w'.heap.size:=Below.size h
theorem Ext.trans {a b c:World} (h:Ext a b) (k:Ext b c):Ext a c:=Below.trans h (Below.mono k h.size)
theorem Ext.drewN {a w:World} (h:Ext a w) (n:Nat):Ext a (w.drewN n):=h.trans ⟨rfl,rfl,rfl,Nat.le_refl _,fun _ _=>rfl⟩
theorem Ext.drew {a w:World} (h:Ext a w):Ext a w.drew:=h.trans ⟨rfl,rfl,rfl,Nat.le_refl _,fun _ _=>rfl⟩
theorem Ext.alloc {a w:World} (h:Ext a w) (o:Obj):Ext a (w.alloc o):=Below.alloc h h.size o
theorem Ext.set {a w:World} (h:Ext a w) {p:Addr} (hp:a.heap.size≤p.block) (u:Value):Ext a (w.setCell p u):=Below.setCell h hp u
theorem Ext.grown {a w w':World} {row:Option Nat} (h:Ext a w) (hg:w.grownBy w' row) (hr : ∀ k,row=some k→a.heap.size≤k):Ext a w':=Below.grown h hg h.size hr
theorem Ext.cell {w w':World} (h:Ext w w') {p:Addr} {u:Value} (hc:w.cell? p=some u):w'.cell? p=some u :=
 (Below.cell h (World.block_lt_of_cell? w p hc)).trans hc
theorem Ext.heap {w w':World} (h:Ext w w') {k:Nat} {o:Obj} (hc:w.heap[k]?=some o):w'.heap[k]?=some o :=
 (Below.block h k (Array.getElem?_eq_some_iff.1 hc).1).trans hc
theorem add_add' (a:Addr) (i j:Nat):(a.add i).add j=a.add (i+j):=by
 unfold Addr.add
 by_cases hi:i=0<;>by_cases hj:j=0<;>simp [hi,hj,Nat.add_assoc]
theorem block_add (a:Addr) (n:Nat):(a.add n).block=a.block:=by unfold Addr.add;split<;>rfl

/-! ### slices that are read -/
/-- the slice '.slice A n c' of elements of so many cells holds the cells xs -/
def Sl (w:World) (size:Nat) (A:Option Addr) (n c:Nat) (xs:List Value):Prop :=
 xs.length=n * size∧n≤c∧c≤maxLen∧(A=none→c=0)∧(0<n → ∃ ad,A=some ad ∧ ∀ j u,xs[j]?=some u→w.cell? (ad.add j)=some u)

theorem Sl.ext {w w':World} {size n c:Nat} {A:Option Addr} {xs:List Value} (h:Sl w size A n c xs) (e:Ext w w'):Sl w' size A n c xs :=
 ⟨h.1,h.2.1,h.2.2.1,h.2.2.2.1,fun hn=>by obtain ⟨ad,h1,h2⟩:=h.2.2.2.2 hn;exact ⟨ad,h1,fun j u hu=>e.cell (h2 j u hu)⟩⟩
theorem Sl.drewN {w:World} {size n c:Nat} {A:Option Addr} {xs:List Value} (h:Sl w size A n c xs) (k:Nat):Sl (w.drewN k) size A n c xs:=h
theorem Sl.drew {w:World} {size n c:Nat} {A:Option Addr} {xs:List Value} (h:Sl w size A n c xs):Sl w.drew size A n c xs:=h
theorem Sl.nil (w:World) (size:Nat):Sl w size none 0 0 []:=⟨by simp,Nat.le_refl _,Nat.zero_le _,fun _=>rfl,fun h=>absurd h (by omega)⟩
theorem Sl.le {w:World} {size n c:Nat} {A:Option Addr} {xs:List Value} (h:Sl w size A n c xs):n≤9223372036854775807:=by
 have:=h.2.1;have:=h.2.2.1;unfold maxLen at *;omega
theorem Sl.cap {w:World} {size n c:Nat} {A:Option Addr} {xs:List Value} (h:Sl w size A n c xs):n≤c∧c≤9223372036854775807:=by
 have:=h.2.1;have:=h.2.2.1;unfold maxLen at *;omega
/-- 's[:k]' -/
theorem Sl.take {w:World} {size n c k:Nat} {A:Option Addr} {xs:List Value} (h:Sl w size A n c xs) (hk:k≤n):Sl w size A k c (xs.take (k * size)):=by
 obtain ⟨h1,h2,h3,h4,h5⟩:=h
 refine ⟨?_,by omega,h3,h4,fun hn=>?_⟩
 ·rw [List.length_take,h1];exact Nat.min_eq_left (Nat.mul_le_mul_right _ hk)
 ·obtain ⟨ad,e,hc⟩:=h5 (by omega)
  refine ⟨ad,e,fun j u hu=>hc j u ?_⟩
  rw [List.getElem?_take] at hu
  split at hu
  ·exact hu
  ·cases hu
/-- 's[k:]' -/
theorem Sl.drop {w:World} {size n c k:Nat} {A:Option Addr} {xs:List Value} (h:Sl w size A n c xs) (hk:k≤n) :
  Sl w size (if c=k then A else A.map (·.add (k * size))) (n - k) (c - k) (xs.drop (k * size)):=by
 obtain ⟨h1,h2,h3,h4,h5⟩:=h
 refine ⟨by rw [List.length_drop,h1,Nat.sub_mul],by omega,by omega,fun hA=>?_,fun hn=>?_⟩
 ·split at hA
  ·omega
  ·cases A with
   | none=>have:=h4 rfl;omega
   | some a=>simp at hA
 ·obtain ⟨ad,e,hc⟩:=h5 (by omega)
  subst e
  rw [if_neg (by omega)]
  refine ⟨_,rfl,fun j u hu=>?_⟩
  rw [add_add']
  exact hc _ u (by rw [← hu,List.getElem?_drop])

/-! ### slices that the call itself has made -/
/-- the slice '.slice A n c' (elements of type e, so many cells each) owns the cells xs: it has no room at all, or lies at the head of a block from 'base' on -/
def Own (w:World) (base:Nat) (e:TypeId) (size:Nat) (A:Option Addr) (n c:Nat) (xs:List Value):Prop :=
 xs.length=n * size ∧
 ((c=0∧n=0) ∨
  ∃ g cur,A=some ⟨g,0,none⟩∧base≤g∧w.heap[g]?=some (.cells cur e (0,0))∧n≤c∧c≤maxLen∧c * size≤cur.size∧cur.toList.take (n * size)=xs)
/-- the block that may be written through it -/
def blk:Option Addr→Nat→Option Nat
 | some a,_+1=>some a.block
 | _,_=>none
theorem blk_zero (A:Option Addr):blk A 0=none:=by cases A<;>rfl

theorem Own.nil (w:World) (base:Nat) (e:TypeId) (size:Nat):Own w base e size none 0 0 []:=⟨by simp, .inl ⟨rfl,rfl⟩⟩
theorem Own.empty (w:World) (base:Nat) (e:TypeId) (size:Nat) (A:Option Addr):Own w base e size A 0 0 []:=⟨by simp, .inl ⟨rfl,rfl⟩⟩
section
variable {w w':World} {base base':Nat} {e:TypeId} {size:Nat} {A:Option Addr} {n c:Nat} {xs:List Value}
theorem Own.le (h:Own w base e size A n c xs):n≤c∧c≤9223372036854775807:=by
 rcases h.2 with ⟨h1,h2⟩ | ⟨g,cur,_,_,_,h1,h2,_⟩
 ·omega
 ·unfold maxLen at h2;omega
theorem Own.mono (h:Own w base e size A n c xs) (hb:base'≤base):Own w base' e size A n c xs:=by
 refine ⟨h.1,?_⟩
 rcases h.2 with h2 | ⟨g,cur,hv,hg,r⟩
 ·exact .inl h2
 ·exact .inr ⟨g,cur,hv,by omega,r⟩
theorem Own.lt (h:Own w base e size A n c xs) : ∀ k,blk A c=some k→base≤k∧k<w.heap.size:=by
 intro k hk
 rcases h.2 with ⟨rfl,_⟩ | ⟨g,cur,rfl,hb,hg,_⟩
 ·simp [blk_zero] at hk
 ·cases c with
  | zero=>simp [blk] at hk
  | succ c =>
   simp [blk] at hk
   subst hk
   exact ⟨hb,(Array.getElem?_eq_some_iff.1 hg).1⟩
/-- it shares no block with what lies below its base -/
theorem Own.ne (h:Own w base e size A n c xs) {k:Nat} (hk:k<base):blk A c≠some k:=fun e=>by have:=(h.lt k e).1;omega
theorem Own.kept {row:Option Nat} (h:Own w base e size A n c xs) (hg:w.grownBy w' row) (hne:blk A c=none∨blk A c≠row):Own w' base e size A n c xs:=by
 refine ⟨h.1,?_⟩
 rcases h.2 with hn | ⟨g,cur,rfl,hb,hgg,rest⟩
 ·exact .inl hn
 ·cases c with
  | zero =>
   obtain ⟨h1,_⟩:=rest
   exact .inl ⟨rfl,by omega⟩
  | succ c =>
   refine .inr ⟨g,cur,rfl,hb,?_,rest⟩
   rw [hg.block g (Array.getElem?_eq_some_iff.1 hgg).1 (by simpa [blk] using hne)]
   exact hgg
theorem Own.ext (h:Own w base e size A n c xs) (x:Ext w w'):Own w' base e size A n c xs:=by
 refine ⟨h.1,?_⟩
 rcases h.2 with hn | ⟨g,cur,rfl,hb,hgg,rest⟩
 ·exact .inl hn
 ·exact .inr ⟨g,cur,rfl,hb,x.heap hgg,rest⟩
theorem Own.drewN (h:Own w base e size A n c xs) (k:Nat):Own (w.drewN k) base e size A n c xs:=h
theorem Own.drew (h:Own w base e size A n c xs):Own w.drew base e size A n c xs:=h
theorem Own.alloc (h:Own w base e size A n c xs) (o:Obj):Own (w.alloc o) base e size A n c xs:=h.ext ((Ext.refl w).alloc o)
/-- a store elsewhere -/
theorem Own.far (h:Own w base e size A n c xs) {p:Addr} (hp:blk A c≠some p.block) (u:Value):Own (w.setCell p u) base e size A n c xs:=by
 refine ⟨h.1,?_⟩
 rcases h.2 with hn | ⟨g,cur,rfl,hb,hgg,rest⟩
 ·exact .inl hn
 ·cases c with
  | zero =>
   obtain ⟨h1,_⟩:=rest
   exact .inl ⟨rfl,by omega⟩
  | succ c =>
   refine .inr ⟨g,cur,rfl,hb,?_,rest⟩
   rw [Below.heap_setCell _ _ _ _ (by intro e;exact hp (by simp [blk,e]))]
   exact hgg
/-- it is read as any slice -/
theorem Own.sl (h:Own w base e size A n c xs):Sl w size A n c xs:=by
 obtain ⟨h1,h2⟩:=h
 rcases h2 with ⟨rfl,rfl⟩ | ⟨g,cur,rfl,hb,hg,hnc,hcm,hcs,htake⟩
 ·have:xs=[]:=List.eq_nil_of_length_eq_zero (by simpa using h1)
  subst this
  exact ⟨by simp,Nat.le_refl _,Nat.zero_le _,fun _=>rfl,fun h=>absurd h (by omega)⟩
 ·refine ⟨h1,hnc,hcm,(fun h=>nomatch h),fun _=>⟨_,rfl,fun j u hu=>?_⟩⟩
  have hadd:(⟨g,0,none⟩:Addr).add j=⟨g,j,none⟩:=by unfold Addr.add;split<;>simp_all
  rw [hadd,cell_of_row w g j cur e (0,0) hg]
  rw [← htake,List.getElem?_take] at hu
  split at hu
  ·simpa using hu
  ·cases hu
end

/-- the cells of a block's head -/
theorem head_cells {w:World} {g k:Nat} {cur:Array Value} {e:TypeId} {xs:List Value} (hg:w.heap[g]?=some (.cells cur e (0,0))) (ht:cur.toList.take k=xs) (j:Nat) (u:Value) (hu:xs[j]?=some u):w.cell? ((⟨g,0,none⟩:Addr).add j)=some u:=by
 have hadd:(⟨g,0,none⟩:Addr).add j=⟨g,j,none⟩:=by unfold Addr.add;split<;>simp_all
 rw [hadd,cell_of_row w g j cur e (0,0) hg]
 rw [← ht,List.getElem?_take] at hu
 split at hu
 ·simpa using hu
 ·cases hu
theorem Own.form {w:World} {base:Nat} {e:TypeId} {size:Nat} {A:Option Addr} {n c:Nat} {xs:List Value} (h:Own w base e size A n c xs) (hn:0<n) :
  ∃ g,A=some ⟨g,0,none⟩∧blk A c=some g∧base≤g∧g<w.heap.size∧(∀ j u,xs[j]?=some u→w.cell? ⟨g,j,none⟩=some u) ∧ ∀ j,w.frozen? ⟨g,j,none⟩=false:=by
 obtain ⟨h1,h2⟩:=h
 rcases h2 with ⟨rfl,rfl⟩ | ⟨g,cur,rfl,hb,hg,hnc,hcm,hcs,htake⟩
 ·omega
 ·obtain ⟨c,rfl⟩ : ∃ k,c=k+1:=⟨c - 1,by omega⟩
  refine ⟨g,rfl,rfl,hb,(Array.getElem?_eq_some_iff.1 hg).1,fun j u hu=>?_,fun j=>by simp [World.frozen?,hg]⟩
  rw [cell_of_row w g j cur e (0,0) hg]
  rw [← htake,List.getElem?_take] at hu
  split at hu
  ·simpa using hu
  ·cases hu
theorem Own.put {w:World} {base:Nat} {e:TypeId} {size g n c:Nat} {xs:List Value} (h:Own w base e size (some ⟨g,0,none⟩) n c xs) (k:Nat) (u:Value):Own (w.setCell ⟨g,k,none⟩ u) base e size (some ⟨g,0,none⟩) n c (xs.set k u):=by
 obtain ⟨h1,h2⟩:=h
 refine ⟨by simpa using h1,?_⟩
 rcases h2 with h2 | ⟨g',cur,e',hb,hg,hnc,hcm,hcs,htake⟩
 ·exact .inl h2
 ·cases e'
  refine .inr ⟨g,cur.setIfInBounds k u,rfl,hb,?_,hnc,hcm,by simpa using hcs,?_⟩
  ·simp [World.setCell,Array.getElem?_modify,hg]
  ·rw [Array.toList_setIfInBounds, ← htake,List.take_set]

/-! ### blocks that are known whole -/
def Bk (w:World) (g:Nat) (t:TypeId) (cs:Array Value):Prop:=w.heap[g]?=some (.cells cs t (0,0))
theorem Bk.lt {w:World} {g:Nat} {t:TypeId} {cs:Array Value} (h:Bk w g t cs):g<w.heap.size:=(Array.getElem?_eq_some_iff.1 h).1
theorem Bk.cell {w:World} {g:Nat} {t:TypeId} {cs:Array Value} (h:Bk w g t cs) (i:Nat):w.cell? ⟨g,i,none⟩=cs[i]?:=cell_of_row w g i cs t (0,0) h
theorem Bk.free {w:World} {g:Nat} {t:TypeId} {cs:Array Value} (h:Bk w g t cs) (i:Nat):w.frozen? ⟨g,i,none⟩=false:=by
 unfold Bk at h
 simp [World.frozen?,h]
theorem Bk.new (w:World) (t:TypeId) (cs:Array Value):Bk (w.alloc (.cells cs t)) w.heap.size t cs:=heap_alloc_new w _
theorem Bk.at {w:World} {g:Nat} {t:TypeId} {cs:Array Value} (hg:g=w.heap.size):Bk (w.alloc (.cells cs t)) g t cs:=hg ▸ heap_alloc_new w _
theorem Bk.drewN {w:World} {g:Nat} {t:TypeId} {cs:Array Value} (h:Bk w g t cs) (n:Nat):Bk (w.drewN n) g t cs:=h
theorem Bk.drew {w:World} {g:Nat} {t:TypeId} {cs:Array Value} (h:Bk w g t cs):Bk w.drew g t cs:=h
theorem Bk.alloc {w:World} {g:Nat} {t:TypeId} {cs:Array Value} (h:Bk w g t cs) (o:Obj):Bk (w.alloc o) g t cs:=(Below.heap_alloc w o g h.lt).trans h
theorem Bk.set {w:World} {g:Nat} {t:TypeId} {cs:Array Value} (h:Bk w g t cs) (i:Nat) (u:Value):Bk (w.setCell ⟨g,i,none⟩ u) g t (cs.setIfInBounds i u):=by
 unfold Bk at h ⊢
 simp [World.setCell,Array.getElem?_modify,h]
theorem Bk.far {w:World} {g:Nat} {t:TypeId} {cs:Array Value} (h:Bk w g t cs) {p:Addr} (hp:g≠p.block) (u:Value):Bk (w.setCell p u) g t cs:=(Below.heap_setCell w p u g hp).trans h
theorem Bk.ext {w w':World} {g:Nat} {t:TypeId} {cs:Array Value} (h:Bk w g t cs) (x:Ext w w'):Bk w' g t cs:=x.heap h
theorem Bk.below {w w':World} {B g:Nat} {t:TypeId} {cs:Array Value} (h:Bk w g t cs) (hb:Below B w w') (hg:g<B):Bk w' g t cs:=(hb.block g hg).trans h
theorem Bk.grown {w w':World} {g:Nat} {t:TypeId} {cs:Array Value} {row:Option Nat} (h:Bk w g t cs) (hb:w.grownBy w' row) (hg:row≠some g):Bk w' g t cs:=(hb.block g h.lt (Ne.symm hg)).trans h
theorem cell_below {w w':World} {B:Nat} (hb:Below B w w') {p:Addr} {u:Value} (hc:w.cell? p=some u) (hp:p.block<B):w'.cell? p=some u:=(hb.cell hp).trans hc
/-- a struct of two cells that is stored -/
theorem Bk.set2 {w:World} {g:Nat} {t:TypeId} {a b:Value} (h:Bk w g t #[a,b]) (u v:Value) :
  ((w.setCell ⟨g,0,none⟩ u).setCell ⟨g,1,none⟩ v).cell? ⟨g,0,none⟩=some u∧((w.setCell ⟨g,0,none⟩ u).setCell ⟨g,1,none⟩ v).cell? ⟨g,1,none⟩=some v:=by
 have bb:=(h.set 0 u).set 1 v
 exact ⟨bb.cell 0,bb.cell 1⟩
/-! ### append -/
/-- what the table of types says of a slice type t with elements e -/
structure Elem (P:Program) (t e size bytes:Nat) (z:Value):Prop where
 under:P.underlying t=some (.slice e)
 info:(P.info? e).map (fun i=>(i.zero,i.size,i.bytes))=some (some z,size,bytes)
 zsize:z.cells.size=size
 pos:0<size

theorem run_append_nothing {P:Program} (w:World) {t ty e size bytes:Nat} {z:Value} (E:Elem P t e size bytes z) (A:Option Addr) (n c:Nat) (hn:n≤c) (B:Option Addr) (c':Nat) :
  (Builtin.append_ #[t,t] ty #[.slice A n c, .slice B 0 c']).run P w = .ok (.slice A n c) w:=by
 obtain ⟨i,hi,hz,hs,hb⟩:=info_parts E.info
 cases A<;>cases B<;>simp [Builtin.append_,run_underlying E.under,sizeOf,typeInfo,hi,Builtin.lenOf,Builtin.firstCells,hn,storeCells,loadCells,loadCellsFrom]

theorem run_append_gen {P:Program} (w:World) {t ty e size bytes:Nat} {z:Value} (E:Elem P t e size bytes z) (base:Nat)
  (A0:Option Addr) (n c0:Nat) (xs:List Value) (hown:Own w base e size A0 n c0 xs)
  (A:Option Addr) (m c:Nat) (news:List Value) (hr:Sl w size A m c news) (h1 : ∀ u∈news,u.oneCell'=true)
  (hbytes:(n+m) * bytes≤140737488355328) (hb1:0<bytes) (hbase:base≤w.heap.size) :
  ∃ A' c' w',(Builtin.append_ #[t,t] ty #[.slice A0 n c0, .slice A m c]).run P w = .ok (.slice A' (n+m) c') w'∧Own w' base e size A' (n+m) c' (xs++news)∧w.grownBy w' (blk A0 c0) ∧
   (blk A' c'=blk A0 c0∨blk A' c'=some w.heap.size):=by
 obtain ⟨i,hi,hz,hs,hby⟩:=info_parts E.info
 have h63:n+m≤maxLen:=by
  have:n+m≤(n+m) * bytes:=Nat.le_mul_of_pos_right _ hb1
  unfold maxLen;omega
 rcases Nat.eq_zero_or_pos m with hm | hm
 ·subst hm
  have hnews:news=[]:=List.eq_nil_of_length_eq_zero (by simpa using hr.1)
  subst hnews
  exact ⟨_,_,w,run_append_nothing w E A0 n c0 hown.le.1 A c,by simpa using hown,World.grownBy.refl w _, .inl rfl⟩
 ·obtain ⟨ad,rfl,hcells⟩:=hr.2.2.2.2 hm
  rcases hown.2 with ⟨rfl,rfl⟩ | ⟨g,cur,rfl,hb,hg,hnc,hcm,hcs,htake⟩
  ·have hx:xs=[]:=List.eq_nil_of_length_eq_zero (by simpa using hown.1)
   subst hx
   have hge:=grownCap_ge w (0+m) 0 e
   have hcm:grownCap w (0+m) 0 e≤maxLen:=grownCap_le_maxLen w (0+m) 0 e h63
   obtain ⟨kk,hk⟩ : ∃ k,grownCap w (0+m) 0 e=k+1:=⟨_,(Nat.succ_pred_eq_of_pos (by omega)).symm⟩
   have hfin:Own (w.drew.alloc (.cells ((#[]:Array Value)++news.toArray++Builtin.zeroCells z.cells (grownCap w (0+m) 0 e - (0+m))) e)) base e size (some ⟨w.heap.size,0,none⟩) (0+m) (grownCap w (0+m) 0 e) ([]++news):=by
    refine ⟨by simpa using hr.1, .inr ⟨w.heap.size,_,rfl,hbase,heap_alloc_new w.drew _,hge,hcm,?_,?_⟩⟩
    ·refine Nat.le_of_eq (Eq.symm ?_)
     simp only [Array.size_append,List.size_toArray,size_zeroCells,E.zsize,hr.1,List.length_nil,Nat.zero_add, ← Nat.add_mul]
     congr 1
     simp only [Nat.zero_add] at hge
     omega
    ·have hlen:([]++news).length=(0+m) * size:=by simpa using hr.1
     simp only [Array.toList_append,List.append_assoc]
     rw [← List.append_assoc, ← hlen]
     exact List.take_left
   cases A0 with
   | none =>
    have hr2:=run_append_nil (P:=P) w t ty e i z E.under hi hz ad m c news (by rw [hs];exact hr.1) hcells hm (by unfold maxLen at h63;omega) (by rw [hby];simp only [Nat.zero_add] at hbytes;omega)
    simp only [Nat.zero_add,List.nil_append,Array.empty_append] at hfin hk ⊢
    refine ⟨_,_,_,hr2,hfin,⟨rfl,rfl,rfl,by simp,fun k hk _=>Below.heap_alloc w.drew _ k hk⟩, .inr ?_⟩
    rw [hk];rfl
   | some b =>
    have hr2:=run_append_grow (P:=P) w t ty e i z E.under hi hz b 0 0 [] (by simp) (by simp) ad m c news (by rw [hs];exact hr.1) hcells (by omega) (by unfold maxLen at h63;omega) (by rw [hby];exact growslice_fits (by omega) hbytes)
    refine ⟨_,_,_,hr2,hfin,⟨rfl,rfl,rfl,by simp,fun k hk _=>Below.heap_alloc w.drew _ k hk⟩, .inr ?_⟩
    rw [hk];rfl
  ·have hlen:(xs++news).length=(n+m) * size:=by rw [List.length_append,hown.1,hr.1,Nat.add_mul]
   by_cases hroom:n+m≤c0
   ·have hfit:n * i.size+news.length≤cur.size:=by rw [hr.1,hs, ← Nat.add_mul];exact Nat.le_trans (Nat.mul_le_mul_right _ hroom) hcs
    have hr2:=run_append_room (P:=P) w t ty e i E.under hi g n c0 cur hg ad m c news (by rw [hs];exact hr.1) hcells h1 hroom hfit
    refine ⟨_,_,_,hr2,⟨hlen, .inr ⟨g,_,rfl,hb,setRow_heap w g cur _ e _ hg,hroom,hcm,?_,?_⟩⟩,⟨rfl,rfl,rfl,by simp,fun k _ hk=>setRow_other w g k _ (fun e'=>hk (by
     obtain ⟨c1,rfl⟩ : ∃ c1,c0=c1+1:=⟨c0 - 1,by omega⟩
     simp [blk,e']))⟩, .inl rfl⟩
    ·simp only [List.size_toArray,List.length_append,List.length_take,List.length_drop,Array.length_toList]
     omega
    ·rw [hs,htake, ← hlen]
     exact List.take_left
   ·have holds : ∀ j u,xs[j]?=some u→w.cell? ((⟨g,0,none⟩:Addr).add j)=some u:=head_cells hg htake
    have hr2:=run_append_grow (P:=P) w t ty e i z E.under hi hz ⟨g,0,none⟩ n c0 xs (by rw [hs];exact hown.1) holds ad m c news (by rw [hs];exact hr.1) hcells (by omega) (by unfold maxLen at h63;omega) (by rw [hby];exact growslice_fits (by omega) hbytes)
    have hge:=grownCap_ge w (n+m) c0 e
    have hcm:grownCap w (n+m) c0 e≤maxLen:=grownCap_le_maxLen w (n+m) c0 e h63
    refine ⟨_,_,_,hr2,⟨hlen, .inr ⟨w.heap.size,_,rfl,hbase,heap_alloc_new w.drew _,hge,hcm,?_,?_⟩⟩,⟨rfl,rfl,rfl,by simp,fun k hk _=>Below.heap_alloc w.drew _ k hk⟩, .inr ?_⟩
    ·refine Nat.le_of_eq (Eq.symm ?_)
     simp only [Array.size_append,List.size_toArray,size_zeroCells,E.zsize,hr.1,hown.1, ← Nat.add_mul]
     congr 1
     omega
    ·simp only [Array.toList_append,List.append_assoc]
     rw [← List.append_assoc, ← hlen]
     exact List.take_left
    ·obtain ⟨kk,hk⟩ : ∃ k,grownCap w (n+m) c0 e=k+1:=⟨_,(Nat.succ_pred_eq_of_pos (by omega)).symm⟩
     rw [hk];rfl

theorem wp_append_gen {P:Program} (w:World) {o:Oper} {a:Act} {K:Act→World→Prop} {Q:Exit→Act→World→Prop} {t e size bytes:Nat} {z:Value} (E:Elem P t e size bytes z) (base:Nat) (s x:Operand)
  (ho:o.op = .call { callee := .builtin .append,args := #[s,x],argTypes := #[t,t] })
  (A0:Option Addr) (n c0:Nat) (xs:List Value) (hs:a.eval s = .slice A0 n c0) (hown:Own w base e size A0 n c0 xs)
  (A:Option Addr) (m c:Nat) (news:List Value) (hx:a.eval x = .slice A m c) (hr:Sl w size A m c news) (h1 : ∀ u∈news,u.oneCell'=true)
  (hbytes:(n+m) * bytes≤140737488355328) (hb1:0<bytes) (hbase:base≤w.heap.size)
  (h : ∀ A' c' w',Own w' base e size A' (n+m) c' (xs++news)→w.grownBy w' (blk A0 c0)→(blk A' c'=blk A0 c0∨blk A' c'=some w.heap.size)→K (a.put o.dst (.slice A' (n+m) c')) w'):o.wp P a w K Q:=by
 obtain ⟨A',c',w',hrun,h2,h3,h4⟩:=run_append_gen (P:=P) (ty:=o.type) w E base A0 n c0 xs hown A m c news hr h1 hbytes hb1 hbase
 unfold Oper.wp execOp
 simp only [ho,resolve,invoke,builtin,Sem.run_bind,Sem.run_pure,Result.andThen_ok,List.map_toArray,List.map_cons,List.map_nil,hs,hx,hrun]
 exact h A' c' w' h2 h3 h4

/-- append, in a plain region -/
theorem wpList_append_gen {P:Program} (w:World) {ops:Array Oper} {rest:List Oper} {o:Oper} {a:Act} {Q:Exit→Act→World→Prop} {t e size bytes:Nat} {z:Value} (E:Elem P t e size bytes z) (base:Nat) (s x:Operand)
  (ho:o.op = .call { callee := .builtin .append,args := #[s,x],argTypes := #[t,t] }) (hgd:o.guard=none)
  (A0:Option Addr) (n c0:Nat) (xs:List Value) (hs:a.eval s = .slice A0 n c0) (hown:Own w base e size A0 n c0 xs)
  (A:Option Addr) (m c:Nat) (news:List Value) (hx:a.eval x = .slice A m c) (hr:Sl w size A m c news) (h1 : ∀ u∈news,u.oneCell'=true)
  (hbytes:(n+m) * bytes≤140737488355328) (hb1:0<bytes) (hbase:base≤w.heap.size)
  (h : ∀ A' c' w',Own w' base e size A' (n+m) c' (xs++news)→w.grownBy w' (blk A0 c0)→(blk A' c'=blk A0 c0∨blk A' c'=some w.heap.size)→wpList P ops Q rest (a.put o.dst (.slice A' (n+m) c')) w'):wpList P ops Q (o :: rest) a w :=
 wpList_plain hgd fun _ hK=>wp_append_gen w E base s x ho A0 n c0 xs hs hown A m c news hx hr h1 hbytes hb1 hbase fun A' c' w' h2 h3 h4=>hK _ _ (h A' c' w' h2 h3 h4)

/-- a block just made, read as a slice of one element -/
theorem Sl.one (w:World) (cs:Array Value) (t:TypeId) (size:Nat) (hs:cs.size=size):Sl (w.alloc (.cells cs t)) size (some ⟨w.heap.size,0,none⟩) 1 1 cs.toList:=by
 refine ⟨by simp [hs],Nat.le_refl _,by unfold maxLen;omega,(fun h=>nomatch h),fun _=>⟨_,rfl,fun j u hu=>?_⟩⟩
 have hadd:(⟨w.heap.size,0,none⟩:Addr).add j=⟨w.heap.size,j,none⟩:=by unfold Addr.add;split<;>simp_all
 rw [hadd,cell_of_row _ w.heap.size j cs t (0,0) (heap_alloc_new w _)]
 simpa using hu

/-! ### ends -/
theorem ret_bool {a b:Bool} (h:a=b):Ending.returned (.bool a)=Ending.returned (.bool b):=by rw [h]
theorem ret_int {k:IntKind} {a b:Int} (h:a=b):Ending.returned (.int k a)=Ending.returned (.int k b):=by rw [h]

/-! ### lists of numbers -/
def U32 (l:List Int):Prop := ∀ x∈l,0≤x∧x≤4294967295
def wds (l:List Int):List Value:=l.map (Value.int .u32)
theorem wds_one (l:List Int) : ∀ u∈wds l,u.oneCell'=true:=by
 intro u hu
 obtain ⟨x,_,rfl⟩:=List.mem_map.1 hu
 rfl
theorem wds_append (a b:List Int):wds a++wds b=wds (a++b):=by simp [wds]
theorem Sl.wlen {w:World} {n c:Nat} {A:Option Addr} {l:List Int} (h:Sl w 1 A n c (wds l)):l.length=n:=by simpa [wds] using h.1
theorem Sl.word {w:World} {n c:Nat} {A:Option Addr} {l:List Int} (h:Sl w 1 A n c (wds l)) {k:Nat} (hk:k<n) :
  ∃ ad,A=some ad∧w.cell? (ad.add k)=some (.int .u32 (l.getD k 0))∧ad.block<w.heap.size:=by
 obtain ⟨ad,h1,h2⟩:=h.2.2.2.2 (by omega)
 have hl:=h.wlen
 have hc:=h2 k (.int .u32 (l.getD k 0)) ?_
 ·exact ⟨ad,h1,hc,by simpa [block_add] using World.block_lt_of_cell? w _ hc⟩
 simp [wds,List.getElem?_map,List.getD_eq_getElem?_getD,List.getElem?_eq_getElem (show k<l.length by omega)]
theorem U32.getD {l:List Int} (h:U32 l) (k:Nat):0≤l.getD k 0∧l.getD k 0≤4294967295:=by
 rw [List.getD_eq_getElem?_getD]
 by_cases hk:k<l.length
 ·rw [List.getElem?_eq_getElem hk];exact h _ (List.getElem_mem hk)
 ·rw [List.getElem?_eq_none (by omega)];simp
theorem U32.at {l:List Int} (h:U32 l) (k:Nat):0≤l[k]?.getD 0∧l[k]?.getD 0≤4294967295:=by
 have:=h.getD k
 rwa [List.getD_eq_getElem?_getD] at this
theorem take_succ_getD (l:List Int) (k:Nat) (h:k<l.length):l.take (k+1)=l.take k++[l.getD k 0]:=by
 rw [List.take_succ_eq_append_getElem h,List.getD_eq_getElem?_getD,List.getElem?_eq_getElem h];rfl

end Go.Proofs.YtdgbkpoickbidaaGreatDoor
namespace Go.Proofs.YtdgbkpoickbidaaGreatDoor
open Go.ChangeShapes Go.WideShapes Go.ChangeAt Go.RowKit Go.WideElems

theorem own_knob:ownKnob Tryz.prog.godebug=none:=by kernel_rfl
theorem laid_out:laidOutB Tryz.prog=true:=by kernel_rfl

section
variable {H:Type} {enc:TypeId × Value→H}

/-- arguments read behind a call as they did before, where it has made new memory at most -/
theorem args_stay {P:Program} {W W':World} (hl:laidOutB P=true) (x:Ext W W') {sp:Nat→Bool} :
  ∀ {ts:List TypeId} {vs:List Value} {ds:List (DataW H)} {ps:List MemPlace},(ts.all fun t=>P.readableRec t&&decide (t<P.types.size))=true→DataW.TrodAll enc P W 0 (fun _=>true) true ts vs ds ps →
   (∀ p∈ps,p.block<W.heap.size)→(∀ p∈ps,sp p.block=true)→DataW.TrodAll enc P W' 0 sp true ts vs ds ps
 | [],_,_,_,_,h,_,_=>by
  obtain ⟨rfl,rfl,rfl⟩:=trodAll_nil h
  exact trodAll_mk0
 | t :: ts,vs,ds,ps,hr,h,hlt,hs=>by
  obtain ⟨v,vs',d,ds',p,q,rfl,rfl,rfl,h1,h2⟩:=trodAll_cons h
  simp only [List.all_cons,Bool.and_eq_true,decide_eq_true_eq] at hr
  exact trodAll_cons_mk (Trod_stays hl hr.1.1 hr.1.2 h1 (fun y hy=>Below.same x (hlt y (List.mem_append_left _ hy))) (fun y hy=>hs y (List.mem_append_left _ hy)))
   (args_stay hl x hr.2 h2 (fun y hy=>hlt y (List.mem_append_right _ hy)) (fun y hy=>hs y (List.mem_append_right _ hy)))

/-- WHAT A LAW'S ROW ASKS BEHIND THE CALL -/
theorem law_post {P:Program} {fn:Func} {s:ChangeSpec} {W W':World} {args:Array Value} {ds gs:List (DataW H)} {before:List MemPlace} {tb:TypeId} (hl:laidOutB P=true)
  (hr:(fn.params.toList.all fun t=>P.readableRec t&&decide (t<P.types.size))=true) (hrt:fn.resultTypes = #[tb]) (htb:P.underlying tb=some .bool) (hv:s.vars=[])
  (hW:DataW.Whole enc P fn.params.toList s.vars false W args.toList ds gs before) (hs:s.fn H (ds++gs)={ results:=[.lit (.bool true)],args:=ds,vars:=[] }) (x:Ext W W') :
  s.post enc P fn false true false false W args (.bool true) W':=by
 have hlt : ∀ p∈before,p.block<W.heap.size:=fun p hp=>hW.lt p hp
 obtain ⟨p,q,hA,hV,hb,hz,hn⟩:=id hW
 rw [hv] at hV
 obtain ⟨rfl,rfl⟩:=trodVars_none hV
 rw [List.append_nil] at hb
 subst hb
 have hA' : ∀ sp:Nat→Bool,(∀ p∈before,sp p.block=true)→DataW.TrodAll enc P W' 0 sp true fn.params.toList args.toList ds before:=fun sp hsp=>args_stay hl x hr hA hlt hsp
 have hres : ∀ (b:Nat) (sp:Nat→Bool) (hd:Bool),DataW.TrodAll enc P W' b sp hd fn.resultTypes.toList ((Value.bool true).resultList fn.resultTypes.size) [.lit (.bool true)] []:=fun b sp hd=>by
  rw [hrt]
  exact trodAll_mk1 (shut_bool htb _)
 refine ⟨ds,[],before,[],before,[],hW,?_,?_,?_,World.keptBut_mono (fun p hp=>⟨hp,Or.inr (Or.inl hp)⟩) (Below.frame x (· ∈ before)),fun h=>by cases h⟩
 ·rw [hs];exact hres _ _ _
 ·rw [hs];exact hA' _ (fun p hp=>by simpa using hlt p hp)
 ·rw [hs,hv];exact (rfl:([]:List MemPlace)=[])
end
open Go.RowKit
theorem run_append_two {P:Program} (w:World) {t ty e size bytes:Nat} {z:Value} (E:Elem P t e size bytes z) (base:Nat)
  (A0:Option Addr) (n c0:Nat) (xs:List Value) (hown:Own w base e size A0 n c0 xs)
  (A:Option Addr) (m c:Nat) (news:List Value) (hr:Sl w size A m c news) (h1 : ∀ u∈news,u.oneCell'=true)
  (hbytes:(n+m) * bytes≤140737488355328) (hb1:0<bytes) (hbase:base≤w.heap.size) :
  ∃ A' c' w',(Builtin.append_ #[t,t] ty #[.slice A0 n c0, .slice A m c]).run P w = .ok (.slice A' (n+m) c') w'∧Own w' base e size A' (n+m) c' (xs++news)∧w.grownBy w' (blk A0 c0) ∧
   ((A'=A0∧c'=c0)∨(blk A' c'=some w.heap.size∧Ext w w')):=by
 obtain ⟨i,hi,hz,hs,hby⟩:=info_parts E.info
 have h63:n+m≤maxLen:=by
  have:n+m≤(n+m) * bytes:=Nat.le_mul_of_pos_right _ hb1
  unfold maxLen;omega
 rcases Nat.eq_zero_or_pos m with hm | hm
 ·subst hm
  have hnews:news=[]:=List.eq_nil_of_length_eq_zero (by simpa using hr.1)
  subst hnews
  exact ⟨_,_,w,run_append_nothing w E A0 n c0 hown.le.1 A c,by simpa using hown,World.grownBy.refl w _, .inl ⟨rfl,rfl⟩⟩
 ·obtain ⟨ad,rfl,hcells⟩:=hr.2.2.2.2 hm
  rcases hown.2 with ⟨rfl,rfl⟩ | ⟨g,cur,rfl,hb,hg,hnc,hcm,hcs,htake⟩
  ·have hx:xs=[]:=List.eq_nil_of_length_eq_zero (by simpa using hown.1)
   subst hx
   have hge:=grownCap_ge w (0+m) 0 e
   have hcm:grownCap w (0+m) 0 e≤maxLen:=grownCap_le_maxLen w (0+m) 0 e h63
   obtain ⟨kk,hk⟩ : ∃ k,grownCap w (0+m) 0 e=k+1:=⟨_,(Nat.succ_pred_eq_of_pos (by omega)).symm⟩
   have hfin:Own (w.drew.alloc (.cells ((#[]:Array Value)++news.toArray++Builtin.zeroCells z.cells (grownCap w (0+m) 0 e - (0+m))) e)) base e size (some ⟨w.heap.size,0,none⟩) (0+m) (grownCap w (0+m) 0 e) ([]++news):=by
    refine ⟨by simpa using hr.1, .inr ⟨w.heap.size,_,rfl,hbase,heap_alloc_new w.drew _,hge,hcm,?_,?_⟩⟩
    ·refine Nat.le_of_eq (Eq.symm ?_)
     simp only [Array.size_append,List.size_toArray,size_zeroCells,E.zsize,hr.1,List.length_nil,Nat.zero_add, ← Nat.add_mul]
     congr 1
     simp only [Nat.zero_add] at hge
     omega
    ·have hlen:([]++news).length=(0+m) * size:=by simpa using hr.1
     simp only [Array.toList_append,List.append_assoc]
     rw [← List.append_assoc, ← hlen]
     exact List.take_left
   cases A0 with
   | none =>
    have hr2:=run_append_nil (P:=P) w t ty e i z E.under hi hz ad m c news (by rw [hs];exact hr.1) hcells hm (by unfold maxLen at h63;omega) (by rw [hby];simp only [Nat.zero_add] at hbytes;omega)
    simp only [Nat.zero_add,List.nil_append,Array.empty_append] at hfin hk ⊢
    refine ⟨_,_,_,hr2,hfin,⟨rfl,rfl,rfl,by simp,fun k hk _=>Below.heap_alloc w.drew _ k hk⟩, .inr ⟨?_,((Ext.refl w).drew).alloc _⟩⟩
    rw [hk];rfl
   | some b =>
    have hr2:=run_append_grow (P:=P) w t ty e i z E.under hi hz b 0 0 [] (by simp) (by simp) ad m c news (by rw [hs];exact hr.1) hcells (by omega) (by unfold maxLen at h63;omega) (by rw [hby];exact growslice_fits (by omega) hbytes)
    refine ⟨_,_,_,hr2,hfin,⟨rfl,rfl,rfl,by simp,fun k hk _=>Below.heap_alloc w.drew _ k hk⟩, .inr ⟨?_,((Ext.refl w).drew).alloc _⟩⟩
    rw [hk];rfl
  ·have hlen:(xs++news).length=(n+m) * size:=by rw [List.length_append,hown.1,hr.1,Nat.add_mul]
   by_cases hroom:n+m≤c0
   ·have hfit:n * i.size+news.length≤cur.size:=by rw [hr.1,hs, ← Nat.add_mul];exact Nat.le_trans (Nat.mul_le_mul_right _ hroom) hcs
    have hr2:=run_append_room (P:=P) w t ty e i E.under hi g n c0 cur hg ad m c news (by rw [hs];exact hr.1) hcells h1 hroom hfit
    refine ⟨_,_,_,hr2,⟨hlen, .inr ⟨g,_,rfl,hb,setRow_heap w g cur _ e _ hg,hroom,hcm,?_,?_⟩⟩,⟨rfl,rfl,rfl,by simp,fun k _ hk=>setRow_other w g k _ (fun e'=>hk (by
     obtain ⟨c1,rfl⟩ : ∃ c1,c0=c1+1:=⟨c0 - 1,by omega⟩
     simp [blk,e']))⟩, .inl ⟨rfl,rfl⟩⟩
    ·simp only [List.size_toArray,List.length_append,List.length_take,List.length_drop,Array.length_toList]
     omega
    ·rw [hs,htake, ← hlen]
     exact List.take_left
   ·have holds : ∀ j u,xs[j]?=some u→w.cell? ((⟨g,0,none⟩:Addr).add j)=some u:=head_cells hg htake
    have hr2:=run_append_grow (P:=P) w t ty e i z E.under hi hz ⟨g,0,none⟩ n c0 xs (by rw [hs];exact hown.1) holds ad m c news (by rw [hs];exact hr.1) hcells (by omega) (by unfold maxLen at h63;omega) (by rw [hby];exact growslice_fits (by omega) hbytes)
    have hge:=grownCap_ge w (n+m) c0 e
    have hcm:grownCap w (n+m) c0 e≤maxLen:=grownCap_le_maxLen w (n+m) c0 e h63
    refine ⟨_,_,_,hr2,⟨hlen, .inr ⟨w.heap.size,_,rfl,hbase,heap_alloc_new w.drew _,hge,hcm,?_,?_⟩⟩,⟨rfl,rfl,rfl,by simp,fun k hk _=>Below.heap_alloc w.drew _ k hk⟩, .inr ⟨?_,((Ext.refl w).drew).alloc _⟩⟩
    ·refine Nat.le_of_eq (Eq.symm ?_)
     simp only [Array.size_append,List.size_toArray,size_zeroCells,E.zsize,hr.1,hown.1, ← Nat.add_mul]
     congr 1
     omega
    ·simp only [Array.toList_append,List.append_assoc]
     rw [← List.append_assoc, ← hlen]
     exact List.take_left
    ·obtain ⟨kk,hk⟩ : ∃ k,grownCap w (n+m) c0 e=k+1:=⟨_,(Nat.succ_pred_eq_of_pos (by omega)).symm⟩
     rw [hk];rfl

theorem wp_append_two {P:Program} (w:World) {o:Oper} {a:Act} {K:Act→World→Prop} {Q:Exit→Act→World→Prop} {t e size bytes:Nat} {z:Value} (E:Elem P t e size bytes z) (base:Nat) (s x:Operand)
  (ho:o.op = .call { callee := .builtin .append,args := #[s,x],argTypes := #[t,t] })
  (A0:Option Addr) (n c0:Nat) (xs:List Value) (hs:a.eval s = .slice A0 n c0) (hown:Own w base e size A0 n c0 xs)
  (A:Option Addr) (m c:Nat) (news:List Value) (hx:a.eval x = .slice A m c) (hr:Sl w size A m c news) (h1 : ∀ u∈news,u.oneCell'=true)
  (hbytes:(n+m) * bytes≤140737488355328) (hb1:0<bytes) (hbase:base≤w.heap.size)
  (h : ∀ A' c' w',Own w' base e size A' (n+m) c' (xs++news)→w.grownBy w' (blk A0 c0)→((A'=A0∧c'=c0)∨(blk A' c'=some w.heap.size∧Ext w w'))→K (a.put o.dst (.slice A' (n+m) c')) w'):o.wp P a w K Q:=by
 obtain ⟨A',c',w',hrun,h2,h3,h4⟩:=run_append_two (P:=P) (ty:=o.type) w E base A0 n c0 xs hown A m c news hr h1 hbytes hb1 hbase
 unfold Oper.wp execOp
 simp only [ho,resolve,invoke,builtin,Sem.run_bind,Sem.run_pure,Result.andThen_ok,List.map_toArray,List.map_cons,List.map_nil,hs,hx,hrun]
 exact h A' c' w' h2 h3 h4

/-- append, in a plain region -/
theorem wpList_append_two {P:Program} (w:World) {ops:Array Oper} {rest:List Oper} {o:Oper} {a:Act} {Q:Exit→Act→World→Prop} {t e size bytes:Nat} {z:Value} (E:Elem P t e size bytes z) (base:Nat) (s x:Operand)
  (ho:o.op = .call { callee := .builtin .append,args := #[s,x],argTypes := #[t,t] }) (hgd:o.guard=none)
  (A0:Option Addr) (n c0:Nat) (xs:List Value) (hs:a.eval s = .slice A0 n c0) (hown:Own w base e size A0 n c0 xs)
  (A:Option Addr) (m c:Nat) (news:List Value) (hx:a.eval x = .slice A m c) (hr:Sl w size A m c news) (h1 : ∀ u∈news,u.oneCell'=true)
  (hbytes:(n+m) * bytes≤140737488355328) (hb1:0<bytes) (hbase:base≤w.heap.size)
  (h : ∀ A' c' w',Own w' base e size A' (n+m) c' (xs++news)→w.grownBy w' (blk A0 c0)→((A'=A0∧c'=c0)∨(blk A' c'=some w.heap.size∧Ext w w'))→wpList P ops Q rest (a.put o.dst (.slice A' (n+m) c')) w'):wpList P ops Q (o :: rest) a w :=
 wpList_plain hgd fun _ hK=>wp_append_two w E base s x ho A0 n c0 xs hs hown A m c news hx hr h1 hbytes hb1 hbase fun A' c' w' h2 h3 h4=>hK _ _ (h A' c' w' h2 h3 h4)

open Go.RowKit
def validB (s:ByteArray):Bool:=Lib.validD s.data.toList
/-- from here on the library's tables stand as they were laid: told by what its functions answer -/
structure Good (w:World):Prop where
 valid : ∀ (s:ByteArray) (W:World),s.size≤9223372036854775807→Ext w W→Calls Tryz.prog 248 #[.string s] W fun e w'=>e = .returned (.bool (validB s))∧Ext W w'
theorem Good.ext {w w':World} (h:Good w) (x:Ext w w'):Good w':=⟨fun s W hs hx=>h.valid s W hs (x.trans hx)⟩

theorem valid_any (s:ByteArray) (w:World) (hs:s.size≤9223372036854775807) (g:Good w) :
  Calls Tryz.prog 248 #[.string s] w fun e w'=>e = .returned (.bool (validB s))∧Ext w w':=g.valid s w hs (Ext.refl w)
end Go.Proofs.YtdgbkpoickbidaaGreatDoor
namespace Go.Proofs
open Go.Shelf
def Tryz.laysValid_ren:Go.Shelf.Ren:=⟨fun | 196=>248 | 259=>278 | n=>n,fun | 9=>9 | 4=>4 | 3=>3 | 5=>5 | 12=>12 | 119=>332 | 0=>0 | 46=>267 | 139=>335 | 138=>334 | 53=>23 | n=>n,fun | 3=>0 | 4=>1 | n=>n⟩
theorem Tryz.laysValid:Go.Proofs.Lays.n196 Tryz.prog Tryz.laysValid_ren:={
 mixed:=by kernel_rfl
 f196:=Tryz.func248.trans (congrArg some (by kernel_rfl))
 f259:=Tryz.func278.trans (congrArg some (by kernel_rfl))
 t0:=Tryz.underlying0
 a0:=Tryz.isAgg0
 z0:=Tryz.sizeOf0
 v0:=Tryz.zeroValue0
 t3:=Tryz.underlying3
 a3:=Tryz.isAgg3
 z3:=Tryz.sizeOf3
 v3:=Tryz.zeroValue3
 t4:=Tryz.underlying4
 a4:=Tryz.isAgg4
 z4:=Tryz.sizeOf4
 v4:=Tryz.zeroValue4
 t5:=Tryz.underlying5
 a5:=Tryz.isAgg5
 z5:=Tryz.sizeOf5
 v5:=Tryz.zeroValue5
 t9:=Tryz.underlying9
 a9:=Tryz.isAgg9
 z9:=Tryz.sizeOf9
 v9:=Tryz.zeroValue9
 t12:=Tryz.underlying12
 a12:=Tryz.isAgg12
 z12:=Tryz.sizeOf12
 v12:=Tryz.zeroValue12
 t46:=Tryz.underlying267
 a46:=Tryz.isAgg267
 z46:=Tryz.sizeOf267
 v46:=Tryz.zeroValue267
 t53:=Tryz.underlying23
 a53:=Tryz.isAgg23
 z53:=Tryz.sizeOf23
 v53:=Tryz.zeroValue23
 t119:=Tryz.underlying332
 a119:=Tryz.isAgg332
 z119:=Tryz.sizeOf332
 t138:=Tryz.underlying334
 a138:=Tryz.isAgg334
 z138:=Tryz.sizeOf334
 v138:=Tryz.zeroValue334
 t139:=Tryz.underlying335
 a139:=Tryz.isAgg335
 z139:=Tryz.sizeOf335
 v139:=Tryz.zeroValue335
 g3:=by kernel_rfl
 g4:=by kernel_rfl }
end Go.Proofs
namespace Go.Proofs.YtdgbkpoickbidaaGreatDoor
open Go.ChangeShapes Go.WideShapes Go.ChangeAt Go.RowKit Go.WideElems

theorem dwf_i64 {n:Int} (h:(Lit.int .i64 n).wf=true) : -9223372036854775808≤n∧n≤9223372036854775807:=by
 simpa [Lit.wf,IntKind.min,IntKind.max,IntKind.signed,IntKind.bits] using h
theorem wf_u8 {n:Int} (h:(Lit.int .u8 n).wf=true):0≤n∧n≤255:=by
 simpa [Lit.wf,IntKind.min,IntKind.max,IntKind.signed,IntKind.bits] using h

theorem u8_extra:U8Extra Tryz.prog Tryz.laysValid_ren:=⟨by kernel_rfl,by kernel_rfl,by kernel_rfl,by kernel_rfl,by kernel_rfl,by kernel_rfl,by kernel_rfl⟩
theorem first_is:Rows.laid_unicode_utf8_first=Lib.firstData:=by kernel_rfl
theorem accept_is:(Rows.laid_unicode_utf8_acceptRanges:DataW Unit)=Lib.acceptData:=by kernel_rfl
theorem good_of {W:World} {l:List (String × DataW Unit)} (h:laidMet Tryz.prog l W) (h1:("unicode/utf8.first",Rows.laid_unicode_utf8_first)∈l) (h2:("unicode/utf8.acceptRanges",Rows.laid_unicode_utf8_acceptRanges)∈l):Good W:=by
 have a:=Lib.laidMet.reads h h1
 have b:=Lib.laidMet.reads h h2
 rw [first_is] at a
 rw [accept_is] at b
 have t:=utf8Tabs_of_readsT (U8Types.of196 Tryz.laysValid) u8_extra a b
 exact ⟨fun s W' hs x=>Any.utf8_ValidString Tryz.laysValid s W' hs (Utf8Tabs_below t x)⟩

section
variable {H:Type} {enc:TypeId × Value→H} {W:World}
set_option maxRecDepth 100000 in
theorem come_u8 {base:Nat} {v:Value} {d:DataW H} {p:List MemPlace} (hv:Value.okWide Tryz.prog W .any base 5 v) (h:DataW.Trod enc Tryz.prog W 0 (fun _=>true) true 5 v d p) :
  ∃ n,v = .int .u8 n∧0≤n∧n≤255:=by
 obtain ⟨n,rfl,_,_,hw⟩:=open_int Tryz.underlying5 hv h
 exact ⟨n,rfl,wf_u8 hw⟩
end
open Go.RowKit
theorem ret_u16 {a b:Int} (h:a=b):Ending.returned (.int .u16 a) = .returned (.int .u16 b):=by rw [h]
/-- no field is set but the kind's own -/
def formB (k:Int) (b:Bool) (n:Int) (s:ByteArray):Bool :=
 decide ((k=1∨k=2∨k=3∨k=4)∧(k≠2→b=false)∧(k≠3→n=0)∧(k≠4→s=⟨#[]⟩))
def checkT (k:Int) (b:Bool) (n:Int) (s:ByteArray):Int :=
 if formB k b n s then (if validB s then (if 1000<s.size then 12 else 0) else 13) else 13
theorem checkT_off {k n:Int} {b:Bool} {s:ByteArray} (h : ¬ ((k=1∨k=2∨k=3∨k=4)∧(k≠2→b=false)∧(k≠3→n=0)∧(k≠4→s=⟨#[]⟩))):checkT k b n s=13:=by
 unfold checkT formB
 rw [if_neg (by rw [decide_eq_true_iff];exact h)]
theorem checkT_on {k n:Int} {b:Bool} {s:ByteArray} (h:(k=1∨k=2∨k=3∨k=4)∧(k≠2→b=false)∧(k≠3→n=0)∧(k≠4→s=⟨#[]⟩)):checkT k b n s=if validB s then (if 1000<s.size then 12 else 0) else 13:=by
 unfold checkT formB
 rw [if_pos (by rw [decide_eq_true_iff];exact h)]
theorem valid_empty:validB ⟨#[]⟩=true:=rfl
theorem empty_iff {s:ByteArray}:s.toList=[]↔s=⟨#[]⟩:=by
 rw [Lib.toList_data]
 constructor
 ·intro h
  obtain ⟨d⟩:=s
  obtain ⟨l⟩:=d
  simp at h
  rw [h]
 ·rintro rfl;rfl
theorem valid_none (w:World) (g:Good w):Calls Tryz.prog 248 #[.string ⟨#[]⟩] w fun e w'=>e = .returned (.bool true)∧Ext w w':=valid_any ⟨#[]⟩ w (by simp [ByteArray.size]) g

set_option maxRecDepth 100000 in
set_option maxHeartbeats 800000 in
theorem check_bool_n (b:Bool) (n:Int) (s:ByteArray) (hn : ¬ n=0) (w:World):Calls Tryz.prog 211 #[.agg #[.int .u8 2, .bool b, .int .i64 n, .string s]] w fun e w'=>e = .returned (.int .u16 13)∧Ext w w':=by
 go_enter Tryz.func211,Tryz.ntmps211
 go_wp2_with fail
 all_goals go_ret
 all_goals exact ⟨rfl,((Ext.refl w).alloc _).alloc _⟩
set_option maxRecDepth 100000 in
set_option maxHeartbeats 800000 in
theorem check_bool_s (b:Bool) (s:ByteArray) (hs : ¬ s=⟨#[]⟩) (w:World):Calls Tryz.prog 211 #[.agg #[.int .u8 2, .bool b, .int .i64 0, .string s]] w fun e w'=>e = .returned (.int .u16 13)∧Ext w w':=by
 have hz : ¬ s.toList=[]:=fun h=>hs (empty_iff.1 h)
 have hz2:s.toList.isEmpty=false:=by simpa using hz
 clear hs
 go_enter Tryz.func211,Tryz.ntmps211
 go_wp2_with fail
 all_goals go_ret
 all_goals exact ⟨rfl,((Ext.refl w).alloc _).alloc _⟩
set_option maxRecDepth 100000 in
set_option maxHeartbeats 800000 in
theorem check_int_b (n:Int) (s:ByteArray) (w:World):Calls Tryz.prog 211 #[.agg #[.int .u8 3, .bool true, .int .i64 n, .string s]] w fun e w'=>e = .returned (.int .u16 13)∧Ext w w':=by
 go_enter Tryz.func211,Tryz.ntmps211
 go_wp2_with fail
 all_goals go_ret
 all_goals exact ⟨rfl,((Ext.refl w).alloc _).alloc _⟩
set_option maxRecDepth 100000 in
set_option maxHeartbeats 800000 in
theorem check_int_s (n:Int) (s:ByteArray) (hs : ¬ s=⟨#[]⟩) (w:World):Calls Tryz.prog 211 #[.agg #[.int .u8 3, .bool false, .int .i64 n, .string s]] w fun e w'=>e = .returned (.int .u16 13)∧Ext w w':=by
 have hz : ¬ s.toList=[]:=fun h=>hs (empty_iff.1 h)
 have hz2:s.toList.isEmpty=false:=by simpa using hz
 clear hs
 go_enter Tryz.func211,Tryz.ntmps211
 go_wp2_with fail
 all_goals go_ret
 all_goals exact ⟨rfl,((Ext.refl w).alloc _).alloc _⟩
set_option maxRecDepth 100000 in
set_option maxHeartbeats 800000 in
theorem check_text_b (n:Int) (s:ByteArray) (w:World):Calls Tryz.prog 211 #[.agg #[.int .u8 4, .bool true, .int .i64 n, .string s]] w fun e w'=>e = .returned (.int .u16 13)∧Ext w w':=by
 go_enter Tryz.func211,Tryz.ntmps211
 go_wp2_with fail
 all_goals go_ret
 all_goals exact ⟨rfl,((Ext.refl w).alloc _).alloc _⟩
set_option maxRecDepth 100000 in
set_option maxHeartbeats 800000 in
theorem check_text_n (n:Int) (s:ByteArray) (hn : ¬ n=0) (w:World):Calls Tryz.prog 211 #[.agg #[.int .u8 4, .bool false, .int .i64 n, .string s]] w fun e w'=>e = .returned (.int .u16 13)∧Ext w w':=by
 go_enter Tryz.func211,Tryz.ntmps211
 go_wp2_with fail
 all_goals go_ret
 all_goals exact ⟨rfl,((Ext.refl w).alloc _).alloc _⟩
set_option maxRecDepth 100000 in
set_option maxHeartbeats 800000 in
theorem check_null_b (n:Int) (s:ByteArray) (w:World):Calls Tryz.prog 211 #[.agg #[.int .u8 1, .bool true, .int .i64 n, .string s]] w fun e w'=>e = .returned (.int .u16 13)∧Ext w w':=by
 go_enter Tryz.func211,Tryz.ntmps211
 go_wp2_with fail
 all_goals go_ret
 all_goals exact ⟨rfl,((Ext.refl w).alloc _).alloc _⟩
set_option maxRecDepth 100000 in
set_option maxHeartbeats 800000 in
theorem check_null_n (n:Int) (s:ByteArray) (hn : ¬ n=0) (w:World):Calls Tryz.prog 211 #[.agg #[.int .u8 1, .bool false, .int .i64 n, .string s]] w fun e w'=>e = .returned (.int .u16 13)∧Ext w w':=by
 go_enter Tryz.func211,Tryz.ntmps211
 go_wp2_with fail
 all_goals go_ret
 all_goals exact ⟨rfl,((Ext.refl w).alloc _).alloc _⟩
set_option maxRecDepth 100000 in
set_option maxHeartbeats 800000 in
theorem check_null_s (s:ByteArray) (hs : ¬ s=⟨#[]⟩) (w:World):Calls Tryz.prog 211 #[.agg #[.int .u8 1, .bool false, .int .i64 0, .string s]] w fun e w'=>e = .returned (.int .u16 13)∧Ext w w':=by
 have hz : ¬ s.toList=[]:=fun h=>hs (empty_iff.1 h)
 have hz2:s.toList.isEmpty=false:=by simpa using hz
 clear hs
 go_enter Tryz.func211,Tryz.ntmps211
 go_wp2_with fail
 all_goals go_ret
 all_goals exact ⟨rfl,((Ext.refl w).alloc _).alloc _⟩
set_option maxRecDepth 100000 in
set_option maxHeartbeats 800000 in
theorem check_other (k:Int) (b:Bool) (n:Int) (s:ByteArray) (w:World) (h1 : ¬ k=1) (h2 : ¬ k=2) (h3 : ¬ k=3) (h4 : ¬ k=4):Calls Tryz.prog 211 #[.agg #[.int .u8 k, .bool b, .int .i64 n, .string s]] w fun e w'=>e = .returned (.int .u16 13)∧Ext w w':=by
 have q1:(k==1)=false:=by simpa using h1
 have q2:(k==2)=false:=by simpa using h2
 have q3:(k==3)=false:=by simpa using h3
 have q4:(k==4)=false:=by simpa using h4
 go_enter Tryz.func211,Tryz.ntmps211
 go_wp2_with fail
 all_goals go_ret
 all_goals exact ⟨rfl,((Ext.refl w).alloc _).alloc _⟩
set_option maxRecDepth 100000 in
set_option maxHeartbeats 800000 in
theorem check_bool_on (b:Bool) (w:World) (g:Good w):Calls Tryz.prog 211 #[.agg #[.int .u8 2, .bool b, .int .i64 0, .string ⟨#[]⟩]] w fun e w'=>e = .returned (.int .u16 0)∧Ext w w':=by
 go_enter Tryz.func211,Tryz.ntmps211
 go_wp2_with (refine (valid_none _ (g.ext (((Ext.refl w).alloc _).alloc _))).mono ?_;rintro e w1 ⟨rfl,x1⟩;have b0:=((Bk.new w 204 #[.int .u8 2, .bool b, .int .i64 0, .string ⟨#[]⟩]).alloc (.cells #[.int .u8 2, .bool false, .int .i64 0, .string ⟨#[]⟩] 204)).ext x1;have b3:w1.cell? ⟨w.heap.size,3,none⟩=some (.string ⟨#[]⟩):=b0.cell 3)
 go_ret
 exact ⟨rfl,(((Ext.refl w).alloc _).alloc _).trans x1⟩
set_option maxRecDepth 100000 in
set_option maxHeartbeats 800000 in
theorem check_int_on (n:Int) (w:World) (g:Good w):Calls Tryz.prog 211 #[.agg #[.int .u8 3, .bool false, .int .i64 n, .string ⟨#[]⟩]] w fun e w'=>e = .returned (.int .u16 0)∧Ext w w':=by
 go_enter Tryz.func211,Tryz.ntmps211
 go_wp2_with (refine (valid_none _ (g.ext (((Ext.refl w).alloc _).alloc _))).mono ?_;rintro e w1 ⟨rfl,x1⟩;have b0:=((Bk.new w 204 #[.int .u8 3, .bool false, .int .i64 n, .string ⟨#[]⟩]).alloc (.cells #[.int .u8 3, .bool false, .int .i64 0, .string ⟨#[]⟩] 204)).ext x1;have b3:w1.cell? ⟨w.heap.size,3,none⟩=some (.string ⟨#[]⟩):=b0.cell 3)
 go_ret
 exact ⟨rfl,(((Ext.refl w).alloc _).alloc _).trans x1⟩
set_option maxRecDepth 100000 in
set_option maxHeartbeats 800000 in
theorem check_null_on (w:World) (g:Good w):Calls Tryz.prog 211 #[.agg #[.int .u8 1, .bool false, .int .i64 0, .string ⟨#[]⟩]] w fun e w'=>e = .returned (.int .u16 0)∧Ext w w':=by
 go_enter Tryz.func211,Tryz.ntmps211
 go_wp2_with (refine (valid_none _ (g.ext (((Ext.refl w).alloc _).alloc _))).mono ?_;rintro e w1 ⟨rfl,x1⟩;have b0:=((Bk.new w 204 #[.int .u8 1, .bool false, .int .i64 0, .string ⟨#[]⟩]).alloc (.cells #[.int .u8 1, .bool false, .int .i64 0, .string ⟨#[]⟩] 204)).ext x1;have b3:w1.cell? ⟨w.heap.size,3,none⟩=some (.string ⟨#[]⟩):=b0.cell 3)
 go_ret
 exact ⟨rfl,(((Ext.refl w).alloc _).alloc _).trans x1⟩
set_option maxRecDepth 100000 in
set_option maxHeartbeats 800000 in
theorem check_text_on (s:ByteArray) (w:World) (hs:s.size≤9223372036854775807) (g:Good w):Calls Tryz.prog 211 #[.agg #[.int .u8 4, .bool false, .int .i64 0, .string s]] w fun e w'=>e = .returned (.int .u16 (if validB s then (if 1000<s.size then 12 else 0) else 13))∧Ext w w':=by
 obtain ⟨v,hv⟩ : ∃ v,validB s=v:=⟨_,rfl⟩
 have hc:=valid_any s
 rw [hv] at hc ⊢
 have HC:=Lib.hid hc
 clear hc hv
 cases v
 ·go_enter Tryz.func211,Tryz.ntmps211
  go_wp2_with (refine (HC.out _ hs (g.ext (((Ext.refl w).alloc _).alloc _))).mono ?_;rintro e w1 ⟨rfl,x1⟩)
  go_ret
  exact ⟨rfl,(((Ext.refl w).alloc _).alloc _).trans x1⟩
 ·by_cases hl:1000<s.size
  ·go_enter Tryz.func211,Tryz.ntmps211
   go_wp2_with (refine (HC.out _ hs (g.ext (((Ext.refl w).alloc _).alloc _))).mono ?_;rintro e w1 ⟨rfl,x1⟩;have b0:=((Bk.new w 204 #[.int .u8 4, .bool false, .int .i64 0, .string s]).alloc (.cells #[.int .u8 4, .bool false, .int .i64 0, .string ⟨#[]⟩] 204)).ext x1;have b3:w1.cell? ⟨w.heap.size,3,none⟩=some (.string s):=b0.cell 3)
   go_ret
   exact ⟨ret_u16 (by simp),(((Ext.refl w).alloc _).alloc _).trans x1⟩
  ·go_enter Tryz.func211,Tryz.ntmps211
   go_wp2_with (refine (HC.out _ hs (g.ext (((Ext.refl w).alloc _).alloc _))).mono ?_;rintro e w1 ⟨rfl,x1⟩;have b0:=((Bk.new w 204 #[.int .u8 4, .bool false, .int .i64 0, .string s]).alloc (.cells #[.int .u8 4, .bool false, .int .i64 0, .string ⟨#[]⟩] 204)).ext x1;have b3:w1.cell? ⟨w.heap.size,3,none⟩=some (.string s):=b0.cell 3)
   go_ret
   exact ⟨ret_u16 (by simp),(((Ext.refl w).alloc _).alloc _).trans x1⟩

theorem check_any (k:Int) (b:Bool) (n:Int) (s:ByteArray) (w:World) (hs:s.size≤9223372036854775807) (g:Good w) :
  Calls Tryz.prog 211 #[.agg #[.int .u8 k, .bool b, .int .i64 n, .string s]] w fun e w'=>e = .returned (.int .u16 (checkT k b n s))∧Ext w w':=by
 by_cases h2:k=2
 ·subst h2
  by_cases hn:n=0
  ·subst hn
   by_cases hz:s=⟨#[]⟩
   ·subst hz
    rw [checkT_on (by simp),valid_empty]
    exact check_bool_on b w g
   ·rw [checkT_off (by simp [hz])];exact check_bool_s b s hz w
  ·rw [checkT_off (by simp [hn])];exact check_bool_n b n s hn w
 by_cases h3:k=3
 ·subst h3
  cases b
  ·by_cases hz:s=⟨#[]⟩
   ·subst hz
    rw [checkT_on (by simp),valid_empty]
    exact check_int_on n w g
   ·rw [checkT_off (by simp [hz])];exact check_int_s n s hz w
  ·rw [checkT_off (by simp)];exact check_int_b n s w
 by_cases h4:k=4
 ·subst h4
  cases b
  ·by_cases hn:n=0
   ·subst hn
    rw [checkT_on (by simp)]
    exact check_text_on s w hs g
   ·rw [checkT_off (by simp [hn])];exact check_text_n n s hn w
  ·rw [checkT_off (by simp)];exact check_text_b n s w
 by_cases h1:k=1
 ·subst h1
  cases b
  ·by_cases hn:n=0
   ·subst hn
    by_cases hz:s=⟨#[]⟩
    ·subst hz
     rw [checkT_on (by simp),valid_empty]
     exact check_null_on w g
    ·rw [checkT_off (by simp [hz])];exact check_null_s s hz w
   ·rw [checkT_off (by simp [hn])];exact check_null_n n s hn w
  ·rw [checkT_off (by simp)];exact check_null_b n s w
 ·rw [checkT_off (by simp [h1,h2,h3,h4])]
  exact check_other k b n s w h1 h2 h3 h4
open Go.RowKit
/-- a datum, field by field -/
structure Dat where
 k:Int
 b:Bool
 n:Int
 s:ByteArray
def Dat.zero:Dat:=⟨0,false,0,⟨#[]⟩⟩
def Dat.check (d:Dat):Int:=checkT d.k d.b d.n d.s
open Go.RowKit
def cmpI (x y:Int):Int:=if x<y then -1 else if y<x then 1 else 0
theorem cmpI_lt {x y:Int} (h:x<y):cmpI x y = -1:=by unfold cmpI;rw [if_pos h]
theorem cmpI_gt {x y:Int} (h:y<x):cmpI x y=1:=by unfold cmpI;rw [if_neg (by omega),if_pos h]
theorem cmpI_self (x:Int):cmpI x x=0:=by unfold cmpI;rw [if_neg (by omega),if_neg (by omega)]

set_option maxRecDepth 100000 in
set_option maxHeartbeats 400000 in
theorem nan_kind (x:Int) (w:World):Calls Tryz.prog 279 #[.int .u8 x] w fun e w'=>e = .returned (.bool false)∧w=w':=by
 have h:(x != x)=false:=by simp
 go_enter Tryz.func279,Tryz.ntmps279
 go_wp2
 go_ret
 exact ⟨rfl,rfl⟩
set_option maxRecDepth 100000 in
set_option maxHeartbeats 400000 in
theorem compare_kind (x y:Int) (w:World):Calls Tryz.prog 250 #[.int .u8 x, .int .u8 y] w fun e w'=>e = .returned (.int .i64 (cmpI x y))∧w=w':=by
 rcases Int.lt_trichotomy x y with h | h | h
 ·rw [cmpI_lt h]
  go_enter Tryz.func250,Tryz.ntmps250
  go_wp2_with (go_at_call 279;refine (nan_kind _ _).mono ?_;rintro e w1 ⟨rfl,rfl⟩)
  go_ret
  exact ⟨rfl,rfl⟩
 ·subst h
  rw [cmpI_self]
  go_enter Tryz.func250,Tryz.ntmps250
  go_wp2_with (go_at_call 279;refine (nan_kind _ _).mono ?_;rintro e w1 ⟨rfl,rfl⟩)
  go_ret
  exact ⟨rfl,rfl⟩
 ·rw [cmpI_gt h]
  go_enter Tryz.func250,Tryz.ntmps250
  go_wp2_with (go_at_call 279;refine (nan_kind _ _).mono ?_;rintro e w1 ⟨rfl,rfl⟩)
  go_ret
  exact ⟨rfl,rfl⟩

set_option maxRecDepth 100000 in
set_option maxHeartbeats 400000 in
theorem dnan_int (x:Int) (w:World):Calls Tryz.prog 235 #[.int .i64 x] w fun e w'=>e = .returned (.bool false)∧w=w':=by
 have h:(x != x)=false:=by simp
 go_enter Tryz.func235,Tryz.ntmps235
 go_wp2
 go_ret
 exact ⟨rfl,rfl⟩
set_option maxRecDepth 100000 in
set_option maxHeartbeats 400000 in
theorem dcompare_int (x y:Int) (w:World):Calls Tryz.prog 205 #[.int .i64 x, .int .i64 y] w fun e w'=>e = .returned (.int .i64 (cmpI x y))∧w=w':=by
 rcases Int.lt_trichotomy x y with h | h | h
 ·rw [cmpI_lt h]
  go_enter Tryz.func205,Tryz.ntmps205
  go_wp2_with (go_at_call 235;refine (dnan_int _ _).mono ?_;rintro e w1 ⟨rfl,rfl⟩)
  go_ret
  exact ⟨rfl,rfl⟩
 ·subst h
  rw [cmpI_self]
  go_enter Tryz.func205,Tryz.ntmps205
  go_wp2_with (go_at_call 235;refine (dnan_int _ _).mono ?_;rintro e w1 ⟨rfl,rfl⟩)
  go_ret
  exact ⟨rfl,rfl⟩
 ·rw [cmpI_gt h]
  go_enter Tryz.func205,Tryz.ntmps205
  go_wp2_with (go_at_call 235;refine (dnan_int _ _).mono ?_;rintro e w1 ⟨rfl,rfl⟩)
  go_ret
  exact ⟨rfl,rfl⟩

set_option maxRecDepth 100000 in
set_option maxHeartbeats 400000 in
theorem nan_i64 (x:Int) (w:World):Calls Tryz.prog 280 #[.int .i64 x] w fun e w'=>e = .returned (.bool false)∧w=w':=by
 have h:(x != x)=false:=by simp
 go_enter Tryz.func280,Tryz.ntmps280
 go_wp2
 go_ret
 exact ⟨rfl,rfl⟩
set_option maxRecDepth 100000 in
set_option maxHeartbeats 400000 in
theorem compare_i64 (x y:Int) (w:World):Calls Tryz.prog 252 #[.int .i64 x, .int .i64 y] w fun e w'=>e = .returned (.int .i64 (cmpI x y))∧w=w':=by
 rcases Int.lt_trichotomy x y with h | h | h
 ·rw [cmpI_lt h]
  go_enter Tryz.func252,Tryz.ntmps252
  go_wp2_with (go_at_call 280;refine (nan_i64 _ _).mono ?_;rintro e w1 ⟨rfl,rfl⟩)
  go_ret
  exact ⟨rfl,rfl⟩
 ·subst h
  rw [cmpI_self]
  go_enter Tryz.func252,Tryz.ntmps252
  go_wp2_with (go_at_call 280;refine (nan_i64 _ _).mono ?_;rintro e w1 ⟨rfl,rfl⟩)
  go_ret
  exact ⟨rfl,rfl⟩
 ·rw [cmpI_gt h]
  go_enter Tryz.func252,Tryz.ntmps252
  go_wp2_with (go_at_call 280;refine (nan_i64 _ _).mono ?_;rintro e w1 ⟨rfl,rfl⟩)
  go_ret
  exact ⟨rfl,rfl⟩

/-! ### texts -/
def cmpS (x y:ByteArray):Int:=if Op.bytesLess x.toList y.toList then -1 else if x.toList==y.toList then 0 else 1
set_option maxRecDepth 100000 in
set_option maxHeartbeats 400000 in
theorem nan_str (x:ByteArray) (w:World):Calls Tryz.prog 281 #[.string x] w fun e w'=>e = .returned (.bool false)∧w=w':=by
 go_enter Tryz.func281,Tryz.ntmps281
 go_wp2
 go_ret
 exact ⟨rfl,rfl⟩
set_option maxRecDepth 100000 in
set_option maxHeartbeats 400000 in
theorem compare_str (x y:ByteArray) (w:World):Calls Tryz.prog 253 #[.string x, .string y] w fun e w'=>e = .returned (.int .i64 (cmpS x y))∧w=w':=by
 unfold cmpS
 cases h1:Op.bytesLess x.toList y.toList
 ·cases h2:(x.toList==y.toList)
  all_goals
   go_enter Tryz.func253,Tryz.ntmps253
   go_wp2_with (go_at_call 281;refine (nan_str _ _).mono ?_;rintro e w1 ⟨rfl,rfl⟩)
   go_ret
   exact ⟨ret_int (by simp),rfl⟩
 ·go_enter Tryz.func253,Tryz.ntmps253
  go_wp2_with (go_at_call 281;refine (nan_str _ _).mono ?_;rintro e w1 ⟨rfl,rfl⟩)
  go_ret
  exact ⟨ret_int (by simp),rfl⟩
open Go.RowKit
/-- the worlds that have grown out of w -/
structure Xt (w:World) where
 W:World
 x:Ext w W

instance Xt.any (w:World):Nonempty (Xt w):=⟨⟨w,Ext.refl w⟩⟩

/-- a region that draws its order and only reads; callees may make new memory: walked in the order of the text, in whatever world has grown out of the first -/
theorem wp_region_ext {P:Program} {id:Nat} {Q:Exit→Act→World→Prop} {a:Act} {w:World} {l:List Oper} (hm:P.follows .mixedOrders=true) (hB:Region.lexB .any l.toArray=true)
  (h:wpQuiet P l.toArray (fun w' => ∃ y:Xt w,w'=y.W) (fun a' => ∀ w',(∃ y:Xt w,w'=y.W)→Q .normal a' w') l a):(Code.region id l.toArray true).wp P Q a w :=
 wp_region_quiet (C:=fun w' => ∃ y:Xt w,w'=y.W) hm hB ⟨⟨_,(Ext.refl w).drew⟩,rfl⟩ (by simpa using h)

/-- a callee's contract in such a region -/
theorem call_ext {P:Program} {f:FuncId} {args:Array Value} {w:World} {y:Xt w} {v:Value} (h:Calls P f args y.W fun e w'=>e = .returned v∧Ext y.W w') :
  Calls P f args y.W fun e w''=>e = .returned v ∧ ∃ z:Xt w,w''=z.W :=
 h.mono fun _ w' ⟨he,hx⟩=>⟨he,⟨w',y.x.trans hx⟩,rfl⟩
/-! ### a fixed order -/
/-- operations that yield a value and do nothing else -/
def isFlo:Op→Bool
 | .move _ | .assign _ | .pick .. | .build .. | .load .. | .nilCheck _ | .binOp .. | .unOp .. | .convert .. | .slice .. | .fieldAddr .. | .field .. | .indexAddr .. | .index .. | .lookup .. | .extract .. | .makeInterface .. | .makeFunc .. => true
 | .call { callee := .builtin .len, .. } | .call { callee := .builtin .cap, .. } | .call { callee := .builtin .min, .. } | .call { callee := .builtin .max, .. }=>true
 | _=>false

theorem value_of_bind {P:Program} {s:Sem Value} {w w':World} {r:Next} (h:(do let x ← s;pure (Next.value x):Sem Next).run P w = .ok r w') : ∃ v,r = .value v:=by
 simp only [Sem.run_bind] at h
 cases hs:s.run P w with
 | ok v w1=>rw [hs] at h;simp only [Result.andThen_ok,Sem.run_pure,Result.ok.injEq] at h;exact ⟨v,h.1.symm⟩
 | halt x w1=>rw [hs] at h;simp [Result.andThen] at h

theorem flo_value {P:Program} {o:Oper} (ho:isFlo o.op=true) {ρ:Operand→Value} {w w':World} {r:Next} (h:(execOp ρ o).run P w = .ok r w') : ∃ v,r = .value v:=by
 obtain ⟨dst,op,type,pos,after,guard⟩:=o
 cases op with
 | move x=>simp only [execOp,Sem.run_pure,Result.ok.injEq] at h;exact ⟨_,h.1.symm⟩
 | assign x=>simp only [execOp,Sem.run_pure,Result.ok.injEq] at h;exact ⟨_,h.1.symm⟩
 | pick c x y =>
  simp only [execOp,Sem.run_bind] at h
  cases hs:(asBool (ρ c)).run P w with
  | ok v w1=>rw [hs] at h;simp only [Result.andThen_ok,Sem.run_pure,Result.ok.injEq] at h;exact ⟨_,h.1.symm⟩
  | halt x w1=>rw [hs] at h;simp [Result.andThen] at h
 | nilCheck x =>
  simp only [execOp] at h
  have key : ∀ v:Value,(pure (Next.value v):Sem Next).run P w = .ok r w' → ∃ v,r = .value v:=fun v hh=>by
   simp only [Sem.run_pure,Result.ok.injEq] at hh;exact ⟨_,hh.1.symm⟩
  have bad:(runtimePanic RuntimeError.nilDeref:Sem Next).run P w = .ok r w' → ∃ v,r = .value v:=fun hh=>by
   simp [runtimePanic] at hh
  split at h
  ·exact bad h
  ·exact bad h
  ·exact bad h
  ·split at h
   ·exact bad h
   ·simp only [Sem.run_bind] at h
    cases h1:(Sem.run P program w) with
    | halt x w1=>rw [h1] at h;simp [Result.andThen] at h
    | ok p w1 =>
     rw [h1] at h
     simp only [Result.andThen_ok] at h
     cases hh:(nilAhead (p.types.size+Made.depth) _ _ _).run P w1 with
     | halt x w2=>rw [hh] at h;simp [Result.andThen] at h
     | ok b w2 =>
      rw [hh] at h
      simp only [Result.andThen_ok] at h
      split at h
      ·simp [unsupported,Result.andThen] at h
      ·simp only [Sem.run_pure,Result.ok.injEq] at h;exact ⟨_,h.1.symm⟩
   ·exact key _ h
  ·exact key _ h
 | build t parts=>exact value_of_bind h
 | load t x=>exact value_of_bind h
 | binOp op t x y u=>exact value_of_bind h
 | unOp op t x=>exact value_of_bind h
 | convert s d x=>exact value_of_bind h
 | slice t x lo hi mx=>exact value_of_bind h
 | fieldAddr s x f=>exact value_of_bind h
 | field t x f=>exact value_of_bind h
 | indexAddr t x i=>exact value_of_bind h
 | index t x i=>exact value_of_bind h
 | lookup t x i ok=>exact value_of_bind h
 | extract t i=>exact value_of_bind h
 | makeInterface t x=>exact value_of_bind h
 | makeFunc f a b=>exact value_of_bind h
 | call c =>
  obtain ⟨callee,args,ats⟩:=c
  cases callee with
  | builtin b =>
   have e:execOp ρ { dst,op := .call { callee := .builtin b,args,argTypes:=ats },type,pos,after,guard }=builtin b ats type (args.map fun | .const _=>true | _=>false) (args.map ρ):=rfl
   rw [e] at h
   cases b<;>first | exact value_of_bind h | (simp [isFlo] at ho)
  | value f=>simp [isFlo] at ho
  | invoke r m=>simp [isFlo] at ho
 | _=>simp [isFlo] at ho

section
variable {P:Program} {ops:Array Oper} {Q:Exit→Act→World→Prop} {bs:Array Nat}

/-- operation i comes ahead of operation j in every order -/
def ancB (ops:Array Oper) (bs:Array Nat) (i j:Nat):Bool:=decide (i<ops.size)&&(bs.getD j 0).testBit i
def ancOkB (ops:Array Oper) (bs:Array Nat):Bool :=
 (List.range ops.size).all fun j=>(List.range ops.size).all fun i => !ancB ops bs i j ||
  match ops[j]? with
  | some o=>o.after.toList.any fun e=>Region.binds .any e&&(e.on==i||ancB ops bs i e.on)
  | none=>false
theorem ancOk_spec (h:ancOkB ops bs=true) {i j:Nat} (hij:ancB ops bs i j=true) {o:Oper} (ho:ops[j]?=some o) :
  ∃ e∈o.after,Region.binds .any e=true∧(e.on=i∨ancB ops bs i e.on=true):=by
 have hj:j<ops.size:=(Array.getElem?_eq_some_iff.1 ho).1
 have hi:i<ops.size:=by
  unfold ancB at hij
  simp only [Bool.and_eq_true,decide_eq_true_eq] at hij
  exact hij.1
 unfold ancOkB at h
 have h1:=List.all_eq_true.1 (List.all_eq_true.1 h j (List.mem_range.2 hj)) i (List.mem_range.2 hi)
 rw [hij,ho] at h1
 simp only [Bool.not_true,Bool.false_or,List.any_eq_true,Bool.and_eq_true,Bool.or_eq_true,beq_iff_eq] at h1
 obtain ⟨e,he,hb,hh⟩:=h1
 exact ⟨e,Array.mem_toList_iff.1 he,hb,hh⟩

def Closed (ops:Array Oper) (bs:Array Nat) (listed:Array Bool):Prop := ∀ j,listed.getD j false=true → ∀ i,ancB ops bs i j=true→listed.getD i false=true

theorem ready_anc (hok:ancOkB ops bs=true) {listed:Array Bool} (hc:Closed ops bs listed) {j i:Nat} (hj:j∈Region.ready .any ops listed) (hij:ancB ops bs i j=true):listed.getD i false=true:=by
 obtain ⟨_,o,ho,hall⟩:=mem_ready.1 hj
 obtain ⟨e,he,hb,hh⟩:=ancOk_spec hok hij ho
 have h1:=hall e he hb
 rcases hh with rfl | hh
 ·exact h1
 ·exact hc _ h1 _ hh

theorem Closed.add (hok:ancOkB ops bs=true) {listed:Array Bool} (hc:Closed ops bs listed) {j:Nat} (hj:j∈Region.ready .any ops listed):Closed ops bs (listed.setIfInBounds j true):=by
 intro k hk i hik
 by_cases hjk:j=k
 ·subst hjk
  exact getD_set_true (ready_anc hok hc hj hik)
 ·rw [getD_set_ne false hjk] at hk
  exact getD_set_true (hc k hk i hik)

/-- whatever order is picked from here on, and operations of the set X at most make new memory -/
def wpX (P:Program) (ops:Array Oper) (Q:Exit→Act→World→Prop) (X:Nat→Bool):Nat→Array Bool→Act→World→Prop
 | 0,listed,a,w=>Region.ready .any ops listed=[]∧Q .normal a w
 | fuel+1,listed,a,w =>
  (Region.ready .any ops listed=[]→Q .normal a w) ∧
  ∀ i∈Region.ready .any ops listed,wpOp P ops Q i (fun a' w'=>(X i=true→Ext w w')∧wpX P ops Q X fuel (listed.setIfInBounds i true) a' w') a w

theorem wpAny_of_X {X:Nat→Bool} : ∀ (fuel:Nat) (listed:Array Bool) (a:Act) (w:World),wpX P ops Q X fuel listed a w→wpAny P .any ops Q fuel listed a w
 | 0,_,_,_,h=>h
 | fuel+1,_,_,_,h=>⟨h.1,fun i hi=>wpOp_mono (fun a' w' h'=>wpAny_of_X fuel _ a' w' h'.2) (h.2 i hi)⟩

theorem wpX_done {X:Nat→Bool} {listed:Array Bool} {a:Act} {w:World} (hr:Region.ready .any ops listed=[]) (h:Q .normal a w) : ∀ fuel,wpX P ops Q X fuel listed a w
 | 0=>⟨hr,h⟩
 | _+1=>⟨fun _=>h,by rw [hr];simp⟩

theorem yields_later {o:Oper} {v:Value} {a:Act} {w w':World} (h:YieldsIf P ops (Ext w) o v a) (x:Ext w w'):YieldsIf P ops (Ext w') o v a :=
 h.imp (fun ⟨h1,h2⟩=>⟨h1,fun u hu=>h2 u (x.trans hu)⟩) id

theorem wpX_first {X:Nat→Bool} (hok:ancOkB ops bs=true) {i:Nat} {oi:Oper} {v:Value} (hi:ops[i]?=some oi) (hsel : ∀ (j:Nat) (o:Oper) cs b,ops[j]?=some o→o.op ≠ .select cs b)
  (hQ : ∀ c a d v w,Q (.panic c) (a.put d v) w→Q (.panic c) a w) :
  ∀ (fuel:Nat) (listed:Array Bool) (a:Act) (w:World),Closed ops bs listed →
   (∀ j oj,ops[j]?=some oj→j≠i→listed.getD j true=false→ancB ops bs i j=false→oi.apart ops oj=true∧X j=true) →
   i∈Region.ready .any ops listed→YieldsIf P ops (Ext w) oi v a →
   wpX P ops Q X fuel (listed.setIfInBounds i true) (a.put oi.dst v) w→wpX P ops Q X (fuel+1) listed a w:=by
 intro fuel
 induction fuel with
 | zero =>
  intro listed a w hcl _ hr hy H
  refine ⟨fun h=>(by rw [h] at hr;cases hr),fun j hj=>?_⟩
  by_cases hji:j=i
  ·subst hji;exact hy.wpOp hi (Ext.refl w) ⟨fun _=>Ext.refl w,H⟩
  ·have:=ready_mono hj hji
   rw [H.1] at this
   cases this
 | succ fuel ih =>
  intro listed a w hcl hfree hr hy H
  refine ⟨fun h=>(by rw [h] at hr;cases hr),fun j hj=>?_⟩
  by_cases hji:j=i
  ·subst hji;exact hy.wpOp hi (Ext.refl w) ⟨fun _=>Ext.refl w,H⟩
  ·have h1:=H.2 j (ready_mono hj hji)
   obtain ⟨hjun,oj,hoj,hall⟩:=mem_ready.1 hj
   have hiun:=(mem_ready.1 hr).1
   have hnot:ancB ops bs i j=false:=by
    cases hb:ancB ops bs i j with
    | false=>rfl
    | true =>
     have h2:=ready_anc hok hcl hj hb
     rcases Nat.lt_or_ge i listed.size with h' | h'
     ·simp [h'] at h2 hiun;rw [hiun] at h2;cases h2
     ·simp [Array.getElem?_eq_none h'] at h2
   obtain ⟨hap,hX⟩:=hfree j oj hoj hji hjun hnot
   have h2:=wpOp_putIf hoj hap (fun cs b=>hsel i oi cs b hi) (fun cs b=>hsel j oj cs b hoj) (fun c a w=>hQ c a _ _ w) hy h1
   have hfree' : ∀ k ok,ops[k]?=some ok→k≠i→(listed.setIfInBounds j true).getD k true=false→ancB ops bs i k=false→oi.apart ops ok=true∧X k=true:=fun k ok hk hki hun hno=>by
    refine hfree k ok hk hki ?_ hno
    by_cases hjk:j=k
    ·subst hjk;exact hjun
    ·rw [getD_set_ne true hjk] at hun;exact hun
   refine wpOp_mono (fun a' w' h3=>⟨h3.2.1,ih (listed.setIfInBounds j true) a' w' (hcl.add hok hj) hfree' (ready_mono hr (Ne.symm hji)) (yields_later h3.1 (h3.2.1 hX)) ?_⟩) h2
   rw [Array.setIfInBounds_comm _ _ hji]
   exact h3.2.2

theorem wpX_first_pure {X:Nat→Bool} (hok:ancOkB ops bs=true) {i:Nat} {oi:Oper} {v:Value} (hi:ops[i]?=some oi) (hsel : ∀ (j:Nat) (o:Oper) cs b,ops[j]?=some o→o.op ≠ .select cs b)
  (hQ : ∀ c a d v w,Q (.panic c) (a.put d v) w→Q (.panic c) a w) :
  ∀ (fuel:Nat) (listed:Array Bool) (a:Act) (w:World),Closed ops bs listed →
   (∀ j oj,ops[j]?=some oj→j≠i→listed.getD j true=false→ancB ops bs i j=false→oi.apart ops oj=true) →
   i∈Region.ready .any ops listed→YieldsIf P ops (fun _=>True) oi v a →
   wpX P ops Q X fuel (listed.setIfInBounds i true) (a.put oi.dst v) w→wpX P ops Q X (fuel+1) listed a w:=by
 intro fuel
 induction fuel with
 | zero =>
  intro listed a w hcl _ hr hy H
  refine ⟨fun h=>(by rw [h] at hr;cases hr),fun j hj=>?_⟩
  by_cases hji:j=i
  ·subst hji;exact hy.wpOp hi trivial ⟨fun _=>Ext.refl w,H⟩
  ·have:=ready_mono hj hji
   rw [H.1] at this
   cases this
 | succ fuel ih =>
  intro listed a w hcl hfree hr hy H
  refine ⟨fun h=>(by rw [h] at hr;cases hr),fun j hj=>?_⟩
  by_cases hji:j=i
  ·subst hji;exact hy.wpOp hi trivial ⟨fun _=>Ext.refl w,H⟩
  ·have h1:=H.2 j (ready_mono hj hji)
   obtain ⟨hjun,oj,hoj,hall⟩:=mem_ready.1 hj
   have hiun:=(mem_ready.1 hr).1
   have hnot:ancB ops bs i j=false:=by
    cases hb:ancB ops bs i j with
    | false=>rfl
    | true =>
     have h2:=ready_anc hok hcl hj hb
     rcases Nat.lt_or_ge i listed.size with h' | h'
     ·simp [h'] at h2 hiun;rw [hiun] at h2;cases h2
     ·simp [Array.getElem?_eq_none h'] at h2
   have hap:=hfree j oj hoj hji hjun hnot
   have h2:=wpOp_putIf hoj hap (fun cs b=>hsel i oi cs b hi) (fun cs b=>hsel j oj cs b hoj) (fun c a w=>hQ c a _ _ w) hy h1
   have hfree' : ∀ k ok,ops[k]?=some ok→k≠i→(listed.setIfInBounds j true).getD k true=false→ancB ops bs i k=false→oi.apart ops ok=true:=fun k ok hk hki hun hno=>by
    refine hfree k ok hk hki ?_ hno
    by_cases hjk:j=k
    ·subst hjk;exact hjun
    ·rw [getD_set_ne true hjk] at hun;exact hun
   refine wpOp_mono (fun a' w' h3=>⟨h3.2.1,ih (listed.setIfInBounds j true) a' w' (hcl.add hok hj) hfree' (ready_mono hr (Ne.symm hji)) h3.1 ?_⟩) h2
   rw [Array.setIfInBounds_comm _ _ hji]
   exact h3.2.2

/-! #### the walk in the fixed order: 'flo': operations that only read; 'ext': one that may make new memory; 'one': one that is alone; 'both': either of two comes up -/
def pickOps (ops:Array Oper) (l:List Nat):List Oper:=l.filterMap (ops[·]?)
inductive Plan where
 | fin
 | flo (l:List Nat) (r:Plan)
 | pur (l:List Nat) (r:Plan)
 | ext (i:Nat) (r:Plan)
 | one (i:Nat) (r:Plan)
 | both (i j:Nat) (r q:Plan)
/-- b: the world of which the facts at hand speak; what is at hand has grown out of it -/
def ordWalk (P:Program) (ops:Array Oper) (Q:Exit→Act→World→Prop):Plan→World→Act→World→Prop
 | .fin,_,a,w=>Q .normal a w
 | .flo l r,b,a,w=>wpQuiet P ops (fun w' => ∃ y:Xt b,w'=y.W) (fun a'=>ordWalk P ops Q r b a' w) (pickOps ops l) a
 | .pur l r,b,a,w=>wpQuiet P ops (fun _=>True) (fun a'=>ordWalk P ops Q r b a' w) (pickOps ops l) a
 | .ext i r,b,a,w=>wpList P ops (Exit.then (fun a' w'=>Ext w w'∧ordWalk P ops Q r b a' w') Q) (pickOps ops [i]) a w
 | .one i r,_,a,w=>wpList P ops (Exit.then (fun a' w'=>ordWalk P ops Q r w' a' w') Q) (pickOps ops [i]) a w
 | .both i j r q,b,a,w=>wpList P ops (Exit.then (fun a' w'=>Ext w w'∧ordWalk P ops Q r b a' w') Q) (pickOps ops [i]) a w∧wpList P ops (Exit.then (fun a' w'=>Ext w w'∧ordWalk P ops Q q b a' w') Q) (pickOps ops [j]) a w

def extIdx:Plan→List Nat
 | .fin=>[]
 | .flo _ r=>extIdx r
 | .pur _ r=>extIdx r
 | .ext i r=>i :: extIdx r
 | .one _ r=>extIdx r
 | .both i j r q=>i :: j :: (extIdx r++extIdx q)
def inX (ops:Array Oper) (es:List Nat) (j:Nat):Bool:=es.contains j||((ops[j]?).map (isFlo ·.op)).getD false
def floB (ops:Array Oper) (bs:Array Nat) (es:List Nat) (i:Nat) (listed:Array Bool):Bool :=
 match ops[i]? with
 | some oi=>isFlo oi.op&&(Region.ready .any ops listed).contains i &&
   (List.range ops.size).all fun j=>j==i||listed.getD j true||ancB ops bs i j||(match ops[j]? with | some oj=>oi.apart ops oj&&inX ops es j | none=>true)
 | none=>false
def purB (ops:Array Oper) (bs:Array Nat) (i:Nat) (listed:Array Bool):Bool :=
 match ops[i]? with
 | some oi=>isFlo oi.op&&(Region.ready .any ops listed).contains i &&
   (List.range ops.size).all fun j=>j==i||listed.getD j true||ancB ops bs i j||(match ops[j]? with | some oj=>oi.apart ops oj | none=>true)
 | none=>false
def pursB (ops:Array Oper) (bs:Array Nat):List Nat→Array Bool→Bool
 | [],_=>true
 | i :: l,listed=>purB ops bs i listed&&pursB ops bs l (listed.setIfInBounds i true)
def flosB (ops:Array Oper) (bs:Array Nat) (es:List Nat):List Nat→Array Bool→Bool
 | [],_=>true
 | i :: l,listed=>floB ops bs es i listed&&flosB ops bs es l (listed.setIfInBounds i true)
def listAll:List Nat→Array Bool→Array Bool
 | [],listed=>listed
 | i :: l,listed=>listAll l (listed.setIfInBounds i true)
def ordB (ops:Array Oper) (bs:Array Nat) (es:List Nat):Plan→Array Bool→Bool
 | .fin,listed=>(Region.ready .any ops listed).isEmpty
 | .flo l r,listed=>flosB ops bs es l listed&&ordB ops bs es r (listAll l listed)
 | .pur l r,listed=>pursB ops bs l listed&&ordB ops bs es r (listAll l listed)
 | .ext i r,listed=>((Region.ready .any ops listed)==[i])&&ordB ops bs es r (listed.setIfInBounds i true)
 | .one i r,listed=>((Region.ready .any ops listed)==[i]) && !inX ops es i&&ordB ops bs es r (listed.setIfInBounds i true)
 | .both i j r q,listed=>((Region.ready .any ops listed)==[i,j])&&ordB ops bs es r (listed.setIfInBounds i true)&&ordB ops bs es q (listed.setIfInBounds j true)
def total:Plan→Nat
 | .fin=>0
 | .flo l r=>l.length+total r
 | .pur l r=>l.length+total r
 | .ext _ r=>1+total r
 | .one _ r=>1+total r
 | .both _ _ r q=>1+max (total r) (total q)

theorem quiet_yields {o:Oper} {a:Act} {w:World} {K:Act→Prop} (ho:isFlo o.op=true) (h:o.quiet P a (fun w' => ∃ y:Xt w,w'=y.W) K) :
  ∃ v,(∀ u,Ext w u→(execOp a.eval o).run P u = .ok (.value v) u)∧K (a.put o.dst v):=by
 obtain ⟨v,h1,h2⟩:=h
 refine ⟨v,fun u hu=>?_,h2⟩
 have h3:=h1 u ⟨⟨u,hu⟩,rfl⟩
 unfold Oper.quietAt at h3
 cases hr:(execOp a.eval o).run P u with
 | ok n u' =>
  rw [hr] at h3
  obtain ⟨x,rfl⟩:=flo_value ho hr
  obtain ⟨e1,e2⟩:=h3
  rw [e1,e2]
 | halt x u'=>rw [hr] at h3;exact h3.elim

theorem quiet_yields_pure {o:Oper} {a:Act} {K:Act→Prop} (ho:isFlo o.op=true) (h:o.quiet P a (fun _=>True) K) :
  ∃ v,(∀ u,(execOp a.eval o).run P u = .ok (.value v) u)∧K (a.put o.dst v):=by
 obtain ⟨v,h1,h2⟩:=h
 refine ⟨v,fun u=>?_,h2⟩
 have h3:=h1 u trivial
 unfold Oper.quietAt at h3
 cases hr:(execOp a.eval o).run P u with
 | ok n u' =>
  rw [hr] at h3
  obtain ⟨x,rfl⟩:=flo_value ho hr
  obtain ⟨e1,e2⟩:=h3
  rw [e1,e2]
 | halt x u'=>rw [hr] at h3;exact h3.elim

theorem one_step {K:Act→World→Prop} {i:Nat} {o:Oper} {a:Act} {w:World} (hi:ops[i]?=some o) (h:wpList P ops (Exit.then K Q) (pickOps ops [i]) a w):wpOp P ops Q i K a w:=by
 have e:pickOps ops [i]=[o]:=by simp [pickOps,hi]
 rw [e] at h
 unfold wpList at h
 unfold wpOp
 simp only [hi]
 split at h
 ·rename_i hw
  rw [if_pos hw]
  refine h.imp (fun hh=>?_) (fun ⟨h1,a0,w0,h2⟩=>⟨h1,a0,w0,h2⟩)
  unfold Oper.wp at hh ⊢
  generalize (execOp a.eval o).run P w=r at *
  cases r with
  | ok n w' =>
   cases n<;>simp only [Oper.upon] at hh ⊢ <;>
    first
     | exact hh
     | exact Calls.mono hh (fun e w'' he=>by cases e<;>exact he)
  | halt x w'=>cases x<;>simp only [Oper.upon] at hh ⊢ <;> exact hh
 ·rename_i hw
  rw [if_neg hw]
  exact h

theorem X_of_ord (hok:ancOkB ops bs=true) (hsel:Region.noSelect ops=true) (hQ : ∀ c a d v w,Q (.panic c) (a.put d v) w→Q (.panic c) a w) (es:List Nat) :
  ∀ (p:Plan) (b:World) (listed:Array Bool) (a:Act) (w:World) (fuel:Nat),Ext b w→total p≤fuel→Closed ops bs listed→ordB ops bs es p listed=true→ordWalk P ops Q p b a w →
   wpX P ops Q (inX ops es) fuel listed a w:=by
 intro p
 induction p with
 | fin =>
  intro b listed a w fuel _ _ _ hB h
  exact wpX_done (by simpa [ordB] using hB) h fuel
 | flo l r ih =>
  induction l with
  | nil =>
   intro b listed a w fuel hx hf hc hB h
   refine ih b listed a w fuel hx (by simpa [total] using hf) hc (by simpa [ordB,flosB,listAll] using hB) ?_
   simpa [ordWalk,pickOps,wpQuiet] using h
  | cons i l ihl =>
   intro b listed a w fuel hx hf hc hB h
   simp only [ordB,flosB,listAll,Bool.and_eq_true] at hB
   obtain ⟨⟨hi,hl⟩,hr⟩:=hB
   cases ho:ops[i]? with
   | none=>simp [floB,ho] at hi
   | some oi =>
    simp only [floB,ho,Bool.and_eq_true] at hi
    obtain ⟨⟨hflo,hrd⟩,hfr⟩:=hi
    have hrd':i∈Region.ready .any ops listed:=by simpa using hrd
    obtain ⟨fuel,rfl⟩ : ∃ f,fuel=f+1:=⟨fuel - 1,by simp [total] at hf;omega⟩
    have hfree : ∀ j oj,ops[j]?=some oj→j≠i→listed.getD j true=false→ancB ops bs i j=false→oi.apart ops oj=true∧inX ops es j=true:=by
     intro j oj hj hne hun hno
     have:=List.all_eq_true.1 hfr j (List.mem_range.2 (Array.getElem?_eq_some_iff.1 hj).1)
     simpa [hne,hun,hno,hj] using this
    have hp:pickOps ops (i :: l)=oi :: pickOps ops l:=by simp [pickOps,ho]
    simp only [ordWalk,hp] at h
    unfold wpQuiet at h
    have go : ∀ v,YieldsIf P ops (Ext w) oi v a→wpQuiet P ops (fun w' => ∃ y:Xt b,w'=y.W) (fun a'=>ordWalk P ops Q r b a' w) (pickOps ops l) (a.put oi.dst v)→wpX P ops Q (inX ops es) (fuel+1) listed a w:=by
     intro v hy hk
     refine wpX_first hok ho (Region.noSelect_spec hsel) hQ fuel listed a w hc hfree hrd' hy ?_
     refine ihl b (listed.setIfInBounds i true) (a.put oi.dst v) w fuel hx (by simp [total] at hf ⊢;omega) (hc.add hok hrd') ?_ ?_
     ·simp only [ordB,Bool.and_eq_true];exact ⟨hl,hr⟩
     ·simpa only [ordWalk] using hk
    split at h
    ·rename_i hw
     obtain ⟨v,hv,hk⟩:=quiet_yields hflo h
     exact go v (.inl ⟨hw,fun u hu=>hv u (hx.trans hu)⟩) hk
    ·rename_i hw
     exact go undef (.inr ⟨by simpa using hw,rfl⟩) h
 | pur l r ih =>
  induction l with
  | nil =>
   intro b listed a w fuel hx hf hc hB h
   refine ih b listed a w fuel hx (by simpa [total] using hf) hc (by simpa [ordB,pursB,listAll] using hB) ?_
   simpa [ordWalk,pickOps,wpQuiet] using h
  | cons i l ihl =>
   intro b listed a w fuel hx hf hc hB h
   simp only [ordB,pursB,listAll,Bool.and_eq_true] at hB
   obtain ⟨⟨hi,hl⟩,hr⟩:=hB
   cases ho:ops[i]? with
   | none=>simp [purB,ho] at hi
   | some oi =>
    simp only [purB,ho,Bool.and_eq_true] at hi
    obtain ⟨⟨hflo,hrd⟩,hfr⟩:=hi
    have hrd':i∈Region.ready .any ops listed:=by simpa using hrd
    obtain ⟨fuel,rfl⟩ : ∃ f,fuel=f+1:=⟨fuel - 1,by simp [total] at hf;omega⟩
    have hfree : ∀ j oj,ops[j]?=some oj→j≠i→listed.getD j true=false→ancB ops bs i j=false→oi.apart ops oj=true:=by
     intro j oj hj hne hun hno
     have:=List.all_eq_true.1 hfr j (List.mem_range.2 (Array.getElem?_eq_some_iff.1 hj).1)
     simpa [hne,hun,hno,hj] using this
    have hp:pickOps ops (i :: l)=oi :: pickOps ops l:=by simp [pickOps,ho]
    simp only [ordWalk,hp] at h
    unfold wpQuiet at h
    have go : ∀ v,YieldsIf P ops (fun _=>True) oi v a→wpQuiet P ops (fun _=>True) (fun a'=>ordWalk P ops Q r b a' w) (pickOps ops l) (a.put oi.dst v)→wpX P ops Q (inX ops es) (fuel+1) listed a w:=by
     intro v hy hk
     refine wpX_first_pure hok ho (Region.noSelect_spec hsel) hQ fuel listed a w hc hfree hrd' hy ?_
     refine ihl b (listed.setIfInBounds i true) (a.put oi.dst v) w fuel hx (by simp [total] at hf ⊢;omega) (hc.add hok hrd') ?_ ?_
     ·simp only [ordB,Bool.and_eq_true];exact ⟨hl,hr⟩
     ·simpa only [ordWalk] using hk
    split at h
    ·rename_i hw
     obtain ⟨v,hv,hk⟩:=quiet_yields_pure hflo h
     exact go v (.inl ⟨hw,fun u _=>hv u⟩) hk
    ·rename_i hw
     exact go undef (.inr ⟨by simpa using hw,rfl⟩) h
 | ext i r ih =>
  intro b listed a w fuel hx hf hc hB h
  simp only [ordB,Bool.and_eq_true] at hB
  obtain ⟨hr,hr2⟩:=hB
  have hr':Region.ready .any ops listed=[i]:=by simpa using hr
  have hmem:i∈Region.ready .any ops listed:=by rw [hr'];simp
  obtain ⟨_,o,ho,_⟩:=mem_ready.1 hmem
  obtain ⟨fuel,rfl⟩ : ∃ f,fuel=f+1:=⟨fuel - 1,by simp [total] at hf;omega⟩
  refine ⟨fun h0=>(by rw [hr'] at h0;cases h0),fun j hj=>?_⟩
  rw [hr'] at hj
  obtain rfl:j=i:=by simpa using hj
  exact wpOp_mono (fun a' w' hh=>⟨fun _=>hh.1,ih b _ a' w' fuel (hx.trans hh.1) (by simp [total] at hf ⊢;omega) (hc.add hok hmem) hr2 hh.2⟩) (one_step ho h)
 | one i r ih =>
  intro b listed a w fuel hx hf hc hB h
  simp only [ordB,Bool.and_eq_true] at hB
  obtain ⟨⟨hr,hk⟩,hr2⟩:=hB
  have hr':Region.ready .any ops listed=[i]:=by simpa using hr
  have hmem:i∈Region.ready .any ops listed:=by rw [hr'];simp
  obtain ⟨_,o,ho,_⟩:=mem_ready.1 hmem
  obtain ⟨fuel,rfl⟩ : ∃ f,fuel=f+1:=⟨fuel - 1,by simp [total] at hf;omega⟩
  refine ⟨fun h0=>(by rw [hr'] at h0;cases h0),fun j hj=>?_⟩
  rw [hr'] at hj
  obtain rfl:j=i:=by simpa using hj
  have hnx:inX ops es j=false:=by simpa using hk
  exact wpOp_mono (fun a' w' hh=>⟨fun hX=>(by rw [hnx] at hX;cases hX),ih w' _ a' w' fuel (Ext.refl w') (by simp [total] at hf ⊢;omega) (hc.add hok hmem) hr2 hh⟩) (one_step ho h)
 | both i j r q ihr ihq =>
  intro b listed a w fuel hx hf hc hB h
  simp only [ordB,Bool.and_eq_true] at hB
  obtain ⟨⟨hr,hr2⟩,hq2⟩:=hB
  have hr':Region.ready .any ops listed=[i,j]:=by simpa using hr
  obtain ⟨fuel,rfl⟩ : ∃ f,fuel=f+1:=⟨fuel - 1,by simp [total] at hf;omega⟩
  have mi:i∈Region.ready .any ops listed:=by rw [hr'];simp
  have mj:j∈Region.ready .any ops listed:=by rw [hr'];simp
  refine ⟨fun h0=>(by rw [hr'] at h0;cases h0),fun k hk=>?_⟩
  rw [hr'] at hk
  rcases List.mem_cons.1 hk with rfl | hk
  ·obtain ⟨_,o,ho,_⟩:=mem_ready.1 mi
   exact wpOp_mono (fun a' w' hh=>⟨fun _=>hh.1,ihr b _ a' w' fuel (hx.trans hh.1) (by simp [total] at hf ⊢;omega) (hc.add hok mi) hr2 hh.2⟩) (one_step ho h.1)
  ·obtain rfl:k=j:=by simpa using hk
   obtain ⟨_,o,ho,_⟩:=mem_ready.1 mj
   exact wpOp_mono (fun a' w' hh=>⟨fun _=>hh.1,ihq b _ a' w' fuel (hx.trans hh.1) (by simp [total] at hf ⊢;omega) (hc.add hok mj) hq2 hh.2⟩) (one_step ho h.2)

/-- A REGION THAT DRAWS ITS ORDER, WALKED IN ONE ORDER. 'bs': of each operation those that come ahead of it in every order, as bits. -/
theorem wp_region_ord {id:Nat} {a:Act} {w:World} {l:List Oper} (bs:List Nat) (p:Plan) (hm:P.follows .mixedOrders=true)
  (hB:(ancOkB l.toArray bs.toArray&&Region.noSelect l.toArray&&ordB l.toArray bs.toArray (extIdx p) p (Array.replicate l.toArray.size false)&&decide (total p≤l.toArray.size))=true)
  (hQ : ∀ c a d v w,Q (.panic c) (a.put d v) w→Q (.panic c) a w)
  (h:ordWalk P l.toArray Q p w.drew a w.drew):(Code.region id l.toArray true).wp P Q a w:=by
 simp only [Bool.and_eq_true,decide_eq_true_eq] at hB
 obtain ⟨⟨⟨h1,h2⟩,h3⟩,h4⟩:=hB
 refine wp_region_any hm (wpAny_of_X _ _ _ _ (X_of_ord h1 h2 hQ _ p w.drew _ a w.drew _ (Ext.refl _) h4 ?_ h3 h))
 intro j hj
 exfalso
 rcases Nat.lt_or_ge j l.toArray.size with h' | h'
 ·simp [Array.getD] at hj
 ·simp [Array.getD] at hj

theorem pick_nil:pickOps ops []=[]:=rfl
/-- the operation of number i, found by going down the list -/
def nth:List Oper→Nat→Option Oper
 | [],_=>none
 | o :: _,0=>some o
 | _ :: l,i+1=>nth l i
theorem nth_eq : ∀ (l:List Oper) (i:Nat),nth l i=l[i]?
 | [],_=>by simp [nth]
 | _ :: _,0=>rfl
 | _ :: l,i+1=>by simp [nth,nth_eq l i]
theorem pick_cons {i:Nat} {o:Oper} {ol:List Oper} {l:List Nat} {r:List Oper} (h:nth ol i=some o) (k:pickOps ol.toArray l=r):pickOps ol.toArray (i :: l)=o :: r:=by
 subst k;rw [nth_eq] at h;simp [pickOps,h]
/-- the steps of such a walk -/
def ordNext (P:Program) (ops:Array Oper) (Q:Exit→Act→World→Prop) (r:Plan) (b w:World) (a':Act) (w':World):Prop:=Ext w w'∧ordWalk P ops Q r b a' w'
theorem ordNext.mk {r:Plan} {b w w':World} {a:Act} (x:Ext w w') (h:ordWalk P ops Q r b a w'):ordNext P ops Q r b w a w':=⟨x,h⟩
theorem ord_flo {l:List Nat} {r:Plan} {a:Act} {b w:World} {ol:List Oper} (hp:pickOps ops l=ol)
  (h:wpQuiet P ops (fun w' => ∃ y:Xt b,w'=y.W) (fun a'=>ordWalk P ops Q r b a' w) ol a):ordWalk P ops Q (.flo l r) b a w:=by
 subst hp;exact h
theorem ord_pur {l:List Nat} {r:Plan} {a:Act} {b w:World} {ol:List Oper} (hp:pickOps ops l=ol)
  (h:wpQuiet P ops (fun _=>True) (fun a'=>ordWalk P ops Q r b a' w) ol a):ordWalk P ops Q (.pur l r) b a w:=by
 subst hp;exact h
theorem ord_ext {i:Nat} {r:Plan} {a:Act} {b w:World} {o:Oper} (hp:pickOps ops [i]=[o])
  (h : ∀ K:Act→World→Prop,(∀ a' w',ordNext P ops Q r b w a' w'→K a' w')→wpList P ops (Exit.then K Q) [o] a w):ordWalk P ops Q (.ext i r) b a w:=by
 show wpList P ops _ (pickOps ops [i]) a w
 rw [hp];exact h _ fun _ _ h=>h
theorem ord_one {i:Nat} {r:Plan} {a:Act} {b w:World} {o:Oper} (hp:pickOps ops [i]=[o])
  (h : ∀ K:Act→World→Prop,(∀ a' w',ordWalk P ops Q r w' a' w'→K a' w')→wpList P ops (Exit.then K Q) [o] a w):ordWalk P ops Q (.one i r) b a w:=by
 show wpList P ops _ (pickOps ops [i]) a w
 rw [hp];exact h _ fun _ _ h=>h
theorem ord_both {i j:Nat} {r q:Plan} {a:Act} {b w:World} {o u:Oper} (hp:pickOps ops [i]=[o]) (hq:pickOps ops [j]=[u])
  (h : ∀ K:Act→World→Prop,(∀ a' w',ordNext P ops Q r b w a' w'→K a' w')→wpList P ops (Exit.then K Q) [o] a w)
  (k : ∀ K:Act→World→Prop,(∀ a' w',ordNext P ops Q q b w a' w'→K a' w')→wpList P ops (Exit.then K Q) [u] a w):ordWalk P ops Q (.both i j r q) b a w:=by
 refine ⟨?_,?_⟩
 ·rw [hp];exact h _ fun _ _ h=>h
 ·rw [hq];exact k _ fun _ _ h=>h
theorem ord_fin {a:Act} {b w:World} (h:Q .normal a w):ordWalk P ops Q .fin b a w:=h
end

open Go.RowKit
def rankT (b:Bool):Int:=if b then 1 else 0
def cmpD (a b:Dat):Int:=if a.k=b.k then (if a.k=2 then cmpI (rankT a.b) (rankT b.b) else if a.k=3 then cmpI a.n b.n else if a.k=4 then cmpS a.s b.s else 0) else cmpI a.k b.k
set_option maxRecDepth 100000 in
set_option maxHeartbeats 400000 in
theorem rank_any (k:Int) (b:Bool) (n:Int) (s:ByteArray) (w:World):Calls Tryz.prog 251 #[.agg #[.int .u8 k, .bool b, .int .i64 n, .string s]] w fun e w'=>e = .returned (.int .i64 (rankT b))∧Ext w w':=by
 cases b
 all_goals
  go_enter Tryz.func251,Tryz.ntmps251
  go_wp2
  go_ret
  exact ⟨rfl,(Ext.refl w).alloc _⟩
section
variable (ka na kb nb k:Int) (ba bb:Bool) (sa sb:ByteArray) (w:World)
set_option maxRecDepth 100000 in
set_option maxHeartbeats 600000 in
theorem cmp_kind (h : ¬ ka=kb):Calls Tryz.prog 218 #[.agg #[.int .u8 ka, .bool ba, .int .i64 na, .string sa], .agg #[.int .u8 kb, .bool bb, .int .i64 nb, .string sb]] w fun e w'=>e = .returned (.int .i64 (cmpI ka kb))∧Ext w w':=by
 have z:(ka != kb)=true:=by simpa using h
 clear h
 go_enter Tryz.func218,Tryz.ntmps218
 go_wp2_with (go_at_call 250;refine (compare_kind _ _ _).mono ?_;rintro e w1 ⟨rfl,rfl⟩)
 go_ret
 exact ⟨rfl,((Ext.refl w).alloc _).alloc _⟩
set_option maxRecDepth 100000 in
set_option maxHeartbeats 600000 in
theorem cmp_int:Calls Tryz.prog 218 #[.agg #[.int .u8 3, .bool ba, .int .i64 na, .string sa], .agg #[.int .u8 3, .bool bb, .int .i64 nb, .string sb]] w fun e w'=>e = .returned (.int .i64 (cmpI na nb))∧Ext w w':=by
 go_enter Tryz.func218,Tryz.ntmps218
 go_wp2_with (go_at_call 252;refine (compare_i64 _ _ _).mono ?_;rintro e w1 ⟨rfl,rfl⟩)
 go_ret
 exact ⟨rfl,((Ext.refl w).alloc _).alloc _⟩
set_option maxRecDepth 100000 in
set_option maxHeartbeats 600000 in
theorem cmp_text:Calls Tryz.prog 218 #[.agg #[.int .u8 4, .bool ba, .int .i64 na, .string sa], .agg #[.int .u8 4, .bool bb, .int .i64 nb, .string sb]] w fun e w'=>e = .returned (.int .i64 (cmpS sa sb))∧Ext w w':=by
 go_enter Tryz.func218,Tryz.ntmps218
 go_wp2_with (go_at_call 253;refine (compare_str _ _ _).mono ?_;rintro e w1 ⟨rfl,rfl⟩)
 go_ret
 exact ⟨rfl,((Ext.refl w).alloc _).alloc _⟩
set_option maxRecDepth 100000 in
set_option maxHeartbeats 600000 in
theorem cmp_other (h2 : ¬ k=2) (h3 : ¬ k=3) (h4 : ¬ k=4):Calls Tryz.prog 218 #[.agg #[.int .u8 k, .bool ba, .int .i64 na, .string sa], .agg #[.int .u8 k, .bool bb, .int .i64 nb, .string sb]] w fun e w'=>e = .returned (.int .i64 0)∧Ext w w':=by
 have z:(k != k)=false:=by simp
 have z2:(k==2)=false:=by simpa using h2
 have z3:(k==3)=false:=by simpa using h3
 have z4:(k==4)=false:=by simpa using h4
 go_enter Tryz.func218,Tryz.ntmps218
 go_wp2
 go_ret
 exact ⟨rfl,((Ext.refl w).alloc _).alloc _⟩
set_option maxRecDepth 100000 in
set_option maxHeartbeats 800000 in
theorem cmp_bool:Calls Tryz.prog 218 #[.agg #[.int .u8 2, .bool ba, .int .i64 na, .string sa], .agg #[.int .u8 2, .bool bb, .int .i64 nb, .string sb]] w fun e w'=>e = .returned (.int .i64 (cmpI (rankT ba) (rankT bb)))∧Ext w w':=by
 go_enter Tryz.func218,Tryz.ntmps218
 go_upto_region 6 with fail
 have a0:Bk ((w.alloc (.cells #[.int .u8 2, .bool ba, .int .i64 na, .string sa] 204)).alloc (.cells #[.int .u8 2, .bool bb, .int .i64 nb, .string sb] 204)) w.heap.size 204 #[.int .u8 2, .bool ba, .int .i64 na, .string sa]:=(Bk.new _ _ _).alloc _
 have b0:Bk ((w.alloc (.cells #[.int .u8 2, .bool ba, .int .i64 na, .string sa] 204)).alloc (.cells #[.int .u8 2, .bool bb, .int .i64 nb, .string sb] 204)) (w.heap.size+1) 204 #[.int .u8 2, .bool bb, .int .i64 nb, .string sb]:=Bk.at (by simp)
 have E0:=((Ext.refl w).alloc (.cells #[.int .u8 2, .bool ba, .int .i64 na, .string sa] 204)).alloc (.cells #[.int .u8 2, .bool bb, .int .i64 nb, .string sb] 204)
 obtain ⟨w0,hw0⟩ : ∃ w0,w0=(w.alloc (.cells #[.int .u8 2, .bool ba, .int .i64 na, .string sa] 204)).alloc (.cells #[.int .u8 2, .bool bb, .int .i64 nb, .string sb] 204):=⟨_,rfl⟩
 rw [← hw0] at a0 b0 E0 ⊢
 clear hw0
 have X:Ext w0 w0.drew:=(Ext.refl w0).drew
 have p0 : ∀ y:Xt w0.drew,y.W.cell? ⟨w.heap.size,0,none⟩=some (.int .u8 2):=fun y=>(a0.ext (X.trans y.x)).cell 0
 have p1 : ∀ y:Xt w0.drew,y.W.cell? ⟨w.heap.size,1,none⟩=some (.bool ba):=fun y=>(a0.ext (X.trans y.x)).cell 1
 have p2 : ∀ y:Xt w0.drew,y.W.cell? ⟨w.heap.size,2,none⟩=some (.int .i64 na):=fun y=>(a0.ext (X.trans y.x)).cell 2
 have p3 : ∀ y:Xt w0.drew,y.W.cell? ⟨w.heap.size,3,none⟩=some (.string sa):=fun y=>(a0.ext (X.trans y.x)).cell 3
 have q0 : ∀ y:Xt w0.drew,y.W.cell? ⟨w.heap.size+1,0,none⟩=some (.int .u8 2):=fun y=>(b0.ext (X.trans y.x)).cell 0
 have q1 : ∀ y:Xt w0.drew,y.W.cell? ⟨w.heap.size+1,1,none⟩=some (.bool bb):=fun y=>(b0.ext (X.trans y.x)).cell 1
 have q2 : ∀ y:Xt w0.drew,y.W.cell? ⟨w.heap.size+1,2,none⟩=some (.int .i64 nb):=fun y=>(b0.ext (X.trans y.x)).cell 2
 have q3 : ∀ y:Xt w0.drew,y.W.cell? ⟨w.heap.size+1,3,none⟩=some (.string sb):=fun y=>(b0.ext (X.trans y.x)).cell 3
 refine wp_region_ord [0,0,3,0,0,31,63,127] (.flo [0,1,3,4] (.ext 2 (.one 5 (.one 6 (.flo [7] (.fin)))))) (by kernel_rfl) (by kernel_rfl) (by intro _ _ d _ _ h;cases d<;>exact h) ?_
 (refine ord_flo (pick_cons rfl (pick_cons rfl (pick_cons rfl (pick_cons rfl pick_nil)))) ?_;(repeat (go_big_quiet_step (fail)));refine wpQuiet_nil ?_;show ordWalk _ _ _ _ _ _ _)
 refine ord_ext (pick_cons rfl pick_nil) ?_;intro K_ hK_
 go_wp2_with (go_at_call 251;refine (rank_any _ _ _ _ _).mono ?_;rintro e w1 ⟨rfl,x1⟩)
 refine ordNext.mk x1 ?_
 refine ord_one (pick_cons rfl pick_nil) ?_;intro K_ hK_
 go_wp2_with (go_at_call 251;refine (rank_any _ _ _ _ _).mono ?_;rintro e w2 ⟨rfl,x2⟩)
 refine ord_one (pick_cons rfl pick_nil) ?_;intro K_ hK_
 go_wp2_with (go_at_call 205;refine (dcompare_int _ _ _).mono ?_;rintro e w3 ⟨rfl,rfl⟩)
 (refine ord_flo (pick_cons rfl pick_nil) ?_;(repeat (go_big_quiet_step (fail)));refine wpQuiet_nil ?_;show ordWalk _ _ _ _ _ _ _)
 refine ord_fin ?_
 go_wp2
 go_ret
 exact ⟨rfl,((E0.trans X).trans x1).trans x2⟩
end
theorem dcmp_any (a b:Dat) (w:World):Calls Tryz.prog 218 #[.agg #[.int .u8 a.k, .bool a.b, .int .i64 a.n, .string a.s], .agg #[.int .u8 b.k, .bool b.b, .int .i64 b.n, .string b.s]] w fun e w'=>e = .returned (.int .i64 (cmpD a b))∧Ext w w':=by
 obtain ⟨ka,ba,na,sa⟩:=a
 obtain ⟨kb,bb,nb,sb⟩:=b
 unfold cmpD
 by_cases h:ka=kb
 ·subst h
  rw [if_pos rfl]
  by_cases h2:ka=2
  ·subst h2;rw [if_pos rfl];exact cmp_bool na nb ba bb sa sb w
  ·rw [if_neg h2]
   by_cases h3:ka=3
   ·subst h3;rw [if_pos rfl];exact cmp_int na nb ba bb sa sb w
   ·rw [if_neg h3]
    by_cases h4:ka=4
    ·subst h4;rw [if_pos rfl];exact cmp_text na nb ba bb sa sb w
    ·rw [if_neg h4];exact cmp_other na nb ka ba bb sa sb w h2 h3 h4
 ·rw [if_neg h];exact cmp_kind ka na kb nb ba bb sa sb w h
end Go.Proofs.YtdgbkpoickbidaaGreatDoor
