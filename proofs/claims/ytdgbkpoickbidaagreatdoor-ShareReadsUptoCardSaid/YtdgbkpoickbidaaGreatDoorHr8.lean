/- A spine in memory: which blocks it has, what stays under writes to some blocks. A map whose keys are pointers to handles: made, asked how long it is, written, struck from, ranged over. slices.IndexFunc, ContainsFunc at times, by a predicate that captures nothing. spine.New, flat, size, Since, Upper, Compact, Sizes: what they answer. Lists of ints. A spine's Sizes and contents. slices.insertionSortCmpFunc at updates: it sorts, those that are alike in their order. slices.IndexFunc, DeleteFunc at updates, by 'none of them'. slices.DeleteFunc at updates, by 'none of them': the walk. delta.Sum: the loop's relation. slices.Clone at updates. delta.copied: an update with a row and counters of its own. Two elements of a list of updates change places. Conditions: each theorem states its own. -/
import Derived.Test.YtdgbkpoickbidaaGreatDoorHr4
import Derived.Test.YtdgbkpoickbidaaGreatDoorHr7
import Derived.LaidEqlPtr
import Derived.Maps.RangeWalk
import Derived.Maps.OwnSet
import Derived.Carry
import Derived.Test.YtdgbkpoickbidaaGreatDoorHr1
import Derived.Deep.LoopGhost
import Derived.Test.YtdgbkpoickbidaaGreatDoorHr6
import Derived.Lib.SliceRun
namespace Go.Proofs.YtdgbkpoickbidaaGreatDoor
open Go.RowKit

/-! ### the type of a block -/
def Ty (w:World) (k:Nat) (e:TypeId):Prop := ∃ cur z,w.heap[k]?=some (.cells cur e z)
theorem Ty.ne {w:World} {k:Nat} {e f:TypeId} (h:Ty w k e) (g:Ty w k f):e=f:=by
 obtain ⟨a,b,h⟩:=h
 obtain ⟨c,d,g⟩:=g
 rw [h] at g
 injection g with g
 injection g with _ g
theorem Bk.ty {w:World} {g:Nat} {t:TypeId} {cs:Array Value} (h:Bk w g t cs):Ty w g t:=⟨_,_,h⟩
theorem Own.ty {w:World} {B s n c:Nat} {e:TypeId} {A:Option Addr} {xs:List Value} (h:Own w B e s A n c xs) {k:Nat} (hk:blk A c=some k):Ty w k e:=by
 rcases h.2 with ⟨rfl,_⟩ | ⟨g,cur,rfl,_,hg,_⟩
 ·rw [blk_zero] at hk;cases hk
 ·cases c with
  | zero=>cases hk
  | succ c =>
   injection hk with hk
   simp only at hk
   subst hk
   exact ⟨_,_,hg⟩
/-! ### the blocks of a list -/
def UBlk (A:Option Addr) (c:Nat) (L:List Ud) (k:Nat):Prop:=blk A c=some k ∨ ∃ x∈L,blk x.A x.c=some k∨blk x.t.A x.t.c=some k
def TBlk (A:Option Addr) (c:Nat) (L:List Tm) (k:Nat):Prop:=blk A c=some k ∨ ∃ x∈L,blk x.A x.c=some k
section
variable {w w':World} {B c:Nat} {A:Option Addr} {k:Nat}
theorem Uout.lt {L:List Ud} (h:Uout w B A c L) (hk:UBlk A c L k):B≤k∧k<w.heap.size:=by
 rcases hk with hk | ⟨x,hx,hk | hk⟩
 ·exact h.own.lt k hk
 ·exact (h.rw x hx).lt k hk
 ·exact (h.ts x hx).lt k hk
theorem Uout.ty {L:List Ud} (h:Uout w B A c L) (hk:UBlk A c L k):Ty w k 95∨Ty w k 204∨Ty w k 180:=by
 rcases hk with hk | ⟨x,hx,hk | hk⟩
 ·exact .inl (h.own.ty hk)
 ·exact .inr (.inl ((h.rw x hx).ty hk))
 ·exact .inr (.inr ((h.ts x hx).ty hk))
theorem Uout.updB {S:Nat→Prop} {L:List Ud} (h:Uout w B A c L) (x:Upd S w w') (hn : ∀ k,UBlk A c L k → ¬ S k):Uout w' B A c L :=
 ⟨h.own.upd x (fun k hk=>hn k (.inl hk)),fun y hy=>(h.rw y hy).upd x (fun k hk=>hn k (.inr ⟨y,hy, .inl hk⟩)),fun y hy=>(h.ts y hy).upd x (fun k hk=>hn k (.inr ⟨y,hy, .inr hk⟩)),h.ra,h.ta⟩
theorem Tout.lt {L:List Tm} (h:Tout w B A c L) (hk:TBlk A c L k):B≤k∧k<w.heap.size:=by
 rcases hk with hk | ⟨x,hx,hk⟩
 ·exact h.own.lt k hk
 ·exact (h.ls x hx).1.lt k hk
theorem Tout.ty {L:List Tm} (h:Tout w B A c L) (hk:TBlk A c L k):Ty w k 26∨Ty w k 180:=by
 rcases hk with hk | ⟨x,hx,hk⟩
 ·exact .inl (h.own.ty hk)
 ·exact .inr ((h.ls x hx).1.ty hk)
theorem Tout.updB {S:Nat→Prop} {L:List Tm} (h:Tout w B A c L) (x:Upd S w w') (hn : ∀ k,TBlk A c L k → ¬ S k):Tout w' B A c L :=
 ⟨h.own.upd x (fun k hk=>hn k (.inl hk)),fun y hy=>⟨(h.ls y hy).1.upd x (fun k hk=>hn k (.inr ⟨y,hy,hk⟩)),(h.ls y hy).2⟩,h.apart⟩
end
/-! ### the region -/
/-- the region, and what is new -/
def Rg (R:Nat→Prop) (w w':World) (k:Nat):Prop:=R k∨(w.heap.size≤k∧k<w'.heap.size)
theorem Rg.step {R:Nat→Prop} {a b c:World} (h:a.heap.size≤b.heap.size) (h2:b.heap.size≤c.heap.size) : ∀ k,Rg (Rg R a b) b c k→Rg R a c k:=fun k hk=>by
 rcases hk with (hk | ⟨h3,h4⟩) | ⟨h3,h4⟩
 ·exact .inl hk
 ·exact .inr ⟨h3,by omega⟩
 ·exact .inr ⟨by omega,h4⟩
theorem upd_rg {R:Nat→Prop} {a b c:World} (h:Upd R a b) (k:Upd (Rg R a b) b c):Upd R a c :=
 ⟨k.os.trans h.os,k.tape.trans h.tape,k.output.trans h.output,Nat.le_trans h.size k.size,fun q hq hn=>(k.block q (Nat.lt_of_lt_of_le hq h.size) (fun e=>by
  rcases e with e | ⟨e,_⟩
  ·exact hn e
  ·omega)).trans (h.block q hq hn)⟩
/-! ### batches -/
/-- a batch: its block, its list -/
structure Bt where
 g:Nat
 A:Option Addr
 c:Nat
 l:List Ud
def Bt.zero:Bt:=⟨0,none,0,[]⟩
abbrev Bt.p (b:Bt):Value := .pointer (some ⟨b.g,0,none⟩)
def Bt.v (b:Bt):List UV:=b.l.map Ud.uv
structure BtR (w:World) (R:Nat→Prop) (b:Bt):Prop where
 bk:Bk w b.g 197 #[.slice b.A b.l.length b.c]
 rg:R b.g
 u:Uout w 0 b.A b.c b.l
 ru : ∀ k,UBlk b.A b.c b.l k→R k
structure TmR (w:World) (R:Nat→Prop) (A:Option Addr) (c:Nat) (L:List Tm):Prop where
 t:Tout w 0 A c L
 rt : ∀ k,TBlk A c L k→R k
/-- what a spine itself writes to: its own block, its list, the pair's block -/
def Own_ (w:World) (k:Nat):Prop:=Ty w k 192∨Ty w k 195∨Ty w k 270
section
variable {w w':World} {R R' S:Nat→Prop}
theorem Own_.not {k:Nat} {e:TypeId} (h:Ty w k e) (h1:e≠192) (h2:e≠195) (h3:e≠270) : ¬ Own_ w k:=fun g=>by
 rcases g with g | g | g
 ·exact h1 (h.ne g)
 ·exact h2 (h.ne g)
 ·exact h3 (h.ne g)
theorem UBlk.not {B c:Nat} {A:Option Addr} {L:List Ud} {k:Nat} (h:Uout w B A c L) (hk:UBlk A c L k) : ¬ Own_ w k:=by
 rcases h.ty hk with q | q | q
 ·exact Own_.not q (by decide) (by decide) (by decide)
 ·exact Own_.not q (by decide) (by decide) (by decide)
 ·exact Own_.not q (by decide) (by decide) (by decide)
theorem TBlk.not {B c:Nat} {A:Option Addr} {L:List Tm} {k:Nat} (h:Tout w B A c L) (hk:TBlk A c L k) : ¬ Own_ w k:=by
 rcases h.ty hk with q | q
 ·exact Own_.not q (by decide) (by decide) (by decide)
 ·exact Own_.not q (by decide) (by decide) (by decide)
theorem Bk.upd {S:Nat→Prop} {g:Nat} {t:TypeId} {cs:Array Value} (h:Bk w g t cs) (x:Upd S w w') (hn : ¬ S g):Bk w' g t cs:=(x.block g h.lt hn).trans h
theorem BtR.ext {b:Bt} (h:BtR w R b) (x:Ext w w'):BtR w' R b:=⟨h.bk.ext x,h.rg,h.u.ext x,h.ru⟩
theorem BtR.upd {b:Bt} (h:BtR w R b) (x:Upd S w w') (hS : ∀ k,R k → ¬ S k):BtR w' R b:=⟨h.bk.upd x (hS _ h.rg),h.rg,h.u.updB x fun k hk=>hS k (h.ru k hk),h.ru⟩
theorem BtR.safe {b:Bt} (h:BtR w R b) (x:Upd S w w') (hS : ∀ k,k<w.heap.size→S k→Own_ w k):BtR w' R b :=
 ⟨h.bk.upd x fun q=>Own_.not h.bk.ty (by decide) (by decide) (by decide) (hS _ h.bk.lt q),h.rg,h.u.updB x fun k hk q=>UBlk.not h.u hk (hS k (h.u.lt hk).2 q),h.ru⟩
theorem BtR.wide {b:Bt} (h:BtR w R b) (hR : ∀ k,k<w.heap.size→R k→R' k):BtR w R' b:=⟨h.bk,hR _ h.bk.lt h.rg,h.u,fun k hk=>hR k (h.u.lt hk).2 (h.ru k hk)⟩
variable {A:Option Addr} {c:Nat} {L:List Tm}
theorem TmR.ext (h:TmR w R A c L) (x:Ext w w'):TmR w' R A c L:=⟨h.t.ext x,h.rt⟩
theorem TmR.upd (h:TmR w R A c L) (x:Upd S w w') (hS : ∀ k,R k → ¬ S k):TmR w' R A c L:=⟨h.t.updB x fun k hk=>hS k (h.rt k hk),h.rt⟩
theorem TmR.safe (h:TmR w R A c L) (x:Upd S w w') (hS : ∀ k,k<w.heap.size→S k→Own_ w k):TmR w' R A c L:=⟨h.t.updB x fun k hk q=>TBlk.not h.t hk (hS k (h.t.lt hk).2 q),h.rt⟩
theorem TmR.wide (h:TmR w R A c L) (hR : ∀ k,k<w.heap.size→R k→R' k):TmR w R' A c L:=⟨h.t,fun k hk=>hR k (h.t.lt hk).2 (h.rt k hk)⟩
end
/-! ### the spine -/
/-- the pair: its block, the elder one's place, what is left -/
structure Pr where
 g:Nat
 i:Nat
 left:Nat
/-- a spine: its list of batches, the pair, since and upper -/
structure SpM where
 A:Option Addr
 c:Nat
 bs:List Bt
 un:Option Pr
 sA:Option Addr
 sc:Nat
 S:List Tm
 uA:Option Addr
 uc:Nat
 U:List Tm
def unV:Option Pr→Value
 | none => .pointer none
 | some p => .pointer (some ⟨p.g,0,none⟩)
def getB (l:List Bt) (i:Nat):Bt:=l.getD i Bt.zero
structure PrR (w:World) (R:Nat→Prop) (bs:List Bt) (p:Pr):Prop where
 bk:Bk w p.g 270 #[(getB bs p.i).p,(getB bs (p.i+1)).p, .int .i64 p.left]
 rg:R p.g
 lt:p.i+1<bs.length
/-- all but its own block -/
structure SpB (w:World) (R:Nat→Prop) (m:SpM):Prop where
 ow:Own w 0 195 1 m.A m.bs.length m.c (m.bs.map Bt.p)
 ro : ∀ k,blk m.A m.c=some k→R k
 bt : ∀ b∈m.bs,BtR w R b
 nd:(m.bs.map Bt.g).Nodup
 un : ∀ p,m.un=some p→PrR w R m.bs p
 sn:TmR w R m.sA m.sc m.S
 up:TmR w R m.uA m.uc m.U
def headC (m:SpM):Array Value := #[.slice m.A m.bs.length m.c,unV m.un, .slice m.sA m.S.length m.sc, .slice m.uA m.U.length m.uc]
structure SpR (w:World) (R:Nat→Prop) (gs:Nat) (m:SpM):Prop where
 bk:Bk w gs 192 (headC m)
 rg:R gs
 b:SpB w R m
section
variable {w w':World} {R R' S:Nat→Prop} {gs:Nat} {m:SpM}
theorem SpB.ext (h:SpB w R m) (x:Ext w w'):SpB w' R m :=
 ⟨h.ow.ext x,h.ro,fun b hb=>(h.bt b hb).ext x,h.nd,fun p hp=>⟨(h.un p hp).bk.ext x,(h.un p hp).rg,(h.un p hp).lt⟩,h.sn.ext x,h.up.ext x⟩
theorem SpB.upd (h:SpB w R m) (x:Upd S w w') (hS : ∀ k,R k → ¬ S k):SpB w' R m :=
 ⟨h.ow.upd x fun k hk=>hS k (h.ro k hk),h.ro,fun b hb=>(h.bt b hb).upd x hS,h.nd,fun p hp=>⟨(h.un p hp).bk.upd x (hS _ (h.un p hp).rg),(h.un p hp).rg,(h.un p hp).lt⟩,h.sn.upd x hS,h.up.upd x hS⟩
theorem SpB.wide (h:SpB w R m) (hR : ∀ k,k<w.heap.size→R k→R' k):SpB w R' m :=
 ⟨h.ow,fun k hk=>hR k (h.ow.lt k hk).2 (h.ro k hk),fun b hb=>(h.bt b hb).wide hR,h.nd,fun p hp=>⟨(h.un p hp).bk,hR _ (h.un p hp).bk.lt (h.un p hp).rg,(h.un p hp).lt⟩,h.sn.wide hR,h.up.wide hR⟩
/-- a write to the spine's own block -/
theorem SpB.head {cs:Array Value} (h:SpB w R m) (hb:Bk w gs 192 cs) (i:Nat) (u:Value):SpB (w.setCell ⟨gs,i,none⟩ u) R m:=by
 have x:Upd (fun k=>k=gs) w (w.setCell ⟨gs,i,none⟩ u):=(Upd.refl (fun k=>k=gs) w).setCell (p:=⟨gs,i,none⟩) (.inl rfl) u
 have hS : ∀ k,k<w.heap.size→k=gs→Own_ w k:=fun k _ e=>by subst e;exact .inl hb.ty
 refine ⟨h.ow.upd x fun k hk e=>?_,h.ro,fun b hb=>(h.bt b hb).safe x hS,h.nd,fun p hp=>⟨(h.un p hp).bk.upd x fun e=>?_,(h.un p hp).rg,(h.un p hp).lt⟩,h.sn.safe x hS,h.up.safe x hS⟩
 ·subst e
  exact absurd ((h.ow.ty hk).ne hb.ty) (by decide)
 ·have:=(h.un p hp).bk.ty
  rw [e] at this
  exact absurd (this.ne hb.ty) (by decide)
theorem SpR.ext (h:SpR w R gs m) (x:Ext w w'):SpR w' R gs m:=⟨h.bk.ext x,h.rg,h.b.ext x⟩
theorem SpR.upd (h:SpR w R gs m) (x:Upd S w w') (hS : ∀ k,R k → ¬ S k):SpR w' R gs m:=⟨h.bk.upd x (hS _ h.rg),h.rg,h.b.upd x hS⟩
theorem SpR.wide (h:SpR w R gs m) (hR : ∀ k,k<w.heap.size→R k→R' k):SpR w R' gs m:=⟨h.bk,hR _ h.bk.lt h.rg,h.b.wide hR⟩
/-- since is put -/
theorem SpR.put_s {w1:World} {A:Option Addr} {c:Nat} {M:List Tm} (h:SpR w R gs m) (x:Ext w w1) (t:Tout w1 w.heap.size A c M):SpR (w1.setCell ⟨gs,2,none⟩ (.slice A M.length c)) (Rg R w (w1.setCell ⟨gs,2,none⟩ (.slice A M.length c))) gs { m with sA:=A,sc:=c,S:=M }∧Upd R w (w1.setCell ⟨gs,2,none⟩ (.slice A M.length c)):=by
 have hz:(w1.setCell ⟨gs,2,none⟩ (.slice A M.length c)).heap.size=w1.heap.size:=by simp
 have hb1:=h.bk.ext x
 have k:=(h.b.ext x).wide (R':=Rg R w (w1.setCell ⟨gs,2,none⟩ (.slice A M.length c))) fun k _ hk => .inl hk
 have b1:SpB w1 (Rg R w (w1.setCell ⟨gs,2,none⟩ (.slice A M.length c))) { m with sA:=A,sc:=c,S:=M }:=⟨k.ow,k.ro,k.bt,k.nd,k.un,⟨t.mono (Nat.zero_le _),fun q hq => .inr (by rw [hz];exact t.lt hq)⟩,k.up⟩
 exact ⟨⟨hb1.set 2 _, .inl h.rg,b1.head hb1 2 _⟩,(Upd.ext x).setCell (.inl h.rg) _⟩
/-- upper is put -/
theorem SpR.put_u {w1:World} {A:Option Addr} {c:Nat} {M:List Tm} (h:SpR w R gs m) (x:Ext w w1) (t:Tout w1 w.heap.size A c M):SpR (w1.setCell ⟨gs,3,none⟩ (.slice A M.length c)) (Rg R w (w1.setCell ⟨gs,3,none⟩ (.slice A M.length c))) gs { m with uA:=A,uc:=c,U:=M }∧Upd R w (w1.setCell ⟨gs,3,none⟩ (.slice A M.length c)):=by
 have hz:(w1.setCell ⟨gs,3,none⟩ (.slice A M.length c)).heap.size=w1.heap.size:=by simp
 have hb1:=h.bk.ext x
 have k:=(h.b.ext x).wide (R':=Rg R w (w1.setCell ⟨gs,3,none⟩ (.slice A M.length c))) fun k _ hk => .inl hk
 have b1:SpB w1 (Rg R w (w1.setCell ⟨gs,3,none⟩ (.slice A M.length c))) { m with uA:=A,uc:=c,U:=M }:=⟨k.ow,k.ro,k.bt,k.nd,k.un,k.sn,⟨t.mono (Nat.zero_le _),fun q hq => .inr (by rw [hz];exact t.lt hq)⟩⟩
 exact ⟨⟨hb1.set 3 _, .inl h.rg,b1.head hb1 3 _⟩,(Upd.ext x).setCell (.inl h.rg) _⟩
theorem getB_mem {l:List Bt} {i:Nat} (h:i<l.length):getB l i∈l:=by
 unfold getB
 rw [List.getD_eq_getElem?_getD,List.getElem?_eq_getElem h]
 exact List.getElem_mem h
theorem getB_p {l:List Bt} {i:Nat} (h:i<l.length):(l.map Bt.p)[i]?=some (getB l i).p:=by
 unfold getB
 rw [List.getElem?_map,List.getD_eq_getElem?_getD,List.getElem?_eq_getElem h]
 rfl
/-- a batch of the list: where its pointer lies, and what its block holds -/
theorem SpB.at (h:SpB w R m) {i:Nat} (hi:i<m.bs.length) : ∃ ad,m.A=some ad∧w.cell? (ad.add i)=some (getB m.bs i).p∧w.cell? ⟨(getB m.bs i).g,0,none⟩=some (.slice (getB m.bs i).A (getB m.bs i).l.length (getB m.bs i).c):=by
 obtain ⟨ad,h1,h2⟩:=h.ow.sl.2.2.2.2 (by omega)
 exact ⟨ad,h1,h2 i _ (getB_p hi),(h.bt _ (getB_mem hi)).bk.cell 0⟩
end
/-! ### what it is worth -/
/-- a spine's meaning: the batches, the pair's place and what is left, since and upper -/
structure SV where
 bs:List (List UV)
 un:Option (Nat × Nat)
 S:List TV
 U:List TV
def SpM.v (m:SpM):SV:=⟨m.bs.map Bt.v,m.un.map fun p=>(p.i,p.left),m.S.map Tm.v,m.U.map Tm.v⟩
def flatV (S:List TV):Bool:=decide (S.length≤1) && !(S.any fun t=>decide (0<t.2.length))
def compactV (s:SV) (X:List TV):Int × SV:=if flatV X=false then (110,s) else if leqV s.S X=false then (111,s) else (0,{ s with S:=ofV X })
def newV:SV:=⟨[],none,[(0,[])],[(0,[])]⟩
open Go.RowKit
open Go.ChangeMaps (setBlock)

/-- a handle's entry: its block, when it came -/
structure Hd where
 g:Nat
 born:Nat
def entP (x:Hd):MapEntry:=⟨.pointer (some ⟨x.g,0,none⟩), .agg #[],x.born⟩
structure PM (w:World) (b:Nat) (L:List Hd) (clock:Nat):Prop where
 bk:w.heap[b]?=some (.map (L.map entP).toArray clock)
 st : ∀ x∈L,x.born<clock
 nb:(L.map Hd.born).Nodup
 ng:(L.map Hd.g).Nodup
 hb : ∀ x∈L, ∃ cs,Bk w x.g 215 cs
theorem info_hd : ∃ j,Tryz.prog.info? 215=some j∧j.size≠0:=by
 have h:(Tryz.prog.info? 215).map (·.size)=some 5:=by kernel_rfl
 cases hj:Tryz.prog.info? 215 with
 | none=>rw [hj] at h;cases h
 | some j =>
  rw [hj] at h
  injection h with h
  exact ⟨j,rfl,by rw [show j.size=5 from h];decide⟩
theorem und_hd:Tryz.prog.underlying 112=some (.pointer 215):=Tryz.underlying112
theorem und_pm:Tryz.prog.underlying 207=some (.map 112 216):=Tryz.underlying207
section
variable {w w':World} {b clock:Nat} {L:List Hd}
theorem eq_hd_same (g:Nat):(Op.equal 112 (.pointer (some ⟨g,0,none⟩)) (.pointer (some ⟨g,0,none⟩))).run Tryz.prog w = .ok true w:=by
 obtain ⟨j,hj,_⟩:=info_hd
 have h : ∀ d:Nat,(Op.equalIn (d+1) 112 (.pointer (some ⟨g,0,none⟩)) (.pointer (some ⟨g,0,none⟩))).run Tryz.prog w = .ok true w:=fun d=>by
  simp [Op.equalIn,run_underlying und_hd,sizeOf,typeInfo,hj,run_sameAddr_same]
 exact h 9999
theorem eq_hd_other {g k:Nat} {ca cb:Array Value} {ta tb:TypeId} (hne:g≠k) (ha:Bk w g ta ca) (hb:Bk w k tb cb):(Op.equal 112 (.pointer (some ⟨g,0,none⟩)) (.pointer (some ⟨k,0,none⟩))).run Tryz.prog w = .ok false w:=by
 obtain ⟨j,hj,hs⟩:=info_hd
 have h : ∀ d:Nat,(Op.equalIn (d+1) 112 (.pointer (some ⟨g,0,none⟩)) (.pointer (some ⟨k,0,none⟩))).run Tryz.prog w = .ok false w:=fun d=>by
  simp [Op.equalIn,run_underlying und_hd,sizeOf,typeInfo,hj,hs,run_sameAddr_other w (a:=⟨g,0,none⟩) (b:=⟨k,0,none⟩) (fun e=>hne (congrArg Addr.block e)) ha hb]
 exact h 9999
/-- where a handle stands -/
theorem ask_hd {g:Nat} {cs:Array Value} {t:TypeId} (hg:Bk w g t cs) : ∀ (L:List Hd) (i:Nat),(∀ x∈L, ∃ cs,Bk w x.g 215 cs) →
  ((∀ x∈L,x.g≠g)∧(Instr.findAsking 112 (.pointer (some ⟨g,0,none⟩)) (L.map entP) i).run Tryz.prog w = .ok none w) ∨
  ∃ j x,L[j]?=some x∧x.g=g∧(Instr.findAsking 112 (.pointer (some ⟨g,0,none⟩)) (L.map entP) i).run Tryz.prog w = .ok (some (i+j, .agg #[])) w
 | [],i,_ => .inl ⟨fun x hx=>(nomatch hx),by simp [Instr.findAsking]⟩
 | x :: L,i,hb=>by
  by_cases hx:x.g=g
  ·refine .inr ⟨0,x,rfl,hx,?_⟩
   have e:=eq_hd_same (w:=w) g
   subst hx
   show (Instr.findAsking _ _ (entP x :: L.map entP) i).run _ _=_
   simp [Instr.findAsking,entP,e]
  ·obtain ⟨cx,hcx⟩:=hb x (List.mem_cons_self ..)
   have e:=eq_hd_other (fun q=>hx q.symm) hg hcx
   rcases ask_hd hg L (i+1) (fun y hy=>hb y (List.mem_cons_of_mem _ hy)) with ⟨h1,h2⟩ | ⟨j,y,h1,h2,h3⟩
   ·refine .inl ⟨fun y hy=>?_,?_⟩
    ·rcases List.mem_cons.1 hy with rfl | hy
     ·exact hx
     ·exact h1 y hy
    ·show (Instr.findAsking _ _ (entP x :: L.map entP) i).run _ _=_
     simp [Instr.findAsking,e,h2,entP] at h2 ⊢
   ·refine .inr ⟨j+1,y,by simpa using h1,h2,?_⟩
    show (Instr.findAsking _ _ (entP x :: L.map entP) i).run _ _=_
    rw [show i+(j+1)=i+1+j by omega]
    simp [Instr.findAsking,entP] at h3 ⊢
    simp [e,h3]
theorem find_hd (g:Nat) (L:List Hd):(Instr.findKey 112 (.pointer (some ⟨g,0,none⟩)) (L.map entP)).run Tryz.prog w=(Instr.findAsking 112 (.pointer (some ⟨g,0,none⟩)) (L.map entP) 0).run Tryz.prog w:=by
 unfold Instr.findKey
 simp only [Sem.run_bind,run_underlying und_hd,Result.andThen]
 cases L with
 | nil=>rfl
 | cons x L=>rfl
theorem run_setM {es:Array MapEntry} {k:Nat} (h:w.heap[b]?=some (.map es k)) (o':Obj):(setObj b o').run Tryz.prog w = .ok () (setBlock w b o'):=by
 simp [setObj,Sem.run,h,setBlock]
theorem check_hd (e:Bool) (g:Nat):(Instr.checkKey e 10000 112 (.pointer (some ⟨g,0,none⟩))).run Tryz.prog w = .ok () w:=by
 unfold Instr.checkKey
 simp [run_underlying und_hd]
/-- the map's block is written -/
theorem grown_set (h:w.heap[b]?=some (.map (L.map entP).toArray clock)) (o:Obj):w.grownBy (setBlock w b o) (some b)∧(setBlock w b o).heap.size=w.heap.size :=
 ⟨⟨rfl,rfl,rfl,by simp [setBlock],fun i _ hi=>Go.ChangeMaps.heap_setBlock_other h o (fun e=>hi (by rw [e]))⟩,by simp [setBlock]⟩
theorem bk_not_map {g:Nat} {t:TypeId} {cs:Array Value} (hg:Bk w g t cs) (h:w.heap[b]?=some (.map (L.map entP).toArray clock)):g≠b:=fun e=>by
 subst e
 have:=hg.symm.trans h
 cases this
theorem Bk.gr {g:Nat} {t:TypeId} {cs:Array Value} (hg:Bk w g t cs) (u:w.grownBy w' (some b)) (hn:g≠b):Bk w' g t cs:=(u.block g hg.lt (fun e=>hn (by injection e))).trans hg
/-- a new handle is put into the map -/
theorem PM.put (h:PM w b L clock) {g:Nat} {cs:Array Value} (hg:Bk w g 215 cs) (hn : ∀ x∈L,x.g≠g) :
  ∃ w',(Instr.mapUpdate 207 (.map (some b)) (.pointer (some ⟨g,0,none⟩)) (.agg #[])).run Tryz.prog w = .ok () w'∧PM w' b (L++[⟨g,clock⟩]) (clock+1)∧w.grownBy w' (some b)∧w'.heap.size=w.heap.size:=by
 have hf:=find_hd (w:=w) g L
 rcases ask_hd hg L 0 h.hb with ⟨_,q⟩ | ⟨j,x,hx,hxg,_⟩
 ·rw [q] at hf
  obtain ⟨gr,sz⟩:=grown_set h.bk (.map ((L.map entP).toArray.push ⟨.pointer (some ⟨g,0,none⟩), .agg #[],clock⟩) (clock+1))
  refine ⟨_,?_,⟨?_,fun x hx=>?_,?_,?_,fun x hx=>?_⟩,gr,sz⟩
  ·unfold Instr.mapUpdate
   have h1:=check_hd (w:=w) false g
   have h2:=run_setM h.bk (.map ((L.map entP).toArray.push ⟨.pointer (some ⟨g,0,none⟩), .agg #[],clock⟩) (clock+1))
   simp only [Sem.run_bind,run_underlying und_pm,Result.andThen,getObj,Sem.run,h.bk,h1,hf]
   exact h2
  ·rw [Go.ChangeMaps.heap_setBlock_same h.bk]
   simp [entP]
  ·rcases List.mem_append.1 hx with hx | hx
   ·have:=h.st x hx;omega
   ·rw [List.mem_singleton.1 hx];exact Nat.lt_succ_self _
  ·rw [List.map_append]
   refine List.nodup_append.2 ⟨h.nb,by simp,fun a ha c hc=>?_⟩
   obtain ⟨y,hy,rfl⟩:=List.mem_map.1 ha
   have:=h.st y hy
   rw [List.mem_singleton.1 (show c∈[clock] from hc)]
   omega
  ·rw [List.map_append]
   refine List.nodup_append.2 ⟨h.ng,by simp,fun a ha c hc=>?_⟩
   obtain ⟨y,hy,rfl⟩:=List.mem_map.1 ha
   rw [List.mem_singleton.1 (show c∈[g] from hc)]
   exact hn y hy
  ·rcases List.mem_append.1 hx with hx | hx
   ·obtain ⟨c,hc⟩:=h.hb x hx
    exact ⟨c,hc.gr gr (bk_not_map hc h.bk)⟩
   ·rw [List.mem_singleton.1 hx]
    exact ⟨cs,hg.gr gr (bk_not_map hg h.bk)⟩
 ·exact absurd hxg (hn x (List.mem_of_getElem? hx))
/-- a handle is struck from the map -/
theorem PM.del (h:PM w b L clock) {g:Nat} {cs:Array Value} (hg:Bk w g 215 cs) (ty:TypeId) :
  ∃ w',(Builtin.delete_ #[207,112] ty #[.map (some b), .pointer (some ⟨g,0,none⟩)]).run Tryz.prog w = .ok (.tuple #[]) w'∧PM w' b (L.filter fun x => !(x.g==g)) clock∧w.grownBy w' (some b)∧w'.heap.size=w.heap.size:=by
 have hf:=find_hd (w:=w) g L
 have keep : ∀ {L':List Hd},L'.Sublist L → ∀ o:Obj,o = .map (L'.map entP).toArray clock→PM (setBlock w b o) b L' clock:=fun {L'} hs o ho=>by
  obtain ⟨gr,_⟩:=grown_set h.bk o
  refine ⟨by rw [Go.ChangeMaps.heap_setBlock_same h.bk,ho],fun x hx=>h.st x (hs.subset hx),(hs.map _).nodup h.nb,(hs.map _).nodup h.ng,fun x hx=>?_⟩
  obtain ⟨c,hc⟩:=h.hb x (hs.subset hx)
  exact ⟨c,hc.gr gr (bk_not_map hc h.bk)⟩
 have hc:=check_hd (w:=w) (L.map entP).toArray.isEmpty g
 rcases ask_hd hg L 0 h.hb with ⟨hn,q⟩ | ⟨j,x,hx,hxg,q⟩
 ·rw [q] at hf
  have he:(L.filter fun x => !(x.g==g))=L:=List.filter_eq_self.2 fun x hx=>by simpa using hn x hx
  refine ⟨setBlock w b (.map (L.map entP).toArray clock),?_,by rw [he];exact keep (List.Sublist.refl _) _ rfl,(grown_set h.bk _).1,(grown_set h.bk _).2⟩
  unfold Builtin.delete_
  have h2:=run_setM h.bk (.map (L.map entP).toArray clock)
  simp only [Sem.run_bind,Sem.run_pure,run_underlying und_pm,Result.andThen,getObj,Sem.run,h.bk,hc,hf,h2,List.getElem?_toArray,List.getElem?_cons_zero,List.getElem?_cons_succ]
 ·rw [q,Nat.zero_add] at hf
  have hjl:j<L.length:=by
   rcases Nat.lt_or_ge j L.length with r | r
   ·exact r
   ·rw [List.getElem?_eq_none r] at hx;cases hx
  have he:(L.filter fun x => !(x.g==g))=L.eraseIdx j:=by
   have hng:=h.ng
   rw [List.getElem?_eq_getElem hjl] at hx
   have hx:=Option.some.inj hx
   have e1:L=L.take j++x :: L.drop (j+1):=by
    rw [← hx, ← List.drop_eq_getElem_cons hjl,List.take_append_drop]
   have hp : ∀ y∈L.take j++L.drop (j+1),y.g≠g:=fun y hy e=>by
    rw [e1,List.map_append,List.map_cons] at hng
    have h3:=List.nodup_append.1 hng
    rcases List.mem_append.1 hy with hy | hy
    ·exact h3.2.2 y.g (List.mem_map.2 ⟨y,hy,rfl⟩) x.g (List.mem_cons_self ..) (e.trans hxg.symm)
    ·exact (List.nodup_cons.1 h3.2.1).1 (by rw [hxg, ← e];exact List.mem_map.2 ⟨y,hy,rfl⟩)
   rw [List.eraseIdx_eq_take_drop_succ]
   have e2:(L.filter fun x => !(x.g==g))=((L.take j++x :: L.drop (j+1)).filter fun x => !(x.g==g)):=by rw [← e1]
   rw [e2,List.filter_append,List.filter_cons_of_neg (by simp [hxg]), ← List.filter_append]
   exact List.filter_eq_self.2 fun y hy=>by simpa using hp y hy
  have ho:Obj.map ((L.map entP).toArray.eraseIdxIfInBounds j) clock = .map ((L.eraseIdx j).map entP).toArray clock:=by
   refine congrArg (fun x=>Obj.map x clock) (Array.ext' ?_)
   simp [Array.eraseIdxIfInBounds,hjl,Go.ChangeMaps.map_eraseIdx]
  refine ⟨setBlock w b (.map ((L.map entP).toArray.eraseIdxIfInBounds j) clock),?_,by rw [he];exact keep (List.eraseIdx_sublist ..) _ ho,(grown_set h.bk _).1,(grown_set h.bk _).2⟩
  unfold Builtin.delete_
  have h2:=run_setM h.bk (.map ((L.map entP).toArray.eraseIdxIfInBounds j) clock)
  simp only [Sem.run_bind,Sem.run_pure,run_underlying und_pm,Result.andThen,getObj,Sem.run,h.bk,hc,hf,h2,List.getElem?_toArray,List.getElem?_cons_zero,List.getElem?_cons_succ]
/-- a loop over the map under way: which entries have been -/
structure PR (w:World) (b r:Nat) (L:List Hd) (clock:Nat) (seen:Array Nat):Prop where
 m:PM w b L clock
 it:w.heap[r]?=some (.mapIter (some b) clock seen clock)
 ne:r≠b
end
section
variable {w:World} {b r clock:Nat} {L:List Hd} {seen:Array Nat}
theorem PM.ext {w':World} (h:PM w b L clock) (x:Ext w w'):PM w' b L clock:=⟨x.heap h.bk,h.st,h.nb,h.ng,fun y hy=>by obtain ⟨c,hc⟩:=h.hb y hy;exact ⟨c,hc.ext x⟩⟩
theorem PM.lt (h:PM w b L clock):b<w.heap.size:=by
 rcases Nat.lt_or_ge b w.heap.size with q | q
 ·exact q
 ·have:=h.bk
  rw [Array.getElem?_eq_none q] at this
  cases this
theorem PM.upd {S:Nat→Prop} {w':World} (h:PM w b L clock) (u:Upd S w w') (hb : ¬ S b) (hS : ∀ x∈L, ¬ S x.g):PM w' b L clock :=
 ⟨(u.block b h.lt hb).trans h.bk,h.st,h.nb,h.ng,fun y hy=>by obtain ⟨c,hc⟩:=h.hb y hy;exact ⟨c,hc.upd u (hS y hy)⟩⟩
theorem PM.len (h:PM w b L clock) (ty:TypeId):(Builtin.len_ #[207] ty #[.map (some b)]).run Tryz.prog w = .ok (.int .i64 L.length) w:=by
 simp [Builtin.len_,run_underlying und_pm,getObj,Sem.run,h.bk,Result.andThen,goInt]
theorem PM.range (h:PM w b L clock):(Instr.range 207 (.map (some b))).run Tryz.prog w = .ok (.pointer (some ⟨w.heap.size,0,none⟩)) (w.alloc (.mapIter (some b) clock #[] clock))∧PR (w.alloc (.mapIter (some b) clock #[] clock)) b w.heap.size L clock #[] :=
 ⟨run_range_map w _ _ _ b _ clock und_pm h.bk,h.ext ((Ext.refl w).alloc _),heap_alloc_new w _,fun e=>by have:=h.lt;omega⟩
theorem ent_mem {e:MapEntry} (h:e∈(L.map entP).toArray.toList) : ∃ x∈L,e=entP x:=by
 simp at h
 obtain ⟨x,hx,q⟩:=h
 exact ⟨x,hx,q.symm⟩
theorem PR.next (h:PR w b r L clock seen) (ty:TypeId) :
  ((∀ x∈L,seen.contains x.born=true)∧(Instr.next (.pointer (some ⟨r,0,none⟩)) false ty).run Tryz.prog w = .ok (.tuple #[.bool false]) w) ∨
  ∃ x∈L,seen.contains x.born=false ∧ ∃ w',(Instr.next (.pointer (some ⟨r,0,none⟩)) false ty).run Tryz.prog w = .ok (.tuple #[.bool true, .pointer (some ⟨x.g,0,none⟩), .agg #[]]) w'∧PR w' b r L clock (seen.push x.born) ∧
   w.grownBy w' (some r)∧w'.heap.size=w.heap.size∧(Instr.entry (.pointer (some ⟨r,0,none⟩))).run Tryz.prog w' = .ok (.tuple #[.pointer (some ⟨x.g,0,none⟩), .agg #[]]) w'∧(leftOf (L.map entP).toArray (seen.push x.born)).size<(leftOf (L.map entP).toArray seen).size:=by
 rcases run_next_at (P:=Tryz.prog) w ty r b clock clock seen _ clock h.it h.m.bk (fun e he=>by obtain ⟨x,hx,rfl⟩:=ent_mem he;exact h.m.st x hx) (Nat.le_refl _) with ⟨h0,hrun⟩ | ⟨e,he,w1,hal,hrun⟩
 ·refine .inl ⟨fun x hx=>?_,hrun⟩
  exact all_seen _ seen h0 (entP x) (by simp;exact ⟨x,hx,rfl⟩)
 ·obtain ⟨hem,hes⟩:=mem_left he
  obtain ⟨x,hx,rfl⟩:=ent_mem hem
  have hr1:w1.heap[r]?=some (.mapIter (some b) clock seen clock):=by rcases hal with rfl | rfl<;>exact h.it
  have hb1:w1.heap[b]?=some (.map (L.map entP).toArray clock):=by rcases hal with rfl | rfl<;>exact h.m.bk
  have hset:=Go.MapKept.heap_set (o' := .mapIter (some b) clock (seen.push (entP x).born) clock) hr1
  have hb':(setBlock w1 r (.mapIter (some b) clock (seen.push (entP x).born) clock)).heap[b]?=some (.map (L.map entP).toArray clock):=(hset.2 b (fun e1=>h.ne e1.symm)).trans hb1
  refine .inr ⟨x,hx,hes,_,hrun,⟨⟨hb',h.m.st,h.m.nb,h.m.ng,fun y hy=>?_⟩,hset.1,h.ne⟩,?_,?_,run_entry_at _ r b clock seen _ clock (entP x) hset.1 hb' hem (by simpa [Function.comp_def,entP] using h.m.nb),left_shrinks _ seen (entP x) he⟩
  ·obtain ⟨c,hc⟩:=h.m.hb y hy
   have hcr:y.g≠r:=fun e=>by
    subst e
    have:=hc.symm.trans h.it
    cases this
   refine ⟨c,(hset.2 y.g hcr).trans ?_⟩
   rcases hal with rfl | rfl<;>exact hc
  ·rcases hal with rfl | rfl<;>exact ⟨rfl,rfl,rfl,by simp [setBlock],fun i _ hi=>hset.2 i (fun e1=>hi (by rw [e1]))⟩
  ·rcases hal with rfl | rfl<;>simp [setBlock]
end
/-! ### at the operations -/
section
variable {w:World} {b r clock:Nat} {L:List Hd} {seen:Array Nat} {ops:Array Oper} {rest:List Oper} {o:Oper} {a:Act} {Q:Exit→Act→World→Prop}
theorem wpList_put_pm (hg:o.guard=none) (m x v:Operand) (hop:o.op=Op.mapUpdate 207 m x v) (hm:a.eval m = .map (some b)) (g:Nat) (hx:a.eval x = .pointer (some ⟨g,0,none⟩)) (hv:a.eval v = .agg #[])
  (h:PM w b L clock) (cs:Array Value) (hgb:Bk w g 215 cs) (hn : ∀ x∈L,x.g≠g)
  (hK : ∀ w',PM w' b (L++[⟨g,clock⟩]) (clock+1)→w.grownBy w' (some b)→w'.heap.size=w.heap.size→wpList Tryz.prog ops Q rest (a.put o.dst undef) w'):wpList Tryz.prog ops Q (o :: rest) a w:=by
 refine wpList_plain hg fun K' hK'=>?_
 obtain ⟨w',hrun,r1,r2,r3⟩:=h.put hgb hn
 unfold Oper.wp
 simp [execOp,hop,hm,hx,hv,hrun,Result.andThen]
 exact hK' _ _ (hK w' r1 r2 r3)
theorem wpList_range_pm (hg:o.guard=none) (m:Operand) (hop:o.op=Op.range 207 m) (hm:a.eval m = .map (some b)) (h:PM w b L clock)
  (hK : ∀ w',PR w' b w.heap.size L clock #[]→Ext w w'→w'.heap.size=w.heap.size+1→wpList Tryz.prog ops Q rest (a.put o.dst (.pointer (some ⟨w.heap.size,0,none⟩))) w'):wpList Tryz.prog ops Q (o :: rest) a w:=by
 refine wpList_plain hg fun K' hK'=>?_
 obtain ⟨hrun,r1⟩:=h.range
 unfold Oper.wp
 simp [execOp,hop,hm,hrun,Result.andThen]
 exact hK' _ _ (hK _ r1 ((Ext.refl w).alloc _) (by simp))
theorem wpList_next_pm (hg:o.guard=none) (it:Operand) (hop:o.op=Op.next it false) (hit:a.eval it = .pointer (some ⟨r,0,none⟩)) (h:PR w b r L clock seen)
  (hDone:(∀ x∈L,seen.contains x.born=true)→wpList Tryz.prog ops Q rest (a.put o.dst (.tuple #[.bool false])) w)
  (hMore : ∀ (x:Hd) (w':World),x∈L→seen.contains x.born=false→PR w' b r L clock (seen.push x.born)→w.grownBy w' (some r)→w'.heap.size=w.heap.size→(Instr.entry (.pointer (some ⟨r,0,none⟩))).run Tryz.prog w' = .ok (.tuple #[.pointer (some ⟨x.g,0,none⟩), .agg #[]]) w' →
   (leftOf (L.map entP).toArray (seen.push x.born)).size<(leftOf (L.map entP).toArray seen).size→wpList Tryz.prog ops Q rest (a.put o.dst (.tuple #[.bool true, .pointer (some ⟨x.g,0,none⟩), .agg #[]])) w'):wpList Tryz.prog ops Q (o :: rest) a w:=by
 refine wpList_plain hg fun K' hK'=>?_
 unfold Oper.wp
 rcases h.next o.type with ⟨h0,hrun⟩ | ⟨x,hx,hs,w',hrun,h1,h2,h3,h4,h5⟩
 ·simp [execOp,hop,hit,hrun,Result.andThen]
  exact hK' _ _ (hDone h0)
 ·simp [execOp,hop,hit,hrun,Result.andThen]
  exact hK' _ _ (hMore x w' hx hs h1 h2 h3 h4 h5)
end
open Go.RowKit
/-- what is asked of the predicate -/
def Pred0 (g:Nat) (lb:Array Value) (p:Tm→Bool) (L:List Tm) (w:World):Prop := ∀ (W:World) (x:Tm),x∈L→Ext w W→Calls Tryz.prog g #[tmV x] W fun e w'=>e = .returned (.bool (p x))∧Ext W w'
/-- an index, or -1 -/
def IdxOut0 (p:Tm→Bool) (L:List Tm) (w:World) (e:Ending) (w':World):Prop := ∃ r:Int,e = .returned (.int .i64 r)∧decide (0≤r)=L.any p∧Ext w w'
set_option maxRecDepth 100000 in
set_option maxHeartbeats 2000000 in
theorem index_times0 (p:Tm→Bool) (g:Nat) (eg : ∀ args w,(callFunc g args).run Tryz.prog w = .ok (.enter g args) w) (AL:Option Addr) (cL m:Nat) (L:List Tm) (w:World) (hm:Hid (m=L.length)) (hL:Hid (Tin w AL cL L)) (hp:Hid (Pred0 g #[] p L w)) :
  Calls Tryz.prog 204 #[.slice AL m cL, .func (.func g) #[] #[]] w (IdxOut0 p L w):=by
 have hbig:m≤9223372036854775807:=by rw [hm.out];exact hL.out.sl.le
 go_enter Tryz.func204,Tryz.ntmps204
 go_wp2
 go_loopg [5,8] m (fun gg _ s8 wr => ∃ kk:Nat,kk≤m∧m - kk≤gg∧s8 = .int .i64 kk∧Hid (Ext w wr)∧Hid (∀ j,j<kk→p (L.getD j Tm.zero)=false))
 case atStart=>exact ⟨0,Nat.zero_le _,by omega,rfl,Lib.hid (Ext.refl w),Lib.hid (fun j hj=>absurd hj (Nat.not_lt_zero _))⟩
 case round =>
  obtain ⟨kk,hkk,hg,rfl,BW,AF⟩:=hrel
  by_cases hlt:kk<m
  ·have hltz:(kk:Int)<(m:Int):=by omega
   obtain ⟨ad,rfl,q0,q1⟩:=(hL.out.ext BW.out).at (i:=kk) (by rw [← hm.out];exact hlt)
   have hcall:=hp.out wr (L.getD kk Tm.zero) (getT_mem (by rw [← hm.out];exact hlt)) BW.out
   obtain ⟨x,hx⟩ : ∃ x,L.getD kk Tm.zero=x:=⟨_,rfl⟩
   rw [hx] at q0 q1 hcall
   have HX:=Lib.hid hx
   clear hx
   unfold tmV at hcall
   cases hq:p x with
   | true =>
    rw [hq] at hcall
    have HQ:=Lib.hid hq
    clear hq
    go_wp2_with (go_at_fn g;refine hcall.mono ?_;rintro e w' ⟨rfl,hb'⟩)
    go_ret
    exact ⟨_,rfl,by rw [any_at (by rw [← hm.out];exact hlt) (by rw [HX.out];exact HQ.out)];simp,BW.out.trans hb'⟩
   | false =>
    rw [hq] at hcall
    have HQ:=Lib.hid hq
    clear hq
    go_wp2_with (go_at_fn g;refine hcall.mono ?_;rintro e w' ⟨rfl,hb'⟩)
    go_roundg (m - (kk+1))
    case measure=>omega
    case rel =>
     refine ⟨kk+1,by omega,by omega,by go_num,Lib.hid (BW.out.trans hb'),Lib.hid (fun j hj=>?_)⟩
     by_cases hjk:j<kk
     ·exact AF.out j hjk
     ·obtain rfl:j=kk:=by omega
      rw [HX.out];exact HQ.out
  ·obtain rfl:kk=m:=by omega
   go_wp2
   go_ret
   exact ⟨_,rfl,by rw [any_none (fun j hj=>AF.out j (by rw [hm.out];exact hj))];rfl,BW.out⟩
set_option maxRecDepth 100000 in
set_option maxHeartbeats 600000 in
theorem contains_times0 (p:Tm→Bool) (g:Nat) (eg : ∀ args w,(callFunc g args).run Tryz.prog w = .ok (.enter g args) w) (AL:Option Addr) (cL m:Nat) (L:List Tm) (w:World) (hm:Hid (m=L.length)) (hL:Hid (Tin w AL cL L)) (hp:Hid (Pred0 g #[] p L w)) :
  Calls Tryz.prog 144 #[.slice AL m cL, .func (.func g) #[] #[]] w fun e w'=>e = .returned (.bool (L.any p))∧Ext w w':=by
 go_enter Tryz.func144,Tryz.ntmps144
 go_wp2_with (go_at_call 204;refine (index_times0 p g  eg AL cL m L _ hm hL hp).mono ?_;rintro e w1 ⟨r,rfl,hr,x1⟩;have HR:=Lib.hid hr;clear hr)
 go_ret
 exact ⟨by rw [← HR.out];rfl,x1⟩
open Go.RowKit
/-! ### flat -/
set_option maxRecDepth 100000 in
set_option maxHeartbeats 600000 in
theorem flat1_any (x:Tm) (w:World):Calls Tryz.prog 212 #[tmV x] w fun r w'=>r = .returned (.bool (decide (0<x.l.length)))∧Ext w w':=by
 unfold tmV
 obtain ⟨xe,xA,xc,xl⟩:=x
 obtain ⟨n,hn⟩ : ∃ n,xl.length=n:=⟨_,rfl⟩
 simp only [hn]
 have HN:=Lib.hid hn
 clear hn
 go_enter Tryz.func212,Tryz.ntmps212
 rcases Nat.eq_zero_or_pos n with h0 | h0
 ·subst h0
  go_wp2
  go_ret
  exact ⟨by simp,(Ext.refl w).alloc _⟩
 ·have h1:(0:Int)<(n:Int):=by omega
  have h2:decide (0<n)=true:=decide_eq_true h0
  go_wp2
  go_ret
  exact ⟨by simp [h2],(Ext.refl w).alloc _⟩
theorem enters_flat1 : ∀ args w,(callFunc 212 args).run Tryz.prog w = .ok (.enter 212 args) w:=enters_of Tryz.func212 (by kernel_rfl) rfl
theorem flat_any {b:Bool} (AL:Option Addr) (cL m:Nat) (L:List Tm) (w:World) (hb:Hid (flatV (L.map Tm.v)=b)) (hm:Hid (m=L.length)) (hL:Hid (Tin w AL cL L)) :
  Calls Tryz.prog 156 #[.slice AL m cL] w fun r w'=>r = .returned (.bool b)∧Ext w w':=by
 have HP:Hid (Pred0 212 #[] (fun x=>decide (0<x.l.length)) L w):=Lib.hid (fun W x hx y=>flat1_any x W)
 obtain ⟨q,hq⟩ : ∃ q,(L.any fun x=>decide (0<x.l.length))=q:=⟨_,rfl⟩
 have HQ:=Lib.hid hq
 have HB:Hid (b=(decide (m≤1) && !q)):=by
  refine Lib.hid ?_
  rw [← hb.out, ← hq,hm.out]
  unfold flatV
  rw [List.length_map,List.any_map]
  rfl
 clear hb hq
 have hbig:m≤9223372036854775807:=by rw [hm.out];exact hL.out.sl.le
 go_enter Tryz.func156,Tryz.ntmps156
 by_cases h1:m≤1
 ·have h1z:(m:Int)≤1:=by omega
  have h1d:decide (m≤1)=true:=decide_eq_true h1
  go_wp2_with (go_at_call 144;refine (contains_times0 _ 212 enters_flat1 AL cL m L _ hm hL HP).mono ?_;rintro r w1 ⟨rfl,x1⟩)
  go_ret
  exact ⟨by rw [HB.out,h1d,HQ.out];rfl,x1⟩
 ·have h1z : ¬ (m:Int)≤1:=by omega
  have h1d:decide (m≤1)=false:=decide_eq_false h1
  go_wp2
  go_ret
  exact ⟨by rw [HB.out,h1d];rfl,Ext.refl w⟩
/-! ### New -/
theorem own_zero {w:World} {g B:Nat} (h:Bk w g 26 #[.int .u64 0, .slice none 0 0]) (hB:B≤g):Tout w B (some ⟨g,0,none⟩) 1 [Tm.zero]:=by
 refine ⟨⟨rfl, .inr ⟨g,_,rfl,hB,h,Nat.le_refl _,by decide,by decide,by rfl⟩⟩,fun x hx=>?_,List.pairwise_singleton ..⟩
 rw [List.mem_singleton.1 hx]
 exact ⟨Own.nil _ _ _ _,fun k hk=>by cases hk⟩
theorem new_mem (w w1 w2 w3:World) (h1:w1=w.alloc (.cells #[.int .u64 0, .slice none 0 0] 26)) (h2:w2=w1.alloc (.cells #[.int .u64 0, .slice none 0 0] 26))
  (h3:w3=w2.alloc (.cells #[.slice none 0 0, .pointer none, .slice (some ⟨w.heap.size,0,none⟩) 1 1, .slice (some ⟨w.heap.size+1,0,none⟩) 1 1] 192)) :
  SpR w3 (fun k=>w.heap.size≤k∧k<w3.heap.size) (w.heap.size+1+1) ⟨none,0,[],none,some ⟨w.heap.size,0,none⟩,1,[Tm.zero],some ⟨w.heap.size+1,0,none⟩,1,[Tm.zero]⟩∧Ext w w3:=by
 have z1:w1.heap.size=w.heap.size+1:=by rw [h1];simp
 have z2:w2.heap.size=w.heap.size+1+1:=by rw [h2];simp [z1]
 have z3:w3.heap.size=w.heap.size+1+1+1:=by rw [h3];simp [z2]
 have x1:Ext w w1:=h1 ▸ (Ext.refl w).alloc _
 have x2:Ext w1 w2:=h2 ▸ (Ext.refl w1).alloc _
 have x3:Ext w2 w3:=h3 ▸ (Ext.refl w2).alloc _
 have b1:Bk w3 w.heap.size 26 #[.int .u64 0, .slice none 0 0]:=Bk.ext (Bk.ext (h1 ▸ Bk.new w _ _) x2) x3
 have b2:Bk w3 (w.heap.size+1) 26 #[.int .u64 0, .slice none 0 0]:=Bk.ext (h2 ▸ Bk.at z1.symm) x3
 have b3:Bk w3 (w.heap.size+1+1) 192 #[.slice none 0 0, .pointer none, .slice (some ⟨w.heap.size,0,none⟩) 1 1, .slice (some ⟨w.heap.size+1,0,none⟩) 1 1]:=h3 ▸ Bk.at z2.symm
 have o1:=own_zero b1 (Nat.le_refl w.heap.size)
 have o2:=own_zero b2 (Nat.le_succ w.heap.size)
 exact ⟨⟨b3,⟨by omega,by omega⟩,⟨Own.nil _ _ _ _,fun k hk=>(nomatch hk),fun b hb=>(nomatch hb),List.nodup_nil,fun p hp=>(nomatch hp),⟨o1.mono (Nat.zero_le _),fun k hk=>o1.lt hk⟩,⟨o2.mono (Nat.zero_le _),fun k hk=>o2.lt hk⟩⟩⟩,(x1.trans x2).trans x3⟩
/-- what New leaves -/
def SpNew (w:World) (e:Ending) (w':World):Prop := ∃ gs m,e = .returned (.pointer (some ⟨gs,0,none⟩))∧SpR w' (fun k=>w.heap.size≤k∧k<w'.heap.size) gs m∧m.v=newV∧Ext w w'
theorem spNew_any (w:World):Calls Tryz.prog 43 #[] w (SpNew w):=by
 go_enter Tryz.func43,Tryz.ntmps43
 go_wp2
 go_ret
 have h:=new_mem w _ _ _ rfl rfl rfl
 exact ⟨_,_,rfl,h.1,rfl,h.2⟩
/-! ### Since, Upper -/
/-- few times, of few counters -/
def Few1 (L:List Tm):Prop:=L.length≤1000000 ∧ ∀ x∈L,x.l.length≤1000000
set_option maxRecDepth 100000 in
set_option maxHeartbeats 600000 in
theorem since_any {V:List TV} (gs:Nat) (m:SpM) (R:Nat→Prop) (w:World) (hV:Hid (ofV m.v.S=V)) (HM:Hid (SpR w R gs m)) (hf:Hid (Few1 m.S)):Calls Tryz.prog 65 #[.pointer (some ⟨gs,0,none⟩)] w (OfOut V w):=by
 have c2:=HM.out.bk.cell 2
 obtain ⟨n,hn⟩ : ∃ n,n=m.S.length:=⟨_,rfl⟩
 replace c2:w.cell? ⟨gs,2,none⟩=some (.slice m.sA n m.sc):=hn ▸ c2
 have h9:n≤1000000:=hn ▸ hf.out.1
 have HN:=Lib.hid hn
 have HT:Hid (Tin w m.sA m.sc m.S):=Lib.hid HM.out.b.sn.t.tin
 have HL:Hid (∀ x∈m.S,x.l.length≤1000000):=Lib.hid hf.out.2
 have c0:0<w.heap.size:=Nat.lt_of_le_of_lt (Nat.zero_le _) HM.out.bk.lt
 clear hn
 go_enter Tryz.func65,Tryz.ntmps65
 go_wp2_with (go_at_call 137;refine (of_any m.sA m.sc n m.S _ HN HT HL h9).mono ?_;rintro r w1 hres;have HR:=Lib.hid hres;obtain ⟨A,c,k,M,rfl,h2⟩:=hres;clear h2)
 go_ret
 have:=HR.out
 rw [← hV.out]
 exact this
set_option maxRecDepth 100000 in
set_option maxHeartbeats 600000 in
theorem upper_any {V:List TV} (gs:Nat) (m:SpM) (R:Nat→Prop) (w:World) (hV:Hid (ofV m.v.U=V)) (HM:Hid (SpR w R gs m)) (hf:Hid (Few1 m.U)):Calls Tryz.prog 50 #[.pointer (some ⟨gs,0,none⟩)] w (OfOut V w):=by
 have c2:=HM.out.bk.cell 3
 obtain ⟨n,hn⟩ : ∃ n,n=m.U.length:=⟨_,rfl⟩
 replace c2:w.cell? ⟨gs,3,none⟩=some (.slice m.uA n m.uc):=hn ▸ c2
 have h9:n≤1000000:=hn ▸ hf.out.1
 have HN:=Lib.hid hn
 have HT:Hid (Tin w m.uA m.uc m.U):=Lib.hid HM.out.b.up.t.tin
 have HL:Hid (∀ x∈m.U,x.l.length≤1000000):=Lib.hid hf.out.2
 clear hn
 go_enter Tryz.func50,Tryz.ntmps50
 go_wp2_with (go_at_call 137;refine (of_any m.uA m.uc n m.U _ HN HT HL h9).mono ?_;rintro r w1 hres;have HR:=Lib.hid hres;obtain ⟨A,c,k,M,rfl,h2⟩:=hres;clear h2)
 go_ret
 have:=HR.out
 rw [← hV.out]
 exact this
/-! ### Compact -/
/-- what a call leaves that answers a number -/
def SpCall (w:World) (R:Nat→Prop) (gs:Nat) (q:Int × SV) (e:Ending) (w':World):Prop := ∃ m',e = .returned (.int .u16 q.1)∧SpR w' (Rg R w w') gs m'∧m'.v=q.2∧Upd R w w'
theorem SpCall.stay {w w':World} {R:Nat→Prop} {gs:Nat} {m:SpM} {n:Int} {e:Ending} (h:SpR w R gs m) (x:Ext w w') (he:e = .returned (.int .u16 n)):SpCall w R gs (n,m.v) e w':=⟨m,he,(h.ext x).wide fun _ _ hk => .inl hk,rfl,Upd.ext x⟩
set_option maxRecDepth 100000 in
set_option maxHeartbeats 1000000 in
theorem compact_any {q:Int × SV} (gs:Nat) (m:SpM) (R:Nat→Prop) (AX:Option Addr) (cX nX:Nat) (X:List Tm) (w:World) (hq:Hid (compactV m.v (X.map Tm.v)=q)) (HM:Hid (SpR w R gs m)) (hnX:Hid (nX=X.length)) (hX:Hid (Tin w AX cX X)) (hf:Hid (Few1 X)) :
  Calls Tryz.prog 45 #[.pointer (some ⟨gs,0,none⟩), .slice AX nX cX] w (SpCall w R gs q):=by
 rw [← hq.out]
 have h9:nX≤1000000:=hnX.out ▸ hf.out.1
 have HL:Hid (∀ x∈X,x.l.length≤1000000):=Lib.hid hf.out.2
 have HT:Hid (Tin w m.sA m.sc m.S):=Lib.hid HM.out.b.sn.t.tin
 obtain ⟨n,hn⟩ : ∃ n,n=m.S.length:=⟨_,rfl⟩
 have HN:=Lib.hid hn
 have HC:Hid (∀ W,Ext w W→W.cell? ⟨gs,2,none⟩=some (.slice m.sA n m.sc)∧W.frozen? ⟨gs,2,none⟩=false):=Lib.hid (fun W x=>⟨by have:=(HM.out.bk.ext x).cell 2;rw [hn];exact this,(HM.out.bk.ext x).free 2⟩)
 clear hn
 obtain ⟨b1,hb1⟩ : ∃ b,flatV (X.map Tm.v)=b:=⟨_,rfl⟩
 obtain ⟨b2,hb2⟩ : ∃ b,leqV (m.S.map Tm.v) (X.map Tm.v)=b:=⟨_,rfl⟩
 have HB1:=Lib.hid hb1
 have HB2:=Lib.hid hb2
 have hcv:compactV m.v (X.map Tm.v)=if b1=false then (110,m.v) else if b2=false then (111,m.v) else (0,{ m.v with S:=ofV (X.map Tm.v) }):=by
  rw [← hb1, ← hb2];rfl
 rw [hcv]
 clear hb1 hb2 hcv hq
 cases b1 with
 | false =>
  go_enter Tryz.func45,Tryz.ntmps45
  go_wp2_with (go_at_call 156;refine (flat_any AX cX nX X _ HB1 hnX hX).mono ?_;rintro r w1 ⟨rfl,x1⟩)
  go_ret
  exact SpCall.stay HM.out x1 rfl
 | true =>
  cases b2 with
  | false =>
   go_enter Tryz.func45,Tryz.ntmps45
   go_wp2_with (first
    | (go_at_call 156;refine (flat_any AX cX nX X _ HB1 hnX hX).mono ?_;rintro r w1 ⟨rfl,x1⟩;obtain ⟨c2,f2⟩:=HC.out w1 x1;have X1:=Lib.hid x1;clear x1)
    | (go_at_call 158;refine (chleq_any m.sA AX m.sc cX n nX m.S X _ HN hnX (Lib.hid (HT.out.ext X1.out)) (Lib.hid (hX.out.ext X1.out))).mono ?_;rw [HB2.out];rintro r w2 ⟨rfl,x2⟩;have X2:=Lib.hid (X1.out.trans x2);clear x2)
    | fail)
   go_ret
   exact SpCall.stay HM.out X2.out rfl
  | true =>
   go_enter Tryz.func45,Tryz.ntmps45
   go_wp2_with (first
    | (go_at_call 156;refine (flat_any AX cX nX X _ HB1 hnX hX).mono ?_;rintro r w1 ⟨rfl,x1⟩;obtain ⟨c2,f2⟩:=HC.out w1 x1;have X1:=Lib.hid x1;clear x1)
    | (go_at_call 158;refine (chleq_any m.sA AX m.sc cX n nX m.S X _ HN hnX (Lib.hid (HT.out.ext X1.out)) (Lib.hid (hX.out.ext X1.out))).mono ?_;rw [HB2.out];rintro r w2 ⟨rfl,x2⟩;have X2:=Lib.hid (X1.out.trans x2);clear x2)
    | (go_at_call 137;refine (of_any AX cX nX X _ hnX (Lib.hid (hX.out.ext X2.out)) HL h9).mono ?_;rintro r w3 hres;obtain ⟨A,c,k,M,rfl,hk,hT,hV,x3⟩:=hres;have X3:=Lib.hid (X2.out.trans x3);obtain ⟨c3,f3⟩:=HC.out w3 X3.out;have hlt3:=(HM.out.bk.ext X3.out).lt;have HP:=Lib.hid (HM.out.put_s X3.out (hT.mono (X2.out.size)));have HV:=Lib.hid hV;have HK:=Lib.hid hk;clear hT hV hk x3)
    | fail)
   go_ret
   have:=HP.out
   rw [← HK.out] at this
   exact ⟨_,rfl,this.1,by show SpM.v _=_;rw [← HV.out];rfl,this.2⟩
open Go.RowKit
def ints (l:List Int):List Value:=l.map (Value.int .i64)
/-- the slice '.slice A l.length c' reads as the ints l -/
def Is (w:World) (A:Option Addr) (c:Nat) (l:List Int):Prop:=Sl w 1 A l.length c (ints l)
theorem Is.ext {w w':World} {A:Option Addr} {c:Nat} {l:List Int} (h:Is w A c l) (x:Ext w w'):Is w' A c l:=Sl.ext h x
theorem Is.at {w:World} {A:Option Addr} {c:Nat} {l:List Int} (h:Is w A c l) {k:Nat} (hk:k<l.length) : ∃ ad,A=some ad∧w.cell? (ad.add k)=some (.int .i64 (l.getD k 0)):=by
 obtain ⟨ad,h1,h2⟩:=h.2.2.2.2 (by omega)
 refine ⟨ad,h1,h2 k _ ?_⟩
 unfold ints
 rw [List.getElem?_map,List.getElem?_eq_getElem hk,List.getD_eq_getElem?_getD,List.getElem?_eq_getElem hk]
 rfl
open Go.RowKit
set_option maxRecDepth 100000 in
set_option maxHeartbeats 400000 in
theorem bsize_any (b:Bt) (n:Nat) (w:World) (hn:Hid (n=b.l.length)) (hc:w.cell? ⟨b.g,0,none⟩=some (.slice b.A n b.c)):Calls Tryz.prog 163 #[.pointer (some ⟨b.g,0,none⟩)] w fun e w'=>e = .returned (.int .i64 n)∧w=w':=by
 go_enter Tryz.func163,Tryz.ntmps163
 go_wp2
 go_ret
 exact ⟨rfl,rfl⟩
theorem take_b {l:List Bt} {i:Nat} (h:i<l.length):l.take (i+1)=l.take i++[getB l i]:=by
 unfold getB
 rw [List.take_add_one,List.getElem?_eq_getElem h,List.getD_eq_getElem?_getD,List.getElem?_eq_getElem h]
 rfl
def sizesB (l:List Bt):List Int:=l.map fun b=>(b.l.length:Int)
def allB (l:List Bt):List Ud:=l.flatMap Bt.l
theorem allB_take {l:List Bt} {i:Nat} (h:i<l.length):allB (l.take (i+1))=allB (l.take i)++(getB l i).l:=by
 unfold allB
 rw [take_b h,List.flatMap_append]
 simp
theorem allB_le (l:List Bt) (i:Nat):(allB (l.take i)).length≤(allB l).length:=by
 have:allB l=allB (l.take i)++allB (l.drop i):=by
  unfold allB
  rw [← List.flatMap_append,List.take_append_drop]
 rw [this,List.length_append]
 omega
structure SizI (w wr:World) (l:List Bt) (i n c:Nat) (A:Option Addr):Prop where
 ln:n=i
 ow:Own wr w.heap.size 3 1 A n c (ints (sizesB (l.take i)))
 ex:Ext w wr
theorem SizI.step {w wr w2:World} {l:List Bt} {i n c c2:Nat} {A A2:Option Addr} (h:SizI w wr l i n c A) (hi:i<l.length) {k:Nat} (hk:k=(getB l i).l.length) (ob:Obj) (o:Own w2 w.heap.size 3 1 A2 (n+1) c2 (ints (sizesB (l.take i))++[.int .i64 k])) (g:(wr.alloc ob).grownBy w2 (blk A c)):SizI w w2 l (i+1) (n+1) c2 A2:=by
 refine ⟨by rw [h.ln],?_,((h.ex).alloc _).grown g fun k hk=>(h.ow.lt k hk).1⟩
 have e:ints (sizesB (l.take (i+1)))=ints (sizesB (l.take i))++[.int .i64 k]:=by
  unfold sizesB ints
  rw [take_b hi,hk]
  simp
 rw [e]
 exact o
/-! ### contents -/
/-- what contents leaves -/
def ContOut (w:World) (L:List Ud) (e:Ending) (w':World):Prop := ∃ A n c,e = .returned (.slice A n c)∧n=L.length∧Own w' w.heap.size 95 4 A n c (udsC L)∧Ext w w'
structure ContI (w wr:World) (l:List Bt) (i n c:Nat) (A:Option Addr):Prop where
 ln:n=(allB (l.take i)).length
 ow:Own wr w.heap.size 95 4 A n c (udsC (allB (l.take i)))
 ex:Ext w wr
theorem ContI.step {w wr w2:World} {l:List Bt} {i n c c2:Nat} {A A2:Option Addr} (h:ContI w wr l i n c A) (hi:i<l.length) {k g0 c0:Nat} {A0:Option Addr} {L:List Ud} (hk:k=L.length) (hL:getB l i=⟨g0,A0,c0,L⟩) (o:Own w2 w.heap.size 95 4 A2 (n+k) c2 (udsC (allB (l.take i))++udsC L)) (g:wr.grownBy w2 (blk A c)):ContI w w2 l (i+1) (n+k) c2 A2:=by
 have e:allB (l.take (i+1))=allB (l.take i)++L:=by rw [allB_take hi,hL]
 refine ⟨by rw [e,List.length_append,h.ln,hk],?_,h.ex.grown g fun k hk=>(h.ow.lt k hk).1⟩
 rw [e,udsC_append]
 exact o
set_option maxRecDepth 100000 in
set_option maxHeartbeats 2000000 in
theorem contents_any (gs:Nat) (m:SpM) (R:Nat→Prop) (w:World) (HM:Hid (SpR w R gs m)) (h9:m.bs.length≤1000000) (hA:(allB m.bs).length≤1000000):Calls Tryz.prog 159 #[.pointer (some ⟨gs,0,none⟩)] w (ContOut w (allB m.bs)):=by
 obtain ⟨n,hn⟩ : ∃ n,n=m.bs.length:=⟨_,rfl⟩
 obtain ⟨mA,hmA⟩ : ∃ a,m.A=a:=⟨_,rfl⟩
 have c0:w.cell? ⟨gs,0,none⟩=some (.slice mA n m.c):=hmA ▸ hn ▸ HM.out.bk.cell 0
 rw [← hn] at h9
 have HN:=Lib.hid hn
 have HP0:Hid (ContI w w m.bs 0 0 0 none):=Lib.hid ⟨rfl,Own.nil _ _ _ _,Ext.refl _⟩
 have HB:=HM.out.b
 have HBB:=Lib.hid HB
 have HA:=Lib.hid hA
 clear hn HB hA
 go_enter Tryz.func159,Tryz.ntmps159
 go_wp2
 go_loopg [3,11] n (fun z u v wr => ∃ (i k c3:Nat) (A3:Option Addr),z=n - i∧i≤n∧u = .slice A3 k c3∧v = .int .i64 i∧Hid (ContI w wr m.bs i k c3 A3))
 case atStart=>exact ⟨0,0,0,none,rfl,Nat.zero_le _,rfl,rfl,HP0⟩
 case round =>
  clear HP0
  obtain ⟨i,k,c3,A3,rfl,hi,rfl,rfl,HP⟩:=hrel
  by_cases hlt:i<n
  ·have hil:i<m.bs.length:=by rw [← HN.out];exact hlt
   obtain ⟨ad,hA,p0,p1⟩:=(HBB.out.ext HP.out.ex).at hil
   obtain rfl:mA=some ad:=hmA.symm.trans hA
   clear hA
   have HS0:=((HBB.out.bt _ (getB_mem hil)).u.uin.sl).ext HP.out.ex
   have hle:k+(getB m.bs i).l.length≤1000000:=by
    have h1:=allB_le m.bs (i+1)
    rw [allB_take hil,List.length_append, ← HP.out.ln] at h1
    exact Nat.le_trans h1 HA.out
   obtain ⟨b,hb⟩ : ∃ b,getB m.bs i=b:=⟨_,rfl⟩
   rw [hb] at p0 p1 HS0 hle
   obtain ⟨bg,bA,bc,bl⟩:=b
   obtain ⟨nb,hnb⟩ : ∃ q,q=bl.length:=⟨_,rfl⟩
   simp only at p0 p1 HS0 hle
   rw [← hnb] at p1 HS0 hle
   have HNB:=Lib.hid hnb
   have HK:=Lib.hid hb
   have HI:=Lib.hid hil
   have HS:=Lib.hid HS0
   clear hb hnb hil HS0
   go_wp2_with (first
    | (at_builtin;refine wpList_append_two _ elem_ud w.heap.size _ _ rfl rfl A3 k c3 (udsC (allB (m.bs.take i))) rfl HP.out.ow bA nb bc (udsC bl) rfl HS.out (udsC_one _) (by omega) (by decide) HP.out.ex.size ?_;intro A6 c6 w6 o6 g6 h6;clear h6;have HQ6:Hid (ContI w w6 m.bs (i+1) (k+nb) c6 A6):=Lib.hid (HP.out.step HI.out HNB.out HK.out o6 g6);clear o6 g6)
    | fail)
   go_roundg (n - (i+1))
   case measure=>omega
   case rel=>exact ⟨i+1,k+nb,c6,A6,rfl,by omega,rfl,by go_num,HQ6⟩
  ·obtain rfl:i=n:=by omega
   go_wp2
   go_ret
   have hq:=HP.out
   have e:m.bs.take i=m.bs:=List.take_of_length_le (by rw [← HN.out];exact Nat.le_refl _)
   have o:=hq.ow
   have ln:=hq.ln
   rw [e] at o ln
   exact ⟨_,_,_,rfl,ln,o,hq.ex⟩
end Go.Proofs.YtdgbkpoickbidaaGreatDoor
namespace Go.Proofs.YtdgbkpoickbidaaGreatDoor.UdS
open Go.RowKit

/-- what stands at the end of the first of two lists -/
theorem getD_mid (P:List Ud) (x:Ud) (Q:List Ud):(P++x :: Q).getD P.length Ud.zero=x:=by
 rw [List.getD_eq_getElem?_getD,List.getElem?_append_right (Nat.le_refl _),Nat.sub_self]
 rfl
theorem set_mid (P:List Ud) (x y:Ud) (Q:List Ud):(P++x :: Q).set P.length y=P++y :: Q:=by
 rw [List.set_append_right _ _ (Nat.le_refl _),Nat.sub_self]
 rfl
/-- the list that is being sorted: P, the sorted part up to its last place, the one that is being put in, the rest -/
theorem Arr.two {w:World} {B g c q:Nat} {P s2 Q:List Ud} {x y:Ud} (h:Arr w B g c (P++y :: x :: Q)) (hq:q=P.length) :
  (w.cell? ⟨g,q * 4,none⟩=some (.slice y.A y.l.length y.c)∧w.cell? ⟨g,q * 4+1,none⟩=some (.int .u64 y.t.e)∧w.cell? ⟨g,q * 4+2,none⟩=some (.slice y.t.A y.t.l.length y.t.c)∧w.cell? ⟨g,q * 4+3,none⟩=some (.int .i64 y.d))∧w.cell? ⟨g,(q+1) * 4,none⟩=some (.slice x.A x.l.length x.c)∧w.cell? ⟨g,(q+1) * 4+1,none⟩=some (.int .u64 x.t.e)∧w.cell? ⟨g,(q+1) * 4+2,none⟩=some (.slice x.t.A x.t.l.length x.t.c)∧w.cell? ⟨g,(q+1) * 4+3,none⟩=some (.int .i64 x.d):=by
 subst hq
 have h1:=h.at (i:=P.length) (by simp)
 have h2:=h.at (i:=P.length+1) (by simp)
 rw [getD_mid] at h1
 have e:(P++y :: x :: Q).getD (P.length+1) Ud.zero=x:=by
  have:=getD_mid (P++[y]) x Q
  rwa [List.append_assoc,List.length_append] at this
 rw [e] at h2
 exact ⟨h1,h2⟩
theorem Arr.swap {w:World} {B g c q:Nat} {P Q:List Ud} {x y:Ud} (h:Arr w B g c (P++y :: x :: Q)) (hq:q=P.length) :
  Arr (put4 (put4 w g (q+1) y y.l.length y.t.l.length) g q x x.l.length x.t.l.length) B g c (P++x :: y :: Q):=by
 subst hq
 have h1:=(h.set (P.length+1) y).set P.length x
 have e:((P++y :: x :: Q).set (P.length+1) y).set P.length x=P++x :: y :: Q:=by
  have e1:(P++y :: x :: Q).set (P.length+1) y=P++y :: y :: Q:=by
   have:=set_mid (P++[y]) x y Q
   rwa [List.append_assoc,List.length_append,List.append_assoc] at this
  rw [e1,set_mid]
 rwa [e] at h1
/-- the inner loop's relation -/
def InsIn (B g c a:Nat) (P S T Q D':List Ud) (x:Ud) (w wi:World) (j:Nat) (s1 s2:List Ud):Prop :=
 j=a+s1.length∧D'=s1++s2∧(∀ y∈s2,cmpC x y<0)∧Arr wi B g c (P++(s1++x :: (s2++(T++Q))))∧w.grownBy wi (some g)∧Rws wi g (x :: S)
/-- the outer loop's relation -/
def InsOut (B g c a:Nat) (P S Q:List Ud) (w wo:World) (i:Nat) (D D' T:List Ud):Prop :=
 S=D++T∧i=a+D.length∧Stable cmpC D D'∧Arr wo B g c (P++(D'++(T++Q)))∧w.grownBy wo (some g)∧Rws wo g S
theorem stable_len {L M:List Ud} (h:Stable cmpC L M):M.length=L.length:=by
 have key : ∀ (n:Nat) (L M:List Ud),L.length≤n→Stable cmpC L M→M.length=L.length:=by
  intro n
  induction n with
  | zero =>
   intro L M hn h
   have:L=[]:=List.eq_nil_of_length_eq_zero (by omega)
   subst this
   cases M with
   | nil=>rfl
   | cons y M=>exact absurd ((h.mem cmpC_tot y).1 (List.mem_cons_self ..)) List.not_mem_nil
  | succ n ih =>
   intro L M hn h
   cases M with
   | nil =>
    cases L with
    | nil=>rfl
    | cons y L=>exact absurd ((h.mem cmpC_tot y).2 (List.mem_cons_self ..)) List.not_mem_nil
   | cons y M =>
    have hy:=(h.mem cmpC_tot y).1 (List.mem_cons_self ..)
    have p1 : ∀ K:List Ud,(alike cmpC y K).length+(K.filter fun z => !(cmpC y z==0)).length=K.length:=fun K=>by
     unfold alike
     rw [← List.length_append]
     exact (List.filter_append_perm (fun z=>cmpC y z==0) K).length_eq
    have h1:=p1 L
    have h2:=p1 (y :: M)
    have h3:(alike cmpC y L).length=(alike cmpC y (y :: M)).length:=by rw [h.same y]
    have h4:0<(alike cmpC y L).length:=List.length_pos_of_mem (List.mem_filter.2 ⟨hy,by rw [beq_iff_eq];exact cmpC_tot.refl y⟩)
    have h5:=ih (L.filter fun z => !(cmpC y z==0)) ((y :: M).filter fun z => !(cmpC y z==0)) (by omega) ⟨h.sorted.filter _,fun z=>by
     have q:=h.same z
     unfold alike at q ⊢
     rw [List.filter_filter,List.filter_filter]
     have e : ∀ K:List Ud,K.filter (fun a=>(cmpC z a==0) && !(cmpC y a==0))=(K.filter (fun a=>cmpC z a==0)).filter (fun a => !(cmpC y a==0)):=fun K=>by
      rw [List.filter_filter]
      congr 1
      funext a
      rw [Bool.and_comm]
     rw [e,e,q]⟩
    omega
 exact key L.length L M (Nat.le_refl _) h
open Go.RowKit
def nzC (x:Ud):Bool := !(x.d==0)
set_option maxRecDepth 100000 in
set_option maxHeartbeats 400000 in
theorem sum2_any (A B:Option Addr) (c n b m:Nat) (e k:Int) (v:Bool) (w:World) (hv:Hid ((k==0)=v)) :
  Calls Tryz.prog 107 #[.agg #[.slice A n c, .int .u64 e, .slice B m b, .int .i64 k]] w fun e w'=>e = .returned (.bool v)∧Ext w w':=by
 rw [← hv.out]
 clear hv
 go_enter Tryz.func107,Tryz.ntmps107
 go_wp2
 go_ret
 exact ⟨rfl,(Ext.refl w).alloc _⟩
set_option maxRecDepth 100000 in
set_option maxHeartbeats 2000000 in
theorem index_none (B g c n:Nat) (M:List Ud) (w:World) (hn:n=M.length) (h:Arr w B g c M) (hz : ∀ x∈M,(x.d==0)=false) :
  Calls Tryz.prog 185 #[.slice (some ⟨g,0,none⟩) n c, .func (.func 107) #[] #[]] w fun e w'=>e = .returned (.int .i64 (-1))∧Ext w w':=by
 have hnm:=h.le
 rw [← hn] at hnm
 have H:=Lib.hid h
 have HN:=Lib.hid hn
 have HZ:=Lib.hid hz
 clear h hn hz
 go_enter Tryz.func185,Tryz.ntmps185
 go_wp2
 go_loopw [8] (fun v wr => ∃ i:Nat,i≤n∧v = .int .i64 i∧Ext w wr) (fun v _=>n - (intOf v).toNat)
 case atStart=>exact ⟨0,Nat.zero_le _,rfl,Ext.refl _⟩
 case round =>
  obtain ⟨i,hi,rfl,er⟩:=hrel
  by_cases hlt:i<n
  ·have hil:i<M.length:=by rw [← HN.out];exact hlt
   obtain ⟨p0,p1,p2,p3⟩:=(H.out.ext er).at hil
   have hk:((M.getD i Ud.zero).d==0)=false:=by
    rw [List.getD_eq_getElem?_getD,List.getElem?_eq_getElem hil]
    exact HZ.out _ (List.getElem_mem hil)
   obtain ⟨x,hx⟩ : ∃ x,M.getD i Ud.zero=x:=⟨_,rfl⟩
   rw [hx] at p0 p1 p2 p3 hk
   have HK:=Lib.hid hk
   clear hil hx hk
   go_wp2_with (go_at_call 107;refine (sum2_any _ _ _ _ _ _ _ _ _ _ HK).mono ?_;rintro e w1 ⟨rfl,x1⟩)
   go_roundw
   case rel=>exact ⟨i+1,by omega,by go_num,er.trans x1⟩
   case measure=>simp [intOf];omega
  ·go_wp2
   go_ret
   exact ⟨rfl,er⟩
set_option maxRecDepth 100000 in
set_option maxHeartbeats 2000000 in
theorem index_some (B g c n q:Nat) (P Q:List Ud) (x:Ud) (w:World) (hn:n=(P++x :: Q).length) (hq:q=P.length) (h:Arr w B g c (P++x :: Q)) (hz : ∀ x∈P,(x.d==0)=false) (hx:(x.d==0)=true) :
  Calls Tryz.prog 185 #[.slice (some ⟨g,0,none⟩) n c, .func (.func 107) #[] #[]] w fun e w'=>e = .returned (.int .i64 q)∧Ext w w':=by
 have hnm:=h.le
 rw [← hn] at hnm
 have hqn:q<n:=by rw [hn,List.length_append,List.length_cons];omega
 have H:=Lib.hid h
 have HQ:=Lib.hid hq
 have HZ:=Lib.hid hz
 have HX:=Lib.hid hx
 clear h hn hz hq hx
 go_enter Tryz.func185,Tryz.ntmps185
 go_wp2
 go_loopw [8] (fun v wr => ∃ i:Nat,i≤q∧v = .int .i64 i∧Ext w wr) (fun v _=>n - (intOf v).toNat)
 case atStart=>exact ⟨0,Nat.zero_le _,rfl,Ext.refl _⟩
 case round =>
  obtain ⟨i,hi,rfl,er⟩:=hrel
  have hlt:i<n:=by omega
  have hil:i<(P++x :: Q).length:=by rw [List.length_append,List.length_cons, ← HQ.out];omega
  obtain ⟨p0,p1,p2,p3⟩:=(H.out.ext er).at hil
  by_cases hiq:i<q
  ·have hk:(((P++x :: Q).getD i Ud.zero).d==0)=false:=by
    have hp:i<P.length:=by rw [← HQ.out];exact hiq
    rw [List.getD_eq_getElem?_getD,List.getElem?_append_left hp,List.getElem?_eq_getElem hp]
    exact HZ.out _ (List.getElem_mem hp)
   obtain ⟨y,hy⟩ : ∃ y,(P++x :: Q).getD i Ud.zero=y:=⟨_,rfl⟩
   rw [hy] at p0 p1 p2 p3 hk
   have HK:=Lib.hid hk
   clear hil hy hk
   go_wp2_with (go_at_call 107;refine (sum2_any _ _ _ _ _ _ _ _ _ _ HK).mono ?_;rintro e w1 ⟨rfl,x1⟩)
   go_roundw
   case rel=>exact ⟨i+1,by omega,by go_num,er.trans x1⟩
   case measure=>simp [intOf];omega
  ·have hiq2:i=q:=by omega
   subst hiq2
   have e:(P++x :: Q).getD i Ud.zero=x:=by rw [HQ.out];exact getD_mid P x Q
   rw [e] at p0 p1 p2 p3
   clear hil e
   go_wp2_with (go_at_call 107;refine (sum2_any _ _ _ _ _ _ _ _ _ _ HX).mono ?_;rintro e w1 ⟨rfl,x1⟩)
   go_ret
   exact ⟨rfl,er.trans x1⟩
theorem own_set_past {w:World} {B g n c k:Nat} {xs:List Value} (h:Own w B 95 4 (some ⟨g,0,none⟩) n c xs) (hk:xs.length≤k) (u:Value):Own (w.setCell ⟨g,k,none⟩ u) B 95 4 (some ⟨g,0,none⟩) n c xs:=by
 have:=h.put k u
 rwa [List.set_eq_of_length_le hk] at this
theorem own_sets_past {B g n c:Nat} {xs:List Value} : ∀ (vs:List Value) (w:World) (k:Nat),Own w B 95 4 (some ⟨g,0,none⟩) n c xs→xs.length≤k→Own (w.setCells g k vs) B 95 4 (some ⟨g,0,none⟩) n c xs
 | [],_,_,h,_=>h
 | v :: vs,w,k,h,hk=>own_sets_past vs _ (k+1) (own_set_past h hk v) (by omega)
theorem upd_sets (g:Nat) : ∀ (vs:List Value) (w:World) (k:Nat),w.grownBy (w.setCells g k vs) (some g)
 | [],w,_=>World.grownBy.refl w _
 | v :: vs,w,k=>(upd_set w g k v).trans (upd_sets g vs _ (k+1))
theorem Arr.prefix_ {w:World} {B g c:Nat} {K X:List Ud} (h:Arr w B g c (K++X)):Arr w B g c K:=by
 refine ⟨⟨udsC_len K,?_⟩,h.2⟩
 rcases h.1.2 with ⟨h1,h2⟩ | ⟨g',cur,e,hb,hg,hnc,hcm,hcs,htake⟩
 ·exact .inl ⟨h1,by rw [List.length_append] at h2;omega⟩
 ·refine .inr ⟨g',cur,e,hb,hg,by rw [List.length_append] at hnc;omega,hcm,hcs,?_⟩
  have:(cur.toList.take ((K++X).length * 4)).take (K.length * 4)=(udsC (K++X)).take (K.length * 4):=by rw [htake]
  rw [List.take_take,Nat.min_eq_left (by rw [List.length_append];omega),udsC_append] at this
  rw [this, ← udsC_len K,List.take_left]
theorem Arr.cells_past {w:World} {B g c:Nat} {K:List Ud} (h:Arr w B g c K) {j:Nat} (hj:j<c * 4):(w.cell? ⟨g,j,none⟩).isSome=true:=by
 rcases h.1.2 with ⟨h1,_⟩ | ⟨g',cur,e,hb,hg,hnc,hcm,hcs,htake⟩
 ·have:=h.2;omega
 ·cases e
  rw [cell_of_row w g j cur _ (0,0) hg,Array.getElem?_eq_getElem (Nat.lt_of_lt_of_le hj hcs)]
  rfl
theorem run_clear4 {P:Program} (w:World) (t e ty:TypeId) (z0 z1 z2 z3:Value) (ht:P.underlying t=some (.slice e)) (hv : ∀ w,(zeroValue e).run P w = .ok (.agg #[z0,z1,z2,z3]) w) (hz : ∀ v∈[z0,z1,z2,z3],v.oneCell'=true) (hzc:(Value.agg #[z0,z1,z2,z3]).cells = #[z0,z1,z2,z3]) (b o n c:Nat) (hn:0<n)
  (hc : ∀ j,j<n * 4→(w.cell? ⟨b,o+j,none⟩).isSome=true) (hf : ∀ j,j<n * 4→w.frozen? ⟨b,o+j,none⟩=false) :
  (Builtin.clear_ #[t] ty #[.slice (some ⟨b,o,none⟩) n c]).run P w = .ok (.tuple #[]) (w.setCells b o (Builtin.zeroCells #[z0,z1,z2,z3] n).toList):=by
 have hlen:(Builtin.zeroCells #[z0,z1,z2,z3] n).toList.length=n * 4:=by
  have:=size_zeroCells #[z0,z1,z2,z3] n
  rw [Array.length_toList,this]
  rfl
 have hall : ∀ v∈(Builtin.zeroCells #[z0,z1,z2,z3] n).toList,v.oneCell'=true:=by
  intro v hv'
  unfold Builtin.zeroCells at hv'
  rw [Array.toList_map] at hv'
  obtain ⟨i,_,rfl⟩:=List.mem_map.1 hv'
  show (#[z0,z1,z2,z3][i % 4]!).oneCell'=true
  rcases (by omega:i % 4=0∨i % 4=1∨i % 4=2∨i % 4=3) with h | h | h | h
  ·rw [h];exact hz z0 (by simp)
  ·rw [h];exact hz z1 (by simp)
  ·rw [h];exact hz z2 (by simp)
  ·rw [h];exact hz z3 (by simp)
 have hst:=run_storeCells_cells (P:=P) b o (Builtin.zeroCells #[z0,z1,z2,z3] n).toList 0 w (by simpa [hlen] using hc) (by simpa [hlen] using hf) hall
 simp only [Nat.add_zero] at hst
 obtain ⟨m,rfl⟩ : ∃ m,n=m+1:=⟨n - 1,by omega⟩
 simp [Builtin.clear_,run_underlying ht,hv,hzc,hst]
open Go.RowKit
/-- what is left behind: those that are some -/
def Deleted (B g c:Nat) (M:List Ud) (w:World) (e:Ending) (w':World):Prop := ∃ m,e = .returned (.slice (some ⟨g,0,none⟩) m c)∧m=(M.filter nzC).length∧Arr w' B g c (M.filter nzC)∧w.grownBy w' (some g)
theorem zero_ud (w:World):(zeroValue 95).run Tryz.prog w = .ok (.agg #[.slice none 0 0, .int .u64 0, .slice none 0 0, .int .i64 0]) w:=by kernel_rfl
/-- so far: K is kept, X is to be thrown away, R is to come -/
def DelIn (B g c:Nat) (M K X R:List Ud) (w wr:World) (j:Nat):Prop:=j=K.length+X.length∧M.filter nzC=K++R.filter nzC∧Arr wr B g c (K++(X++R))∧w.grownBy wr (some g)∧0<X.length
theorem DelIn.mk' {B g c:Nat} {M K X R:List Ud} {w wr wz:World} {j:Nat} (h:DelIn B g c M K X R w wr j) (hz:Ext wr wz):DelIn B g c M K X R w wz j:=⟨h.1,h.2.1,h.2.2.1.ext hz,h.2.2.2.1.trans (upd_ext hz g),h.2.2.2.2⟩
theorem DelIn.skip {B g c:Nat} {M K X R:List Ud} {x:Ud} {w wr wz:World} {j:Nat} (h:DelIn B g c M K X (x :: R) w wr j) (hx:nzC x=false) (hz:Ext wr wz):DelIn B g c M K (X++[x]) R w wz (j+1):=by
 obtain ⟨h1,h2,h3,h4,h5⟩:=h
 refine ⟨by rw [List.length_append,List.length_singleton];omega,by rw [h2,List.filter_cons_of_neg (by simp [hx])],?_,h4.trans (upd_ext hz g),by rw [List.length_append];omega⟩
 have e:K++(X++[x]++R)=K++(X++x :: R):=by simp
 rw [e]
 exact h3.ext hz
theorem DelIn.keep {B g c i:Nat} {M K X R:List Ud} {x y:Ud} {w wr:World} {j:Nat} (h:DelIn B g c M K (y :: X) (x :: R) w wr j) (hx:nzC x=true) (hi:i=K.length) {n m:Nat} (hn:n=x.l.length) (hm:m=x.t.l.length) :
  DelIn B g c M (K++[x]) (X++[x]) R w (put4 wr g i x n m) (j+1):=by
 subst hi hn hm
 obtain ⟨h1,h2,h3,h4,h5⟩:=h
 refine ⟨by simp only [List.length_append,List.length_cons,List.length_nil] at h1 ⊢;omega,by rw [h2,List.filter_cons_of_pos hx];simp,?_,h4.trans (upd_put4 wr g _ _ _ _),by rw [List.length_append,List.length_singleton];omega⟩
 have h6:=h3.set K.length x
 have e:(K++(y :: X++x :: R)).set K.length x=K++[x]++(X++[x]++R):=by
  rw [List.cons_append,set_mid]
  simp
 rw [e] at h6
 exact h6
set_option maxRecDepth 100000 in
set_option maxHeartbeats 4000000 in
theorem deleteFunc_any (B g c n:Nat) (M:List Ud) (w:World) (hn:n=M.length) (h:Arr w B g c M) :
  Calls Tryz.prog 106 #[.slice (some ⟨g,0,none⟩) n c, .func (.func 107) #[] #[]] w (Deleted B g c M w):=by
 by_cases hall : ∀ x∈M,(x.d==0)=false
 ·have hf:M.filter nzC=M:=List.filter_eq_self.2 fun x hx=>by unfold nzC;rw [hall x hx];rfl
  have H:=Lib.hid h
  have HN:=Lib.hid hn
  have HF:=Lib.hid hf
  clear h hn hf
  go_enter Tryz.func106,Tryz.ntmps106
  go_wp2_with (go_at_call 185;refine (index_none B g c n M _ HN.out H.out hall).mono ?_;rintro e w1 ⟨rfl,x1⟩)
  go_ret
  exact ⟨n,rfl,by rw [HF.out];exact HN.out,by rw [HF.out];exact H.out.ext x1,upd_ext x1 g⟩
 ·obtain ⟨P,x,Q,rfl,hP,hx⟩ : ∃ P x Q,M=P++x :: Q∧(∀ y∈P,(y.d==0)=false)∧(x.d==0)=true:=by
   clear h hn
   induction M with
   | nil=>exact absurd (fun x hx=>(nomatch hx)) hall
   | cons y M ih =>
    by_cases hy:(y.d==0)=true
    ·exact ⟨[],y,M,rfl,fun z hz=>(nomatch hz),hy⟩
    ·have hy':(y.d==0)=false:=by simpa using hy
     obtain ⟨P,x,Q,e,h1,h2⟩:=ih (fun q=>hall fun z hz=>(List.mem_cons.1 hz).elim (fun e=>e ▸ hy') (q z))
     exact ⟨y :: P,x,Q,by rw [e];rfl,fun z hz=>(List.mem_cons.1 hz).elim (fun e=>e ▸ hy') (h1 z),h2⟩
  clear hall
  obtain ⟨M,hM⟩ : ∃ M,M=P++x :: Q:=⟨_,rfl⟩
  obtain ⟨q,hq⟩ : ∃ q,q=P.length:=⟨_,rfl⟩
  have hnm:=h.le
  rw [← hn] at hnm
  have hqn:q<n:=by rw [hn,hq,List.length_append,List.length_cons];omega
  have hncap:n≤c:=by rw [hn];exact h.1.le.1
  have hc63:c≤9223372036854775807:=h.1.le.2
  have hf1:P.filter nzC=P:=List.filter_eq_self.2 fun y hy=>by unfold nzC;rw [hP y hy];rfl
  have H:=Lib.hid h
  have HN:=Lib.hid hn
  have HQ:=Lib.hid hq
  have HP:=Lib.hid hP
  have HX:=Lib.hid hx
  have HLen:Hid (n=q+1+Q.length):=Lib.hid (by rw [hn,hq,List.length_append,List.length_cons];omega)
  have HD : ∀ w1,Ext w w1→Hid (DelIn B g c M P [x] Q w w1 (q+1)):=fun w1 x1=>Lib.hid ⟨by rw [hq];rfl,by rw [hM,List.filter_append,hf1,List.filter_cons_of_neg (by unfold nzC;rw [hx];decide)],h.ext x1,upd_ext x1 g,Nat.zero_lt_one⟩
  have HDD:=Lib.hid HD
  rw [← hM]
  clear h hn hq hP hx hf1 hM HD
  go_enter Tryz.func106,Tryz.ntmps106
  go_wp2_with (go_at_call 185;refine (index_some B g c n q P Q x _ HN.out HQ.out H.out HP.out HX.out).mono ?_;rintro e w1 ⟨rfl,x1⟩)
  go_loopg [5,6] (n - (q+1)) (fun z u v wr => ∃ (i j:Nat) (K X R:List Ud),z=n - j∧j≤n∧i≤j∧u = .int .i64 i∧v = .int .i64 j∧Hid (i=K.length∧n=j+R.length)∧Hid (DelIn B g c M K X R w wr j))
  case atStart=>exact ⟨q,q+1,P,[x],Q,rfl,by omega,by omega,rfl,by simp,Lib.hid ⟨HQ.out,HLen.out⟩,HDD.out w1 x1⟩
  case round =>
   obtain ⟨i,j,K,X,R,rfl,hj,hij,rfl,rfl,HI,HJ⟩:=hrel
   obtain ⟨wi,hwi⟩ : ∃ wi:World,wi=wr:=⟨_,rfl⟩
   rw [← hwi] at HJ ⊢
   clear hwi
   by_cases hlt:j<n
   ·obtain ⟨y,R,rfl⟩ : ∃ y R',R=y :: R':=by
     cases R with
     | nil=>have:=HI.out.2;rw [List.length_nil] at this;omega
     | cons y R=>exact ⟨y,R,rfl⟩
    obtain ⟨x0,X,rfl⟩ : ∃ x0 X',X=x0 :: X':=by
     cases X with
     | nil=>have:=HJ.out.2.2.2.2;exact absurd this (by decide)
     | cons x0 X=>exact ⟨x0,X,rfl⟩
    have hA:=HJ.out.2.2.1
    have hjl:j<(K++(x0 :: X++y :: R)).length:=by have:=HJ.out.1;simp only [List.length_append,List.length_cons] at this ⊢;omega
    obtain ⟨p0,p1,p2,p3⟩:=hA.at hjl
    have e:(K++(x0 :: X++y :: R)).getD j Ud.zero=y:=by
     rw [← List.append_assoc,show j=(K++x0 :: X).length by rw [List.length_append];exact HJ.out.1]
     exact getD_mid _ y R
    rw [e] at p0 p1 p2 p3
    have f0:=hA.free (i * 4)
    have f0b:=hA.free (i * 4+1)
    have f1:=hA.free (i * 4+2)
    have f1b:=hA.free (i * 4+3)
    have c0 : ∃ u,wi.cell? ⟨g,i * 4,none⟩=some u:=Option.isSome_iff_exists.1 (hA.cells_past (by omega))
    obtain ⟨u0,c0⟩:=c0
    have c1 : ∃ u,wi.cell? ⟨g,i * 4+1,none⟩=some u:=Option.isSome_iff_exists.1 (hA.cells_past (by omega))
    obtain ⟨u1,c1⟩:=c1
    have c2 : ∃ u,wi.cell? ⟨g,i * 4+2,none⟩=some u:=Option.isSome_iff_exists.1 (hA.cells_past (by omega))
    obtain ⟨u2,c2⟩:=c2
    have c3 : ∃ u,wi.cell? ⟨g,i * 4+3,none⟩=some u:=Option.isSome_iff_exists.1 (hA.cells_past (by omega))
    obtain ⟨u3,c3⟩:=c3
    have HA:=Lib.hid hA
    obtain ⟨ny,hny⟩ : ∃ ny,ny=y.l.length:=⟨_,rfl⟩
    obtain ⟨ty,hty⟩ : ∃ ty,ty=y.t.l.length:=⟨_,rfl⟩
    rw [← hny] at p0;rw [← hty] at p2
    have HNY:=Lib.hid hny
    have HTY:=Lib.hid hty
    obtain ⟨v,hv⟩ : ∃ v,(y.d==0)=v:=⟨_,rfl⟩
    have HV:=Lib.hid hv
    clear hA hjl e hny hty hv
    cases v
    ·have hx:Hid (nzC y=true):=Lib.hid (by unfold nzC;rw [HV.out];rfl)
     go_wp2_with (go_at_call 107;refine (sum2_any _ _ _ _ _ _ _ _ _ _ HV).mono ?_;rintro e w2 ⟨rfl,x2⟩;have X2:=((Ext.refl wi).alloc (.cells #[.slice y.A ny y.c, .int .u64 y.t.e, .slice y.t.A ty y.t.c, .int .i64 y.d] 95)).trans x2;have B2:=(Bk.new wi 95 #[.slice y.A ny y.c, .int .u64 y.t.e, .slice y.t.A ty y.t.c, .int .i64 y.d]).ext x2;have b0:=B2.cell 0;have b1:=B2.cell 1;have b2:=B2.cell 2;have b3:=B2.cell 3;have HA2:=Lib.hid (HA.out.ext X2);have g0:=HA2.out.free (i * 4);have g1:=HA2.out.free (i * 4+1);have g2:=HA2.out.free (i * 4+2);have g3:=HA2.out.free (i * 4+3);have d0:=X2.cell c0;have d1:=X2.cell c1;have d2:=X2.cell c2;have d3:=X2.cell c3)
     go_roundg (n - (j+1))
     case measure=>omega
     case rel=>exact ⟨i+1,j+1,K++[y],X++[y],R,rfl,by omega,by omega,by go_num,by go_num,Lib.hid ⟨by rw [List.length_append,List.length_singleton, ← HI.out.1],by have:=HI.out.2;rw [List.length_cons] at this;omega⟩,Lib.hid ((DelIn.mk' HJ.out X2).keep hx.out HI.out.1 HNY.out HTY.out)⟩
    ·have hx:Hid (nzC y=false):=Lib.hid (by unfold nzC;rw [HV.out];rfl)
     go_wp2_with (go_at_call 107;refine (sum2_any _ _ _ _ _ _ _ _ _ _ HV).mono ?_;rintro e w2 ⟨rfl,x2⟩;have X2:=((Ext.refl wi).alloc (.cells #[.slice y.A ny y.c, .int .u64 y.t.e, .slice y.t.A ty y.t.c, .int .i64 y.d] 95)).trans x2)
     go_roundg (n - (j+1))
     case measure=>omega
     case rel=>exact ⟨i,j+1,K,x0 :: X++[y],R,rfl,by omega,by omega,rfl,by go_num,Lib.hid ⟨HI.out.1,by have:=HI.out.2;rw [List.length_cons] at this;omega⟩,Lib.hid (HJ.out.skip hx.out X2)⟩
   ·obtain rfl:j=n:=by omega
    have hR:R=[]:=List.eq_nil_of_length_eq_zero (by have:=HI.out.2;omega)
    subst hR
    have hA:=HJ.out.2.2.1
    have hin:i<j:=by have h1:=HJ.out.1;have h2:=HI.out.1;have h3:=HJ.out.2.2.2.2;omega
    have hcap:j - i≤c - i:=by omega
    have hci : ¬ (c=i):=by omega
    have hcl : ∃ vs, ∀ ty,(Builtin.clear_ #[22] ty #[.slice (some ⟨g,i * 4,none⟩) (j - i) (c - i)]).run Tryz.prog wi = .ok (.tuple #[]) (wi.setCells g (i * 4) vs) :=
     ⟨_,fun ty=>(run_clear4 (P:=Tryz.prog) wi 22 95 ty (.slice none 0 0) (.int .u64 0) (.slice none 0 0) (.int .i64 0) Tryz.underlying22 zero_ud (by intro v hv;simp at hv;rcases hv with rfl | rfl | rfl | rfl<;>rfl) rfl g (i * 4) (j - i) (c - i) (by omega) (fun t ht=>hA.cells_past (by omega)) (fun t ht=>hA.free _))⟩
    obtain ⟨vs,hcl⟩:=hcl
    have HA:=Lib.hid hA
    have HF:Hid (M.filter nzC=K):=Lib.hid (by have:=HJ.out.2.1;rwa [List.filter_nil,List.append_nil] at this)
    have HG:=Lib.hid HJ.out.2.2.2.1
    have HK:=Lib.hid HI.out.1
    clear hA HJ HI
    go_wp2
    go_ret
    refine ⟨i,rfl,by rw [HF.out];exact HK.out,?_,HG.out.trans (upd_sets g vs wi _)⟩
    rw [HF.out]
    have hp:=HA.out.prefix_
    exact ⟨own_sets_past vs wi _ hp.1 (by rw [udsC_len,HK.out];exact Nat.le_refl _),hp.2⟩
end Go.Proofs.YtdgbkpoickbidaaGreatDoor.UdS
namespace Go.Proofs.YtdgbkpoickbidaaGreatDoor
open Go.RowKit

namespace UdS
theorem map_snoc {α β:Type} {f:α→β} {O:List α} {M:List β} {y:β} (h:O.map f=M++[y]) : ∃ K z,O=K++[z]∧K.map f=M∧f z=y:=by
 obtain ⟨K,R,e,e1,e2⟩:=List.map_eq_append_iff.1 h
 cases R with
 | nil=>simp at e2
 | cons z R =>
  cases R with
  | cons z' R=>simp at e2
  | nil=>exact ⟨K,z,e,e1,by simpa using e2⟩
theorem ustable_map {O S:List Ud} (h:Stable cmpC O S):Stable cmpV (O.map Ud.uv) (S.map Ud.uv):=by
 refine ⟨List.pairwise_map.2 (h.sorted.imp fun q=>q),fun c=>?_⟩
 have e : ∀ K:List Ud,alike cmpV c (K.map Ud.uv)=(alike cmpC ⟨none,0,c.1.1,⟨c.1.2.1,none,0,c.1.2.2⟩,c.2⟩ K).map Ud.uv:=fun K=>by
  unfold alike
  rw [List.filter_map]
  rfl
 rw [e,e,h.same]
/-- the last one that was put down is like the last one that was read -/
theorem dlast {S O:List Ud} {j:Nat} (hs:S.Pairwise fun x y=>cmpC x y≤0) (hin : ∀ x∈S,InN x.uv) (h:O.map Ud.uv=mergeV ((S.take (j+1)).map Ud.uv)) (hj:j<S.length) :
  ∃ M y,O=M++[y] ∧ ∀ x:Ud,kcmp y.k x.k=0↔kcmp (S.getD j Ud.zero).k x.k=0:=by
 have hsub:(S.take (j+1)).Sublist S:=List.take_sublist _ _
 have k:=(merge_sum ((S.take (j+1)).map Ud.uv) (List.pairwise_map.2 ((hs.sublist hsub).imp fun q=>q)) (fun x hx=>by obtain ⟨y,hy,rfl⟩:=List.mem_map.1 hx;exact hin y (hsub.subset hy))).2
 rw [takeU hj] at k h
 rcases k with ⟨k,_⟩ | ⟨S0,s,M0,y,k1,k2,k3⟩
 ·simp at k
 ·rw [k2] at h
  obtain ⟨K,z,e,e1,e2⟩:=map_snoc h
  refine ⟨K,z,e,fun x=>?_⟩
  rw [List.map_append,List.map_singleton] at k1
  have hsz:=(List.append_inj' k1 rfl).2
  have hs2:(S.getD j Ud.zero).uv=s:=by simpa using hsz
  have k4:kcmp z.k (S.getD j Ud.zero).k=0:=by
   have:cmpV z.uv (S.getD j Ud.zero).uv=0:=by rw [e2,hs2];exact k3
   exact this
  exact kcmp_tot.eq_left k4
/-- while S is read: i of it are done -/
structure DSumAt (w w1:World) (S:List Ud) (wr:World) (i:Nat) (A:Option Addr) (c:Nat) (O:List Ud):Prop where
 out:Uout wr w.heap.size A c O
 is:O.map Ud.uv=mergeV ((S.take i).map Ud.uv)
 len:O.length≤i
 ext:Ext w1 wr
 lo:Ext w w1
variable {w w1 wr wz:World} {S O M:List Ud} {i:Nat} {A:Option Addr} {c:Nat} {x y:Ud}
theorem DSumAt.mono (h:DSumAt w w1 S wr i A c O) (q:Ext wr wz):DSumAt w w1 S wz i A c O:=⟨h.out.ext q,h.is,h.len,h.ext.trans q,h.lo⟩
theorem DSumAt.join {g m:Nat} {s:Int} (h:DSumAt w w1 S wr i (some ⟨g,0,none⟩) c (M++[y])) (hi:i<S.length) (hx:S.getD i Ud.zero=x) (hc:kcmp y.k x.k=0) (hm:m=M.length) (hs:w64 (y.d+x.d)=s) (hg:w1.heap.size≤g) :
  DSumAt w w1 S (wr.setCell ⟨g,m * 4+3,none⟩ (.int .i64 s)) (i+1) (some ⟨g,0,none⟩) c (M++[⟨y.A,y.c,y.l,y.t,s⟩]):=by
 subst hm hs
 refine ⟨h.out.bump _,?_,by have:=h.len;simp only [List.length_append,List.length_singleton] at this ⊢;omega,h.ext.set (p:=⟨g,_,none⟩) hg _,h.lo⟩
 rw [takeU hi,hx,List.map_append,List.map_append,List.map_singleton,List.map_singleton,mergeV_snoc, ← h.is,List.map_append,List.map_singleton,mergeStep_snoc,if_pos (show cmpV y.uv x.uv=0 from hc)]
 rfl
theorem dkeep_is (h:O.map Ud.uv=mergeV ((S.take i).map Ud.uv)) (hi:i<S.length) (hx:S.getD i Ud.zero=x) (hc:O=[] ∨ ∃ M y,O=M++[y] ∧ ¬ kcmp y.k x.k=0) {z:Ud} (hz:z.uv=x.uv):(O++[z]).map Ud.uv=mergeV ((S.take (i+1)).map Ud.uv):=by
 rw [takeU hi,hx,List.map_append,List.map_append,List.map_singleton,List.map_singleton,mergeV_snoc, ← h,hz]
 rcases hc with rfl | ⟨M,y,rfl,hc⟩
 ·rfl
 ·rw [List.map_append,List.map_singleton,mergeStep_snoc,if_neg (show ¬ cmpV y.uv x.uv=0 from hc)]
/-- what Sum hands back -/
def DSumRes (w:World) (L:List Ud) (e:Ending) (w':World):Prop := ∃ A m R,e = .returned (.slice A m m)∧m=R.length∧Uout w' w.heap.size A m R∧R.map Ud.uv=sumV (L.map Ud.uv)∧Ext w w'
theorem dsum_val {L S O:List Ud} (hin : ∀ x∈L,InN x.uv) (st:Stable cmpC L S) (h:O.map Ud.uv=mergeV (S.map Ud.uv)):(O.filter nzC).map Ud.uv=sumV (L.map Ud.uv):=by
 have h1:Summed (L.map Ud.uv) (O.map Ud.uv):=by
  rw [h]
  exact Summed.of_stable (ustable_map st) (fun y hy=>by obtain ⟨x,hx,rfl⟩:=List.mem_map.1 hy;exact hin x hx)
 have h2:=Summed.all (L.map Ud.uv) (fun y hy=>by obtain ⟨x,hx,rfl⟩:=List.mem_map.1 hy;exact hin x hx)
 unfold sumV
 rw [← h1.unique h2,List.filter_map]
 rfl
end UdS
open Go.RowKit
set_option maxRecDepth 100000 in
set_option maxHeartbeats 400000 in
theorem clone_ups (A:Option Addr) (n c:Nat) (L:List Ud) (w:World) (hm:Hid (n=L.length)) (h:Hid (Uin w A c L)) (hn:n≤1000000) :
  Calls Tryz.prog 101 #[.slice A n c] w fun e w' => ∃ A' c',e = .returned (.slice A' n c')∧Own w' w.heap.size 95 4 A' n c' (udsC L)∧Ext w w':=by
 have hs:Hid (Sl w 4 A n c (udsC L)):=Lib.hid (by rw [hm.out];exact h.out.sl)
 have hnil:=fun (W:World)=>Lib.run_eql_slice_nil (P:=Tryz.prog) W 22 95 A n c 0 0 Tryz.underlying22
 rcases A with _ | a
 ·obtain rfl:c=0:=hs.out.2.2.2.1 rfl
  have hn0:n=0:=by have:=hs.out.2.1;omega
  subst hn0
  have hx:udsC L=[]:=List.eq_nil_of_length_eq_zero (by simpa using hs.out.1)
  rw [hx]
  go_enter Tryz.func101,Tryz.ntmps101
  go_wp2
  go_ret
  exact ⟨none,0,rfl,Own.nil _ _ _ _,Ext.refl _⟩
 ·go_enter Tryz.func101,Tryz.ntmps101
  go_wp2_with (at_builtin;refine wpList_append_gen _ elem_ud w.heap.size _ _ (by rfl) (by rfl) _ 0 0 [] (by rfl) (Own.empty _ _ _ _ _) (some a) n c (udsC L) (by rfl) (hs.out.ext ((Ext.refl w).alloc _)) (udsC_one L) (by omega) (by omega) (by simp) ?_;intro A' c' w1 ho1 hg1 hk1)
  go_ret
  refine ⟨A',c',by simp,by simpa using ho1,?_⟩
  exact ((Ext.refl w).alloc _).grown hg1 (by simp [blk])
open Go.RowKit
theorem Bk.set4 {w:World} {g:Nat} {t:TypeId} {a b c d:Value} (h:Bk w g t #[a,b,c,d]) (u v x y:Value) :
  ((((w.setCell ⟨g,0,none⟩ u).setCell ⟨g,1,none⟩ v).setCell ⟨g,2,none⟩ x).setCell ⟨g,3,none⟩ y).cell? ⟨g,0,none⟩=some u∧((((w.setCell ⟨g,0,none⟩ u).setCell ⟨g,1,none⟩ v).setCell ⟨g,2,none⟩ x).setCell ⟨g,3,none⟩ y).cell? ⟨g,1,none⟩=some v ∧
   ((((w.setCell ⟨g,0,none⟩ u).setCell ⟨g,1,none⟩ v).setCell ⟨g,2,none⟩ x).setCell ⟨g,3,none⟩ y).cell? ⟨g,2,none⟩=some x∧((((w.setCell ⟨g,0,none⟩ u).setCell ⟨g,1,none⟩ v).setCell ⟨g,2,none⟩ x).setCell ⟨g,3,none⟩ y).cell? ⟨g,3,none⟩=some y:=by
 have bb:=(((h.set 0 u).set 1 v).set 2 x).set 3 y
 exact ⟨bb.cell 0,bb.cell 1,bb.cell 2,bb.cell 3⟩
def UCopyOut (x:Ud) (nx tx:Nat) (w:World) (r:Ending) (w':World):Prop := ∃ (A:Option Addr) (c:Nat) (B:Option Addr) (b:Nat),r = .returned (.agg #[.slice A nx c, .int .u64 x.t.e, .slice B tx b, .int .i64 x.d]) ∧
 Own w' w.heap.size 204 4 A nx c (rowC x.l)∧Own w' w.heap.size 180 1 B tx b (wds x.t.l)∧Ext w w'
set_option maxRecDepth 100000 in
set_option maxHeartbeats 4000000 in
theorem ucopied_any (x:Ud) (nx tx:Nat) (w:World) (hnx:Hid (nx=x.l.length)) (htx:Hid (tx=x.t.l.length)) (hx:Hid (UdR w x)) (h9:nx≤1000000000) (h8:tx≤1000000000) :
  Calls Tryz.prog 104 #[.agg #[.slice x.A nx x.c, .int .u64 x.t.e, .slice x.t.A tx x.t.c, .int .i64 x.d]] w (UCopyOut x nx tx w):=by
 have HT:Hid (Sl w 1 x.t.A tx x.t.c (wds x.t.l)):=Lib.hid (by rw [htx.out];exact hx.out.t)
 go_enter Tryz.func104,Tryz.ntmps104
 go_upto_region 1 with fail
 obtain ⟨w0,hw0⟩ : ∃ w0,w0=(w.alloc (Obj.cells #[.slice x.A nx x.c, .int .u64 x.t.e, .slice x.t.A tx x.t.c, .int .i64 x.d] 95)).alloc (Obj.cells #[.slice none 0 0, .int .u64 0, .slice none 0 0, .int .i64 0] 95):=⟨_,rfl⟩
 have x0:Ext w w0:=hw0 ▸ ((Ext.refl w).alloc _).alloc _
 have a0:Bk w0 w.heap.size 95 #[.slice x.A nx x.c, .int .u64 x.t.e, .slice x.t.A tx x.t.c, .int .i64 x.d]:=by subst hw0;exact (Bk.new _ _ _).alloc _
 have b0:Bk w0 (w.heap.size+1) 95 #[.slice none 0 0, .int .u64 0, .slice none 0 0, .int .i64 0]:=by subst hw0;exact Bk.at (by simp)
 have hs0:w0.heap.size=w.heap.size+2:=by rw [hw0];simp
 rw [← hw0]
 clear hw0
 have X:Ext w0 w0.drew:=(Ext.refl w0).drew
 have q0 : ∀ y:Xt w0.drew,y.W.cell? ⟨w.heap.size,0,none⟩=some (.slice x.A nx x.c):=fun y=>(a0.ext (X.trans y.x)).cell 0
 have q2 : ∀ y:Xt w0.drew,y.W.cell? ⟨w.heap.size,2,none⟩=some (.slice x.t.A tx x.t.c):=fun y=>(a0.ext (X.trans y.x)).cell 2
 have HR:=Lib.hid (hx.out.r.ext (x0.trans X))
 refine wp_region_ord [0,1,3,0,8,24,63,63,255,511,1023,2047] (.flo [0,1,3,4,5] (.ext 2 (.pur [7] (.one 6 (.one 8 (.flo [9,10] (.one 11 (.fin)))))))) (by kernel_rfl) (by kernel_rfl) (by intro _ _ d _ _ h;cases d<;>exact h) ?_
 (refine ord_flo (pick_cons rfl (pick_cons rfl (pick_cons rfl (pick_cons rfl (pick_cons rfl pick_nil))))) ?_;(repeat (go_big_quiet_step (fail)));refine wpQuiet_nil ?_;show ordWalk _ _ _ _ _ _ _)
 refine ord_ext (pick_cons rfl pick_nil) ?_;intro K_ hK_
 go_wp2_with (go_at_call 183;refine (clone_lit x.A x.c nx x.l _ hnx HR h9).mono ?_;rintro e w1 ⟨⟨A1,c1,rfl,o1,b1⟩,x1⟩)
 refine ordNext.mk x1 ?_
 (refine ord_pur (pick_cons rfl pick_nil) ?_;(repeat (go_big_quiet_step (fail)));refine wpQuiet_nil ?_;show ordWalk _ _ _ _ _ _ _)
 refine ord_one (pick_cons rfl pick_nil) ?_;intro K_ hK_
 have hs1:=(X.trans x1).size
 go_wp2_with (go_at_call 184;refine (clone_words x.t.A tx x.t.c _ _ (HT.out.ext ((x0.trans X).trans x1)) (wds_one _) (by omega)).mono ?_;rintro e w2 ⟨A2,c2,rfl,o2,x2⟩)
 have XE:Ext w0 w2:=(X.trans x1).trans x2
 have O1:Hid (Own w2 w0.heap.size 204 4 A1 nx c1 (rowC x.l)):=Lib.hid ((Own.ext o1 x2).mono X.size)
 have O2:Hid (Own w2 w0.heap.size 180 1 A2 tx c2 (wds x.t.l)):=Lib.hid (Own.mono o2 hs1)
 have a2:=a0.ext XE
 have b2:=b0.ext XE
 have p0:=a2.cell 0
 have f0:=a2.free 0
 have hs2:=XE.size
 clear o1 o2 b1 q0 q2
 refine ord_one (pick_cons rfl pick_nil) ?_;intro K_ hK_
 go_wp2
 obtain ⟨w3,hw3⟩ : ∃ w3,w3=w2.setCell ⟨w.heap.size,0,none⟩ (.slice A1 nx c1):=⟨_,rfl⟩
 have a3:Bk w3 w.heap.size 95 #[.slice A1 nx c1, .int .u64 x.t.e, .slice x.t.A tx x.t.c, .int .i64 x.d]:=by rw [hw3];exact a2.set 0 _
 have b3:Bk w3 (w.heap.size+1) 95 #[.slice none 0 0, .int .u64 0, .slice none 0 0, .int .i64 0]:=by rw [hw3];exact b2.far (by simp) _
 have O1:Hid (Own w3 w0.heap.size 204 4 A1 nx c1 (rowC x.l)):=Lib.hid (by rw [hw3];exact O1.out.far (O1.out.ne (by show w.heap.size<_;omega)) _)
 have O2:Hid (Own w3 w0.heap.size 180 1 A2 tx c2 (wds x.t.l)):=Lib.hid (by rw [hw3];exact O2.out.far (O2.out.ne (by show w.heap.size<_;omega)) _)
 have X3:Hid (Ext w w3):=Lib.hid (by rw [hw3];exact (x0.trans XE).set (p:=⟨w.heap.size,0,none⟩) (Nat.le_refl _) _)
 rw [← hw3]
 clear hw3 p0 f0
 have p2:=a3.cell 2
 have f2:=a3.free 2
 (refine ord_flo (pick_cons rfl (pick_cons rfl pick_nil)) ?_;(repeat (go_big_quiet_step (fail)));refine wpQuiet_nil ?_;show ordWalk _ _ _ _ _ _ _)
 refine ord_one (pick_cons rfl pick_nil) ?_;intro K_ hK_
 go_wp2
 obtain ⟨w4,hw4⟩ : ∃ w4,w4=w3.setCell ⟨w.heap.size,2,none⟩ (.slice A2 tx c2):=⟨_,rfl⟩
 have a4:Bk w4 w.heap.size 95 #[.slice A1 nx c1, .int .u64 x.t.e, .slice A2 tx c2, .int .i64 x.d]:=by rw [hw4];exact a3.set 2 _
 have b4:Bk w4 (w.heap.size+1) 95 #[.slice none 0 0, .int .u64 0, .slice none 0 0, .int .i64 0]:=by rw [hw4];exact b3.far (by simp) _
 have O1:Hid (Own w4 w0.heap.size 204 4 A1 nx c1 (rowC x.l)):=Lib.hid (by rw [hw4];exact O1.out.far (O1.out.ne (by show w.heap.size<_;omega)) _)
 have O2:Hid (Own w4 w0.heap.size 180 1 A2 tx c2 (wds x.t.l)):=Lib.hid (by rw [hw4];exact O2.out.far (O2.out.ne (by show w.heap.size<_;omega)) _)
 have X4:Hid (Ext w w4):=Lib.hid (by rw [hw4];exact X3.out.set (p:=⟨w.heap.size,2,none⟩) (Nat.le_refl _) _)
 rw [← hw4]
 clear hw4 p2 f2
 refine ord_fin ?_
 have r0:=a4.cell 0
 have r1:=a4.cell 1
 have r2:=a4.cell 2
 have r3:=a4.cell 3
 have s0:=b4.cell 0
 have s1:=b4.cell 1
 have s2:=b4.cell 2
 have s3:=b4.cell 3
 have g0:=b4.free 0
 have g1:=b4.free 1
 have g2:=b4.free 2
 have g3:=b4.free 3
 have BB:=Lib.hid b4
 clear a0 b0 a2 b2 a3 b3 a4 b4
 go_wp2
 have bb:=BB.out.set4 (.slice A1 nx c1) (.int .u64 x.t.e) (.slice A2 tx c2) (.int .i64 x.d)
 refine bodyPost_ret (v := .agg #[.slice A1 nx c1, .int .u64 x.t.e, .slice A2 tx c2, .int .i64 x.d]) (by simp [results,Tryz.results104,go_sem,bb.1,bb.2.1,bb.2.2.1,bb.2.2.2]) rfl ⟨A1,c1,A2,c2,rfl,?_,?_,?_⟩
 ·exact ((((O1.out.far (O1.out.ne (by show w.heap.size+1<_;omega)) _).far (O1.out.ne (by show w.heap.size+1<_;omega)) _).far (O1.out.ne (by show w.heap.size+1<_;omega)) _).far (O1.out.ne (by show w.heap.size+1<_;omega)) _).mono (by omega)
 ·exact ((((O2.out.far (O2.out.ne (by show w.heap.size+1<_;omega)) _).far (O2.out.ne (by show w.heap.size+1<_;omega)) _).far (O2.out.ne (by show w.heap.size+1<_;omega)) _).far (O2.out.ne (by show w.heap.size+1<_;omega)) _).mono (by omega)
 ·exact (((X4.out.set (p:=⟨w.heap.size+1,0,none⟩) (by simp) _).set (p:=⟨w.heap.size+1,1,none⟩) (by simp) _).set (p:=⟨w.heap.size+1,2,none⟩) (by simp) _).set (p:=⟨w.heap.size+1,3,none⟩) (by simp) _
end Go.Proofs.YtdgbkpoickbidaaGreatDoor
namespace Go.Proofs.YtdgbkpoickbidaaGreatDoor.UdS
open Go.RowKit

theorem getD_here {P Q:List Ud} {x:Ud} {p:Nat} (hp:p=P.length):(P++x :: Q).getD p Ud.zero=x:=by subst hp;exact getD_mid P x Q
theorem Arr.here {w:World} {B g c p:Nat} {P Q:List Ud} {x:Ud} (h:Arr w B g c (P++x :: Q)) (hp:p=P.length) :
  w.cell? ⟨g,p * 4,none⟩=some (.slice x.A x.l.length x.c)∧w.cell? ⟨g,p * 4+1,none⟩=some (.int .u64 x.t.e)∧w.cell? ⟨g,p * 4+2,none⟩=some (.slice x.t.A x.t.l.length x.t.c)∧w.cell? ⟨g,p * 4+3,none⟩=some (.int .i64 x.d):=by
 have:=h.at (i:=p) (by subst hp;simp)
 rwa [getD_here hp] at this
theorem set_two (P M Q:List Ud) (x y:Ud):((P++x :: (M++y :: Q)).set P.length y).set (P.length+1+M.length) x=P++y :: (M++x :: Q):=by
 rw [set_mid]
 have:=set_mid (P++y :: M) y x Q
 simp only [List.append_assoc,List.cons_append,List.length_append,List.length_cons] at this
 rwa [show P.length+1+M.length=P.length+(M.length+1) by omega]
theorem set_two' (P M Q:List Ud) (x y:Ud):((P++x :: (M++y :: Q)).set (P.length+1+M.length) x).set P.length y=P++y :: (M++x :: Q):=by
 have:=set_mid (P++x :: M) y x Q
 simp only [List.append_assoc,List.cons_append,List.length_append,List.length_cons] at this
 rw [show P.length+1+M.length=P.length+(M.length+1) by omega,this,set_mid]
section
variable {w:World} {B g c p q:Nat} {P M Q:List Ud} {x y:Ud}
/-- the first one is written first -/
theorem Arr.swapA (h:Arr w B g c (P++x :: (M++y :: Q))) (hp:p=P.length) (hq:q=P.length+1+M.length) {nx ny tx ty:Nat} (hx:nx=x.l.length) (hy:ny=y.l.length) (hx2:tx=x.t.l.length) (hy2:ty=y.t.l.length) :
  Arr (put4 (put4 w g p y ny ty) g q x nx tx) B g c (P++y :: (M++x :: Q)):=by
 subst hp hq hx hy hx2 hy2
 have h1:=(h.set P.length y).set (P.length+1+M.length) x
 rwa [set_two] at h1
/-- the second one is written first -/
theorem Arr.swapB (h:Arr w B g c (P++x :: (M++y :: Q))) (hp:p=P.length) (hq:q=P.length+1+M.length) {nx ny tx ty:Nat} (hx:nx=x.l.length) (hy:ny=y.l.length) (hx2:tx=x.t.l.length) (hy2:ty=y.t.l.length) :
  Arr (put4 (put4 w g q x nx tx) g p y ny ty) B g c (P++y :: (M++x :: Q)):=by
 subst hp hq hx hy hx2 hy2
 have h1:=(h.set (P.length+1+M.length) x).set P.length y
 rwa [set_two'] at h1
end
theorem cons_of {α:Type} {l:List α} (h:0<l.length) : ∃ x t,l=x :: t:=by
 cases l with
 | nil=>exact absurd h (Nat.lt_irrefl 0)
 | cons x t=>exact ⟨x,t,rfl⟩
end Go.Proofs.YtdgbkpoickbidaaGreatDoor.UdS
