/- The map of counts, changed at one time. A map from times' texts to values. delta.joined's inner function: a time is put behind the others where it is new. A row of structs that the library has sorted, in the words of owned slices. Contracts of library functions at this seat, laid by a tool of the kit. slices.SortFunc at times by stamp.Cmp: a permutation that rises. delta.joined: times, and all that come of joining them. delta.joined: times, and all that come of joining them: the walk. delta.Of: the lists that it grows. Conditions: each theorem states its own. -/
import Derived.Test.YtdgbkpoickbidaaGreatDoorHs11
import Derived.Test.YtdgbkpoickbidaaGreatDoorHs10
import Derived.Test.YtdgbkpoickbidaaGreatDoorHs9
import Derived.Test.YtdgbkpoickbidaaGreatDoorHs3
import Derived.Test.YtdgbkpoickbidaaGreatDoorHs1
import Derived.Shelf.SlSortCmp.WholeK
import Derived.Shelf.SlGeneric
import Derived.Ground.SlsfProg
import Derived.Test.YtdgbkpoickbidaaGreatDoorProg
import Derived.Test.YtdgbkpoickbidaaGreatDoorHs6
import Derived.Deep.LoopGhost
import Derived.WalkMore
import Derived.Test.YtdgbkpoickbidaaGreatDoorHs7
namespace Go.Proofs.YtdgbkpoickbidaaGreatDoor
open Go.RowKit

/-! ### plain -/
/-! ### the map -/
theorem Sl.turned {w w':World} {size n c b:Nat} {A:Option Addr} {xs:List Value} (h:Sl w size A n c xs) (u:w.grownBy w' (some b)) (hb : ∃ es cl,w.heap[b]?=some (.map es cl)):Sl w' size A n c xs:=by
 refine ⟨h.1,h.2.1,h.2.2.1,h.2.2.2.1,fun hn=>?_⟩
 obtain ⟨ad,e,hc⟩:=h.2.2.2.2 hn
 refine ⟨ad,e,fun j v hj=>?_⟩
 have h1:=hc j v hj
 refine u.cell h1 (fun e2=>?_)
 injection e2 with e2
 obtain ⟨es,cl,hm⟩:=hb
 unfold World.cell? at h1
 rw [e2,hm] at h1
 cases h1
section
variable {w w':World} {b n:Nat} {D:DataW Value} {L:List Cg}
theorem owns_map (h:w.ownsMap Tryz.prog 9 tok b n D) : ∃ es cl,w.heap[b]?=some (.map es cl):=by
 obtain ⟨es,clock,hb,_⟩:=h
 exact ⟨es,clock,hb⟩
theorem keyLit (v:TV):WideAt.IsKeyLit (keyT v):=trivial
theorem MapC.del (h:MapC w b n D L) {v:TV} (hv:InV v) (ho:w'.ownsMap Tryz.prog 9 tok b n (D.del (keyT v))) (ht:w.mapTurned w' b):MapC w' b n (D.del (keyT v)) (L.filter fun y=>decide (y.t.v≠v)):=by
 have hne : ∀ x∈L.filter (fun y=>decide (y.t.v≠v)),x∈L∧keyT x.t.v≠keyT v:=fun x hx=>by
  obtain ⟨h1,h2⟩:=List.mem_filter.1 hx
  rw [decide_eq_true_iff] at h2
  exact ⟨h1,fun e=>h2 (keyT_inj (h.inv x h1) hv e)⟩
 refine ⟨ho,fun kl=>?_,fun x hx z=>?_,?_,fun x hx=>((h.ls x (hne x hx).1).turned ht.grown (owns_map h.own)),fun x hx=>h.inv x (hne x hx).1,Nat.le_trans (List.length_filter_le _ _) h.cnt⟩
 ·by_cases e:kl=keyT v
  ·subst e
   rw [Maps.has_del_same]
   constructor
   ·intro q;cases q
   ·rintro ⟨x,hx,e⟩;exact absurd e (hne x hx).2
  ·rw [Maps.has_del_other e,h.has]
   constructor
   ·rintro ⟨x,hx,rfl⟩
    exact ⟨x,List.mem_filter.2 ⟨hx,decide_eq_true (fun q=>e (by rw [q]))⟩,rfl⟩
   ·rintro ⟨x,hx,rfl⟩
    exact ⟨x,(hne x hx).1,rfl⟩
 ·rw [Maps.atKey_del_other (hne x hx).2]
  exact h.atk x (hne x hx).1 z
 ·have:=h.keys
  unfold KeysC at *
  rw [List.pairwise_map] at *
  exact this.filter _
theorem MapC.put (h:MapC w b n D L) {x:Cg} (hv:InV x.t.v) (ho:w'.ownsMap Tryz.prog 9 tok b (n+1) (D.put (keyT x.t.v) (.held (cgV x)))) (ht:w.mapTurned w' b) (hs:Sl w 1 x.t.A x.t.l.length x.t.c (wds x.t.l)) :
  MapC w' b (n+1) (D.put (keyT x.t.v) (.held (cgV x))) (L.filter (fun y=>decide (y.t.v≠x.t.v))++[x]):=by
 have hne : ∀ y∈L.filter (fun y=>decide (y.t.v≠x.t.v)),y∈L∧keyT y.t.v≠keyT x.t.v:=fun y hy=>by
  obtain ⟨h1,h2⟩:=List.mem_filter.1 hy
  rw [decide_eq_true_iff] at h2
  exact ⟨h1,fun e=>h2 (keyT_inj (h.inv y h1) hv e)⟩
 have hcase : ∀ y∈L.filter (fun y=>decide (y.t.v≠x.t.v))++[x],(y∈L∧keyT y.t.v≠keyT x.t.v)∨y=x:=fun y hy=>by
  rcases List.mem_append.1 hy with hy | hy
  ·exact .inl (hne y hy)
  ·rw [List.mem_singleton] at hy;exact .inr hy
 have him:=h.own.isMap
 refine ⟨ho,fun kl=>?_,fun y hy z=>?_,?_,fun y hy=>?_,fun y hy=>?_,by rw [List.length_append];have a:=List.length_filter_le (fun y=>decide (y.t.v≠x.t.v)) L;have b:=h.cnt;show _+1≤n+1;omega⟩
 ·by_cases e:kl=keyT x.t.v
  ·subst e
   rw [Maps.has_put_same him (keyLit _)]
   exact ⟨fun _=>⟨x,List.mem_append_right _ (by simp),rfl⟩,fun _=>rfl⟩
  ·rw [Maps.has_put_other e,h.has]
   constructor
   ·rintro ⟨y,hy,rfl⟩
    exact ⟨y,List.mem_append_left _ (List.mem_filter.2 ⟨hy,decide_eq_true (fun q=>e (by rw [q]))⟩),rfl⟩
   ·rintro ⟨y,hy,rfl⟩
    rcases hcase y hy with q | rfl
    ·exact ⟨y,q.1,rfl⟩
    ·exact absurd rfl e
 ·rcases hcase y hy with q | rfl
  ·rw [Maps.atKey_put_other q.2]
   exact h.atk y q.1 z
  ·exact Maps.atKey_put_same him (keyLit _) _ _
 ·have:=h.keys
  unfold KeysC at *
  rw [List.map_append]
  refine List.pairwise_append.2 ⟨?_,List.pairwise_singleton _ _,fun y hy z hz=>?_⟩
  ·rw [List.pairwise_map] at *
   exact this.filter _
  ·have hz2:z=x.cv:=by simpa using hz
   subst hz2
   obtain ⟨y2,hy2,e2⟩:=List.mem_map.1 hy
   have:=of_decide_eq_true (List.mem_filter.1 hy2).2
   rw [← e2]
   exact this
 ·rcases hcase y hy with q | rfl
  ·exact (h.ls y q.1).turned ht.grown (owns_map h.own)
  ·exact hs.turned ht.grown (owns_map h.own)
 ·rcases hcase y hy with q | rfl
  ·exact h.inv y q.1
  ·exact hv
end
open Go.RowKit
/-- block b is a map that holds values, each at its time's text -/
structure MapV (w:World) (b n:Nat) (D:DataW Value) (L:List (TV × Value)):Prop where
 own:w.ownsMap Tryz.prog 9 tok b n D
 has : ∀ kl,Maps.has D kl=true ↔ ∃ x∈L,keyT x.1=kl
 atk : ∀ x∈L, ∀ z,D.atKey (keyT x.1) z = .held x.2
 inv : ∀ x∈L,InV x.1
section
variable {w w':World} {b n:Nat} {D:DataW Value} {L:List (TV × Value)}
theorem MapV.ext (h:MapV w b n D L) (x:Ext w w'):MapV w' b n D L:=⟨owns_ext h.own x,h.has,h.atk,h.inv⟩
theorem MapV.upd {S:Nat→Prop} (h:MapV w b n D L) (x:Upd S w w') (hb : ¬ S b):MapV w' b n D L:=by
 refine ⟨?_,h.has,h.atk,h.inv⟩
 have hlt:=h.own.lt
 obtain ⟨es,clock,hb2,r⟩:=h.own
 exact ⟨es,clock,(x.block b hlt hb).trans hb2,r⟩
theorem MapV.new (w:World):MapV (w.alloc (.map #[] 0)) w.heap.size 0 (.map []) [] :=
 ⟨World.ownsMap_made w _ _ _,fun kl=>by simp [Maps.has_eq],fun x hx=>(nomatch hx),fun x hx=>(nomatch hx)⟩
theorem MapV.not (h:MapV w b n D L) {v:TV} (hv:InV v) (hn : ∀ y∈L,y.1≠v):Maps.has D (keyT v)=false:=by
 rw [Bool.eq_false_iff]
 intro q
 obtain ⟨x,hx,e⟩:=(h.has _).1 q
 exact hn x hx (keyT_inj (h.inv x hx) hv e)
theorem MapV.put (h:MapV w b n D L) {v:TV} {x:Value} (hv:InV v) (hn : ∀ y∈L,y.1≠v) (ho:w'.ownsMap Tryz.prog 9 tok b (n+1) (D.put (keyT v) (.held x))):MapV w' b (n+1) (D.put (keyT v) (.held x)) (L++[(v,x)]):=by
 have hne : ∀ y∈L,keyT y.1≠keyT v:=fun y hy e=>hn y hy (keyT_inj (h.inv y hy) hv e)
 have him:=h.own.isMap
 refine ⟨ho,fun kl=>?_,fun y hy z=>?_,fun y hy=>?_⟩
 ·by_cases e:kl=keyT v
  ·subst e
   rw [Maps.has_put_same him (keyLit _)]
   exact ⟨fun _=>⟨(v,x),by simp,rfl⟩,fun _=>rfl⟩
  ·rw [Maps.has_put_other e,h.has]
   constructor
   ·rintro ⟨y,hy,rfl⟩
    exact ⟨y,List.mem_append_left _ hy,rfl⟩
   ·rintro ⟨y,hy,rfl⟩
    rcases List.mem_append.1 hy with hy | hy
    ·exact ⟨y,hy,rfl⟩
    ·rw [List.mem_singleton.1 hy] at e
     exact absurd rfl e
 ·rcases List.mem_append.1 hy with hy | hy
  ·rw [Maps.atKey_put_other (hne y hy)]
   exact h.atk y hy z
  ·rw [List.mem_singleton.1 hy]
   exact Maps.atKey_put_same him (keyLit _) _ _
 ·rcases List.mem_append.1 hy with hy | hy
  ·exact h.inv y hy
  ·rw [List.mem_singleton.1 hy]
   exact hv
theorem zeroBool (w:World):(zeroValue 4).run Tryz.prog w = .ok (.bool false) w:=by kernel_rfl
set_option maxRecDepth 100000 in
theorem MapV.bool (h:MapV w b n D L) (hb : ∀ x∈L,x.2 = .bool true) {v:TV} (hv:InV v):(Instr.lookup 217 (.map (some b)) (.string (prT v.1 v.2)) false).run Tryz.prog w = .ok (.bool (decide (v∈L.map (·.1)))) w:=by
 obtain ⟨z,ps,hrun,hz⟩:=h.own.lookup keyedS Tryz.underlying217 (zeroBool w) (z := .bool false) (zd := .held (.bool false)) (zp:=[]) rfl (keyOf_prT v hv)
 rw [hrun]
 have hz1:(.held z:DataW Value)=D.atKey (keyT v) (.held (.bool false)):=by
  unfold tok at hz
  injection hz with hz
  exact (Prod.mk.inj hz).1
 by_cases hm:v∈L.map (·.1)
 ·obtain ⟨x,hx,e⟩:=List.mem_map.1 hm
  have e2:=hb x hx
  subst e
  rw [h.atk x hx,e2] at hz1
  injection hz1 with hz1
  rw [hz1,decide_eq_true hm]
 ·have hn:=h.not hv fun y hy e=>hm (List.mem_map.2 ⟨y,hy,e⟩)
  rw [Maps.atKey_of_not_has hn] at hz1
  injection hz1 with hz1
  rw [hz1,decide_eq_false hm]
theorem zeroCts (w:World):(zeroValue 31).run Tryz.prog w = .ok (.slice none 0 0) w:=by kernel_rfl
set_option maxRecDepth 100000 in
theorem MapV.list (h:MapV w b n D L) {x:TV × Value} (hx:x∈L):(Instr.lookup 218 (.map (some b)) (.string (prT x.1.1 x.1.2)) false).run Tryz.prog w = .ok x.2 w:=by
 obtain ⟨z,ps,hrun,hz⟩:=h.own.lookup keyedS Tryz.underlying218 (zeroCts w) (z := .slice none 0 0) (zd := .held (.slice none 0 0)) (zp:=[]) rfl (keyOf_prT x.1 (h.inv x hx))
 rw [hrun]
 have hz1:(.held z:DataW Value)=D.atKey (keyT x.1) (.held (.slice none 0 0)):=by
  unfold tok at hz
  injection hz with hz
  exact (Prod.mk.inj hz).1
 rw [h.atk x hx] at hz1
 injection hz1 with hz1
 rw [hz1]
set_option maxRecDepth 100000 in
theorem MapV.fresh (h:MapV w b n D L) {v:TV} (hv:InV v) (hn : ∀ y∈L,y.1≠v):(Instr.lookup 218 (.map (some b)) (.string (prT v.1 v.2)) true).run Tryz.prog w = .ok (.tuple #[.slice none 0 0, .bool false]) w:=by
 obtain ⟨z,ps,hrun,hz⟩:=h.own.look_ok keyedS Tryz.underlying218 (zeroCts w) (z := .slice none 0 0) (zd := .held (.slice none 0 0)) (zp:=[]) rfl (keyOf_prT v hv)
 have hno:=h.not hv hn
 rw [hrun,hno]
 have hz1:(.held z:DataW Value)=D.atKey (keyT v) (.held (.slice none 0 0)):=by
  unfold tok at hz
  injection hz with hz
  exact (Prod.mk.inj hz).1
 rw [Maps.atKey_of_not_has hno] at hz1
 injection hz1 with hz1
 rw [hz1]
end
open Go.RowKit
/-- the times that have been met, and the list of them -/
structure JdS (w0 w:World) (gm go bm B:Nat) (D:DataW Value) (A:Option Addr) (c q:Nat) (M:List Tm):Prop where
 len:q=M.length
 km:Bk w gm 217 #[.map (some bm)]
 ko:Bk w go 27 #[.slice A q c]
 mp:MapV w bm q D (M.map fun x=>(x.v, .bool true))
 out:Tout w B A c M
 ext:Ext w0 w
 lt:w0.heap.size≤gm∧w0.heap.size≤go∧w0.heap.size≤bm∧gm<B∧go<B∧bm<B∧B≤w.heap.size
 ne:gm≠go∧gm≠bm∧go≠bm
 inv : ∀ x∈M,InV x.v
section
variable {w0 w w':World} {gm go bm B c q:Nat} {D:DataW Value} {A:Option Addr} {M:List Tm}
theorem JdS.step (h:JdS w0 w gm go bm B D A c q M) (x:Ext w w'):JdS w0 w' gm go bm B D A c q M :=
 ⟨h.len,h.km.ext x,h.ko.ext x,h.mp.ext x,h.out.ext x,h.ext.trans x,⟨h.lt.1,h.lt.2.1,h.lt.2.2.1,h.lt.2.2.2.1,h.lt.2.2.2.2.1,h.lt.2.2.2.2.2.1,Nat.le_trans h.lt.2.2.2.2.2.2 x.size⟩,h.ne,h.inv⟩
theorem JdS.keys (M:List Tm):(M.map fun x=>(x.v,Value.bool true)).map (·.1)=M.map Tm.v:=by rw [List.map_map];rfl
/-- a time with counters of its own is put behind the others: as Tout.push, where between only others' blocks have turned -/
theorem Tout.pushN {w2 w3:World} {N B:Nat} {A A3:Option Addr} {c c3:Nat} {M:List Tm} (h:Tout w2 B A c M) (lb:(∀ k,blk A c=some k→k<N) ∧ ∀ y∈M, ∀ k,blk y.A y.c=some k→k<N) {x:Tm} (ox:Own w2 N 180 1 x.A x.l.length x.c (wds x.l)) (hB:B≤N) (ob:Obj)
  (o3:Own w3 B 26 2 A3 (M.length+1) c3 (tmsC M++tmC x)) (g3:(w2.alloc ob).grownBy w3 (blk A c)) (x3:(A3=A∧c3=c)∨(blk A3 c3=some (w2.alloc ob).heap.size∧Ext (w2.alloc ob) w3)):Tout w3 B A3 c3 (M++[x]):=by
 have hsz:=((Ext.refl w2).alloc ob).size
 have kept : ∀ {k0:Nat} {A':Option Addr} {n' c':Nat} {xs:List Value},Own w2 k0 180 1 A' n' c' xs→(∀ k,blk A' c'=some k→blk A c≠some k)→Own w3 k0 180 1 A' n' c' xs:=fun o hne=>(o.alloc ob).kept g3 (by
  rename_i A' n' c' xs
  cases hb:blk A' c' with
  | none=>exact .inl rfl
  | some k=>exact .inr (fun e=>hne k hb e.symm))
 have new3 : ∀ k,blk A3 c3=some k→blk A c=some k∨w2.heap.size≤k:=fun k hk=>by
  rcases x3 with ⟨rfl,rfl⟩ | ⟨h1,_⟩
  ·exact .inl hk
  ·rw [h1] at hk;injection hk with hk;exact .inr (by omega)
 have xne : ∀ k,blk x.A x.c=some k→blk A c≠some k:=fun k hk e=>by have:=(ox.lt k hk).1;have:=lb.1 k e;omega
 refine ⟨by rw [tmsC_append,List.length_append];show Own w3 B _ 2 A3 (M.length+1) c3 (tmsC M++tmsC [x]);rw [show tmsC [x]=tmC x by simp [tmsC]];exact o3,fun y hy=>?_,?_⟩
 ·rcases List.mem_append.1 hy with hy | hy
  ·obtain ⟨h1,h2⟩:=h.ls y hy
   refine ⟨kept h1 h2,fun k hk e=>?_⟩
   rcases new3 k e with q | q
   ·exact h2 k hk q
   ·have:=(h1.lt k hk).2;omega
  ·rw [List.mem_singleton] at hy
   subst hy
   refine ⟨(kept ox xne).mono hB,fun k hk e=>?_⟩
   rcases new3 k e with q | q
   ·exact xne k hk q
   ·have:=(ox.lt k hk).2;omega
 ·refine List.pairwise_append.2 ⟨h.apart,List.pairwise_singleton _ _,fun y hy z hz k h1 h2=>?_⟩
  rw [List.mem_singleton] at hz
  subst hz
  have:=lb.2 y hy k h1
  have:=(ox.lt k h2).1
  omega
/-- a new time is put -/
theorem JdS.push (h:JdS w0 w gm go bm B D A c q M) {w7 w8:World} {D':DataW Value} {x:Tm} {A8:Option Addr} {c8:Nat} {ob:Obj} (u7:Upd (fun k=>k=bm) w w7) (m7:MapV w7 bm (q+1) D' ((M.map fun x=>(x.v, .bool true))++[(x.v, .bool true)]))
  (hx:Own w7 w.heap.size 180 1 x.A x.l.length x.c (wds x.l)) (hv:InV x.v) (o8:Own w8 B 26 2 A8 (M.length+1) c8 (tmsC M++tmC x)) (g8:(w7.alloc ob).grownBy w8 (blk A c))
  (x8:(A8=A∧c8=c)∨(blk A8 c8=some (w7.alloc ob).heap.size∧Ext (w7.alloc ob) w8)) :
  JdS w0 (w8.setCell ⟨go,0,none⟩ (.slice A8 (q+1) c8)) gm go bm B D' A8 c8 (q+1) (M++[x]):=by
 obtain ⟨l1,l2,l3,l4,l5,l6,l7⟩:=h.lt
 obtain ⟨n1,n2,n3⟩:=h.ne
 have s7:=u7.size
 have s8:=((Ext.refl w7).alloc ob).size
 have t7:Tout w7 B A c M:=h.out.upd u7 fun k hk e=>by omega
 have e7:Ext w0 w7:=ext_upd h.ext u7 fun k hk=>by omega
 have hA : ∀ k,blk A c=some k→B≤k:=fun k hk=>(h.out.own.lt k hk).1
 have u8:Upd (fun k=>blk A c=some k) (w7.alloc ob) w8:=(Upd.refl _ _).grown g8 fun k hk => .inl hk
 have e8:Ext w0 w8:=(e7.alloc ob).grown g8 fun k hk=>by have:=hA k hk;omega
 have t8:=Tout.pushN t7 ⟨fun k hk=>(h.out.own.lt k hk).2,fun y hy k hk=>((h.out.ls y hy).1.lt k hk).2⟩ (x:=x) hx (by omega) ob o8 g8 x8
 have kept : ∀ {g:Nat} {t:TypeId} {cs:Array Value},Bk w g t cs→g<B→g≠bm→Bk w8 g t cs:=fun b hg hne =>
  bk_upd ((bk_upd b u7 hne).ext ((Ext.refl _).alloc ob)) u8 fun e=>by have:=hA _ e;omega
 have ko8:=kept h.ko l5 n3
 have m8:MapV w8 bm (q+1) D' ((M.map fun x=>(x.v, .bool true))++[(x.v, .bool true)]):=(m7.ext ((Ext.refl _).alloc ob)).upd u8 fun e=>by have:=hA _ e;omega
 have us:Upd (fun k=>k=go) w8 (w8.setCell ⟨go,0,none⟩ (.slice A8 (q+1) c8)):=(Upd.refl (fun k=>k=go) w8).setCell (p:=⟨go,0,none⟩) (.inl rfl) _
 refine ⟨by rw [List.length_append,h.len];rfl,bk_upd (kept h.km l4 n2) us n1,ko8.set 0 _,?_,t8.upd us fun k hk e=>by omega,e8.set l2 _,⟨l1,l2,l3,l4,l5,l6,?_⟩,⟨n1,n2,n3⟩,fun y hy=>?_⟩
 ·rw [List.map_append]
  exact m8.upd us fun e=>n3 e.symm
 ·have:=u8.size
  have:=us.size
  omega
 ·rcases List.mem_append.1 hy with hy | hy
  ·exact h.inv y hy
  ·rw [List.mem_singleton.1 hy];exact hv
end
/-- what a call of it leaves -/
def JAddOut (w0:World) (gm go bm B:Nat) (M:List Tm) (v:TV) (e:Ending) (w':World):Prop:=e = .returned (.tuple #[]) ∧ ∃ D A c q M',JdS w0 w' gm go bm B D A c q M'∧M'.map Tm.v=onceStep (M.map Tm.v) v∧q≤M.length+1
set_option maxRecDepth 100000 in
set_option maxRecDepth 100000 in
set_option maxHeartbeats 8000000 in
theorem jadd_any (w0 w:World) (gm go bm B:Nat) (D:DataW Value) (A:Option Addr) (c q:Nat) (M:List Tm) (e:Int) (A1:Option Addr) (n1 c1:Nat) (l:List Int) (h:Hid (JdS w0 w gm go bm B D A c q M)) (hs:Hid (Sl w 1 A1 n1 c1 (wds l))) (hn1:Hid (n1=l.length)) (hv:Hid (InV (e,l))) (G:Pow w0) (hq:q≤100000) :
  Calls Tryz.prog 221 #[.agg #[.int .u64 e, .slice A1 n1 c1], .pointer (some ⟨gm,0,none⟩), .pointer (some ⟨go,0,none⟩)] w (JAddOut w0 gm go bm B M (e,l)):=by
 have hn9:n1≤1000:=by rw [hn1.out];exact hv.out.n
 obtain ⟨S,hS⟩ : ∃ S,prT e l=S:=⟨_,rfl⟩
 have HS:=Lib.hid hS
 have hprint : ∀ W,Ext w W→Calls Tryz.prog 141 #[.agg #[.int .u64 e, .slice A1 n1 c1]] W fun r w'=>r = .returned (.string S)∧Ext W w':=fun W y=>hS ▸ print_any e A1 n1 c1 l W (hs.out.ext y) hv.out.u hv.out.e (by omega) (G.ext (h.out.ext.trans y))
 have HP:=Lib.hid hprint
 clear hprint hS
 obtain ⟨b,hb⟩ : ∃ b,decide ((e,l)∈M.map Tm.v)=b:=⟨_,rfl⟩
 have hlook : ∀ W,Ext w W→(Instr.lookup 217 (.map (some bm)) (.string S) false).run Tryz.prog W = .ok (.bool b) W:=fun W z=>by
  have k:=(h.out.mp.ext z).bool (fun x hx=>by obtain ⟨y,_,rfl⟩:=List.mem_map.1 hx;rfl) hv.out
  rw [JdS.keys,hb] at k
  rw [← HS.out]
  exact k
 have HLk:=Lib.hid hlook
 have HB:=Lib.hid hb
 have X0:Hid (Ext w (w.alloc (.cells #[.int .u64 e, .slice A1 n1 c1] 26))):=Lib.hid ((Ext.refl w).alloc _)
 have B0:Hid (Bk (w.alloc (.cells #[.int .u64 e, .slice A1 n1 c1] 26)) w.heap.size 26 #[.int .u64 e, .slice A1 n1 c1]):=Lib.hid (Bk.new w _ _)
 have hlt:=h.out.lt
 have HLT:=Lib.hid hlt
 clear hlook hb hlt
 go_enter Tryz.func221,Tryz.ntmps221
 cases b with
 | true =>
  go_wp2_with (first
   | (go_at_call 141;refine (HP.out _ X0.out).mono ?_;rintro r w3 ⟨rfl,x3⟩;have X3:Hid (Ext w w3):=Lib.hid (X0.out.trans x3);have y0:w3.cell? ⟨gm,0,none⟩=some (.map (some bm)):=(h.out.km.ext X3.out).cell 0;have y1:=HLk.out w3 X3.out;clear x3))
  go_returns
  refine ⟨rfl,D,A,c,q,M,h.out.step X3.out,?_,by rw [h.out.len];exact Nat.le_succ _⟩
  unfold onceStep
  rw [if_pos (of_decide_eq_true HB.out)]
 | false =>
  have hkey:Hid (keyOf Tryz.prog 9 (.string S)=some (keyT (e,l))):=Lib.hid (by rw [← HS.out];exact keyOf_prT (e,l) hv.out)
  have hnew:Hid (∀ y∈M.map (fun x=>(x.v,Value.bool true)),y.1≠(e,l)):=Lib.hid fun y hy e2=>by
   obtain ⟨x,hx,rfl⟩:=List.mem_map.1 hy
   exact of_decide_eq_false HB.out (List.mem_map.2 ⟨x,hx,e2⟩)
  go_upto_region 5 with (first
   | (go_at_call 141;refine (HP.out _ X0.out).mono ?_;rintro r w3 ⟨rfl,x3⟩;have X3:Hid (Ext w w3):=Lib.hid (X0.out.trans x3);have B3:=Lib.hid (B0.out.ext x3);have y0:w3.cell? ⟨gm,0,none⟩=some (.map (some bm)):=(h.out.km.ext X3.out).cell 0;have y1:=HLk.out w3 X3.out;clear x3)
   | (at_mapUpdate;refine wpList_mapUpdate_own _ rfl _ _ _ 217 rfl 9 4 keyedS Tryz.underlying217 tok bm q D rfl (h.out.mp.ext X3.out).own (by unfold maxLen;omega) (.string S) (.bool true) (keyT (e,l)) rfl rfl hkey.out (.held (.bool true)) [] rfl ?_;intro w5 hown5 hgr5;have HO5:=Lib.hid hown5;have U5:Hid (Upd (fun k=>k=bm) w3 w5):=Lib.hid ((Upd.refl _ w3).grown hgr5 (fun k hk => .inl (by injection hk with hk;exact hk.symm)));have S5:Hid (Sl w5 1 A1 n1 c1 (wds l)):=Lib.hid ((hs.out.ext X3.out).turned hgr5 (owns_map (h.out.mp.ext X3.out).own));have B5:=Lib.hid (bk_upd B3.out U5.out (by have:=HLT.out;omega));have p1:w5.cell? ⟨w.heap.size,1,none⟩=some (.slice A1 n1 c1):=B5.out.cell 1;clear hown5 hgr5)
   | (go_at_call 184;refine (clone_words _ _ _ _ _ S5.out (wds_one l) (by omega)).mono ?_;rintro r w6 ⟨A6,c6,rfl,o6,x6⟩;have HO6:=Lib.hid o6;have X6:=Lib.hid x6;have B6:=Lib.hid (B5.out.ext x6);have q1:=B6.out.cell 1;have q2:=B6.out.free 1;clear o6 x6))
  obtain ⟨w7,hw7⟩ : ∃ w7,w7=w6.setCell ⟨w.heap.size,1,none⟩ (.slice A6 n1 c6):=⟨_,rfl⟩
  rw [← hw7]
  have B7:Bk w7 w.heap.size 26 #[.int .u64 e, .slice A6 n1 c6]:=by rw [hw7];exact B6.out.set 1 _
  have O7:Own w7 w.heap.size 180 1 A6 n1 c6 (wds l):=by
   rw [hw7]
   exact (HO6.out.far (fun e=>by have:w5.heap.size≤w.heap.size:=(HO6.out.lt _ e).1;have:=U5.out.size;have:=X3.out.size;have:=B0.out.lt;have:=B3.out.lt;omega) _).mono (by have:=U5.out.size;have:=X3.out.size;omega)
  have U7:Upd (fun k=>k=bm) w w7:=by
   rw [hw7]
   exact (((Upd.ext X3.out).trans U5.out).trans (Upd.ext X6.out)).setCell (p:=⟨w.heap.size,1,none⟩) (.inr (Nat.le_refl _)) _
  have M7:MapV w7 bm (q+1) (D.put (keyT (e,l)) (.held (.bool true))) ((M.map fun x=>(x.v, .bool true))++[((e,l), .bool true)]):=by
   have k:=((h.out.mp.ext X3.out).put hv.out hnew.out HO5.out).ext X6.out
   rw [hw7]
   exact k.upd ((Upd.refl (fun k=>k=w.heap.size) w6).setCell (p:=⟨w.heap.size,1,none⟩) (.inl rfl) _) (by have:=HLT.out;omega)
  have K7:Bk w7 go 27 #[.slice A q c]:=bk_upd h.out.ko U7 h.out.ne.2.2
  have T7:Tout w7 B A c M:=h.out.out.upd U7 fun k hk e=>by have:=HLT.out;omega
  have c0:=B7.cell 0
  have c1:=B7.cell 1
  have k0:=K7.cell 0
  have HB7:=Lib.hid B7
  have HO7:=Lib.hid O7
  have HU7:=Lib.hid U7
  have HM7:=Lib.hid M7
  have HK7:=Lib.hid K7
  have HT7:=Lib.hid T7
  clear hw7 B7 O7 U7 M7 K7 T7 q1 q2 p1 y0 y1
  go_wp2_with (at_builtin;refine wpList_append_two _ elemTimes B _ _ rfl rfl A q c (tmsC M) rfl (by rw [h.out.len];exact HT7.out.own.alloc _) (some ⟨w7.heap.size,0,none⟩) 1 1 (tmC ⟨e,A6,c6,l⟩) rfl (by rw [show tmC ⟨e,A6,c6,l⟩=[.int .u64 e, .slice A6 n1 c6] by rw [hn1.out];rfl];exact Sl.one w7 #[.int .u64 e, .slice A6 n1 c6] 26 2 rfl) (tmsC_one [⟨e,A6,c6,l⟩] |> fun h=>by simpa [tmsC] using h) (by omega) (by decide) (Nat.le_trans (Nat.le_trans HLT.out.2.2.2.2.2.2 HU7.out.size) ((Ext.refl w7).alloc _).size) ?_;intro A8 c8 w8 o8 g8 x8;have HO8:=Lib.hid o8;have HG8:=Lib.hid g8;have HX8:=Lib.hid x8;have K8:=bk_upd (HK7.out.ext ((Ext.refl w7).alloc (.cells #[.int .u64 e, .slice A6 n1 c6] 26))) ((Upd.refl (fun k=>blk A c=some k) _).grown g8 (fun k hk => .inl hk)) (fun e9=>(by have:=(HT7.out.own.lt _ e9).1;have:=HLT.out;omega));have r0:=K8.cell 0;have r1:=K8.free 0;clear o8 g8 x8)
  go_returns
  refine ⟨rfl,D.put (keyT (e,l)) (.held (.bool true)),A8,c8,q+1,M++[⟨e,A6,c6,l⟩],?_,?_,(by rw [h.out.len];exact Nat.le_refl _)⟩
  ·exact h.out.push (x:=⟨e,A6,c6,l⟩) HU7.out HM7.out (by show Own w7 w.heap.size _ 1 A6 l.length c6 (wds l);rw [← hn1.out];exact HO7.out) hv.out (by rw [← h.out.len];exact HO8.out) HG8.out HX8.out
  ·unfold onceStep
   rw [if_neg (of_decide_eq_false HB.out),List.map_append]
   rfl
open Go.RowKit
section
variable {α:Type} [Inhabited α] (enc:α→List Value) (k:Nat) (hk : ∀ x,(enc x).length=k) (k0:0<k)
include hk
omit [Inhabited α] in
theorem flat_len : ∀ l:List α,(l.flatMap enc).length=l.length * k
 | []=>by simp
 | x :: l=>by rw [List.flatMap_cons,List.length_append,hk,flat_len l,List.length_cons,Nat.add_mul];omega
include k0
theorem flat_at : ∀ (l:List α) (t:Nat),t<l.length * k→(l.flatMap enc)[t]?=(enc (l.getD (t / k) default))[t % k]?
 | [],t,h=>absurd h (by simp)
 | x :: l,t,h=>by
  rw [List.flatMap_cons]
  by_cases q:t<k
  ·rw [List.getElem?_append_left (by rw [hk];exact q),Nat.div_eq_of_lt q,Nat.mod_eq_of_lt q];rfl
  ·rw [List.length_cons,Nat.add_mul] at h
   rw [List.getElem?_append_right (by rw [hk];omega),hk,flat_at l (t - k) (by omega)]
   have e1:t / k=(t - k) / k+1:=Nat.div_eq_sub_div k0 (by omega)
   have e2:t % k=(t - k) % k:=Nat.mod_eq_sub_mod (by omega)
   rw [e1,e2]
   rfl
theorem flat_get (d:Array α) {t:Nat} (h:t<d.size * k):(d.toList.flatMap enc)[t]?=some ((Go.Sort.flatK enc k d)[t]!):=by
 rw [flat_at enc k hk k0 _ t (by simpa using h),Go.Sort.get_flatK enc k d t h]
 have h1:t / k<d.size:=(Nat.div_lt_iff_lt_mul k0).2 h
 have h2:t % k<k:=Nat.mod_lt _ k0
 have e:d.toList.getD (t / k) default=d[t / k]!:=by
  rw [List.getD_eq_getElem?_getD,Array.getElem?_toList,Array.getElem!_eq_getD,Array.getD_eq_getD_getElem?]
 rw [e]
 have h3:t % k<(enc d[t / k]!).length:=by rw [hk];exact h2
 rw [List.getElem?_eq_getElem h3,getElem!_pos (enc d[t / k]!) _ h3]
theorem own_holds {w:World} {B blk c:Nat} {T:TypeId} {d:Array α} (h:Own w B T k (some ⟨blk,0,none⟩) d.size c (d.toList.flatMap enc)) (hd:0<d.size):Go.Sort.HoldsK enc k w blk 0 d:=by
 obtain ⟨g,e,_,_,_,hc,hf⟩:=h.form hd
 injection e with e
 injection e with e
 subst e
 intro j hj
 rw [Go.Sort.size_flatK] at hj
 refine ⟨?_,hf _⟩
 rw [Nat.zero_add]
 exact hc j _ (flat_get enc k hk k0 d hj)
theorem sorted_own {w:World} {B blk c n:Nat} {T:TypeId} {d d':Array α} {os:Array Obj} (h:Own w B T k (some ⟨blk,0,none⟩) d.size c (d.toList.flatMap enc)) (hd:0<d.size) (hs:d'.size=d.size) :
  Own (sortWorldK enc k w blk 0 n d' os) B T k (some ⟨blk,0,none⟩) d.size c (d'.toList.flatMap enc)∧Upd (fun q=>q=blk) w (sortWorldK enc k w blk 0 n d' os):=by
 obtain ⟨h1,h2⟩:=h
 rcases h2 with h2 | ⟨g,cur,e,hb,hg,hnc,hcm,hcs,htake⟩
 ·omega
 ·injection e with e
  injection e with e
  subst e
  have hlt:blk<w.heap.size:=(Array.getElem?_eq_some_iff.1 hg).1
  have hheap:(sortWorldK enc k w blk 0 n d' os).heap[blk]?=some (.cells (Go.Sort.putCells id 0 (Go.Sort.flatK enc k d') cur) T (0,0)):=by
   show (w.heap.modify blk _++os)[blk]?=_
   rw [Array.getElem?_append_left (by simpa using hlt),Array.getElem?_modify,if_pos rfl,hg]
   rfl
  refine ⟨⟨by rw [flat_len enc k hk,Array.length_toList,hs], .inr ⟨blk,_,rfl,hb,hheap,hnc,hcm,by simpa [Go.Sort.putCells] using hcs,?_⟩⟩,?_⟩
  ·refine List.ext_getElem? fun t=>?_
   rw [List.getElem?_take]
   by_cases ht:t<d.size * k
   ·rw [if_pos ht,flat_get enc k hk k0 d' (by rw [hs];exact ht),Array.getElem?_toList]
    have hcz:t<cur.size:=Nat.lt_of_lt_of_le (Nat.lt_of_lt_of_le ht (Nat.mul_le_mul_right _ hnc)) hcs
    simp only [Go.Sort.putCells,Array.getElem?_mapIdx,Array.getElem?_eq_getElem hcz,Option.map_some]
    rw [if_pos ⟨Nat.zero_le _,by rw [Go.Sort.size_flatK,hs];omega⟩]
    rfl
   ·rw [if_neg ht,List.getElem?_eq_none (by rw [flat_len enc k hk,Array.length_toList,hs];omega)]
  ·refine ⟨rfl,rfl,rfl,?_,fun q hq hn=>?_⟩
   ·show w.heap.size≤(w.heap.modify blk _++os).size
    simp
   ·show (w.heap.modify blk _++os)[q]?=_
    rw [Array.getElem?_append_left (by simpa using hq),Array.getElem?_modify,if_neg (fun e=>hn e.symm)]
end
/-- the sort's answer as lists -/
theorem sorted_list {α:Type} [Inhabited α] {lt:α→α→Bool} {d d':Array α} (hp:Go.Sort.PermIn 0 d.size d d') (hs:Go.Sort.SortedIn lt 0 d.size d'):d'.size=d.size∧d'.toList.Perm d.toList∧d'.toList.Pairwise fun x y=>lt y x=false:=by
 obtain ⟨h1,_,h3⟩:=hp
 refine ⟨h1,?_,List.pairwise_iff_getElem.2 fun i j hi hj hij=>?_⟩
 ·have e1:d.extract 0 d.size=d:=by simp
  have e2:d'.extract 0 d.size=d':=by rw [← h1];simp
  rwa [e1,e2] at h3
 ·have hi':i<d'.size:=by simpa using hi
  have hj':j<d'.size:=by simpa using hj
  have:=hs i j (Nat.zero_le _) hij (by omega)
  rw [getElem!_pos d' j hj',getElem!_pos d' i hi'] at this
  simpa using this
end Go.Proofs.YtdgbkpoickbidaaGreatDoor
namespace Go.Proofs
open Go.Shelf
def Tryz.sortTimes_ren:Go.Shelf.Ren:=⟨fun | 6=>200 | 15=>209 | 14=>230 | 28=>246 | 29=>247 | 20=>258 | 21=>259 | 22=>260 | 23=>261 | 24=>262 | 25=>263 | 26=>264 | 27=>265 | 46=>285 | 47=>274 | 48=>275 | 49=>286 | 50=>287 | 57=>296 | n=>n,fun | 22=>27 | 24=>26 | 25=>184 | 3=>3 | 39=>267 | 0=>0 | 53=>180 | 55=>23 | 4=>4 | 46=>300 | 45=>299 | 50=>200 | 5=>5 | 9=>9 | 66=>326 | 70=>329 | 76=>347 | 77=>348 | n=>n,fun | n=>n⟩
theorem Tryz.sortTimes:Go.Proofs.SlLaysF0.n6 Tryz.prog Tryz.sortTimes_ren:={
 mixed:=by kernel_rfl
 f6:=⟨Tryz.f200.name,by decide,Tryz.func200.trans (congrArg some (by kernel_rfl))⟩
 f14:=⟨Tryz.f230.name,by decide,Tryz.func230.trans (congrArg some (by kernel_rfl))⟩
 f15:=Tryz.func209.trans (congrArg some (by kernel_rfl))
 f20:=⟨Tryz.f258.name,by decide,Tryz.func258.trans (congrArg some (by kernel_rfl))⟩
 f21:=⟨Tryz.f259.name,by decide,Tryz.func259.trans (congrArg some (by kernel_rfl))⟩
 f22:=⟨Tryz.f260.name,by decide,Tryz.func260.trans (congrArg some (by kernel_rfl))⟩
 f23:=⟨Tryz.f261.name,by decide,Tryz.func261.trans (congrArg some (by kernel_rfl))⟩
 f24:=⟨Tryz.f262.name,by decide,Tryz.func262.trans (congrArg some (by kernel_rfl))⟩
 f25:=⟨Tryz.f263.name,by decide,Tryz.func263.trans (congrArg some (by kernel_rfl))⟩
 f26:=⟨Tryz.f264.name,by decide,Tryz.func264.trans (congrArg some (by kernel_rfl))⟩
 f27:=⟨Tryz.f265.name,by decide,Tryz.func265.trans (congrArg some (by kernel_rfl))⟩
 f28:=Tryz.func246.trans (congrArg some (by kernel_rfl))
 f29:=Tryz.func247.trans (congrArg some (by kernel_rfl))
 f46:=⟨Tryz.f285.name,by decide,Tryz.func285.trans (congrArg some (by kernel_rfl))⟩
 f47:=Tryz.func274.trans (congrArg some (by kernel_rfl))
 f48:=Tryz.func275.trans (congrArg some (by kernel_rfl))
 f49:=⟨Tryz.f286.name,by decide,Tryz.func286.trans (congrArg some (by kernel_rfl))⟩
 f50:=⟨Tryz.f287.name,by decide,Tryz.func287.trans (congrArg some (by kernel_rfl))⟩
 f57:=⟨Tryz.f296.name,by decide,Tryz.func296.trans (congrArg some (by kernel_rfl))⟩
 t0:=Tryz.underlying0
 a0:=Tryz.isAgg0
 z0:=Tryz.sizeOf0
 v0:=Tryz.zeroValue0
 t3:=Tryz.underlying3
 a3:=Tryz.isAgg3
 z3:=Tryz.sizeOf3
 v3:=Tryz.zeroValue3
 t4:=Tryz.underlying4
 a4:=Tryz.isAgg4
 z4:=Tryz.sizeOf4
 v4:=Tryz.zeroValue4
 t5:=Tryz.underlying5
 a5:=Tryz.isAgg5
 z5:=Tryz.sizeOf5
 v5:=Tryz.zeroValue5
 t9:=Tryz.underlying9
 a9:=Tryz.isAgg9
 z9:=Tryz.sizeOf9
 v9:=Tryz.zeroValue9
 t22:=Tryz.underlying27
 a22:=Tryz.isAgg27
 z22:=Tryz.sizeOf27
 v22:=Tryz.zeroValue27
 t25:=Tryz.underlying184
 a25:=Tryz.isAgg184
 z25:=Tryz.sizeOf184
 v25:=Tryz.zeroValue184
 t39:=Tryz.underlying267
 a39:=Tryz.isAgg267
 z39:=Tryz.sizeOf267
 v39:=Tryz.zeroValue267
 t45:=Tryz.underlying299
 a45:=Tryz.isAgg299
 z45:=Tryz.sizeOf299
 v45:=Tryz.zeroValue299
 t46:=Tryz.underlying300
 a46:=Tryz.isAgg300
 z46:=Tryz.sizeOf300
 v46:=Tryz.zeroValue300
 t50:=Tryz.underlying200
 a50:=Tryz.isAgg200
 z50:=Tryz.sizeOf200
 v50:=Tryz.zeroValue200
 t53:=Tryz.underlying180
 a53:=Tryz.isAgg180
 z53:=Tryz.sizeOf180
 v53:=Tryz.zeroValue180
 t55:=Tryz.underlying23
 a55:=Tryz.isAgg23
 z55:=Tryz.sizeOf23
 v55:=Tryz.zeroValue23
 t66:=Tryz.underlying326
 a66:=Tryz.isAgg326
 z66:=Tryz.sizeOf326
 v66:=Tryz.zeroValue326
 t70:=Tryz.underlying329
 a70:=Tryz.isAgg329
 z70:=Tryz.sizeOf329
 v70:=Tryz.zeroValue329
 t76:=Tryz.underlying347
 a76:=Tryz.isAgg347
 z76:=Tryz.sizeOf347
 v76:=Tryz.zeroValue347
 t77:=Tryz.underlying348
 a77:=Tryz.isAgg348
 z77:=Tryz.sizeOf348
 v77:=Tryz.zeroValue348 }
end Go.Proofs
namespace Go.Proofs.YtdgbkpoickbidaaGreatDoor
open Go.RowKit

theorem bitsLen0 (w:World):Calls Tryz.prog 209 #[.int .u64 0] w fun e w'=>e = .returned (.int .i64 0)∧w=w':=by
 have h:=Any.bits_Len (SlLaysF0.n15.bits (P:=Tryz.prog) (ρ:=Tryz.sortTimes_ren) { Tryz.sortTimes with }) 0 w (by omega) (by omega)
 change Calls Tryz.prog 209 _ _ _ at h
 exact h.mono fun _ _ ⟨he,hw⟩=>⟨he,hw.symm⟩
set_option maxRecDepth 100000 in
set_option maxHeartbeats 400000 in
theorem insT_nil (A:Option Addr) (c:Nat) (fv:Value) (w:World):Calls Tryz.prog 258 #[.slice A 0 c, .int .i64 0, .int .i64 0,fv] w fun e w'=>e = .returned (.tuple #[])∧w=w':=by
 go_enter Tryz.func258,Tryz.ntmps258
 go_wp2
 refine wp_loop_rounds 1 ?_
 rw [rounds_succ]
 go_wp2
 go_end0
 exact ⟨rfl,rfl⟩
set_option maxRecDepth 100000 in
set_option maxHeartbeats 1000000 in
theorem pdqT_nil (A:Option Addr) (c:Nat) (z:Int) (fv:Value) (w:World):Calls Tryz.prog 230 #[.slice A 0 c, .int .i64 0, .int .i64 0, .int .i64 z,fv] w fun e w'=>e = .returned (.tuple #[])∧w=w':=by
 go_enter Tryz.func230,Tryz.ntmps230
 go_wp2
 refine wp_loop_rounds 1 ?_
 rw [rounds_succ]
 go_wp2_with (go_at_call 258;refine (insT_nil _ _ _ _).mono ?_;rintro e w' ⟨rfl,rfl⟩)
 (try simp only [Exit.inBlock,Exit.then]);refine bodyPost_ret (results_none rfl _ _ _) rfl ?_
 exact ⟨rfl,rfl⟩
set_option maxRecDepth 100000 in
set_option maxHeartbeats 400000 in
theorem sortT_nil (A:Option Addr) (c:Nat) (fv:Value) (w:World):Calls Tryz.prog 200 #[.slice A 0 c,fv] w fun e w'=>e = .returned (.tuple #[])∧w=w':=by
 go_enter Tryz.func200,Tryz.ntmps200
 go_wp2_with (first
  | (go_at_call 209;refine (bitsLen0 _).mono ?_;rintro e w' ⟨rfl,rfl⟩)
  | (go_at_call 230;refine (pdqT_nil _ _ _ _ _).mono ?_;rintro e w' ⟨rfl,rfl⟩))
 go_end0
 exact ⟨rfl,rfl⟩
theorem enters_cmp : ∀ args w,(callFunc 146 args).run Tryz.prog w = .ok (.enter 146 args) w:=enters_of Tryz.func146 (by kernel_rfl) rfl
theorem swo_by {α:Type} (v:α→TV):Go.Sort.SWO (ltOf fun x y:α=>tcmp (v x) (v y)) where
 irrefl x:=by show decide (tcmp (v x) (v x)<0)=false;rw [tcmp_zero.2 rfl];rfl
 trans x y z h1 h2:=by
  replace h1:decide (tcmp (v x) (v y)<0)=true:=h1
  replace h2:decide (tcmp (v y) (v z)<0)=true:=h2
  show decide (tcmp (v x) (v z)<0)=true
  rw [decide_eq_true_iff] at *
  exact tcmp_lt_trans h1 (by omega)
 ntrans x y z h1 h2:=by
  replace h1:decide (tcmp (v x) (v y)<0)=false:=h1
  replace h2:decide (tcmp (v y) (v z)<0)=false:=h2
  show decide (tcmp (v x) (v z)<0)=false
  rw [decide_eq_false_iff_not] at *
  have a:=tcmp_neg (v x) (v y)
  have b:=tcmp_neg (v y) (v z)
  have c:=tcmp_neg (v x) (v z)
  have d:=tcmp_trans (v z) (v y) (v x) (by omega) (by omega)
  omega
theorem attach_flat {α β:Type} (L:List α) (f:α→List β):(L.attach.flatMap fun x=>f x.1)=L.flatMap f:=by
 have h:L.attach.flatMap (fun x=>f x.1)=(L.attach.map Subtype.val).flatMap f:=by rw [List.flatMap_map]
 rw [h,List.attach_map_subtype_val]
open Go.RowKit
/-! ### the sort of a list that a call has made -/
set_option maxRecDepth 100000 in
theorem sort_tout (L:List Tm) (B:Nat) (A:Option Addr) (c m:Nat) (w:World) (hm:Hid (m=L.length)) (T:Hid (Tout w B A c L)) (h9:m≤1000000) :
  Calls Tryz.prog 200 #[.slice A m c, .func (.func 146) #[] #[]] w fun e w'=>e = .returned (.tuple #[]) ∧ ∃ L',List.Perm L' L∧(L'.Pairwise fun x y=>tcmp x.v y.v≤0)∧Tout w' B A c L'∧Upd (fun k=>blk A c=some k) w w':=by
 rcases Nat.eq_zero_or_pos m with h | h
 ·subst h
  have hl:L=[]:=List.eq_nil_of_length_eq_zero hm.out.symm
  subst hl
  refine (sortT_nil A c _ w).mono ?_
  rintro e w' ⟨rfl,rfl⟩
  exact ⟨rfl,[],List.Perm.nil,List.Pairwise.nil,T.out,Upd.refl _ _⟩
 ·have o:=T.out.own
  rw [← hm.out] at o
  obtain ⟨g,rfl,hg,hB,_⟩:=o.form h
  have hm:=hm.out
  have hblk:blk (some ⟨g,0,none⟩) c=some g:=by
   unfold blk
   cases c with
   | zero=>have:=o.le.1;omega
   | succ c=>rfl
  haveI:Inhabited {x:Tm // x∈L}:=⟨⟨L.head (by intro e;subst e;simp at hm;omega),List.head_mem _⟩⟩
  obtain ⟨d,hd⟩ : ∃ d:Array {x:Tm // x∈L},d=L.attach.toArray:=⟨_,rfl⟩
  have ds:d.size=m:=by rw [hd,hm];simp
  have hflat:(d.toList.flatMap fun x=>tmC x.1)=tmsC L:=by rw [hd];exact attach_flat L tmC
  have hk : ∀ x:{x:Tm // x∈L},(tmC x.1).length=2:=fun _=>rfl
  have o':Own w B 26 2 (some ⟨g,0,none⟩) d.size c (d.toList.flatMap fun x=>tmC x.1):=by rw [hflat,ds];exact o
  have hls : ∀ x∈L, ∀ k,blk x.A x.c=some k→k≠g:=fun x hx k hk e=>(T.out.ls x hx).2 k hk (by rw [hblk,e])
  have hcmp:CmpLays Tryz.prog 146 #[] (fun x:{x:Tm // x∈L}=>tmC x.1) 2 (fun x y=>tcmp x.1.v y.1.v) g 0 d.size w:=fun q os dk hdk x y=>by
   have u:=(sorted_own (fun x:{x:Tm // x∈L}=>tmC x.1) 2 hk (by decide) (n:=q) (os:=os) o' (by omega) hdk).2
   exact cmp_grow x.1.e y.1.e x.1.A y.1.A x.1.l.length y.1.l.length x.1.c y.1.c x.1.l y.1.l _ ((T.out.ls _ x.2).1.sl.upd u (hls _ x.2)) ((T.out.ls _ y.2).1.sl.upd u (hls _ y.2))
  have hcon:=AnyQ.slices_SortFunc Tryz.sortTimes 2 Tryz.isAgg26 Tryz.sizeOf26 (fun x:{x:Tm // x∈L}=>tmC x.1) hk (fun x v hv=>by simp [tmC] at hv;rcases hv with rfl | rfl<;>rfl) (fun x y=>tcmp x.1.v y.1.v) (swo_by fun x:{x:Tm // x∈L}=>x.1.v) 146 #[] g 0 c d w enters_cmp hcmp
   (own_holds _ 2 hk (by decide) o' (by omega)) ((o.lt g hblk).2) (by omega)
  change Calls Tryz.prog 200 _ _ _ at hcon
  rw [ds] at hcon
  refine hcon.mono ?_
  rintro e w' ⟨rfl,d',n,os,hp,hs,rfl⟩
  rw [← ds] at hp hs
  obtain ⟨h1,h2,h3⟩:=sorted_list hp hs
  have q:=sorted_own (fun x:{x:Tm // x∈L}=>tmC x.1) 2 hk (by decide) (n:=n) (os:=os) o' (by omega) h1
  have hperm:(d'.toList.map Subtype.val).Perm L:=by
   have:=h2.map Subtype.val
   rw [hd,List.attach_map_subtype_val] at this
   exact this
  refine ⟨rfl,d'.toList.map Subtype.val,hperm,?_,⟨?_,fun x hx=>?_,?_⟩,q.2.mono fun k _ e=>by rw [e];exact hblk⟩
  ·rw [List.pairwise_map]
   refine h3.imp fun {x y} h=>?_
   replace h:decide (tcmp y.1.v x.1.v<0)=false:=h
   rw [decide_eq_false_iff_not] at h
   have:=tcmp_neg x.1.v y.1.v
   omega
  ·have:=q.1
   rw [ds] at this
   rw [hperm.length_eq, ← hm]
   unfold tmsC
   rw [List.flatMap_map]
   exact this
  ·have hx:=hperm.mem_iff.1 hx
   exact ⟨(T.out.ls x hx).1.upd q.2 (hls x hx),(T.out.ls x hx).2⟩
  ·exact (hperm.pairwise_iff (fun {x y} h k h1 h2=>h k h2 h1)).2 T.out.apart
/-! ### plain -/
structure JdV (L V:List TV) (i k:Nat):Prop where
 ne:V.Pairwise (· ≠ ·)
 sub : ∀ v∈L,v∈V
 least : ∀ U,ClosedT U→(∀ v∈L,v∈U) → ∀ v∈V,v∈U
 cl : ∀ x∈V.take i, ∀ y∈V.take i,same x y=true→maxT x y∈V
 row : ∀ x,V[i]?=some x → ∀ y∈V.take k,same x y=true→maxT x y∈V
 le:i≤V.length∧k≤i
theorem JdV.start (L:List TV):JdV L (onceT L) 0 0:=⟨once_ne L,fun v hv=>(once_mem L v).2 hv,fun U _ hs v hv=>hs v ((once_mem L v).1 hv),fun x hx=>by simp at hx,fun x _ y hy=>by simp at hy,Nat.zero_le _,Nat.le_refl _⟩
theorem JdV.len {L V U:List TV} {i k:Nat} (h:JdV L V i k) (hU:ClosedT U) (hs : ∀ v∈L,v∈U):V.length≤U.length:=nodup_len h.ne (h.least U hU hs)
theorem mem_take_succ {V:List TV} {k:Nat} (hk:k<V.length) {y:TV} (h:y∈V.take (k+1)):y∈V.take k∨y=V[k]:=by
 rw [List.take_succ_eq_append_getElem hk] at h
 rcases List.mem_append.1 h with q | q
 ·exact .inl q
 ·exact .inr (List.mem_singleton.1 q)
theorem JdV.add {L V:List TV} {i k:Nat} (h:JdV L V i k) (hi:i<V.length) (hk:k<i) (hs:same V[i] V[k]=true):JdV L (onceStep V (maxT V[i] V[k])) i (k+1):=by
 have hsub : ∀ v∈V,v∈onceStep V (maxT V[i] V[k]):=fun v hv=>by
  unfold onceStep
  split
  ·exact hv
  ·exact List.mem_append_left _ hv
 have hnew:maxT V[i] V[k]∈onceStep V (maxT V[i] V[k]):=by
  unfold onceStep
  split
  ·assumption
  ·exact List.mem_append_right _ (List.mem_singleton.2 rfl)
 have ht : ∀ j,j≤i→(onceStep V (maxT V[i] V[k])).take j=V.take j:=fun j hj=>by
  unfold onceStep
  split
  ·rfl
  ·exact List.take_append_of_le_length (by omega)
 have hg:(onceStep V (maxT V[i] V[k]))[i]?=V[i]?:=by
  unfold onceStep
  split
  ·rfl
  ·exact List.getElem?_append_left hi
 refine ⟨?_,fun v hv=>hsub v (h.sub v hv),fun U hU hL v hv=>?_,fun x hx y hy q=>?_,fun x hx y hy q=>?_,?_,by omega⟩
 ·unfold onceStep
  split
  ·exact h.ne
  ·rename_i hn
   exact List.pairwise_append.2 ⟨h.ne,List.pairwise_singleton _ _,fun y hy z hz e=>hn (by rw [List.mem_singleton.1 hz] at e;exact e ▸ hy)⟩
 ·unfold onceStep at hv
  split at hv
  ·exact h.least U hU hL v hv
  ·rcases List.mem_append.1 hv with q | q
   ·exact h.least U hU hL v q
   ·rw [List.mem_singleton.1 q]
    exact hU _ (h.least U hU hL _ (List.getElem_mem _)) _ (h.least U hU hL _ (List.getElem_mem _)) hs
 ·rw [ht i (Nat.le_refl _)] at hx hy
  exact hsub _ (h.cl x hx y hy q)
 ·rw [hg] at hx
  rw [ht (k+1) hk] at hy
  rcases mem_take_succ (by omega) hy with r | r
  ·exact hsub _ (h.row x hx y r q)
  ·rw [List.getElem?_eq_getElem hi] at hx
   injection hx with hx
   rw [r, ← hx]
   exact hnew
 ·unfold onceStep
  split
  ·omega
  ·rw [List.length_append];omega
theorem JdV.skip {L V:List TV} {i k:Nat} (h:JdV L V i k) (hi:i<V.length) (hk:k<i) (hs:same V[i] V[k]=false):JdV L V i (k+1):=by
 refine ⟨h.ne,h.sub,h.least,h.cl,fun x hx y hy q=>?_,h.le.1,by omega⟩
 rcases mem_take_succ (by omega) hy with r | r
 ·exact h.row x hx y r q
 ·rw [List.getElem?_eq_getElem hi] at hx
  injection hx with hx
  rw [r, ← hx,hs] at q
  cases q
theorem JdV.next {L V:List TV} {i:Nat} (h:JdV L V i i) (hi:i<V.length):JdV L V (i+1) 0:=by
 refine ⟨h.ne,h.sub,h.least,fun x hx y hy q=>?_,fun x _ y hy=>by simp at hy,by omega,by omega⟩
 rcases mem_take_succ hi hx with a | a
 ·rcases mem_take_succ hi hy with b | b
  ·exact h.cl x a y b q
  ·rw [maxT_comm]
   exact h.row y (by rw [b,List.getElem?_eq_getElem hi]) x a (same_comm q)
 ·rcases mem_take_succ hi hy with b | b
  ·exact h.row x (by rw [a,List.getElem?_eq_getElem hi]) y b q
  ·rw [a,b,maxT_self]
   exact List.getElem_mem _
theorem JdV.done {L V R:List TV} {k:Nat} (h:JdV L V V.length k) (hp:R.Perm V) (hs:R.Pairwise fun x y=>tcmp x y≤0):JoinedV L R:=by
 have hn:R.Pairwise (· ≠ ·):=(hp.pairwise_iff (fun {x y} (q:x≠y)=>Ne.symm q)).2 h.ne
 refine ⟨List.Pairwise.imp₂ (fun {x y} a b=>?_) hs hn,fun v hv=>hp.mem_iff.2 (h.sub v hv),fun x hx y hy q=>?_,fun U hU hL v hv=>h.least U hU hL v (hp.mem_iff.1 hv)⟩
 ·have:tcmp x y≠0:=fun e=>b (tcmp_zero.1 e)
  omega
 ·have:=h.cl
  rw [List.take_length] at this
  exact hp.mem_iff.2 (this x (hp.mem_iff.1 hx) y (hp.mem_iff.1 hy) q)
open Go.RowKit
/-- what joined answers -/
def JoinedOut (V:List TV) (w:World) (e:Ending) (w':World):Prop := ∃ A c n M,e = .returned (.slice A n c)∧n=List.length M∧Tout w' w.heap.size A c M∧JoinedV V (M.map Tm.v)∧(∀ x∈M,InV x.v)∧Ext w w'
/-- what Join answers of two times of the list -/
theorem join_er (e f:Int) (l ly:List Int):(l.length=ly.length∧joinT e l f ly=((max e f,List.zipWith max l ly),0))∨(l.length≠ly.length∧joinT e l f ly=((0,[]),40)):=by
 unfold joinT
 by_cases h:l.length=ly.length
 ·exact .inl ⟨h,if_pos h⟩
 ·exact .inr ⟨h,if_neg h⟩
theorem once_ge (V:List TV) (v:TV):V.length≤(onceStep V v).length:=by
 unfold onceStep
 split
 ·exact Nat.le_refl _
 ·rw [List.length_append];omega
set_option maxRecDepth 100000 in
set_option maxRecDepth 100000 in
set_option maxHeartbeats 16000000 in
theorem joined_any (AL:Option Addr) (cL m:Nat) (L:List Tm) (w:World) (U:List TV) (hm:Hid (m=L.length)) (hL:Hid (Tin w AL cL L)) (hi:Hid (∀ x∈L,InV x.v)) (hU:Hid (ClosedT U)) (hs:Hid (∀ v∈L.map Tm.v,v∈U)) (hUn:Hid (U.length≤5000)) (hUi:Hid (∀ v∈U,InV v)) (G:Pow w) (h9:m≤50000) :
  Calls Tryz.prog 178 #[.slice AL m cL] w (JoinedOut (L.map Tm.v) w):=by
 obtain ⟨w1,hw1⟩ : ∃ w1,w1=w.alloc (.map #[] 0):=⟨_,rfl⟩
 have hmk:(Instr.makeMap 217 none).run Tryz.prog w = .ok (.map (some w.heap.size)) w1:=by rw [hw1];exact run_makeMap _ _
 have hgs:w1.heap.size=w.heap.size+1:=by rw [hw1];simp
 have X1:Ext w w1:=by rw [hw1];exact (Ext.refl w).alloc _
 have M1:MapV w1 w.heap.size 0 (.map []) []:=by rw [hw1];exact MapV.new w
 have HGS:=Lib.hid hgs
 have HX1:=Lib.hid X1
 have HM1:=Lib.hid M1
 clear hw1 hgs X1 M1
 go_enter Tryz.func178,Tryz.ntmps178
 go_wp2
 go_step3
 go_wp2
 obtain ⟨gm,hgm⟩ : ∃ gm,gm=w1.heap.size:=⟨_,rfl⟩
 obtain ⟨w2,hw2⟩ : ∃ w2,w2=(w1.alloc (.cells #[.map (some w.heap.size)] 217)).alloc (.cells #[.slice none 0 0] 27):=⟨_,rfl⟩
 rw [← hw2, ← hgm]
 have J2:JdS w w2 gm (gm+1) w.heap.size (gm+2) (.map []) none 0 0 []:=by
  have hz:=HGS.out
  have hs2:w2.heap.size=gm+2:=by rw [hw2,hgm];simp
  have e2:Ext w1 w2:=by rw [hw2];exact ((Ext.refl w1).alloc _).alloc _
  exact ⟨rfl,by rw [hw2,hgm];exact (Bk.new _ _ _).alloc _,by rw [hw2,hgm];exact Bk.at (by simp),HM1.out.ext e2,Tout.nil _ _,HX1.out.trans e2,by omega,by omega,fun x hx=>(nomatch hx)⟩
 have HJ2:=Lib.hid J2
 clear hw2 hgm J2
 go_loopg [16] m (fun z v16 wr => ∃ (k:Nat) (D:DataW Value) (A:Option Addr) (c q:Nat) (M:List Tm),z=m - k∧k≤m∧v16 = .int .i64 k∧q≤k∧Hid (JdS w wr gm (gm+1) w.heap.size (gm+2) D A c q M)∧Hid (M.map Tm.v=onceT ((L.map Tm.v).take k)))
 case atStart=>exact ⟨0, .map [],none,0,0,[],rfl,Nat.zero_le _,rfl,Nat.le_refl _,HJ2,Lib.hid rfl⟩
 case round =>
  obtain ⟨k,D,A,c,q,M,rfl,hk,rfl,hqk,HJ,HV⟩:=hrel
  by_cases hlt:k<m
  ·have hkL:k<L.length:=by rw [← hm.out];exact hlt
   obtain ⟨ad,rfl,q0,q1⟩:=(hL.out.ext HJ.out.ext).at (i:=k) hkL
   have HXS:Hid (Sl wr 1 (L.getD k Tm.zero).A (L.getD k Tm.zero).l.length (L.getD k Tm.zero).c (wds (L.getD k Tm.zero).l)):=Lib.hid ((hL.out.ext HJ.out.ext).ls _ (getT_mem hkL))
   have HIX:Hid (InV (L.getD k Tm.zero).v):=Lib.hid (hi.out _ (getT_mem hkL))
   have hkv:=map_at hkL
   obtain ⟨x,hx⟩ : ∃ x,L.getD k Tm.zero=x:=⟨_,rfl⟩
   rw [hx] at q0 q1 HXS HIX hkv
   have HKV:=Lib.hid hkv
   clear hx hkv hkL
   obtain ⟨e,Ax,cx,l⟩:=x
   obtain ⟨nx,hnx⟩ : ∃ nx,nx=l.length:=⟨_,rfl⟩
   have HNX:=Lib.hid hnx
   replace q0:wr.cell? (ad.add (k * 2))=some (.int .u64 e):=q0
   replace q1:wr.cell? ⟨(ad.add (k * 2)).block,(ad.add (k * 2)).off+1,none⟩=some (.slice Ax l.length cx):=q1
   replace HXS:Hid (Sl wr 1 Ax l.length cx (wds l)):=HXS
   replace HIX:Hid (InV (e,l)):=HIX
   rw [← hnx] at q1 HXS
   clear hnx
   have X0:Hid (Ext wr (wr.alloc (.cells #[.int .u64 e, .slice Ax nx cx] 26))):=Lib.hid ((Ext.refl _).alloc _)
   go_wp2_with (first
    | (go_at_call 221;refine (jadd_any w _ gm (gm+1) w.heap.size (gm+2) D A c q M e Ax nx cx l (Lib.hid (HJ.out.step X0.out)) (Lib.hid (HXS.out.ext X0.out)) HNX HIX G (by omega)).mono ?_;rintro r w3 ⟨rfl,D3,A3,c3,q3,M3,j3,v3,b3⟩;have HJ3:=Lib.hid j3;have HV3:=Lib.hid v3;have HB3:=Lib.hid b3;clear j3 v3 b3))
   go_roundg (m - (k+1))
   case measure=>omega
   case rel =>
    obtain ⟨h1,h2⟩:=HKV.out
    have hb:=HB3.out
    have hl:=HJ.out.len
    refine ⟨k+1,D3,A3,c3,q3,M3,by omega,by omega,by go_num,by omega,HJ3,Lib.hid ?_⟩
    rw [once_take _ _ h1,h2,HV3.out,HV.out]
    rfl
  ·obtain rfl:k=m:=by omega
   have HV0:Hid (M.map Tm.v=onceT (L.map Tm.v)):=Lib.hid (by have:=HV.out;rwa [List.take_of_length_le (by rw [List.length_map, ← hm.out];exact Nat.le_refl _)] at this)
   have HJV:Hid (JdV (L.map Tm.v) (M.map Tm.v) 0 0):=Lib.hid (by rw [HV0.out];exact JdV.start _)
   go_wp2
   go_step3
   go_wp2
   go_loopg [8] 6000 (fun z v8 wr => ∃ (i:Nat) (D:DataW Value) (A:Option Addr) (c q:Nat) (M:List Tm),z=6000 - i∧i≤q∧v8 = .int .i64 i∧Hid (JdS w wr gm (gm+1) w.heap.size (gm+2) D A c q M)∧Hid (JdV (L.map Tm.v) (M.map Tm.v) i 0))
   case atStart=>exact ⟨0,D,A,c,q,M,rfl,Nat.zero_le _,rfl,HJ,HJV⟩
   case round =>
    clear HJV HV0 HV HJ hqk
    obtain ⟨i,D,A,c,q,M,rfl,hiq,rfl,HJ,HJV⟩:=hrel
    have hlen:=HJ.out.len
    have hq5:q≤5000:=by
     have a:=HJV.out.len hU.out hs.out
     have b:=hUn.out
     rw [List.length_map, ← hlen] at a
     omega
    have HLEN:=Lib.hid hlen
    clear hlen
    have k0:wr.cell? ⟨gm+1,0,none⟩=some (.slice A q c):=HJ.out.ko.cell 0
    by_cases hlt:i<q
    ·have hne:((i:Int)==(q:Int))=false:=by simp;omega
     have hne2 : ¬ (i:Int)=q:=by omega
     obtain ⟨wo,hwo⟩ : ∃ wo:World,wo=wr:=⟨_,rfl⟩
     rw [← hwo] at HJ k0 ⊢
     clear hwo
     go_wp2
     go_loopg [31] i (fun z v31 wr => ∃ (k:Nat) (D:DataW Value) (A:Option Addr) (c q:Nat) (M:List Tm),z=i - k∧k≤i∧i<q∧v31 = .int .i64 k∧Hid (JdS w wr gm (gm+1) w.heap.size (gm+2) D A c q M)∧Hid (JdV (L.map Tm.v) (M.map Tm.v) i k))
     case atStart=>exact ⟨0,D,A,c,q,M,rfl,Nat.zero_le _,hlt,rfl,HJ,HJV⟩
     case round =>
      clear HJ HJV HLEN k0 hlt hne hne2 hiq hq5
      obtain ⟨k,D,A,c,q,M,rfl,hk,hiq,rfl,HJ,HJV⟩:=hrel
      have hq5:q≤5000:=by
       have a:=HJV.out.len hU.out hs.out
       have b:=hUn.out
       have e:=HJ.out.len
       rw [List.length_map, ← e] at a
       omega
      by_cases hlt:k<i
      ·have hiM:i<M.length:=by rw [← HJ.out.len];exact hiq
       have hkM:k<M.length:=by omega
       obtain ⟨ad,hA,q0,q1⟩:=HJ.out.out.tin.at (i:=i) hiM
       obtain ⟨ad',hA',p0,p1⟩:=HJ.out.out.tin.at (i:=k) hkM
       obtain rfl:ad'=ad:=by rw [hA] at hA';injection hA' with e;exact e.symm
       subst hA
       clear hA'
       have HSX:Hid (Sl wr 1 (M.getD i Tm.zero).A (M.getD i Tm.zero).l.length (M.getD i Tm.zero).c (wds (M.getD i Tm.zero).l)):=Lib.hid (HJ.out.out.tin.ls _ (getT_mem hiM))
       have HSY:Hid (Sl wr 1 (M.getD k Tm.zero).A (M.getD k Tm.zero).l.length (M.getD k Tm.zero).c (wds (M.getD k Tm.zero).l)):=Lib.hid (HJ.out.out.tin.ls _ (getT_mem hkM))
       have HIX:Hid (InV (M.getD i Tm.zero).v):=Lib.hid (HJ.out.inv _ (getT_mem hiM))
       have HIY:Hid (InV (M.getD k Tm.zero).v):=Lib.hid (HJ.out.inv _ (getT_mem hkM))
       have hvi:=map_at hiM
       have hvk:=map_at hkM
       obtain ⟨x,hx⟩ : ∃ x,M.getD i Tm.zero=x:=⟨_,rfl⟩
       obtain ⟨y,hy⟩ : ∃ y,M.getD k Tm.zero=y:=⟨_,rfl⟩
       rw [hx] at q0 q1 HSX HIX hvi
       rw [hy] at p0 p1 HSY HIY hvk
       have HVI:=Lib.hid hvi
       have HVK:=Lib.hid hvk
       clear hx hy hvi hvk hiM hkM
       obtain ⟨e,Ax,cx,l⟩:=x
       obtain ⟨f,Ay,cy,ly⟩:=y
       obtain ⟨nx,hnx⟩ : ∃ nx,nx=l.length:=⟨_,rfl⟩
       obtain ⟨ny,hny⟩ : ∃ ny,ny=ly.length:=⟨_,rfl⟩
       have HNX:=Lib.hid hnx
       have HNY:=Lib.hid hny
       replace q0:wr.cell? (ad'.add (i * 2))=some (.int .u64 e):=q0
       replace q1:wr.cell? ⟨(ad'.add (i * 2)).block,(ad'.add (i * 2)).off+1,none⟩=some (.slice Ax l.length cx):=q1
       replace p0:wr.cell? (ad'.add (k * 2))=some (.int .u64 f):=p0
       replace p1:wr.cell? ⟨(ad'.add (k * 2)).block,(ad'.add (k * 2)).off+1,none⟩=some (.slice Ay ly.length cy):=p1
       replace HSX:Hid (Sl wr 1 Ax l.length cx (wds l)):=HSX
       replace HSY:Hid (Sl wr 1 Ay ly.length cy (wds ly)):=HSY
       replace HIX:Hid (InV (e,l)):=HIX
       replace HIY:Hid (InV (f,ly)):=HIY
       rw [← hnx] at q1 HSX
       rw [← hny] at p1 HSY
       have hnx9:nx≤1000:=by rw [hnx];exact HIX.out.n
       clear hnx hny
       obtain ⟨jr,hjr⟩ : ∃ jr,joinT e l f ly=jr:=⟨_,rfl⟩
       have her:=join_er e f l ly
       rw [hjr] at her
       have hjoin : ∀ W,Ext wr W→Calls Tryz.prog 191 #[.agg #[.int .u64 e, .slice Ax nx cx], .agg #[.int .u64 f, .slice Ay ny cy]] W (TimeOut W jr):=fun W z=>by
        have:=join_any e f Ax Ay nx ny cx cy l ly W (HSX.out.ext z) (HSY.out.ext z) HIX.out.u HIY.out.u (by omega)
        rwa [hjr] at this
       obtain ⟨⟨mx,zl⟩,er⟩:=jr
       obtain ⟨zn,hzn⟩ : ∃ zn,zn=zl.length:=⟨_,rfl⟩
       have HZN:=Lib.hid hzn
       replace hjoin : ∀ W,Ext wr W→Calls Tryz.prog 191 #[.agg #[.int .u64 e, .slice Ax nx cx], .agg #[.int .u64 f, .slice Ay ny cy]] W fun r w' => ∃ A3 c3,r = .returned (.tuple #[.agg #[.int .u64 mx, .slice A3 zn c3], .int .u16 er])∧Own w' W.heap.size 180 1 A3 zn c3 (wds zl)∧Ext W w':=by rw [hzn];exact hjoin
       have HJN:=Lib.hid hjoin
       have HER:=Lib.hid her
       clear hjoin her hjr hzn
       have k0:wr.cell? ⟨gm+1,0,none⟩=some (.slice (some ad') q c):=HJ.out.ko.cell 0
       have Q0:=Lib.hid q0
       have Q1:=Lib.hid q1
       have P0:=Lib.hid p0
       have P1:=Lib.hid p1
       have K0:=Lib.hid k0
       clear q0 q1 p0 p1 k0
       have XE:Ext wr wr.drew:=(Ext.refl wr).drew
       have q0 : ∀ y:Xt wr.drew,y.W.cell? (ad'.add (i * 2))=some (.int .u64 e):=fun y=>(XE.trans y.x).cell Q0.out
       have q1 : ∀ y:Xt wr.drew,y.W.cell? ⟨(ad'.add (i * 2)).block,(ad'.add (i * 2)).off+1,none⟩=some (.slice Ax nx cx):=fun y=>(XE.trans y.x).cell Q1.out
       have p0 : ∀ y:Xt wr.drew,y.W.cell? (ad'.add (k * 2))=some (.int .u64 f):=fun y=>(XE.trans y.x).cell P0.out
       have p1 : ∀ y:Xt wr.drew,y.W.cell? ⟨(ad'.add (k * 2)).block,(ad'.add (k * 2)).off+1,none⟩=some (.slice Ay ny cy):=fun y=>(XE.trans y.x).cell P1.out
       have k0 : ∀ y:Xt wr.drew,y.W.cell? ⟨gm+1,0,none⟩=some (.slice (some ad') q c):=fun y=>(XE.trans y.x).cell K0.out
       go_upto_region 15 with fail
       go_cut [10,11] (fun s10 s11 wx => ∃ (g:Nat) (A3:Option Addr) (c3:Nat),s10 = .pointer (some ⟨g,0,none⟩)∧s11 = .int .u16 er∧Hid (Ext wr wx)∧Hid (Bk wx g 26 #[.int .u64 mx, .slice A3 zn c3])∧Hid (Own wx wr.heap.size 180 1 A3 zn c3 (wds zl)))
       case first =>
        refine wp_region_ord [0,0,3,7,0,0,48,112,255,511,1023,1023,0,6143,16383] (.flo [0,1,2,3,4,5,6,7] (.both 8 12 (.flo [9,10] (.pur [11] (.ext 12 (.one 13 (.flo [14] (.fin)))))) (.ext 8 (.flo [9,10] (.pur [11] (.one 13 (.flo [14] (.fin)))))))) (by kernel_rfl) (by kernel_rfl) (by intro _ _ d _ _ h;cases d<;>exact h) ?_
        (refine ord_flo (pick_cons rfl (pick_cons rfl (pick_cons rfl (pick_cons rfl (pick_cons rfl (pick_cons rfl (pick_cons rfl (pick_cons rfl pick_nil)))))))) ?_;(repeat (go_big_quiet_step (fail)));refine wpQuiet_nil ?_;show ordWalk _ _ _ _ _ _ _)
        refine ord_both (pick_cons rfl pick_nil) (pick_cons rfl pick_nil) ?_ ?_<;>intro K_ hK_
        ·go_wp2_with (go_at_call 191;refine (HJN.out _ XE).mono ?_;rintro r w3 ⟨A3,c3,rfl,o3,x3⟩)
         refine ordNext.mk x3 ?_
         (refine ord_flo (pick_cons rfl (pick_cons rfl pick_nil)) ?_;(repeat (go_big_quiet_step (fail)));refine wpQuiet_nil ?_;show ordWalk _ _ _ _ _ _ _)
         (refine ord_pur (pick_cons rfl pick_nil) ?_;(repeat (go_big_quiet_step (fail)));refine wpQuiet_nil ?_;show ordWalk _ _ _ _ _ _ _)
         refine ord_ext (pick_cons rfl pick_nil) ?_;intro K_ hK_
         go_wp2
         refine ordNext.mk ((Ext.refl _).alloc _) ?_
         have bz:Bk (w3.alloc (.cells #[.int .u64 0, .slice none 0 0] 26)) w3.heap.size 26 #[.int .u64 0, .slice none 0 0]:=Bk.new _ _ _
         have d0:=bz.cell 0
         have d1:=bz.cell 1
         have d2:=bz.free 0
         have d3:=bz.free 1
         refine ord_one (pick_cons rfl pick_nil) ?_;intro K_ hK_
         go_wp2
         (refine ord_flo (pick_cons rfl pick_nil) ?_;(repeat (go_big_quiet_step (fail)));refine wpQuiet_nil ?_;show ordWalk _ _ _ _ _ _ _)
         refine ord_fin ?_
         go_wp2_with fail
         go_meet
         case rel=>exact ⟨_,A3,c3,rfl,rfl,Lib.hid ((XE.trans x3).alloc _),Lib.hid (Bk.new _ _ _),Lib.hid ((o3.mono XE.size).alloc _)⟩
        ·go_wp2
         refine ordNext.mk ((Ext.refl _).alloc _) ?_
         obtain ⟨w2,hw2⟩ : ∃ w2,w2=(wr.alloc (.cells #[.int .u64 0, .slice none 0 0] 26)).drew:=⟨_,rfl⟩
         have b2:Bk w2 wr.heap.size 26 #[.int .u64 0, .slice none 0 0]:=by subst hw2;exact (Bk.new _ _ _).drew
         have x2:Ext wr.drew w2:=by subst hw2;exact (Ext.refl wr.drew).alloc _
         rw [← hw2]
         clear hw2
         have hb2:=b2.lt
         refine ord_ext (pick_cons rfl pick_nil) ?_;intro K_ hK_
         go_wp2_with (go_at_call 191;refine (HJN.out _ (XE.trans x2)).mono ?_;rintro r w3 ⟨A3,c3,rfl,o3,x3⟩)
         refine ordNext.mk x3 ?_
         have bz:=b2.ext x3
         have d0:=bz.cell 0
         have d1:=bz.cell 1
         have d2:=bz.free 0
         have d3:=bz.free 1
         (refine ord_flo (pick_cons rfl (pick_cons rfl pick_nil)) ?_;(repeat (go_big_quiet_step (fail)));refine wpQuiet_nil ?_;show ordWalk _ _ _ _ _ _ _)
         (refine ord_pur (pick_cons rfl pick_nil) ?_;(repeat (go_big_quiet_step (fail)));refine wpQuiet_nil ?_;show ordWalk _ _ _ _ _ _ _)
         refine ord_one (pick_cons rfl pick_nil) ?_;intro K_ hK_
         go_wp2
         (refine ord_flo (pick_cons rfl pick_nil) ?_;(repeat (go_big_quiet_step (fail)));refine wpQuiet_nil ?_;show ordWalk _ _ _ _ _ _ _)
         refine ord_fin ?_
         go_wp2_with fail
         go_meet
         case rel =>
          have hgw:wr.heap.size≤wr.heap.size:=Nat.le_refl _
          exact ⟨_,A3,c3,rfl,rfl,Lib.hid ((((XE.trans x2).trans x3).set hgw _).set hgw _),Lib.hid ((bz.set 0 _).set 1 _),Lib.hid (((o3.far (o3.ne hb2) _).far (o3.ne hb2) _).mono (Nat.le_trans XE.size x2.size))⟩
       case rest =>
        clear q0 q1 p0 p1 k0 XE
        obtain ⟨g,A3,c3,rfl,rfl,XC,BC,OC⟩:=hcut
        have c0:=BC.out.cell 0
        have c1:=BC.out.cell 1
        rcases HER.out with ⟨hs1,hs2⟩ | ⟨hs1,hs2⟩
        ·injection hs2 with hs2 hs3
         injection hs2 with hs4 hs5
         subst hs3
         have HMX:Hid (maxT (e,l) (f,ly)=(mx,zl)):=Lib.hid (by show (max e f,List.zipWith max l ly)=_;rw [hs4,hs5])
         have HSM:Hid (same (e,l) (f,ly)=true):=Lib.hid (decide_eq_true hs1)
         clear hs1 hs4 hs5
         have HIZ:Hid (InV (mx,zl)):=Lib.hid (by
          obtain ⟨h1,h2⟩:=HVI.out
          obtain ⟨h3,h4⟩:=HVK.out
          replace h2:(M.map Tm.v)[i]=(e,l):=h2
          replace h4:(M.map Tm.v)[k]=(f,ly):=h4
          have a:=HJV.out.least U hU.out hs.out
          rw [← HMX.out]
          exact hUi.out _ (hU.out _ (a _ (by rw [← h2];exact List.getElem_mem _)) _ (a _ (by rw [← h4];exact List.getElem_mem _)) HSM.out))
         go_wp2_with (first
          | (go_at_call 221;refine (jadd_any w _ gm (gm+1) w.heap.size (gm+2) D (some ad') c q M mx A3 zn c3 zl (Lib.hid (HJ.out.step XC.out)) (Lib.hid OC.out.sl) HZN HIZ G (by omega)).mono ?_;rintro r w9 ⟨rfl,D9,A9,c9,q9,M9,j9,v9,b9⟩;have HJ9:=Lib.hid j9;have HV9:=Lib.hid v9;clear j9 v9 b9))
         go_roundg (i - (k+1))
         case measure=>omega
         case rel =>
          obtain ⟨h1,h2⟩:=HVI.out
          obtain ⟨h3,h4⟩:=HVK.out
          replace h2:(M.map Tm.v)[i]=(e,l):=h2
          replace h4:(M.map Tm.v)[k]=(f,ly):=h4
          have ha:=HJV.out.add h1 hlt (by rw [h2,h4];exact HSM.out)
          rw [h2,h4,HMX.out] at ha
          have hl:=once_ge (M.map Tm.v) (mx,zl)
          rw [← HV9.out,List.length_map,List.length_map, ← HJ.out.len, ← HJ9.out.len] at hl
          exact ⟨k+1,D9,A9,c9,q9,M9,rfl,by omega,by omega,by go_num,HJ9,Lib.hid (by rw [HV9.out];exact ha)⟩
        ·injection hs2 with hs2 hs3
         subst hs3
         have HJC:=Lib.hid (HJ.out.step XC.out)
         have HSM:Hid (same (e,l) (f,ly)=false):=Lib.hid (decide_eq_false hs1)
         clear hs1 hs2
         go_wp2
         go_roundg (i - (k+1))
         case measure=>omega
         case rel =>
          obtain ⟨h1,h2⟩:=HVI.out
          obtain ⟨h3,h4⟩:=HVK.out
          replace h2:(M.map Tm.v)[i]=(e,l):=h2
          replace h4:(M.map Tm.v)[k]=(f,ly):=h4
          exact ⟨k+1,D,some ad',c,q,M,rfl,by omega,hiq,by go_num,HJC,Lib.hid (HJV.out.skip h1 hlt (by rw [h2,h4];exact HSM.out))⟩
      ·obtain rfl:k=i:=by omega
       have hnext:=HJV.out.next (by rw [List.length_map, ← HJ.out.len];exact hiq)
       have HN:=Lib.hid hnext
       clear hnext
       go_wp2
       go_roundg (6000 - (k+1))
       case measure=>omega
       case rel=>exact ⟨k+1,D,A,c,q,M,rfl,by omega,by go_num,HJ,HN⟩
    ·obtain rfl:i=q:=by omega
     have HT:=Lib.hid HJ.out.out
     have HLT:=Lib.hid HJ.out.lt
     go_wp2_with (first
      | (go_at_call 200;refine (sort_tout M (gm+2) A c i _ HLEN HT (by omega)).mono ?_;rintro r w6 ⟨rfl,S,hp,hS,t6,u6⟩;have HP:=Lib.hid hp;have HS:=Lib.hid hS;have HT6:=Lib.hid t6;have HU6:=Lib.hid u6;have k1:=(bk_upd HJ.out.ko u6 (fun e=>(by have:=(HT.out.own.lt _ e).1;omega))).cell 0;clear hp hS t6 u6))
     rw [Exit.noGoto_ret]
     go_ret
     refine ⟨A,c,i,S,rfl,by rw [HP.out.length_eq];exact HLEN.out,HT6.out.mono (by have:=HLT.out;omega),?_,fun x hx=>HJ.out.inv x (HP.out.mem_iff.1 hx),ext_upd HJ.out.ext HU6.out fun k hk=>by have:=(HT.out.own.lt _ hk).1;have:=HLT.out;omega⟩
     have hd:=HJV.out
     rw [show i=(M.map Tm.v).length by rw [List.length_map];exact HLEN.out] at hd
     exact hd.done (HP.out.map Tm.v) (by rw [List.pairwise_map];exact HS.out)
open Go.RowKit
set_option maxRecDepth 100000 in
set_option maxHeartbeats 400000 in
theorem clone_cts (A:Option Addr) (n c:Nat) (L:List Ct) (w:World) (hm:Hid (n=L.length)) (h:Hid (Sl w 2 A n c (ctsC L))) (hn:n≤1000000) :
  Calls Tryz.prog 179 #[.slice A n c] w fun e w' => ∃ A' c',e = .returned (.slice A' n c')∧Own w' w.heap.size 154 2 A' n c' (ctsC L)∧Ext w w':=by
 have hs:=h
 have hnil:=fun (W:World)=>Lib.run_eql_slice_nil (P:=Tryz.prog) W 31 154 A n c 0 0 Tryz.underlying31
 rcases A with _ | a
 ·obtain rfl:c=0:=hs.out.2.2.2.1 rfl
  have hn0:n=0:=by have:=hs.out.2.1;omega
  subst hn0
  have hx:ctsC L=[]:=List.eq_nil_of_length_eq_zero (by simpa using hs.out.1)
  rw [hx]
  go_enter Tryz.func179,Tryz.ntmps179
  go_wp2
  go_ret
  exact ⟨none,0,rfl,Own.nil _ _ _ _,Ext.refl _⟩
 ·go_enter Tryz.func179,Tryz.ntmps179
  go_wp2_with (at_builtin;refine wpList_append_gen _ elem_ct w.heap.size _ _ (by rfl) (by rfl) _ 0 0 [] (by rfl) (Own.empty _ _ _ _ _) (some a) n c (ctsC L) (by rfl) (hs.out.ext ((Ext.refl w).alloc _)) (ctsC_one L) (by omega) (by omega) (by simp) ?_;intro A' c' w1 ho1 hg1 hk1)
  go_ret
  refine ⟨A',c',by simp,by simpa using ho1,?_⟩
  exact ((Ext.refl w).alloc _).grown hg1 (by simp [blk])
theorem ct_ne_ud:(154:TypeId)≠95:=by decide
theorem dat_ne_ct:(204:TypeId)≠154:=by decide
theorem ud_ne_ct:(95:TypeId)≠154:=by decide
theorem rwo_types {w w':World} {B s n c:Nat} {e:TypeId} {A:Option Addr} {xs:List Value} (o:Own w B e s A n c xs) (he:(204:TypeId)≠e) (u:Upd (fun k=>blk A c=some k) w w') {x:Option Addr} {xc:Nat} {l:List Dat} (h:RwO w x xc l):RwO w' x xc l :=
 Own.upd h u fun k hk e2=>own_types h o he hk e2
/-- a list that grows behind what it was: K0, at first in block A0 -/
structure Grows (wb w4 wr:World) (ty:TypeId) (s:Nat) (A0:Option Addr) (c0:Nat) (A:Option Addr) (c q:Nat) (xs:List Value):Prop where
 own:Own wr wb.heap.size ty s A q c xs
 new : ∀ k,blk A c=some k→blk A0 c0=some k∨w4.heap.size≤k
 upd:Upd (fun k=>blk A0 c0=some k) w4 wr
theorem Grows.start {wb w4:World} {ty:TypeId} {s:Nat} {A:Option Addr} {c q:Nat} {xs:List Value} (o:Own w4 wb.heap.size ty s A q c xs):Grows wb w4 w4 ty s A c A c q xs:=⟨o,fun k hk => .inl hk,Upd.refl _ _⟩
theorem Grows.put {wb w4 wr wx w':World} {ty:TypeId} {s:Nat} {A0:Option Addr} {c0:Nat} {A A':Option Addr} {c c' q q':Nat} {xs ys:List Value} (h:Grows wb w4 wr ty s A0 c0 A c q xs) (x:Ext wr wx) (o:Own w' wb.heap.size ty s A' q' c' ys) (g:wx.grownBy w' (blk A c))
  (k:(A'=A∧c'=c)∨(blk A' c'=some wx.heap.size∧Ext wx w')):Grows wb w4 w' ty s A0 c0 A' c' q' ys:=by
 have hs:=h.upd.size
 have hx:=x.size
 refine ⟨o,fun j hj=>?_,(h.upd.trans (Upd.ext x)).grown g fun j hj=>h.new j hj⟩
 rcases k with ⟨rfl,rfl⟩ | ⟨e,_⟩
 ·exact h.new j hj
 ·rw [e] at hj
  injection hj with hj
  exact .inr (by omega)
/-! ### the updates that have been put -/
def negC (x:Ct):Ct:=⟨x.A,x.c,x.l,w64 (-x.k)⟩
def updC (t:Tm) (x:Ct):Ud:=⟨x.A,x.c,x.l,t,x.k⟩
theorem negC_val (R:List Ct):(R.map negC).map valC=(R.map valC).map negR:=by rw [List.map_map,List.map_map];rfl
theorem updC_val (t:Tm) (R:List Ct):(R.map (updC t)).map Ud.uv=(R.map valC).map (bagT t.v):=by rw [List.map_map,List.map_map];rfl
structure OfS (wb wr:World) (L:List UV) (T1:List TV) (A:Option Addr) (c q:Nat) (O:List Ud):Prop where
 len:q=O.length
 own:Own wr wb.heap.size 95 4 A q c (udsC O)
 rw : ∀ x∈O,RwO wr x.A x.c x.l
 tm : ∀ x∈O,Sl wb 1 x.t.A x.t.l.length x.t.c (wds x.t.l)
 ext:Ext wb wr
 ofi:OfI L T1 (O.map Ud.uv)
 is:O.map Ud.uv=allO L T1
theorem OfS.start (wb:World) (L:List UV):OfS wb wb L [] none 0 0 []:=⟨rfl,Own.nil _ _ _ _,fun x hx=>(nomatch hx),fun x hx=>(nomatch hx),Ext.refl _,OfI.nil L,rfl⟩
theorem OfS.step {wb wr w':World} {L:List UV} {T1:List TV} {A:Option Addr} {c q:Nat} {O:List Ud} (h:OfS wb wr L T1 A c q O) (x:Ext wr w'):OfS wb w' L T1 A c q O:=⟨h.len,h.own.ext x,fun y hy=>(h.rw y hy).ext x,h.tm,h.ext.trans x,h.ofi,h.is⟩
theorem OfS.upd {wb wr w':World} {L:List UV} {T1:List TV} {A:Option Addr} {c q:Nat} {O:List Ud} (h:OfS wb wr L T1 A c q O) {B s n c0:Nat} {A0:Option Addr} {xs:List Value} (o:Own wr B 154 s A0 n c0 xs) (hB:wb.heap.size≤B) (u:Upd (fun k=>blk A0 c0=some k) wr w'):OfS wb w' L T1 A c q O :=
 ⟨h.len,h.own.upd u fun k hk e=>own_types h.own o ud_ne_ct hk e,fun y hy=>rwo_types o dat_ne_ct u (h.rw y hy),h.tm,ext_upd h.ext u fun k hk=>Nat.le_trans hB (o.lt k hk).1,h.ofi,h.is⟩
theorem OfS.uin {wb wr:World} {L:List UV} {T1:List TV} {A:Option Addr} {c q:Nat} {O:List Ud} (h:OfS wb wr L T1 A c q O):Uin wr A c O:=⟨by rw [← h.len];exact h.own.sl,fun x hx=>⟨(h.rw x hx).rw,(h.tm x hx).ext h.ext⟩⟩
theorem OfS.inU {wb wr:World} {L:List UV} {T1:List TV} {A:Option Addr} {c q:Nat} {O:List Ud} (h:OfS wb wr L T1 A c q O) : ∀ x∈O,InU x:=fun x hx=>(h.ofi.good x.uv (List.mem_map.2 ⟨x,hx,rfl⟩)).1.u
theorem OfS.small {wb wr:World} {L:List UV} {T1:List TV} {A:Option Addr} {c q:Nat} {O:List Ud} (h:OfS wb wr L T1 A c q O) (h1:T1.length≤5000) (h2:L.length≤24):q≤120000:=by
 have:=h.ofi.len
 rw [List.length_map, ← h.len] at this
 have h3:T1.length * L.length≤5000 * 24:=Nat.mul_le_mul h1 h2
 omega
theorem bag_in {D:List UV} {t:TV} {R:List Ct} (h : ∀ u∈D,GoodT u) (hR:R.map valC=sumV (atV D t)) : ∀ x∈R,InC x:=fun x hx=>by
 have hm:valC x∈sumV (atV D t):=by rw [← hR];exact List.mem_map.2 ⟨x,hx,rfl⟩
 obtain ⟨h1,_,y,hy,e⟩:=sumV_mem (fun z hz=>by
  obtain ⟨v,hv,rfl⟩:=List.mem_map.1 hz
  exact (h v (List.mem_filter.1 hv).1).1.num) hm
 obtain ⟨v,hv,rfl⟩:=List.mem_map.1 hy
 have g:=(h v (List.mem_filter.1 hv).1).1
 replace e:v.1.1=x.l:=e
 exact ⟨by rw [← e];exact g.txt,by rw [← e];exact g.int,h1,by rw [← e];exact g.len⟩
theorem bag_len {D:List UV} {t:TV} (h : ∀ u∈D,GoodT u):(sumV (atV D t)).length≤D.length:=by
 have hin : ∀ x∈atV D t,InN x:=fun x hx=>by
  obtain ⟨v,hv,rfl⟩:=List.mem_map.1 hx
  exact (h v (List.mem_filter.1 hv).1).1.num
 have:=rising_len _ (D.map fun u=>u.1.1) (sumV_spec hin).1 fun x hx=>by
  obtain ⟨_,_,y,hy,e⟩:=sumV_mem hin hx
  obtain ⟨v,hv,rfl⟩:=List.mem_map.1 hy
  exact List.mem_map.2 ⟨v,(List.mem_filter.1 hv).1,e⟩
 rwa [List.length_map] at this
theorem raddV_len (x:List Dat × Int) : ∀ R:List (List Dat × Int),(addV R x).length≤R.length+1
 | []=>Nat.le_refl _
 | y :: R=>by
  have ih:=raddV_len x R
  unfold addV
  split
  ·simp only [List.length_cons];omega
  ·split
   ·simp only [List.length_cons];omega
   ·simp only [List.length_cons];omega
theorem rsumV_len (D:List (List Dat × Int)):(sumV D).length≤D.length:=by
 refine Nat.le_trans (List.length_filter_le _ _) (snoc_ind (p:=fun D=>(sumAll D).length≤D.length) (Nat.le_refl _) (fun D x ih=>?_) D)
 have e1:sumAll (D++[x])=addV (sumAll D) x:=by unfold sumAll;rw [List.foldl_append];rfl
 have:=raddV_len x (sumAll D)
 rw [e1,List.length_append,List.length_singleton]
 omega
theorem neg_inC {R:List Ct} (h : ∀ x∈R,InC x) : ∀ x∈R.map negC,InC x:=fun x hx=>by
 obtain ⟨y,hy,rfl⟩:=List.mem_map.1 hx
 have g:=h y hy
 exact ⟨g.txt,g.int,w64_in _,g.len⟩
/-- what one time puts has been put -/
theorem OfS.grow {wb w6 w':World} {L:List UV} {T1 T2:List TV} {t:Tm} {A A':Option Addr} {c c' q:Nat} {O:List Ud} {R7:List Ct} (h:OfS wb w6 L T1 A c q O) (g:Grows wb w6 w' 95 4 A c A' c' (q+R7.length) (udsC (O++R7.map (updC t))))
  (hr : ∀ x∈R7,RwO w6 x.A x.c x.l) (ht:Sl wb 1 t.A t.l.length t.c (wds t.l)) (hv:R7.map valC=sumV (sumV (atV L t.v)++(sumV (atV (O.map Ud.uv) t.v)).map negR)) (hL : ∀ u∈L,GoodT u) (hT : ∀ u∈L,u.1.2∈T1++t.v :: T2) (hrise:Rising (T1++t.v :: T2)) (hi:InTV t.v) :
  OfS wb w' L (T1++[t.v]) A' c' (q+R7.length) (O++R7.map (updC t)):=by
 have hval:(O++R7.map (updC t)).map Ud.uv=stepO L (O.map Ud.uv) t.v:=by
  rw [List.map_append,updC_val,hv]
  rfl
 refine ⟨by rw [List.length_append,List.length_map,h.len],g.own,fun x hx=>?_,fun x hx=>?_,ext_upd h.ext g.upd fun k hk=>(h.own.lt k hk).1,?_,?_⟩
 ·rcases List.mem_append.1 hx with q | q
  ·exact rwo_types h.own udtype_dat g.upd (h.rw x q)
  ·obtain ⟨y,hy,rfl⟩:=List.mem_map.1 q
   exact rwo_types h.own udtype_dat g.upd (hr y hy)
 ·rcases List.mem_append.1 hx with q | q
  ·exact h.tm x q
  ·obtain ⟨y,hy,rfl⟩:=List.mem_map.1 q
   exact ht
 ·rw [hval]
  exact h.ofi.step hL hT hrise hi
 ·rw [hval,h.is]
  unfold allO
  rw [List.foldl_append]
  rfl
/-! ### bags as they come in -/
abbrev Bg:=Option Addr × Nat × List Ct
def bgV (b:Bg):Value := .slice b.1 b.2.2.length b.2.1
def Bg.zero:Bg:=(none,0,[])
def pairB (T:List Tm) (Bs:List Bg) (i:Nat):List (TV × Value):=(List.range i).map fun j=>((T.getD j Tm.zero).v,bgV (Bs.getD j Bg.zero))
theorem pairB_succ (T:List Tm) (Bs:List Bg) (i:Nat):pairB T Bs (i+1)=pairB T Bs i++[((T.getD i Tm.zero).v,bgV (Bs.getD i Bg.zero))]:=by
 unfold pairB
 rw [List.range_succ,List.map_append]
 rfl
theorem pairB_mem {T:List Tm} {Bs:List Bg} {i j:Nat} (h:j<i):((T.getD j Tm.zero).v,bgV (Bs.getD j Bg.zero))∈pairB T Bs i:=List.mem_map.2 ⟨j,List.mem_range.2 h,rfl⟩
theorem pairB_new {T:List Tm} {Bs:List Bg} {i:Nat} (hr:Rising (T.map Tm.v)) (hi:i<T.length) : ∀ y∈pairB T Bs i,y.1≠(T.getD i Tm.zero).v:=fun y hy e=>by
 obtain ⟨j,hj,rfl⟩:=List.mem_map.1 hy
 have hj:=List.mem_range.1 hj
 have hl:i<(T.map Tm.v).length:=by rw [List.length_map];exact hi
 have h:=List.pairwise_iff_getElem.1 hr j i (by omega) hl hj
 rw [getT_v hi,getT_v (show j<T.length by omega)] at h
 replace e:(T.getD j Tm.zero).v=(T.getD i Tm.zero).v:=e
 rw [e,tcmp_zero.2 rfl] at h
 omega
/-- bags in memory -/
structure BgI (w:World) (A:Option Addr) (c:Nat) (Bs:List Bg):Prop where
 sl:Sl w 1 A Bs.length c (Bs.map bgV)
 ls : ∀ b∈Bs,Ctin w b.1 b.2.1 b.2.2
theorem getB_mem {Bs:List Bg} {i:Nat} (h:i<Bs.length):Bs.getD i Bg.zero∈Bs:=by
 rw [List.getD_eq_getElem?_getD,List.getElem?_eq_getElem h];exact List.getElem_mem _
theorem BgI.ext {w w':World} {A:Option Addr} {c:Nat} {Bs:List Bg} (h:BgI w A c Bs) (x:Ext w w'):BgI w' A c Bs:=⟨h.sl.ext x,fun b hb=>(h.ls b hb).ext x⟩
theorem BgI.at {w:World} {A:Option Addr} {c:Nat} {Bs:List Bg} (h:BgI w A c Bs) {i:Nat} (hi:i<Bs.length) : ∃ ad,A=some ad∧w.cell? (ad.add i)=some (bgV (Bs.getD i Bg.zero)):=by
 obtain ⟨ad,e,hc⟩:=h.sl.2.2.2.2 (by omega)
 refine ⟨ad,e,hc _ _ ?_⟩
 rw [List.getElem?_map,List.getElem?_eq_getElem hi,List.getD_eq_getElem?_getD,List.getElem?_eq_getElem hi]
 rfl
end Go.Proofs.YtdgbkpoickbidaaGreatDoor
