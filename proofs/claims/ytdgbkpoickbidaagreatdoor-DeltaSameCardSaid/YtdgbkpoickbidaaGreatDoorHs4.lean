/- Lists of updates in memory; their order. Lists of updates that a call has made: the list, each row, each time's counters in a block of its own. slices.insertionSortCmpFunc at rows with counts: it sorts, those that are alike in their order. slices.IndexFunc, DeleteFunc at rows with counts, by 'none of them'. slices.DeleteFunc at rows with counts, by 'none of them': the walk. slices.Clone at rows. The plain law of row.Sum: same rows put together, sorted. The plain law of a merge that keeps the order of what is alike. Two elements of a list of rows with counts change places. slices.swapRangeCmpFunc at rows with counts: two parts of one length change places. slices.rotateCmpFunc at rows with counts: two parts, side by side, change places. The plain law of a symmetric merge: where two sorted lists are cut. Conditions: each theorem states its own. -/
import Derived.Test.YtdgbkpoickbidaaGreatDoorHs3
import Derived.Test.YtdgbkpoickbidaaGreatDoorHs2
import Derived.Deep.LoopGhost
import Derived.Lib.SliceRun
import Derived.Test.YtdgbkpoickbidaaGreatDoorHs1
namespace Go.Proofs.YtdgbkpoickbidaaGreatDoor
open Go.RowKit

/-- an update that lies in memory -/
structure Ud where
 A:Option Addr
 c:Nat
 l:List Dat
 t:Tm
 d:Int
def Ud.zero:Ud:=⟨none,0,[],Tm.zero,0⟩
instance:Inhabited Ud:=⟨Ud.zero⟩
/-- an update's row and time -/
abbrev UK:=List Dat × TV
abbrev UV:=UK × Int
def Ud.k (x:Ud):UK:=(x.l,x.t.v)
def Ud.uv (x:Ud):UV:=(x.k,x.d)
def kcmp (x y:UK):Int:=if cmpR x.1 y.1=0 then tcmp x.2 y.2 else cmpR x.1 y.1
theorem tcmp_tot:TotPre tcmp:=⟨fun x y=>by rw [tcmp_neg y x],fun x y z=>tcmp_trans x y z⟩
theorem cmpR_tot:TotPre cmpR:=⟨cmpR_neg,cmpR_trans⟩
theorem kcmp_tot:TotPre kcmp:=by
 refine ⟨fun x y=>?_,fun x y z h k=>?_⟩
 ·unfold kcmp
  have h:=cmpR_neg x.1 y.1
  by_cases q:cmpR x.1 y.1=0
  ·rw [if_pos q,if_pos (by omega)];exact tcmp_tot.neg _ _
  ·rw [if_neg q,if_neg (by omega)];exact h
 ·unfold kcmp at h k ⊢
  by_cases q1:cmpR x.1 y.1=0
  ·rw [if_pos q1] at h
   by_cases q2:cmpR y.1 z.1=0
   ·rw [if_pos q2] at k
    rw [if_pos (cmpR_tot.eq_trans q1 q2)]
    exact tcmp_tot.trans _ _ _ h k
   ·rw [if_neg q2] at k
    have:=cmpR_tot.lt_of_le_lt (show cmpR x.1 y.1≤0 by omega) (show cmpR y.1 z.1<0 by omega)
    rw [if_neg (by omega)]
    omega
  ·rw [if_neg q1] at h
   have hyz:cmpR y.1 z.1≤0:=by
    by_cases q2:cmpR y.1 z.1=0
    ·omega
    ·rw [if_neg q2] at k;exact k
   have:=cmpR_tot.lt_of_lt_le (show cmpR x.1 y.1<0 by omega) hyz
   rw [if_neg (by omega)]
   omega
def ucmp (x y:Ud):Int:=kcmp x.k y.k
theorem ucmp_tot:TotPre ucmp:=⟨fun x y=>kcmp_tot.neg _ _,fun x y z=>kcmp_tot.trans _ _ _⟩
def udC (x:Ud):List Value:=[.slice x.A x.l.length x.c, .int .u64 x.t.e, .slice x.t.A x.t.l.length x.t.c, .int .i64 x.d]
def udsC (L:List Ud):List Value:=L.flatMap udC
theorem udsC_len (L:List Ud):(udsC L).length=L.length * 4:=by
 unfold udsC
 induction L with
 | nil=>rfl
 | cons d l ih=>rw [List.flatMap_cons,List.length_append,ih,List.length_cons,show (udC d).length=4 from rfl];omega
theorem udsC_at : ∀ (L:List Ud) (i j:Nat),i<L.length→j<4→(udsC L)[i * 4+j]?=(udC (L.getD i Ud.zero))[j]?
 | [],i,j,h,_=>absurd h (Nat.not_lt_zero _)
 | d :: l,0,j,_,hj=>by
  unfold udsC
  rw [List.flatMap_cons,Nat.zero_mul,Nat.zero_add,List.getElem?_append_left (by rw [show (udC d).length=4 from rfl];exact hj)]
  rfl
 | d :: l,i+1,j,h,hj=>by
  unfold udsC
  rw [List.flatMap_cons,List.getElem?_append_right (by rw [show (udC d).length=4 from rfl];omega),show (i+1) * 4+j - (udC d).length=i * 4+j by rw [show (udC d).length=4 from rfl];omega]
  exact udsC_at l i j (Nat.lt_of_succ_lt_succ h) hj
theorem udsC_append (L M:List Ud):udsC (L++M)=udsC L++udsC M:=List.flatMap_append
theorem udsC_one (L:List Ud) : ∀ u∈udsC L,u.oneCell'=true:=by
 intro u hu
 obtain ⟨d,_,h⟩:=List.mem_flatMap.1 hu
 simp only [udC,List.mem_cons,List.not_mem_nil,or_false] at h
 rcases h with rfl | rfl | rfl | rfl<;>rfl
theorem udsC_set : ∀ (L:List Ud) (i:Nat) (x:Ud),((((udsC L).set (i * 4) (.slice x.A x.l.length x.c)).set (i * 4+1) (.int .u64 x.t.e)).set (i * 4+2) (.slice x.t.A x.t.l.length x.t.c)).set (i * 4+3) (.int .i64 x.d)=udsC (L.set i x)
 | [],i,x=>rfl
 | d :: l,0,x=>rfl
 | d :: l,i+1,x=>by
  have ih:=udsC_set l i x
  show ((((udC d++udsC l).set ((i+1) * 4) _).set ((i+1) * 4+1) _).set ((i+1) * 4+2) _).set ((i+1) * 4+3) _=udC d++udsC (l.set i x)
  rw [← ih,List.set_append_right _ _ (by show 4≤_;omega),List.set_append_right _ _ (by show 4≤_;omega),List.set_append_right _ _ (by show 4≤_;omega),List.set_append_right _ _ (by show 4≤_;omega),show (i+1) * 4 - (udC d).length=i * 4 by show _ - 4=_;omega,
   show (i+1) * 4+1 - (udC d).length=i * 4+1 by show _ - 4=_;omega,show (i+1) * 4+2 - (udC d).length=i * 4+2 by show _ - 4=_;omega,show (i+1) * 4+3 - (udC d).length=i * 4+3 by show _ - 4=_;omega]
theorem elem_ud:Elem Tryz.prog 22 95 4 64 (.agg #[.slice none 0 0, .int .u64 0, .slice none 0 0, .int .i64 0]):=⟨by kernel_rfl,by kernel_rfl,rfl,by decide⟩
/-- an update's row and counters lie in memory -/
structure UdR (w:World) (x:Ud):Prop where
 r:Rw w x.A x.c x.l
 t:Sl w 1 x.t.A x.t.l.length x.t.c (wds x.t.l)
theorem UdR.ext {w w':World} {x:Ud} (h:UdR w x) (y:Ext w w'):UdR w' x:=⟨h.r.ext y,h.t.ext y⟩
/-- a list of updates as readings give it -/
structure Uin (w:World) (A:Option Addr) (c:Nat) (L:List Ud):Prop where
 sl:Sl w 4 A L.length c (udsC L)
 ls : ∀ x∈L,UdR w x
theorem Uin.ext {w w':World} {A:Option Addr} {c:Nat} {L:List Ud} (h:Uin w A c L) (x:Ext w w'):Uin w' A c L:=⟨h.sl.ext x,fun y hy=>(h.ls y hy).ext x⟩
theorem Uin.nil (w:World):Uin w none 0 []:=⟨Sl.nil w 4,fun x hx=>(nomatch hx)⟩
theorem getU_mem {L:List Ud} {i:Nat} (h:i<L.length):L.getD i Ud.zero∈L:=by
 rw [List.getD_eq_getElem?_getD,List.getElem?_eq_getElem h]
 exact List.getElem_mem h
theorem Uin.at {w:World} {A:Option Addr} {c:Nat} {L:List Ud} (h:Uin w A c L) {i:Nat} (hi:i<L.length) : ∃ ad,A=some ad∧w.cell? (ad.add (i * 4))=some (.slice (L.getD i Ud.zero).A (L.getD i Ud.zero).l.length (L.getD i Ud.zero).c) ∧
  w.cell? ⟨(ad.add (i * 4)).block,(ad.add (i * 4)).off+1,none⟩=some (.int .u64 (L.getD i Ud.zero).t.e)∧w.cell? ⟨(ad.add (i * 4)).block,(ad.add (i * 4)).off+2,none⟩=some (.slice (L.getD i Ud.zero).t.A (L.getD i Ud.zero).t.l.length (L.getD i Ud.zero).t.c) ∧
  w.cell? ⟨(ad.add (i * 4)).block,(ad.add (i * 4)).off+3,none⟩=some (.int .i64 (L.getD i Ud.zero).d) :=
 own_at4 h.sl hi (show udC (L.getD i Ud.zero)=[.slice (L.getD i Ud.zero).A (L.getD i Ud.zero).l.length (L.getD i Ud.zero).c, .int .u64 (L.getD i Ud.zero).t.e, .slice (L.getD i Ud.zero).t.A (L.getD i Ud.zero).t.l.length (L.getD i Ud.zero).t.c, .int .i64 (L.getD i Ud.zero).d] from rfl) (fun q hq=>udsC_at L i q hi hq)
theorem takeU {L:List Ud} {i:Nat} (h:i<L.length):L.take (i+1)=L.take i++[L.getD i Ud.zero]:=by
 rw [List.take_succ_eq_append_getElem h,List.getD_eq_getElem?_getD,List.getElem?_eq_getElem h];rfl
theorem dropU {L:List Ud} {i:Nat} (h:i<L.length):L.drop i=L.getD i Ud.zero :: L.drop (i+1):=by
 rw [List.drop_eq_getElem_cons h,List.getD_eq_getElem?_getD,List.getElem?_eq_getElem h];rfl
end Go.Proofs.YtdgbkpoickbidaaGreatDoor
/-! ### a list that is being sorted -/
namespace Go.Proofs.YtdgbkpoickbidaaGreatDoor.UdS
open Go.RowKit

def cmpC (x y:Ud):Int:=ucmp x y
theorem cmpC_tot:TotPre cmpC:=ucmp_tot
/-- the rows and counters of such a list lie in memory, none of them in block g -/
def Rws (w:World) (g:Nat) (L:List Ud):Prop := ∀ x∈L,UdR w x∧(0<x.l.length → ∀ ad,x.A=some ad→ad.block≠g)∧(0<x.t.l.length → ∀ ad,x.t.A=some ad→ad.block≠g)
/-- the block g holds the list, from its head on; it was made from block B on -/
def Arr (w:World) (B g c:Nat) (L:List Ud):Prop:=Own w B 95 4 (some ⟨g,0,none⟩) L.length c (udsC L)∧0<c
/-- an element that is stored -/
abbrev put4 (w:World) (g i:Nat) (x:Ud) (n m:Nat):World:=(((w.setCell ⟨g,i * 4,none⟩ (.slice x.A n x.c)).setCell ⟨g,i * 4+1,none⟩ (.int .u64 x.t.e)).setCell ⟨g,i * 4+2,none⟩ (.slice x.t.A m x.t.c)).setCell ⟨g,i * 4+3,none⟩ (.int .i64 x.d)
section
variable {w w':World} {B g c:Nat} {L:List Ud}
theorem Arr.ext (h:Arr w B g c L) (x:Ext w w'):Arr w' B g c L:=⟨h.1.ext x,h.2⟩
theorem Rws.ext (h:Rws w g L) (x:Ext w w'):Rws w' g L:=fun y hy=>⟨(h y hy).1.ext x,(h y hy).2⟩
theorem sl_upd {A:Option Addr} {n m:Nat} {size:Nat} {xs:List Value} (h:Sl w size A n m xs) (hx:w.grownBy w' (some g)) (ha:0<n → ∀ ad,A=some ad→ad.block≠g):Sl w' size A n m xs :=
 ⟨h.1,h.2.1,h.2.2.1,h.2.2.2.1,fun hn=>by
  obtain ⟨ad,e,hc⟩:=h.2.2.2.2 hn
  exact ⟨ad,e,fun j u hu=>hx.cell (hc j u hu) (by rw [block_add];intro q;injection q with q;exact ha hn ad e q)⟩⟩
theorem Rws.upd (h:Rws w g L) (hx:w.grownBy w' (some g)):Rws w' g L:=fun y hy=>⟨⟨sl_upd (h y hy).1.r hx (h y hy).2.1,sl_upd (h y hy).1.t hx (h y hy).2.2⟩,(h y hy).2⟩
theorem sl_below {A:Option Addr} {n m:Nat} {size:Nat} {xs:List Value} (h:Sl w size A n m xs) (hs:0<size) (hn:0<n) : ∀ ad,A=some ad→ad.block<w.heap.size:=fun ad e=>by
 obtain ⟨ad',e',hc⟩:=h.2.2.2.2 hn
 rw [e] at e'
 injection e' with e'
 subst e'
 have hl:0<xs.length:=by rw [h.1];exact Nat.mul_pos hn hs
 have:=World.block_lt_of_cell? w _ (hc 0 _ (List.getElem?_eq_getElem hl))
 rwa [block_add] at this
theorem Rws.of {w0:World} (h : ∀ x∈L,UdR w0 x) (x:Ext w0 w) (hg:w0.heap.size≤g):Rws w g L:=fun y hy =>
 ⟨(h y hy).ext x,fun hn ad e=>by have:=sl_below (h y hy).r (by decide) hn ad e;omega,fun hn ad e=>by have:=sl_below (h y hy).t (by decide) hn ad e;omega⟩
theorem Rws.sub {M:List Ud} (h:Rws w g L) (hs : ∀ x∈M,x∈L):Rws w g M:=fun x hx=>h x (hs x hx)
theorem Arr.lt (h:Arr w B g c L):B≤g∧g<w.heap.size:=by
 have:=h.1.lt g (by obtain ⟨k,hk⟩ : ∃ k,c=k+1:=⟨c - 1,by have:=h.2;omega⟩;rw [hk];rfl)
 exact this
theorem Arr.le (h:Arr w B g c L):L.length≤9223372036854775807:=by have:=h.1.le;omega
/-- an element's cells; they may be written -/
theorem Arr.at (h:Arr w B g c L) {i:Nat} (hi:i<L.length):w.cell? ⟨g,i * 4,none⟩=some (.slice (L.getD i Ud.zero).A (L.getD i Ud.zero).l.length (L.getD i Ud.zero).c)∧w.cell? ⟨g,i * 4+1,none⟩=some (.int .u64 (L.getD i Ud.zero).t.e) ∧
  w.cell? ⟨g,i * 4+2,none⟩=some (.slice (L.getD i Ud.zero).t.A (L.getD i Ud.zero).t.l.length (L.getD i Ud.zero).t.c)∧w.cell? ⟨g,i * 4+3,none⟩=some (.int .i64 (L.getD i Ud.zero).d):=by
 obtain ⟨g',e,_,_,_,hc,_⟩:=h.1.form (by omega)
 cases e
 exact ⟨hc _ _ (by rw [← Nat.add_zero (i * 4),udsC_at L i 0 hi (by omega)];rfl),hc _ _ (by rw [udsC_at L i 1 hi (by omega)];rfl),hc _ _ (by rw [udsC_at L i 2 hi (by omega)];rfl),hc _ _ (by rw [udsC_at L i 3 hi (by omega)];rfl)⟩
theorem Arr.free (h:Arr w B g c L) (j:Nat):w.frozen? ⟨g,j,none⟩=false:=by
 rcases h.1.2 with ⟨h1,h2⟩ | ⟨g',cur,e,hb,hg,_⟩
 ·have:=h.2;omega
 ·cases e
  simp [World.frozen?,hg]
theorem Arr.set (h:Arr w B g c L) (i:Nat) (x:Ud):Arr (put4 w g i x x.l.length x.t.l.length) B g c (L.set i x):=by
 have:=(((h.1.put (i * 4) (.slice x.A x.l.length x.c)).put (i * 4+1) (.int .u64 x.t.e)).put (i * 4+2) (.slice x.t.A x.t.l.length x.t.c)).put (i * 4+3) (.int .i64 x.d)
 rw [udsC_set] at this
 refine ⟨?_,h.2⟩
 rw [List.length_set]
 exact this
theorem upd_put4 (w:World) (g i:Nat) (x:Ud) (n m:Nat):w.grownBy (put4 w g i x n m) (some g):=(((upd_set w g _ _).trans (upd_set _ g _ _)).trans (upd_set _ g _ _)).trans (upd_set _ g _ _)
theorem upd_swap {w:World} {g i j:Nat} {x y:Ud} {nx ny tx ty:Nat}:w.grownBy (put4 (put4 w g i y ny ty) g j x nx tx) (some g):=(upd_put4 _ _ _ _ _ _).trans (upd_put4 _ _ _ _ _ _)
end
end Go.Proofs.YtdgbkpoickbidaaGreatDoor.UdS
namespace Go.Proofs.YtdgbkpoickbidaaGreatDoor
open Go.RowKit

/-- less room -/
theorem Own.clip {w:World} {B s n c k:Nat} {e:TypeId} {A:Option Addr} {xs:List Value} (h:Own w B e s A n c xs) (h1:n≤k) (h2:k≤c):Own w B e s A n k xs:=by
 refine ⟨h.1,?_⟩
 rcases h.2 with ⟨e1,e2⟩ | ⟨g,cur,rfl,hb,hg,hnc,hcm,hcs,ht⟩
 ·exact .inl ⟨by omega,e2⟩
 ·exact .inr ⟨g,cur,rfl,hb,hg,h1,Nat.le_trans h2 hcm,Nat.le_trans (Nat.mul_le_mul_right _ h2) hcs,ht⟩
/-- lists of different things lie in different blocks -/
theorem own_types {w:World} {B B' s s' n n' c c':Nat} {e e':TypeId} {A A':Option Addr} {xs ys:List Value} (h:Own w B e s A n c xs) (k:Own w B' e' s' A' n' c' ys) (he:e≠e') {q:Nat} (h1:blk A c=some q):blk A' c'≠some q:=by
 intro h2
 rcases h.2 with ⟨rfl,_⟩ | ⟨g,cur,rfl,_,hg,_⟩
 ·rw [blk_zero] at h1;cases h1
 ·rcases k.2 with ⟨rfl,_⟩ | ⟨g',cur',rfl,_,hg',_⟩
  ·rw [blk_zero] at h2;cases h2
  ·cases c with
   | zero=>cases h1
   | succ c =>
    cases c' with
    | zero=>cases h2
    | succ c' =>
     injection h1 with h1
     injection h2 with h2
     simp only at h1 h2
     subst h1 h2
     rw [hg] at hg'
     injection hg' with q
     injection q with _ q
     exact he q
structure Uout (w:World) (B:Nat) (A:Option Addr) (c:Nat) (L:List Ud):Prop where
 own:Own w B 95 4 A L.length c (udsC L)
 rw : ∀ x∈L,Own w B 204 4 x.A x.l.length x.c (rowC x.l)
 ts : ∀ x∈L,Own w B 180 1 x.t.A x.t.l.length x.t.c (wds x.t.l)
 ra:L.Pairwise fun x y => ∀ k,blk x.A x.c=some k→blk y.A y.c≠some k
 ta:L.Pairwise fun x y => ∀ k,blk x.t.A x.t.c=some k→blk y.t.A y.t.c≠some k
theorem udtype_dat:(204:TypeId)≠95:=by decide
theorem udtype_word:(180:TypeId)≠95:=by decide
section
variable {w w':World} {B c:Nat} {A:Option Addr} {L M:List Ud}
theorem Uout.ext (h:Uout w B A c L) (x:Ext w w'):Uout w' B A c L:=⟨h.own.ext x,fun y hy=>(h.rw y hy).ext x,fun y hy=>(h.ts y hy).ext x,h.ra,h.ta⟩
theorem Uout.mono (h:Uout w B A c L) {B':Nat} (hb:B'≤B):Uout w B' A c L:=⟨h.own.mono hb,fun y hy=>(h.rw y hy).mono hb,fun y hy=>(h.ts y hy).mono hb,h.ra,h.ta⟩
theorem Uout.uin (h:Uout w B A c L):Uin w A c L:=⟨h.own.sl,fun x hx=>⟨(h.rw x hx).sl,(h.ts x hx).sl⟩⟩
theorem Uout.nil (w:World) (B:Nat):Uout w B none 0 []:=⟨Own.nil _ _ _ _,fun x hx=>(nomatch hx),fun x hx=>(nomatch hx),List.Pairwise.nil,List.Pairwise.nil⟩
theorem Uout.clip (h:Uout w B A c L):Uout w B A L.length L:=⟨h.own.clip (Nat.le_refl _) h.own.le.1,h.rw,h.ts,h.ra,h.ta⟩
theorem Uout.upd {S:Nat→Prop} (h:Uout w B A c L) (x:Upd S w w') (hn : ∀ k,B≤k→k<w.heap.size → ¬ S k):Uout w' B A c L :=
 ⟨h.own.upd x (fun k hk=>hn k (h.own.lt k hk).1 (h.own.lt k hk).2),fun y hy=>(h.rw y hy).upd x (fun k hk=>hn k ((h.rw y hy).lt k hk).1 ((h.rw y hy).lt k hk).2),fun y hy=>(h.ts y hy).upd x (fun k hk=>hn k ((h.ts y hy).lt k hk).1 ((h.ts y hy).lt k hk).2),h.ra,h.ta⟩
/-- an update with a row and counters of its own is put behind the others -/
theorem Uout.push {w2 w3:World} {A3:Option Addr} {c3:Nat} (h:Uout w B A c M) (e2:Ext w w2) {x:Ud} (orr:Own w2 w.heap.size 204 4 x.A x.l.length x.c (rowC x.l)) (ot:Own w2 w.heap.size 180 1 x.t.A x.t.l.length x.t.c (wds x.t.l)) (hB:B≤w.heap.size) (ob:Obj)
  (o3:Own w3 B 95 4 A3 (M.length+1) c3 (udsC M++udC x)) (g3:(w2.alloc ob).grownBy w3 (blk A c)):Uout w3 B A3 c3 (M++[x]):=by
 have kept : ∀ {k0 s:Nat} {e:TypeId} {A':Option Addr} {n' c':Nat} {xs:List Value},e≠95→Own w2 k0 e s A' n' c' xs→Own w3 k0 e s A' n' c' xs:=fun {k0 s e A' n' c' xs} he o=>(o.alloc ob).kept g3 (by
  cases hb:blk A' c' with
  | none=>exact .inl rfl
  | some k=>exact .inr (fun q=>own_types o (h.own.ext e2) he hb q.symm))
 refine ⟨by rw [udsC_append,List.length_append];show Own w3 B _ 4 A3 (M.length+1) c3 (udsC M++udsC [x]);rw [show udsC [x]=udC x by simp [udsC]];exact o3,fun y hy=>?_,fun y hy=>?_,?_,?_⟩
 ·rcases List.mem_append.1 hy with hy | hy
  ·exact kept udtype_dat ((h.rw y hy).ext e2)
  ·rw [List.mem_singleton] at hy;subst hy;exact (kept udtype_dat orr).mono hB
 ·rcases List.mem_append.1 hy with hy | hy
  ·exact kept udtype_word ((h.ts y hy).ext e2)
  ·rw [List.mem_singleton] at hy;subst hy;exact (kept udtype_word ot).mono hB
 ·refine List.pairwise_append.2 ⟨h.ra,List.pairwise_singleton _ _,fun y hy z hz k h1 h2=>?_⟩
  rw [List.mem_singleton] at hz
  subst hz
  have:=((h.rw y hy).lt k h1).2
  have:=(orr.lt k h2).1
  omega
 ·refine List.pairwise_append.2 ⟨h.ta,List.pairwise_singleton _ _,fun y hy z hz k h1 h2=>?_⟩
  rw [List.mem_singleton] at hz
  subst hz
  have:=((h.ts y hy).lt k h1).2
  have:=(ot.lt k h2).1
  omega
/-- the last one's difference is stored -/
theorem Uout.bump {g:Nat} {y:Ud} (h:Uout w B (some ⟨g,0,none⟩) c (M++[y])) (s:Int):Uout (w.setCell ⟨g,M.length * 4+3,none⟩ (.int .i64 s)) B (some ⟨g,0,none⟩) c (M++[⟨y.A,y.c,y.l,y.t,s⟩]):=by
 have hc:0<c:=by have:=h.own.le.1;rw [List.length_append] at this;exact Nat.lt_of_lt_of_le (by simp) this
 obtain ⟨c,rfl⟩ : ∃ k,c=k+1:=⟨c - 1,by omega⟩
 have far : ∀ {k0 s':Nat} {e:TypeId} {A':Option Addr} {n' c':Nat} {xs:List Value},e≠95→Own w k0 e s' A' n' c' xs→Own (w.setCell ⟨g,M.length * 4+3,none⟩ (.int .i64 s)) k0 e s' A' n' c' xs:=fun he o=>o.far (p:=⟨g,M.length * 4+3,none⟩) (fun q=>own_types o h.own he q rfl) _
 have pick : ∀ z∈M++[(⟨y.A,y.c,y.l,y.t,s⟩:Ud)], ∃ x∈M++[y],x.A=z.A∧x.c=z.c∧x.l=z.l∧x.t=z.t:=fun z hz=>by
  rcases List.mem_append.1 hz with hz | hz
  ·exact ⟨z,List.mem_append_left _ hz,rfl,rfl,rfl,rfl⟩
  ·rw [List.mem_singleton] at hz;subst hz;exact ⟨y,by simp,rfl,rfl,rfl,rfl⟩
 refine ⟨?_,fun z hz=>?_,fun z hz=>?_,?_,?_⟩
 ·have:=h.own.put (M.length * 4+3) (.int .i64 s)
  have e:(udsC (M++[y])).set (M.length * 4+3) (.int .i64 s)=udsC (M++[(⟨y.A,y.c,y.l,y.t,s⟩:Ud)]):=by
   rw [udsC_append,udsC_append,List.set_append_right _ _ (by rw [udsC_len];omega),udsC_len,Nat.add_sub_cancel_left]
   rfl
  rw [e] at this
  rw [List.length_append] at this ⊢
  exact this
 ·obtain ⟨x,hx,e1,e2,e3,e4⟩:=pick z hz
  have:=far udtype_dat (h.rw x hx)
  rwa [e1,e2,e3] at this
 ·obtain ⟨x,hx,e1,e2,e3,e4⟩:=pick z hz
  have:=far udtype_word (h.ts x hx)
  rwa [e4] at this
 ·have:=List.pairwise_append.1 h.ra
  exact List.pairwise_append.2 ⟨this.1,List.pairwise_singleton _ _,fun a ha b hb=>by rw [List.mem_singleton] at hb;subst hb;exact this.2.2 a ha y (by simp)⟩
 ·have:=List.pairwise_append.1 h.ta
  exact List.pairwise_append.2 ⟨this.1,List.pairwise_singleton _ _,fun a ha b hb=>by rw [List.mem_singleton] at hb;subst hb;exact this.2.2 a ha y (by simp)⟩
/-- some have been deleted -/
theorem Uout.del {g:Nat} (h:Uout w B (some ⟨g,0,none⟩) c M) (p:Ud→Bool) (ar:UdS.Arr w' B g c (M.filter p)) (up:w.grownBy w' (some g)):Uout w' B (some ⟨g,0,none⟩) c (M.filter p):=by
 have hc:=ar.2
 obtain ⟨c,rfl⟩ : ∃ k,c=k+1:=⟨c - 1,by omega⟩
 have kept : ∀ {k0 s:Nat} {e:TypeId} {A':Option Addr} {n' c':Nat} {xs:List Value},e≠95→Own w k0 e s A' n' c' xs→Own w' k0 e s A' n' c' xs:=fun {k0 s e A' n' c' xs} he o=>o.kept up (by
  cases hb:blk A' c' with
  | none=>exact .inl rfl
  | some k=>exact .inr (fun q=>own_types o h.own he hb (by rw [q];rfl)))
 exact ⟨ar.1,fun x hx=>kept udtype_dat (h.rw x (List.mem_filter.1 hx).1),fun x hx=>kept udtype_word (h.ts x (List.mem_filter.1 hx).1),h.ra.sublist List.filter_sublist,h.ta.sublist List.filter_sublist⟩
end
open Go.RowKit
set_option maxRecDepth 100000 in
set_option maxHeartbeats 1000000 in
theorem sum1_any (A1 A2:Option Addr) (c1 c2 n1 n2:Nat) (k1 k2 v:Int) (l m:List Dat) (w:World) (hv:Hid (cmpR l m=v)) (e1:Hid (n1=l.length)) (e2:Hid (n2=m.length)) (h1:Hid (Rw w A1 c1 l)) (h2:Hid (Rw w A2 c2 m)) :
  Calls Tryz.prog 188 #[.agg #[.slice A1 n1 c1, .int .i64 k1], .agg #[.slice A2 n2 c2, .int .i64 k2]] w fun e w'=>e = .returned (.int .i64 v)∧Ext w w':=by
 have X:Ext w ((w.alloc (.cells #[.slice A1 n1 c1, .int .i64 k1] 154)).alloc (.cells #[.slice A2 n2 c2, .int .i64 k2] 154)):=((Ext.refl w).alloc _).alloc _
 have b0:Bk ((w.alloc (.cells #[.slice A1 n1 c1, .int .i64 k1] 154)).alloc (.cells #[.slice A2 n2 c2, .int .i64 k2] 154)) w.heap.size 154 #[.slice A1 n1 c1, .int .i64 k1]:=(Bk.new _ _ _).alloc _
 have p0:=b0.cell 0
 go_enter Tryz.func188,Tryz.ntmps188
 go_wp2_with (go_at_call 164;refine (rowCmp_any A1 A2 c1 c2 n1 n2 l m _ e1.out e2.out (h1.out.ext X) (h2.out.ext X)).mono ?_;rintro e w1 ⟨rfl,x1⟩)
 go_ret
 exact ⟨(by rw [hv.out];rfl),X.trans x1⟩
/-- what stands at the end of the first of two lists -/
theorem getD_mid (P:List Ct) (x:Ct) (Q:List Ct):(P++x :: Q).getD P.length Ct.zero=x:=by
 rw [List.getD_eq_getElem?_getD,List.getElem?_append_right (Nat.le_refl _),Nat.sub_self]
 rfl
theorem set_mid (P:List Ct) (x y:Ct) (Q:List Ct):(P++x :: Q).set P.length y=P++y :: Q:=by
 rw [List.set_append_right _ _ (Nat.le_refl _),Nat.sub_self]
 rfl
/-- the list that is being sorted: P, the sorted part up to its last place, the one that is being put in, the rest -/
theorem Arr.two {w:World} {B g c q:Nat} {P s2 Q:List Ct} {x y:Ct} (h:Arr w B g c (P++y :: x :: Q)) (hq:q=P.length) :
  (w.cell? ⟨g,q * 2,none⟩=some (.slice y.A y.l.length y.c)∧w.cell? ⟨g,q * 2+1,none⟩=some (.int .i64 y.k))∧w.cell? ⟨g,(q+1) * 2,none⟩=some (.slice x.A x.l.length x.c)∧w.cell? ⟨g,(q+1) * 2+1,none⟩=some (.int .i64 x.k):=by
 subst hq
 have h1:=h.at (i:=P.length) (by simp)
 have h2:=h.at (i:=P.length+1) (by simp)
 rw [getD_mid] at h1
 have e:(P++y :: x :: Q).getD (P.length+1) Ct.zero=x:=by
  have:=getD_mid (P++[y]) x Q
  rwa [List.append_assoc,List.length_append] at this
 rw [e] at h2
 exact ⟨h1,h2⟩
theorem Arr.swap {w:World} {B g c q:Nat} {P Q:List Ct} {x y:Ct} (h:Arr w B g c (P++y :: x :: Q)) (hq:q=P.length) :
  Arr ((((w.setCell ⟨g,(q+1) * 2,none⟩ (.slice y.A y.l.length y.c)).setCell ⟨g,(q+1) * 2+1,none⟩ (.int .i64 y.k)).setCell ⟨g,q * 2,none⟩ (.slice x.A x.l.length x.c)).setCell ⟨g,q * 2+1,none⟩ (.int .i64 x.k)) B g c (P++x :: y :: Q):=by
 subst hq
 have h1:=(h.set (P.length+1) y).set P.length x
 have e:((P++y :: x :: Q).set (P.length+1) y).set P.length x=P++x :: y :: Q:=by
  have e1:(P++y :: x :: Q).set (P.length+1) y=P++y :: y :: Q:=by
   have:=set_mid (P++[y]) x y Q
   rwa [List.append_assoc,List.length_append,List.append_assoc] at this
  rw [e1,set_mid]
 rwa [e] at h1
theorem upd_swap (w:World) (g a b c d:Nat) (u1 u2 u3 u4:Value):w.grownBy ((((w.setCell ⟨g,a,none⟩ u1).setCell ⟨g,b,none⟩ u2).setCell ⟨g,c,none⟩ u3).setCell ⟨g,d,none⟩ u4) (some g) :=
 (((upd_set w g a u1).trans (upd_set _ g b u2)).trans (upd_set _ g c u3)).trans (upd_set _ g d u4)
/-- the inner loop's relation -/
def InsIn (B g c a:Nat) (P S T Q D':List Ct) (x:Ct) (w wi:World) (j:Nat) (s1 s2:List Ct):Prop :=
 j=a+s1.length∧D'=s1++s2∧(∀ y∈s2,cmpC x y<0)∧Arr wi B g c (P++(s1++x :: (s2++(T++Q))))∧w.grownBy wi (some g)∧Rws wi g (x :: S)
/-- the outer loop's relation -/
def InsOut (B g c a:Nat) (P S Q:List Ct) (w wo:World) (i:Nat) (D D' T:List Ct):Prop :=
 S=D++T∧i=a+D.length∧Stable cmpC D D'∧Arr wo B g c (P++(D'++(T++Q)))∧w.grownBy wo (some g)∧Rws wo g S
theorem stable_len {L M:List Ct} (h:Stable cmpC L M):M.length=L.length:=by
 have key : ∀ (n:Nat) (L M:List Ct),L.length≤n→Stable cmpC L M→M.length=L.length:=by
  intro n
  induction n with
  | zero =>
   intro L M hn h
   have:L=[]:=List.eq_nil_of_length_eq_zero (by omega)
   subst this
   cases M with
   | nil=>rfl
   | cons y M=>exact absurd ((h.mem cmpC_tot y).1 (List.mem_cons_self ..)) List.not_mem_nil
  | succ n ih =>
   intro L M hn h
   cases M with
   | nil =>
    cases L with
    | nil=>rfl
    | cons y L=>exact absurd ((h.mem cmpC_tot y).2 (List.mem_cons_self ..)) List.not_mem_nil
   | cons y M =>
    have hy:=(h.mem cmpC_tot y).1 (List.mem_cons_self ..)
    have p1 : ∀ K:List Ct,(alike cmpC y K).length+(K.filter fun z => !(cmpC y z==0)).length=K.length:=fun K=>by
     unfold alike
     rw [← List.length_append]
     exact (List.filter_append_perm (fun z=>cmpC y z==0) K).length_eq
    have h1:=p1 L
    have h2:=p1 (y :: M)
    have h3:(alike cmpC y L).length=(alike cmpC y (y :: M)).length:=by rw [h.same y]
    have h4:0<(alike cmpC y L).length:=List.length_pos_of_mem (List.mem_filter.2 ⟨hy,by rw [beq_iff_eq];exact cmpC_tot.refl y⟩)
    have h5:=ih (L.filter fun z => !(cmpC y z==0)) ((y :: M).filter fun z => !(cmpC y z==0)) (by omega) ⟨h.sorted.filter _,fun z=>by
     have q:=h.same z
     unfold alike at q ⊢
     rw [List.filter_filter,List.filter_filter]
     have e : ∀ K:List Ct,K.filter (fun a=>(cmpC z a==0) && !(cmpC y a==0))=(K.filter (fun a=>cmpC z a==0)).filter (fun a => !(cmpC y a==0)):=fun K=>by
      rw [List.filter_filter]
      congr 1
      funext a
      rw [Bool.and_comm]
     rw [e,e,q]⟩
    omega
 exact key L.length L M (Nat.le_refl _) h
open Go.RowKit
def nzC (x:Ct):Bool := !(x.k==0)
set_option maxRecDepth 100000 in
set_option maxHeartbeats 400000 in
theorem sum2_any (A:Option Addr) (c n:Nat) (k:Int) (v:Bool) (w:World) (hv:Hid ((k==0)=v)) :
  Calls Tryz.prog 190 #[.agg #[.slice A n c, .int .i64 k]] w fun e w'=>e = .returned (.bool v)∧Ext w w':=by
 rw [← hv.out]
 clear hv
 go_enter Tryz.func190,Tryz.ntmps190
 go_wp2
 go_ret
 exact ⟨rfl,(Ext.refl w).alloc _⟩
set_option maxRecDepth 100000 in
set_option maxHeartbeats 2000000 in
theorem index_none (B g c n:Nat) (M:List Ct) (w:World) (hn:n=M.length) (h:Arr w B g c M) (hz : ∀ x∈M,(x.k==0)=false) :
  Calls Tryz.prog 226 #[.slice (some ⟨g,0,none⟩) n c, .func (.func 190) #[] #[]] w fun e w'=>e = .returned (.int .i64 (-1))∧Ext w w':=by
 have hnm:=h.le
 rw [← hn] at hnm
 have H:=Lib.hid h
 have HN:=Lib.hid hn
 have HZ:=Lib.hid hz
 clear h hn hz
 go_enter Tryz.func226,Tryz.ntmps226
 go_wp2
 go_loopw [8] (fun v wr => ∃ i:Nat,i≤n∧v = .int .i64 i∧Ext w wr) (fun v _=>n - (intOf v).toNat)
 case atStart=>exact ⟨0,Nat.zero_le _,rfl,Ext.refl _⟩
 case round =>
  obtain ⟨i,hi,rfl,er⟩:=hrel
  by_cases hlt:i<n
  ·have hil:i<M.length:=by rw [← HN.out];exact hlt
   obtain ⟨p0,p1⟩:=(H.out.ext er).at hil
   have hk:((M.getD i Ct.zero).k==0)=false:=by
    rw [List.getD_eq_getElem?_getD,List.getElem?_eq_getElem hil]
    exact HZ.out _ (List.getElem_mem hil)
   obtain ⟨x,hx⟩ : ∃ x,M.getD i Ct.zero=x:=⟨_,rfl⟩
   rw [hx] at p0 p1 hk
   have HK:=Lib.hid hk
   clear hil hx hk
   go_wp2_with (go_at_call 190;refine (sum2_any _ _ _ _ _ _ HK).mono ?_;rintro e w1 ⟨rfl,x1⟩)
   go_roundw
   case rel=>exact ⟨i+1,by omega,by go_num,er.trans x1⟩
   case measure=>simp [intOf];omega
  ·go_wp2
   go_ret
   exact ⟨rfl,er⟩
set_option maxRecDepth 100000 in
set_option maxHeartbeats 2000000 in
theorem index_some (B g c n q:Nat) (P Q:List Ct) (x:Ct) (w:World) (hn:n=(P++x :: Q).length) (hq:q=P.length) (h:Arr w B g c (P++x :: Q)) (hz : ∀ x∈P,(x.k==0)=false) (hx:(x.k==0)=true) :
  Calls Tryz.prog 226 #[.slice (some ⟨g,0,none⟩) n c, .func (.func 190) #[] #[]] w fun e w'=>e = .returned (.int .i64 q)∧Ext w w':=by
 have hnm:=h.le
 rw [← hn] at hnm
 have hqn:q<n:=by rw [hn,List.length_append,List.length_cons];omega
 have H:=Lib.hid h
 have HQ:=Lib.hid hq
 have HZ:=Lib.hid hz
 have HX:=Lib.hid hx
 clear h hn hz hq hx
 go_enter Tryz.func226,Tryz.ntmps226
 go_wp2
 go_loopw [8] (fun v wr => ∃ i:Nat,i≤q∧v = .int .i64 i∧Ext w wr) (fun v _=>n - (intOf v).toNat)
 case atStart=>exact ⟨0,Nat.zero_le _,rfl,Ext.refl _⟩
 case round =>
  obtain ⟨i,hi,rfl,er⟩:=hrel
  have hlt:i<n:=by omega
  have hil:i<(P++x :: Q).length:=by rw [List.length_append,List.length_cons, ← HQ.out];omega
  obtain ⟨p0,p1⟩:=(H.out.ext er).at hil
  by_cases hiq:i<q
  ·have hk:(((P++x :: Q).getD i Ct.zero).k==0)=false:=by
    have hp:i<P.length:=by rw [← HQ.out];exact hiq
    rw [List.getD_eq_getElem?_getD,List.getElem?_append_left hp,List.getElem?_eq_getElem hp]
    exact HZ.out _ (List.getElem_mem hp)
   obtain ⟨y,hy⟩ : ∃ y,(P++x :: Q).getD i Ct.zero=y:=⟨_,rfl⟩
   rw [hy] at p0 p1 hk
   have HK:=Lib.hid hk
   clear hil hy hk
   go_wp2_with (go_at_call 190;refine (sum2_any _ _ _ _ _ _ HK).mono ?_;rintro e w1 ⟨rfl,x1⟩)
   go_roundw
   case rel=>exact ⟨i+1,by omega,by go_num,er.trans x1⟩
   case measure=>simp [intOf];omega
  ·have hiq2:i=q:=by omega
   subst hiq2
   have e:(P++x :: Q).getD i Ct.zero=x:=by rw [HQ.out];exact getD_mid P x Q
   rw [e] at p0 p1
   clear hil e
   go_wp2_with (go_at_call 190;refine (sum2_any _ _ _ _ _ _ HX).mono ?_;rintro e w1 ⟨rfl,x1⟩)
   go_ret
   exact ⟨rfl,er.trans x1⟩
theorem own_set_past {w:World} {B g n c k:Nat} {xs:List Value} (h:Own w B 154 2 (some ⟨g,0,none⟩) n c xs) (hk:xs.length≤k) (u:Value):Own (w.setCell ⟨g,k,none⟩ u) B 154 2 (some ⟨g,0,none⟩) n c xs:=by
 have:=h.put k u
 rwa [List.set_eq_of_length_le hk] at this
theorem own_sets_past {B g n c:Nat} {xs:List Value} : ∀ (vs:List Value) (w:World) (k:Nat),Own w B 154 2 (some ⟨g,0,none⟩) n c xs→xs.length≤k→Own (w.setCells g k vs) B 154 2 (some ⟨g,0,none⟩) n c xs
 | [],_,_,h,_=>h
 | v :: vs,w,k,h,hk=>own_sets_past vs _ (k+1) (own_set_past h hk v) (by omega)
theorem upd_sets (g:Nat) : ∀ (vs:List Value) (w:World) (k:Nat),w.grownBy (w.setCells g k vs) (some g)
 | [],w,_=>World.grownBy.refl w _
 | v :: vs,w,k=>(upd_set w g k v).trans (upd_sets g vs _ (k+1))
theorem Arr.prefix_ {w:World} {B g c:Nat} {K X:List Ct} (h:Arr w B g c (K++X)):Arr w B g c K:=by
 refine ⟨⟨ctsC_len K,?_⟩,h.2⟩
 rcases h.1.2 with ⟨h1,h2⟩ | ⟨g',cur,e,hb,hg,hnc,hcm,hcs,htake⟩
 ·exact .inl ⟨h1,by rw [List.length_append] at h2;omega⟩
 ·refine .inr ⟨g',cur,e,hb,hg,by rw [List.length_append] at hnc;omega,hcm,hcs,?_⟩
  have:(cur.toList.take ((K++X).length * 2)).take (K.length * 2)=(ctsC (K++X)).take (K.length * 2):=by rw [htake]
  rw [List.take_take,Nat.min_eq_left (by rw [List.length_append];omega),ctsC_append] at this
  rw [this, ← ctsC_len K,List.take_left]
theorem Arr.cells_past {w:World} {B g c:Nat} {K:List Ct} (h:Arr w B g c K) {j:Nat} (hj:j<c * 2):(w.cell? ⟨g,j,none⟩).isSome=true:=by
 rcases h.1.2 with ⟨h1,_⟩ | ⟨g',cur,e,hb,hg,hnc,hcm,hcs,htake⟩
 ·have:=h.2;omega
 ·cases e
  rw [cell_of_row w g j cur _ (0,0) hg,Array.getElem?_eq_getElem (Nat.lt_of_lt_of_le hj hcs)]
  rfl
theorem run_clear2 {P:Program} (w:World) (t e ty:TypeId) (z0 z1:Value) (ht:P.underlying t=some (.slice e)) (hv : ∀ w,(zeroValue e).run P w = .ok (.agg #[z0,z1]) w) (hz0:z0.oneCell'=true) (hz1:z1.oneCell'=true) (hzc:(Value.agg #[z0,z1]).cells = #[z0,z1]) (b o n c:Nat) (hn:0<n)
  (hc : ∀ j,j<n * 2→(w.cell? ⟨b,o+j,none⟩).isSome=true) (hf : ∀ j,j<n * 2→w.frozen? ⟨b,o+j,none⟩=false) :
  (Builtin.clear_ #[t] ty #[.slice (some ⟨b,o,none⟩) n c]).run P w = .ok (.tuple #[]) (w.setCells b o (Builtin.zeroCells #[z0,z1] n).toList):=by
 have hlen:(Builtin.zeroCells #[z0,z1] n).toList.length=n * 2:=by
  have:=size_zeroCells #[z0,z1] n
  rw [Array.length_toList,this]
  rfl
 have hall : ∀ v∈(Builtin.zeroCells #[z0,z1] n).toList,v.oneCell'=true:=by
  intro v hv'
  unfold Builtin.zeroCells at hv'
  rw [Array.toList_map] at hv'
  obtain ⟨i,_,rfl⟩:=List.mem_map.1 hv'
  show (#[z0,z1][i % 2]!).oneCell'=true
  rcases (by omega:i % 2=0∨i % 2=1) with h | h
  ·rw [h];exact hz0
  ·rw [h];exact hz1
 have hst:=run_storeCells_cells (P:=P) b o (Builtin.zeroCells #[z0,z1] n).toList 0 w (by simpa [hlen] using hc) (by simpa [hlen] using hf) hall
 simp only [Nat.add_zero] at hst
 obtain ⟨m,rfl⟩ : ∃ m,n=m+1:=⟨n - 1,by omega⟩
 simp [Builtin.clear_,run_underlying ht,hv,hzc,hst]
open Go.RowKit
/-- what is left behind: those that are some -/
def Deleted (B g c:Nat) (M:List Ct) (w:World) (e:Ending) (w':World):Prop := ∃ m,e = .returned (.slice (some ⟨g,0,none⟩) m c)∧m=(M.filter nzC).length∧Arr w' B g c (M.filter nzC)∧w.grownBy w' (some g)
theorem zero_ct (w:World):(zeroValue 154).run Tryz.prog w = .ok (.agg #[.slice none 0 0, .int .i64 0]) w:=by kernel_rfl
/-- so far: K is kept, X is to be thrown away, R is to come -/
def DelIn (B g c:Nat) (M K X R:List Ct) (w wr:World) (j:Nat):Prop:=j=K.length+X.length∧M.filter nzC=K++R.filter nzC∧Arr wr B g c (K++(X++R))∧w.grownBy wr (some g)∧0<X.length
theorem DelIn.mk' {B g c:Nat} {M K X R:List Ct} {w wr wz:World} {j:Nat} (h:DelIn B g c M K X R w wr j) (hz:Ext wr wz):DelIn B g c M K X R w wz j:=⟨h.1,h.2.1,h.2.2.1.ext hz,h.2.2.2.1.trans (upd_ext hz g),h.2.2.2.2⟩
theorem DelIn.skip {B g c:Nat} {M K X R:List Ct} {x:Ct} {w wr wz:World} {j:Nat} (h:DelIn B g c M K X (x :: R) w wr j) (hx:nzC x=false) (hz:Ext wr wz):DelIn B g c M K (X++[x]) R w wz (j+1):=by
 obtain ⟨h1,h2,h3,h4,h5⟩:=h
 refine ⟨by rw [List.length_append,List.length_singleton];omega,by rw [h2,List.filter_cons_of_neg (by simp [hx])],?_,h4.trans (upd_ext hz g),by rw [List.length_append];omega⟩
 have e:K++(X++[x]++R)=K++(X++x :: R):=by simp
 rw [e]
 exact h3.ext hz
theorem DelIn.keep {B g c i:Nat} {M K X R:List Ct} {x y:Ct} {w wr:World} {j:Nat} (h:DelIn B g c M K (y :: X) (x :: R) w wr j) (hx:nzC x=true) (hi:i=K.length) {n:Nat} (hn:n=x.l.length) :
  DelIn B g c M (K++[x]) (X++[x]) R w ((wr.setCell ⟨g,i * 2,none⟩ (.slice x.A n x.c)).setCell ⟨g,i * 2+1,none⟩ (.int .i64 x.k)) (j+1):=by
 subst hi hn
 obtain ⟨h1,h2,h3,h4,h5⟩:=h
 refine ⟨by simp only [List.length_append,List.length_cons,List.length_nil] at h1 ⊢;omega,by rw [h2,List.filter_cons_of_pos hx];simp,?_,h4.trans ((upd_set wr g _ _).trans (upd_set _ g _ _)),by rw [List.length_append,List.length_singleton];omega⟩
 have h6:=h3.set K.length x
 have e:(K++(y :: X++x :: R)).set K.length x=K++[x]++(X++[x]++R):=by
  rw [List.cons_append,set_mid]
  simp
 rw [e] at h6
 exact h6
set_option maxRecDepth 100000 in
set_option maxHeartbeats 4000000 in
theorem deleteFunc_any (B g c n:Nat) (M:List Ct) (w:World) (hn:n=M.length) (h:Arr w B g c M) :
  Calls Tryz.prog 189 #[.slice (some ⟨g,0,none⟩) n c, .func (.func 190) #[] #[]] w (Deleted B g c M w):=by
 by_cases hall : ∀ x∈M,(x.k==0)=false
 ·have hf:M.filter nzC=M:=List.filter_eq_self.2 fun x hx=>by unfold nzC;rw [hall x hx];rfl
  have H:=Lib.hid h
  have HN:=Lib.hid hn
  have HF:=Lib.hid hf
  clear h hn hf
  go_enter Tryz.func189,Tryz.ntmps189
  go_wp2_with (go_at_call 226;refine (index_none B g c n M _ HN.out H.out hall).mono ?_;rintro e w1 ⟨rfl,x1⟩)
  go_ret
  exact ⟨n,rfl,by rw [HF.out];exact HN.out,by rw [HF.out];exact H.out.ext x1,upd_ext x1 g⟩
 ·obtain ⟨P,x,Q,rfl,hP,hx⟩ : ∃ P x Q,M=P++x :: Q∧(∀ y∈P,(y.k==0)=false)∧(x.k==0)=true:=by
   clear h hn
   induction M with
   | nil=>exact absurd (fun x hx=>(nomatch hx)) hall
   | cons y M ih =>
    by_cases hy:(y.k==0)=true
    ·exact ⟨[],y,M,rfl,fun z hz=>(nomatch hz),hy⟩
    ·have hy':(y.k==0)=false:=by simpa using hy
     obtain ⟨P,x,Q,e,h1,h2⟩:=ih (fun q=>hall fun z hz=>(List.mem_cons.1 hz).elim (fun e=>e ▸ hy') (q z))
     exact ⟨y :: P,x,Q,by rw [e];rfl,fun z hz=>(List.mem_cons.1 hz).elim (fun e=>e ▸ hy') (h1 z),h2⟩
  clear hall
  obtain ⟨M,hM⟩ : ∃ M,M=P++x :: Q:=⟨_,rfl⟩
  obtain ⟨q,hq⟩ : ∃ q,q=P.length:=⟨_,rfl⟩
  have hnm:=h.le
  rw [← hn] at hnm
  have hqn:q<n:=by rw [hn,hq,List.length_append,List.length_cons];omega
  have hncap:n≤c:=by rw [hn];exact h.1.le.1
  have hc63:c≤9223372036854775807:=h.1.le.2
  have hf1:P.filter nzC=P:=List.filter_eq_self.2 fun y hy=>by unfold nzC;rw [hP y hy];rfl
  have H:=Lib.hid h
  have HN:=Lib.hid hn
  have HQ:=Lib.hid hq
  have HP:=Lib.hid hP
  have HX:=Lib.hid hx
  have HLen:Hid (n=q+1+Q.length):=Lib.hid (by rw [hn,hq,List.length_append,List.length_cons];omega)
  have HD : ∀ w1,Ext w w1→Hid (DelIn B g c M P [x] Q w w1 (q+1)):=fun w1 x1=>Lib.hid ⟨by rw [hq];rfl,by rw [hM,List.filter_append,hf1,List.filter_cons_of_neg (by unfold nzC;rw [hx];decide)],h.ext x1,upd_ext x1 g,Nat.zero_lt_one⟩
  have HDD:=Lib.hid HD
  rw [← hM]
  clear h hn hq hP hx hf1 hM HD
  go_enter Tryz.func189,Tryz.ntmps189
  go_wp2_with (go_at_call 226;refine (index_some B g c n q P Q x _ HN.out HQ.out H.out HP.out HX.out).mono ?_;rintro e w1 ⟨rfl,x1⟩)
  go_loopg [5,6] (n - (q+1)) (fun z u v wr => ∃ (i j:Nat) (K X R:List Ct),z=n - j∧j≤n∧i≤j∧u = .int .i64 i∧v = .int .i64 j∧Hid (i=K.length∧n=j+R.length)∧Hid (DelIn B g c M K X R w wr j))
  case atStart=>exact ⟨q,q+1,P,[x],Q,rfl,by omega,by omega,rfl,by simp,Lib.hid ⟨HQ.out,HLen.out⟩,HDD.out w1 x1⟩
  case round =>
   obtain ⟨i,j,K,X,R,rfl,hj,hij,rfl,rfl,HI,HJ⟩:=hrel
   obtain ⟨wi,hwi⟩ : ∃ wi:World,wi=wr:=⟨_,rfl⟩
   rw [← hwi] at HJ ⊢
   clear hwi
   by_cases hlt:j<n
   ·obtain ⟨y,R,rfl⟩ : ∃ y R',R=y :: R':=by
     cases R with
     | nil=>have:=HI.out.2;rw [List.length_nil] at this;omega
     | cons y R=>exact ⟨y,R,rfl⟩
    obtain ⟨x0,X,rfl⟩ : ∃ x0 X',X=x0 :: X':=by
     cases X with
     | nil=>have:=HJ.out.2.2.2.2;exact absurd this (by decide)
     | cons x0 X=>exact ⟨x0,X,rfl⟩
    have hA:=HJ.out.2.2.1
    have hjl:j<(K++(x0 :: X++y :: R)).length:=by have:=HJ.out.1;simp only [List.length_append,List.length_cons] at this ⊢;omega
    obtain ⟨p0,p1⟩:=hA.at hjl
    have e:(K++(x0 :: X++y :: R)).getD j Ct.zero=y:=by
     rw [← List.append_assoc,show j=(K++x0 :: X).length by rw [List.length_append];exact HJ.out.1]
     exact getD_mid _ y R
    rw [e] at p0 p1
    have f0:=hA.free (i * 2)
    have f1:=hA.free (i * 2+1)
    have c0 : ∃ u,wi.cell? ⟨g,i * 2,none⟩=some u:=Option.isSome_iff_exists.1 (hA.cells_past (by omega))
    have c1 : ∃ u,wi.cell? ⟨g,i * 2+1,none⟩=some u:=Option.isSome_iff_exists.1 (hA.cells_past (by omega))
    obtain ⟨u0,c0⟩:=c0
    obtain ⟨u1,c1⟩:=c1
    have HA:=Lib.hid hA
    obtain ⟨ny,hny⟩ : ∃ ny,ny=y.l.length:=⟨_,rfl⟩
    rw [← hny] at p0
    have HNY:=Lib.hid hny
    obtain ⟨v,hv⟩ : ∃ v,(y.k==0)=v:=⟨_,rfl⟩
    have HV:=Lib.hid hv
    clear hA hjl e hny hv
    cases v
    ·have hx:Hid (nzC y=true):=Lib.hid (by unfold nzC;rw [HV.out];rfl)
     go_wp2_with (go_at_call 190;refine (sum2_any _ _ _ _ _ _ HV).mono ?_;rintro e w2 ⟨rfl,x2⟩;have X2:=((Ext.refl wi).alloc (.cells #[.slice y.A ny y.c, .int .i64 y.k] 154)).trans x2;have B2:=(Bk.new wi 154 #[.slice y.A ny y.c, .int .i64 y.k]).ext x2;have b0:=B2.cell 0;have b1:=B2.cell 1;have HA2:=Lib.hid (HA.out.ext X2);have g0:=HA2.out.free (i * 2);have g1:=HA2.out.free (i * 2+1);have d0:=X2.cell c0;have d1:=X2.cell c1)
     go_roundg (n - (j+1))
     case measure=>omega
     case rel=>exact ⟨i+1,j+1,K++[y],X++[y],R,rfl,by omega,by omega,by go_num,by go_num,Lib.hid ⟨by rw [List.length_append,List.length_singleton, ← HI.out.1],by have:=HI.out.2;rw [List.length_cons] at this;omega⟩,Lib.hid ((DelIn.mk' HJ.out X2).keep hx.out HI.out.1 HNY.out)⟩
    ·have hx:Hid (nzC y=false):=Lib.hid (by unfold nzC;rw [HV.out];rfl)
     go_wp2_with (go_at_call 190;refine (sum2_any _ _ _ _ _ _ HV).mono ?_;rintro e w2 ⟨rfl,x2⟩;have X2:=((Ext.refl wi).alloc (.cells #[.slice y.A ny y.c, .int .i64 y.k] 154)).trans x2)
     go_roundg (n - (j+1))
     case measure=>omega
     case rel=>exact ⟨i,j+1,K,x0 :: X++[y],R,rfl,by omega,by omega,rfl,by go_num,Lib.hid ⟨HI.out.1,by have:=HI.out.2;rw [List.length_cons] at this;omega⟩,Lib.hid (HJ.out.skip hx.out X2)⟩
   ·obtain rfl:j=n:=by omega
    have hR:R=[]:=List.eq_nil_of_length_eq_zero (by have:=HI.out.2;omega)
    subst hR
    have hA:=HJ.out.2.2.1
    have hin:i<j:=by have h1:=HJ.out.1;have h2:=HI.out.1;have h3:=HJ.out.2.2.2.2;omega
    have hcap:j - i≤c - i:=by omega
    have hci : ¬ (c=i):=by omega
    have hcl : ∃ vs, ∀ ty,(Builtin.clear_ #[31] ty #[.slice (some ⟨g,i * 2,none⟩) (j - i) (c - i)]).run Tryz.prog wi = .ok (.tuple #[]) (wi.setCells g (i * 2) vs) :=
     ⟨_,fun ty=>(run_clear2 (P:=Tryz.prog) wi 31 154 ty (.slice none 0 0) (.int .i64 0) Tryz.underlying31 zero_ct rfl rfl rfl g (i * 2) (j - i) (c - i) (by omega) (fun t ht=>hA.cells_past (by omega)) (fun t ht=>hA.free _))⟩
    obtain ⟨vs,hcl⟩:=hcl
    have HA:=Lib.hid hA
    have HF:Hid (M.filter nzC=K):=Lib.hid (by have:=HJ.out.2.1;rwa [List.filter_nil,List.append_nil] at this)
    have HG:=Lib.hid HJ.out.2.2.2.1
    have HK:=Lib.hid HI.out.1
    clear hA HJ HI
    go_wp2
    go_ret
    refine ⟨i,rfl,by rw [HF.out];exact HK.out,?_,HG.out.trans (upd_sets g vs wi _)⟩
    rw [HF.out]
    have hp:=HA.out.prefix_
    exact ⟨own_sets_past vs wi _ hp.1 (by rw [ctsC_len,HK.out];exact Nat.le_refl _),hp.2⟩
open Go.RowKit
theorem elem_dat:Elem Tryz.prog 79 204 4 32 (.agg #[.int .u8 0, .bool false, .int .i64 0, .string ⟨#[]⟩]):=⟨by kernel_rfl,by kernel_rfl,rfl,by decide⟩
/-- a row that a call has made, in blocks from B on -/
def RowOut (B n:Nat) (l:List Dat) (e:Ending) (w':World):Prop := ∃ A c,e = .returned (.slice A n c)∧Own w' B 204 4 A n c (rowC l)∧(∀ ad,A=some ad→B≤ad.block∧ad.block<w'.heap.size)
theorem blk_some {A:Option Addr} {c g:Nat} (h:blk A c=some g) : ∃ ad,A=some ad∧ad.block=g:=by
 cases A with
 | none=>cases c<;>exact nomatch h
 | some ad =>
  cases c with
  | zero=>exact nomatch h
  | succ c=>exact ⟨ad,rfl,by injection h⟩
set_option maxRecDepth 100000 in
set_option maxHeartbeats 1000000 in
theorem cloneRow_any (A:Option Addr) (c n:Nat) (l:List Dat) (w:World) (hn:n=l.length) (h:Rw w A c l) (hs:n≤1000000000) :
  Calls Tryz.prog 183 #[.slice A n c] w fun e w'=>RowOut w.heap.size n l e w'∧Ext w w':=by
 have hnil:=fun (W:World)=>Lib.run_eql_slice_nil (P:=Tryz.prog) W 79 204 A n c 0 0 Tryz.underlying79
 cases A with
 | none =>
  have hc:c=0:=h.2.2.2.1 rfl
  have hn0:n=0:=by have:=h.2.1;omega
  have hl:l=[]:=List.eq_nil_of_length_eq_zero (by omega)
  subst hc hn0 hl
  clear h hn
  go_enter Tryz.func183,Tryz.ntmps183
  go_wp2
  go_ret
  exact ⟨⟨none,0,rfl,Own.nil _ _ _ _,fun ad e=>nomatch e⟩,Ext.refl w⟩
 | some ad =>
  have HN:=Lib.hid hn
  have hh:Sl w 4 (some ad) n c (rowC l):=by rw [hn];exact h
  have H:=Lib.hid hh
  clear h hn hh
  go_enter Tryz.func183,Tryz.ntmps183
  go_wp2_with (at_builtin;(refine wpList_append_two _ elem_dat w.heap.size _ _ rfl rfl (some ⟨w.heap.size,0,none⟩) 0 0 [] rfl ((Own.empty _ w.heap.size _ 4 _)) (some ad) n c (rowC l) rfl (Sl.ext H.out ((Ext.refl w).alloc _)) (rowC_one l) (by omega) (by decide) (by simp) ?_;intro A' c' w2 o2 g2 h2))
  go_ret
  refine ⟨⟨A',c',by simp,by simpa using o2,fun a e=>?_⟩,((Ext.refl w).alloc _).grown g2 (by simp [blk])⟩
  subst e
  rcases h2 with ⟨e1,e2⟩ | ⟨e1,_⟩
  ·injection e1 with e1
   subst e1
   exact ⟨Nat.le_refl _,Nat.lt_of_lt_of_le (by simp) g2.size⟩
  ·obtain ⟨a2,e2,e3⟩:=blk_some e1
   injection e2 with e2
   have e4:(w.alloc (.cells #[] 204)).heap.size=w.heap.size+1:=by simp
   have e5:=(o2.lt _ e1).2
   rw [e2,e3]
   omega
open Go.RowKit
abbrev V:=List Dat × Int
def cmpV (x y:V):Int:=cmpR x.1 y.1
theorem cmpV_tot:TotPre cmpV:=⟨fun x y=>cmpR_neg x.1 y.1,fun x y z=>cmpR_trans x.1 y.1 z.1⟩
def valC (x:Ct):V:=(x.l,x.k)
def w64 (n:Int):Int:=IntKind.i64.wrap n
theorem w64_add (a b:Int):w64 (w64 a+b)=w64 (a+b):=by
 unfold w64
 simp only [IntKind.wrap_i64]
 omega
theorem w64_id {a:Int} (h : -9223372036854775808≤a∧a≤9223372036854775807):w64 a=a:=IntWalk.i64_in _ (by omega)
theorem w64_in (a:Int) : -9223372036854775808≤w64 a∧w64 a≤9223372036854775807:=by
 unfold w64
 simp only [IntKind.wrap_i64]
 omega
def InN (x:V):Prop := -9223372036854775808≤x.2∧x.2≤9223372036854775807
def cnt (l:List V):Int:=w64 (l.foldr (fun x a=>x.2+a) 0)
theorem cnt_snoc (l:List V) (x:V):cnt (l++[x])=w64 (cnt l+x.2):=by
 unfold cnt
 rw [w64_add]
 congr 1
 induction l with
 | nil=>simp
 | cons y l ih=>simp only [List.cons_append,List.foldr_cons];rw [ih];omega
theorem cnt_one {x:V} (h:InN x):cnt [x]=x.2:=by
 show w64 (x.2+0)=x.2
 rw [Int.add_zero]
 exact w64_id h
def sumClass:List V→List V
 | []=>[]
 | x :: xs=>[(x.1,cnt (x :: xs))]
theorem sumClass_one {x:V} (h:InN x):sumClass [x]=[x]:=by
 show [(x.1,cnt [x])]=[x]
 rw [cnt_one h]
theorem sumClass_nil {l:List V} (h:sumClass l=[]):l=[]:=by
 cases l with
 | nil=>rfl
 | cons x l=>exact nomatch h
theorem sumClass_snoc {l:List V} {y x:V} (h:[y]=sumClass l):sumClass (l++[x])=[(y.1,w64 (y.2+x.2))]:=by
 cases l with
 | nil=>exact nomatch h
 | cons z l =>
  injection h with h _
  subst h
  show [(z.1,cnt ((z :: l)++[x]))]=_
  rw [cnt_snoc]
theorem sumClass_twice (l:List V):sumClass (sumClass l)=sumClass l:=by
 cases l with
 | nil=>rfl
 | cons x l =>
  show [(x.1,w64 (cnt (x :: l)+0))]=[(x.1,cnt (x :: l))]
  rw [Int.add_zero,show w64 (cnt (x :: l))=cnt (x :: l) from w64_id (w64_in _)]
theorem sumClass_mem {l:List V} {y:V} (h:y∈sumClass l):sumClass l=[y]:=by
 cases l with
 | nil=>cases h
 | cons x l =>
  have:y=(x.1,cnt (x :: l)):=by simpa [sumClass] using h
  rw [this]
  rfl
/-- R is D, same rows put together, sorted -/
structure Summed (D R:List V):Prop where
 sorted:R.Pairwise fun x y=>cmpV x y<0
 same : ∀ c,alike cmpV c R=sumClass (alike cmpV c D)
theorem Summed.unique {D R S:List V} (h:Summed D R) (k:Summed D S):R=S :=
 Stable.unique cmpV_tot (l:=R) ⟨h.sorted.imp fun q=>Int.le_of_lt q,fun _=>rfl⟩ ⟨k.sorted.imp fun q=>Int.le_of_lt q,fun c=>by rw [h.same,k.same]⟩
theorem alike_one (c x:V):alike cmpV c [x]=if cmpV c x=0 then [x] else []:=by
 unfold alike
 by_cases h:cmpV c x=0
 ·rw [if_pos h,List.filter_cons_of_pos (by simpa using h)]
  rfl
 ·rw [if_neg h,List.filter_cons_of_neg (by simpa using h)]
  rfl
theorem alike_none {c:V} {l:List V} (h : ∀ y∈l, ¬ cmpV c y=0):alike cmpV c l=[]:=List.filter_eq_nil_iff.2 fun y hy q=>h y hy (by simpa using q)
/-! ### rows that are alike, side by side -/
def mergeStep (M:List V) (x:V):List V:=match M.getLast? with
 | some y=>if cmpV y x=0 then M.dropLast++[(y.1,w64 (y.2+x.2))] else M++[x]
 | none=>[x]
def mergeV (S:List V):List V:=S.foldl mergeStep []
theorem mergeStep_nil (x:V):mergeStep [] x=[x]:=rfl
theorem mergeStep_snoc (M:List V) (y x:V):mergeStep (M++[y]) x=if cmpV y x=0 then M++[(y.1,w64 (y.2+x.2))] else M++[y]++[x]:=by
 unfold mergeStep
 rw [List.getLast?_append,List.getLast?_singleton]
 simp
theorem mergeV_snoc (S:List V) (x:V):mergeV (S++[x])=mergeStep (mergeV S) x:=by
 unfold mergeV
 rw [List.foldl_append]
 rfl
theorem snoc_ind {α:Type} {p:List α→Prop} (h0:p []) (h1 : ∀ l x,p l→p (l++[x])) (l:List α):p l:=by
 have key : ∀ m:List α,p m.reverse:=fun m=>by
  induction m with
  | nil=>exact h0
  | cons x m ih=>rw [List.reverse_cons];exact h1 _ _ ih
 have:=key l.reverse
 rwa [List.reverse_reverse] at this
theorem merge_sum (S:List V):S.Pairwise (fun x y=>cmpV x y≤0)→(∀ x∈S,InN x)→Summed S (mergeV S)∧((S=[]∧mergeV S=[]) ∨ ∃ S0 s M0 y,S=S0++[s]∧mergeV S=M0++[y]∧cmpV y s=0):=by
 refine snoc_ind (p:=fun S=>S.Pairwise (fun x y=>cmpV x y≤0)→(∀ x∈S,InN x)→Summed S (mergeV S)∧((S=[]∧mergeV S=[]) ∨ ∃ S0 s M0 y,S=S0++[s]∧mergeV S=M0++[y]∧cmpV y s=0)) ?_ ?_ S
 ·exact fun _ _=>⟨⟨List.Pairwise.nil,fun _=>rfl⟩, .inl ⟨rfl,rfl⟩⟩
 ·intro S x ih hs hin
  have hs':=List.pairwise_append.1 hs
  have hx:=hin x (by simp)
  obtain ⟨⟨i1,i2⟩,i3⟩:=ih hs'.1 (fun y hy=>hin y (List.mem_append_left _ hy))
  rw [mergeV_snoc]
  rcases i3 with ⟨rfl,i4⟩ | ⟨S0,s,M0,y,e1,e2,e3⟩
  ·rw [i4,mergeStep_nil]
   refine ⟨⟨List.pairwise_singleton _ _,fun c=>?_⟩, .inr ⟨[],x,[],x,rfl,rfl,cmpV_tot.refl x⟩⟩
   rw [List.nil_append,alike_one]
   split
   ·rw [sumClass_one hx]
   ·rfl
  ·rw [e2] at i1 i2 ⊢
   rw [mergeStep_snoc]
   have p1:=List.pairwise_append.1 i1
   have hlast : ∀ m∈M0,cmpV m y<0:=fun m hm=>p1.2.2 m hm y (by simp)
   have hsx:cmpV s x≤0:=hs'.2.2 s (by rw [e1];simp) x (by simp)
   have hyx:cmpV y x≤0:=cmpV_tot.trans y s x (by omega) hsx
   by_cases h0:cmpV y x=0
   ·rw [if_pos h0]
    refine ⟨⟨List.pairwise_append.2 ⟨p1.1,List.pairwise_singleton _ _,fun m hm z hz=>?_⟩,fun c=>?_⟩, .inr ⟨S,x,M0,_,rfl,rfl,h0⟩⟩
    ·rw [List.mem_singleton.1 hz];exact hlast m hm
    ·have q:=i2 c
     rw [alike_append,alike_one] at q
     rw [alike_append,alike_append,alike_one,alike_one]
     by_cases hc:cmpV c y=0
     ·have hcx:cmpV c x=0:=cmpV_tot.eq_trans hc h0
      have hM:alike cmpV c M0=[]:=alike_none fun m hm e=>by
       have:=hlast m hm
       have:=(cmpV_tot.eq_left (z:=y) (show cmpV m c=0 by rw [cmpV_tot.neg,e];rfl)).2 hc
       omega
      rw [if_pos hc,hM,List.nil_append] at q
      rw [if_pos (show cmpV c (y.1,w64 (y.2+x.2))=0 from hc),if_pos hcx,hM,List.nil_append]
      exact (sumClass_snoc q).symm
     ·have hcx : ¬ cmpV c x=0:=fun e=>hc (cmpV_tot.eq_trans e (by rw [cmpV_tot.neg,h0];rfl))
      rw [if_neg hc] at q
      rw [if_neg (show ¬ cmpV c (y.1,w64 (y.2+x.2))=0 from hc),if_neg hcx,List.append_nil (alike cmpV c S)]
      exact q
   ·rw [if_neg h0]
    have hlt : ∀ m∈M0++[y],cmpV m x<0:=fun m hm=>by
     rcases List.mem_append.1 hm with h | h
     ·exact cmpV_tot.lt_of_lt_le (hlast m h) hyx
     ·rw [List.mem_singleton.1 h];omega
    refine ⟨⟨List.pairwise_append.2 ⟨i1,List.pairwise_singleton _ _,fun m hm z hz=>?_⟩,fun c=>?_⟩, .inr ⟨S,x,M0++[y],x,rfl,rfl,cmpV_tot.refl x⟩⟩
    ·rw [List.mem_singleton.1 hz];exact hlt m hm
    ·have q:=i2 c
     have e4:alike cmpV c (M0++[y]++[x])=alike cmpV c (M0++[y])++alike cmpV c [x]:=alike_append _ _ _
     have e5:alike cmpV c (S++[x])=alike cmpV c S++alike cmpV c [x]:=alike_append _ _ _
     rw [e4,e5,q,alike_one]
     by_cases hc:cmpV c x=0
     ·have hM:alike cmpV c (M0++[y])=[]:=alike_none fun m hm e=>by
       have:=hlt m hm
       have:=(cmpV_tot.eq_left (z:=x) (show cmpV m c=0 by rw [cmpV_tot.neg,e];rfl)).2 hc
       omega
      rw [hM] at q
      rw [sumClass_nil q.symm,if_pos hc]
      show []++[x]=sumClass ([]++[x])
      rw [List.nil_append,sumClass_one hx]
     ·rw [if_neg hc,List.append_nil,List.append_nil]
theorem Summed.of_stable {D S:List V} (h:Stable cmpV D S) (hin : ∀ x∈D,InN x):Summed D (mergeV S):=by
 have k:=(merge_sum S h.sorted (fun x hx=>hin x ((h.mem cmpV_tot x).1 hx))).1
 exact ⟨k.sorted,fun c=>by rw [k.same,h.same]⟩
/-! ### the document's way: one more row, put into its place -/
def addV:List V→V→List V
 | [],x=>[x]
 | y :: R,x=>if cmpV y x<0 then y :: addV R x else if cmpV y x=0 then (y.1,w64 (y.2+x.2)) :: R else x :: y :: R
theorem alike_cons (c y:V) (R:List V):alike cmpV c (y :: R)=(if cmpV c y=0 then [y] else [])++alike cmpV c R:=by
 have:=alike_append (cmp:=cmpV) c [y] R
 rw [alike_one] at this
 exact this
theorem addV_mem (x:V) : ∀ (R:List V) (z:V),(∀ y∈R,cmpV z y<0)→cmpV z x<0 → ∀ y∈addV R x,cmpV z y<0
 | [],z,_,hx,y,hy=>by rw [List.mem_singleton.1 hy];exact hx
 | a :: R,z,h,hx,y,hy=>by
  unfold addV at hy
  split at hy
  ·rcases List.mem_cons.1 hy with rfl | q
   ·exact h _ (List.mem_cons_self ..)
   ·exact addV_mem x R z (fun b hb=>h b (List.mem_cons_of_mem _ hb)) hx y q
  ·split at hy
   ·rcases List.mem_cons.1 hy with rfl | q
    ·exact h a (List.mem_cons_self ..)
    ·exact h y (List.mem_cons_of_mem _ q)
   ·rcases List.mem_cons.1 hy with rfl | q
    ·exact hx
    ·exact h y q
theorem addV_same (x:V) (hx:InN x) (c:V) : ∀ (R:List V) (l:List V),R.Pairwise (fun x y=>cmpV x y<0)→alike cmpV c R=sumClass l→alike cmpV c (addV R x)=sumClass (l++if cmpV c x=0 then [x] else [])
 | [],l,_,h=>by
  have:=sumClass_nil (show sumClass l=[] from h.symm)
  subst this
  show alike cmpV c [x]=_
  rw [alike_one]
  split
  ·rw [List.nil_append,sumClass_one hx]
  ·rfl
 | y :: R,l,hp,h=>by
  have hp':=List.pairwise_cons.1 hp
  unfold addV
  by_cases h1:cmpV y x<0
  ·rw [if_pos h1,alike_cons]
   rw [alike_cons] at h
   by_cases hc:cmpV c y=0
   ·have hcx : ¬ cmpV c x=0:=fun e=>by have:=(cmpV_tot.eq_left (z:=x) hc).1 e;omega
    rw [if_pos hc] at h ⊢
    have hR:alike cmpV c R=[]:=alike_none fun z hz e=>by
     have:=hp'.1 z hz
     have:=(cmpV_tot.eq_left (z:=z) hc).1 e
     omega
    rw [hR] at h
    have:=addV_same x hx c R [] hp'.2 hR
    rw [this,if_neg hcx,List.append_nil,List.append_nil]
    exact h
   ·rw [if_neg hc] at h ⊢
    exact addV_same x hx c R l hp'.2 h
  ·rw [if_neg h1]
   by_cases h2:cmpV y x=0
   ·rw [if_pos h2,alike_cons]
    rw [alike_cons] at h
    by_cases hc:cmpV c y=0
    ·have hcx:cmpV c x=0:=cmpV_tot.eq_trans hc h2
     have hR:alike cmpV c R=[]:=alike_none fun z hz e=>by
      have:=hp'.1 z hz
      have:=(cmpV_tot.eq_left (z:=z) hc).1 e
      omega
     rw [if_pos hc,hR] at h
     rw [if_pos (show cmpV c (y.1,w64 (y.2+x.2))=0 from hc),hR,if_pos hcx]
     exact (sumClass_snoc h).symm
    ·have hcx : ¬ cmpV c x=0:=fun e=>hc (cmpV_tot.eq_trans e (by rw [cmpV_tot.neg,h2];rfl))
     rw [if_neg hc] at h
     rw [if_neg (show ¬ cmpV c (y.1,w64 (y.2+x.2))=0 from hc),if_neg hcx,List.append_nil]
     exact h
   ·rw [if_neg h2,alike_cons]
    by_cases hc:cmpV c x=0
    ·have hyx:cmpV x y<0:=by rw [cmpV_tot.neg];omega
     have hR:alike cmpV c (y :: R)=[]:=alike_none fun z hz e=>by
      have hxz:cmpV x z<0:=by
       rcases List.mem_cons.1 hz with rfl | q
       ·exact hyx
       ·exact cmpV_tot.lt_of_lt_le hyx (Int.le_of_lt (hp'.1 z q))
      have:=(cmpV_tot.eq_left (z:=z) hc).1 e
      omega
     rw [hR] at h ⊢
     rw [if_pos hc,sumClass_nil h.symm]
     show [x]++[]=sumClass ([]++[x])
     rw [List.nil_append,sumClass_one hx]
     rfl
    ·rw [if_neg hc,List.nil_append,List.append_nil]
     exact h
theorem addV_sorted (x:V) : ∀ R:List V,R.Pairwise (fun x y=>cmpV x y<0)→(addV R x).Pairwise (fun x y=>cmpV x y<0)
 | [],_=>List.pairwise_singleton _ _
 | y :: R,h=>by
  have h':=List.pairwise_cons.1 h
  unfold addV
  split
  ·rename_i h1
   exact List.pairwise_cons.2 ⟨addV_mem x R y h'.1 h1,addV_sorted x R h'.2⟩
  ·split
   ·exact List.pairwise_cons.2 ⟨fun z hz=>h'.1 z hz,h'.2⟩
   ·rename_i h1 h2
    have hyx:cmpV x y<0:=by rw [cmpV_tot.neg];omega
    exact List.pairwise_cons.2 ⟨fun z hz=>(List.mem_cons.1 hz).elim (fun e=>e ▸ hyx) (fun q=>cmpV_tot.lt_of_lt_le hyx (Int.le_of_lt (h'.1 z q))),h⟩
theorem Summed.add {D R:List V} {x:V} (h:Summed D R) (hx:InN x):Summed (D++[x]) (addV R x):=⟨addV_sorted x R h.sorted,fun c=>by rw [addV_same x hx c R _ h.sorted (h.same c),alike_append,alike_one]⟩
def sumAll (L:List V):List V:=L.foldl addV []
theorem Summed.all (L:List V):(∀ x∈L,InN x)→Summed L (sumAll L):=by
 refine snoc_ind (p:=fun L=>(∀ x∈L,InN x)→Summed L (sumAll L)) (fun _=>⟨List.Pairwise.nil,fun _=>rfl⟩) (fun L x ih h=>?_) L
 unfold sumAll
 rw [List.foldl_append]
 exact (ih (fun y hy=>h y (List.mem_append_left _ hy))).add (h x (by simp))
/-- what Sum answers -/
def sumV (L:List V):List V:=(sumAll L).filter fun x => !(x.2==0)
/-! ### one row more in a list of different rows -/
theorem dedup_new {L O:List V} {x:V} (h : ∀ c,alike cmpV c O=sumClass (alike cmpV c L)) (hx:InN x) (hn : ∀ y∈O, ¬ cmpV y x=0) (c:V):alike cmpV c (O++[x])=sumClass (alike cmpV c (L++[x])):=by
 rw [alike_append,alike_append,h,alike_one]
 by_cases hc:cmpV c x=0
 ·have hO:alike cmpV c O=[]:=alike_none fun y hy e=>hn y hy (cmpV_tot.eq_trans (by rw [cmpV_tot.neg,e];rfl) hc)
  have:=h c
  rw [hO] at this
  rw [sumClass_nil this.symm,if_pos hc]
  show []++[x]=sumClass ([]++[x])
  rw [List.nil_append,sumClass_one hx]
 ·rw [if_neg hc,List.append_nil,List.append_nil]
theorem dedup_old {L P Q:List V} {y x:V} (h : ∀ c,alike cmpV c (P++y :: Q)=sumClass (alike cmpV c L)) (hy:cmpV y x=0) (c:V):alike cmpV c (P++(y.1,w64 (y.2+x.2)) :: Q)=sumClass (alike cmpV c (L++[x])):=by
 have q:=h c
 rw [alike_append,alike_cons] at q
 rw [alike_append,alike_cons,alike_append,alike_one]
 by_cases hc:cmpV c y=0
 ·have hcx:cmpV c x=0:=cmpV_tot.eq_trans hc hy
  rw [if_pos hc] at q
  have hm:=sumClass_mem (l:=alike cmpV c L) (y:=y) (by rw [← q];simp)
  have hl:=congrArg List.length (q.trans hm)
  simp only [List.length_append,List.length_cons,List.length_nil] at hl
  have hP:alike cmpV c P=[]:=List.eq_nil_of_length_eq_zero (by omega)
  have hQ:alike cmpV c Q=[]:=List.eq_nil_of_length_eq_zero (by omega)
  rw [if_pos (show cmpV c (y.1,w64 (y.2+x.2))=0 from hc),if_pos hcx,hP,hQ]
  exact (sumClass_snoc hm.symm).symm
 ·have hcx : ¬ cmpV c x=0:=fun e=>hc (cmpV_tot.eq_trans e (by rw [cmpV_tot.neg,hy];rfl))
  rw [if_neg hc] at q
  rw [if_neg (show ¬ cmpV c (y.1,w64 (y.2+x.2))=0 from hc),if_neg hcx,List.append_nil (alike cmpV c L)]
  exact q
open Go.RowKit
section
variable {α:Type} {cmp:α→α→Int}
theorem last_cases (s:List α):s=[] ∨ ∃ t y,s=t++[y]:=by
 rcases List.eq_nil_or_concat s with h | ⟨t,y,h⟩
 ·exact .inl h
 ·exact .inr ⟨t,y,by rw [h,List.concat_eq_append]⟩
theorem le_last (T:TotPre cmp) {t:List α} {y:α} (h:(t++[y]).Pairwise fun a b=>cmp a b≤0) : ∀ a∈t++[y],cmp a y≤0:=by
 intro a ha
 rcases List.mem_append.1 ha with q | q
 ·exact (List.pairwise_append.1 h).2.2 a q y (by simp)
 ·simp only [List.mem_singleton] at q
  subst q
  rw [T.refl];decide
theorem head_le (T:TotPre cmp) {t:List α} {y:α} (h:(y :: t).Pairwise fun a b=>cmp a b≤0) : ∀ a∈y :: t,cmp y a≤0:=by
 intro a ha
 rcases List.mem_cons.1 ha with q | q
 ·subst q
  rw [T.refl];decide
 ·exact (List.pairwise_cons.1 h).1 a q
/-- two sorted lists, each cut in two; the inner parts change places -/
theorem Stable.merge (T:TotPre cmp) {X1 X2 Y1 Y2 Z1 Z2:List α} (hX:(X1++X2).Pairwise fun a b=>cmp a b≤0) (hY:(Y1++Y2).Pairwise fun a b=>cmp a b≤0)
  (h1 : ∀ t x y s,X1=t++[x]→Y2=y :: s→cmp x y≤0) (h2 : ∀ t y x s,Y1=t++[y]→X2=x :: s→cmp y x<0)
  (s1:Stable cmp (X1++Y1) Z1) (s2:Stable cmp (X2++Y2) Z2):Stable cmp ((X1++X2)++(Y1++Y2)) (Z1++Z2):=by
 have pX:=List.pairwise_append.1 hX
 have pY:=List.pairwise_append.1 hY
 have a12 : ∀ a∈X1, ∀ b∈Y2,cmp a b≤0:=by
  intro a ha b hb
  rcases last_cases X1 with e | ⟨t,x,e⟩
  ·rw [e] at ha;cases ha
  ·cases hY2:Y2 with
   | nil=>rw [hY2] at hb;cases hb
   | cons y s =>
    have q1:=le_last T (e ▸ pX.1) a (e ▸ ha)
    have q2:=h1 t x y s e hY2
    have q3:=head_le T (hY2 ▸ pY.2.1) b (hY2 ▸ hb)
    exact T.trans _ _ _ (T.trans _ _ _ q1 q2) q3
 have a21 : ∀ a∈Y1, ∀ b∈X2,cmp a b<0:=by
  intro a ha b hb
  rcases last_cases Y1 with e | ⟨t,y,e⟩
  ·rw [e] at ha;cases ha
  ·cases hX2:X2 with
   | nil=>rw [hX2] at hb;cases hb
   | cons x s =>
    have q1:=le_last T (e ▸ pY.1) a (e ▸ ha)
    have q2:=h2 t y x s e hX2
    have q3:=head_le T (hX2 ▸ pX.2.1) b (hX2 ▸ hb)
    exact T.lt_of_lt_le (T.lt_of_le_lt q1 q2) q3
 refine ⟨List.pairwise_append.2 ⟨s1.sorted,s2.sorted,fun a ha b hb=>?_⟩,fun c=>?_⟩
 ·rcases List.mem_append.1 ((s1.mem T a).1 ha) with p | p<;>rcases List.mem_append.1 ((s2.mem T b).1 hb) with q | q
  ·exact pX.2.2 a p b q
  ·exact a12 a p b q
  ·exact Int.le_of_lt (a21 a p b q)
  ·exact pY.2.2 a p b q
 ·rw [alike_append,s1.same,s2.same,alike_append,alike_append,alike_append,alike_append,alike_append]
  have hc:alike cmp c Y1++alike cmp c X2=alike cmp c X2++alike cmp c Y1:=by
   cases e1:alike cmp c Y1 with
   | nil=>simp
   | cons y l1 =>
    cases e2:alike cmp c X2 with
    | nil=>simp
    | cons x l2 =>
     exfalso
     have my:y∈alike cmp c Y1:=by rw [e1];exact List.mem_cons_self ..
     have mx:x∈alike cmp c X2:=by rw [e2];exact List.mem_cons_self ..
     obtain ⟨hy,qy⟩:=List.mem_filter.1 my
     obtain ⟨hx,qx⟩:=List.mem_filter.1 mx
     have qy:cmp c y=0:=by simpa using qy
     have qx:cmp c x=0:=by simpa using qx
     have:=a21 y hy x hx
     have:=(T.eq_left qy).1 qx
     omega
  rw [List.append_assoc,List.append_assoc, ← List.append_assoc (alike cmp c Y1),hc,List.append_assoc]
/-- a list that is sorted is its own sorted one -/
theorem Stable.self {l:List α} (h:l.Pairwise fun a b=>cmp a b≤0):Stable cmp l l:=⟨h,fun _=>rfl⟩
/-- S is O, each block of so many of them sorted by itself -/
inductive Bks (cmp:α→α→Int) (s:Nat):List α→List α→Prop
 | last (O S:List α) (h:O.length≤s) (k:Stable cmp O S):Bks cmp s O S
 | more (O S O' S':List α) (h:O.length=s) (k:Stable cmp O S) (r:Bks cmp s O' S'):Bks cmp s (O++O') (S++S')
theorem Stable.nil_of {S:List α} (T:TotPre cmp) (h:Stable cmp [] S):S=[]:=h.unique T Stable.nil
theorem Bks.none (T:TotPre cmp) {s:Nat} (hs:0<s) {O S:List α} (h:Bks cmp s O S) (ho:O=[]):S=[]:=by
 cases h with
 | last _ _ _ k=>subst ho;exact k.nil_of T
 | more O1 S1 O2 S2 h1 _ _ =>
  have:=congrArg List.length ho
  rw [List.length_append,List.length_nil] at this
  omega
theorem Bks.all (T:TotPre cmp) {s:Nat} (hs:0<s) {O S:List α} (h:Bks cmp s O S) (hl:O.length≤s):Stable cmp O S:=by
 cases h with
 | last _ _ _ k=>exact k
 | more O1 S1 O2 S2 h1 k r =>
  rw [List.length_append] at hl
  have e:O2=[]:=List.eq_nil_of_length_eq_zero (by omega)
  have e2:=r.none T hs e
  subst e e2
  rw [List.append_nil,List.append_nil]
  exact k
theorem Bks.mem (T:TotPre cmp) {s:Nat} {O S:List α} (h:Bks cmp s O S) (x:α):x∈S↔x∈O:=by
 induction h with
 | last O S _ k=>exact k.mem T x
 | more O1 S1 O2 S2 _ k _ ih=>rw [List.mem_append,List.mem_append,k.mem T,ih]
theorem Bks.len (T : ∀ {O S:List α},Stable cmp O S→S.length=O.length) {s:Nat} {O S:List α} (h:Bks cmp s O S):S.length=O.length:=by
 induction h with
 | last O S _ k=>exact T k
 | more O1 S1 O2 S2 _ k _ ih=>rw [List.length_append,List.length_append,T k,ih]
/-- two blocks at the head -/
theorem Bks.two {s:Nat} (hs:0<s) {O S:List α} (h:Bks cmp s O S) (hl:2 * s≤O.length) :
  ∃ O1 S1 O2 S2 O3 S3,O=O1++(O2++O3)∧S=S1++(S2++S3)∧O1.length=s∧O2.length=s∧Stable cmp O1 S1∧Stable cmp O2 S2∧Bks cmp s O3 S3:=by
 cases h with
 | last _ _ h _=>omega
 | more O1 S1 O2 S2 h1 k r =>
  rw [List.length_append] at hl
  cases r with
  | last _ _ h2 k2=>exact ⟨O1,S1,O2,S2,[],[],by rw [List.append_nil],by rw [List.append_nil],h1,by omega,k,k2, .last [] [] (Nat.zero_le _) Stable.nil⟩
  | more O2 S2 O3 S3 h2 k2 r2=>exact ⟨O1,S1,O2,S2,O3,S3,rfl,rfl,h1,h2,k,k2,r2⟩
/-- one block at the head, less than one behind it -/
theorem Bks.rest (T:TotPre cmp) {s:Nat} (hs:0<s) {O S:List α} (h:Bks cmp s O S) (h1:s<O.length) (h2:O.length<2 * s) :
  ∃ O1 S1 O2 S2,O=O1++O2∧S=S1++S2∧O1.length=s∧Stable cmp O1 S1∧Stable cmp O2 S2:=by
 cases h with
 | last _ _ h _=>omega
 | more O1 S1 O2 S2 h3 k r =>
  rw [List.length_append] at h2
  exact ⟨O1,S1,O2,S2,rfl,rfl,h3,k,r.all T hs (by omega)⟩
end
open Go.RowKit
theorem getD_here {P Q:List Ct} {x:Ct} {p:Nat} (hp:p=P.length):(P++x :: Q).getD p Ct.zero=x:=by subst hp;exact getD_mid P x Q
theorem Arr.here {w:World} {B g c p:Nat} {P Q:List Ct} {x:Ct} (h:Arr w B g c (P++x :: Q)) (hp:p=P.length) :
  w.cell? ⟨g,p * 2,none⟩=some (.slice x.A x.l.length x.c)∧w.cell? ⟨g,p * 2+1,none⟩=some (.int .i64 x.k):=by
 have:=h.at (i:=p) (by subst hp;simp)
 rwa [getD_here hp] at this
theorem set_two (P M Q:List Ct) (x y:Ct):((P++x :: (M++y :: Q)).set P.length y).set (P.length+1+M.length) x=P++y :: (M++x :: Q):=by
 rw [set_mid]
 have:=set_mid (P++y :: M) y x Q
 simp only [List.append_assoc,List.cons_append,List.length_append,List.length_cons] at this
 rwa [show P.length+1+M.length=P.length+(M.length+1) by omega]
theorem set_two' (P M Q:List Ct) (x y:Ct):((P++x :: (M++y :: Q)).set (P.length+1+M.length) x).set P.length y=P++y :: (M++x :: Q):=by
 have:=set_mid (P++x :: M) y x Q
 simp only [List.append_assoc,List.cons_append,List.length_append,List.length_cons] at this
 rw [show P.length+1+M.length=P.length+(M.length+1) by omega,this,set_mid]
section
variable {w:World} {B g c p q:Nat} {P M Q:List Ct} {x y:Ct}
/-- the first one is written first -/
theorem Arr.swapA (h:Arr w B g c (P++x :: (M++y :: Q))) (hp:p=P.length) (hq:q=P.length+1+M.length) {nx ny:Nat} (hx:nx=x.l.length) (hy:ny=y.l.length) :
  Arr ((((w.setCell ⟨g,p * 2,none⟩ (.slice y.A ny y.c)).setCell ⟨g,p * 2+1,none⟩ (.int .i64 y.k)).setCell ⟨g,q * 2,none⟩ (.slice x.A nx x.c)).setCell ⟨g,q * 2+1,none⟩ (.int .i64 x.k)) B g c (P++y :: (M++x :: Q)):=by
 subst hp hq hx hy
 have h1:=(h.set P.length y).set (P.length+1+M.length) x
 rwa [set_two] at h1
/-- the second one is written first -/
theorem Arr.swapB (h:Arr w B g c (P++x :: (M++y :: Q))) (hp:p=P.length) (hq:q=P.length+1+M.length) {nx ny:Nat} (hx:nx=x.l.length) (hy:ny=y.l.length) :
  Arr ((((w.setCell ⟨g,q * 2,none⟩ (.slice x.A nx x.c)).setCell ⟨g,q * 2+1,none⟩ (.int .i64 x.k)).setCell ⟨g,p * 2,none⟩ (.slice y.A ny y.c)).setCell ⟨g,p * 2+1,none⟩ (.int .i64 y.k)) B g c (P++y :: (M++x :: Q)):=by
 subst hp hq hx hy
 have h1:=(h.set (P.length+1+M.length) x).set P.length y
 rwa [set_two'] at h1
end
theorem cons_of {α:Type} {l:List α} (h:0<l.length) : ∃ x t,l=x :: t:=by
 cases l with
 | nil=>exact absurd h (Nat.lt_irrefl 0)
 | cons x t=>exact ⟨x,t,rfl⟩
open Go.RowKit
/-- the loop's relation -/
def SwIn (B g c:Nat) (P X M Y Q:List Ct) (w wi:World) (i:Nat) (X1 X2 Y1 Y2:List Ct):Prop :=
 X=X1++X2∧Y=Y1++Y2∧X1.length=i∧Y1.length=i∧Arr wi B g c (P++(Y1++(X2++(M++(X1++(Y2++Q))))))∧w.grownBy wi (some g)
theorem SwIn.form {B g c:Nat} {P X M Y Q:List Ct} {w wi:World} {i:Nat} {X1 X2 Y1 Y2:List Ct} {x y:Ct} (h:SwIn B g c P X M Y Q w wi i X1 (x :: X2) Y1 (y :: Y2)) :
  Arr wi B g c ((P++Y1)++x :: ((X2++(M++X1))++y :: (Y2++Q))):=by
 have:=h.2.2.2.2.1
 have e:P++(Y1++(x :: X2++(M++(X1++(y :: Y2++Q)))))=(P++Y1)++x :: ((X2++(M++X1))++y :: (Y2++Q)):=by simp
 rwa [e] at this
theorem SwIn.step {B g c a b p q:Nat} {P X M Y Q:List Ct} {w wi:World} {i:Nat} {X1 X2 Y1 Y2:List Ct} {x y:Ct} (h:SwIn B g c P X M Y Q w wi i X1 (x :: X2) Y1 (y :: Y2)) (ha:a=P.length) (hb:b=P.length+X.length+M.length) (hp:p=a+i) (hq:q=b+i) {nx ny:Nat} (hx:nx=x.l.length) (hy:ny=y.l.length) {wj:World} (hz:Ext wi wj) :
  SwIn B g c P X M Y Q w ((((wj.setCell ⟨g,p * 2,none⟩ (.slice y.A ny y.c)).setCell ⟨g,p * 2+1,none⟩ (.int .i64 y.k)).setCell ⟨g,q * 2,none⟩ (.slice x.A nx x.c)).setCell ⟨g,q * 2+1,none⟩ (.int .i64 x.k)) (i+1) (X1++[x]) X2 (Y1++[y]) Y2:=by
 have hf:=h.form.ext hz
 obtain ⟨h1,h2,h3,h4,h5,h6⟩:=h
 have h7:=hf.swapA (p:=p) (q:=q) (by rw [List.length_append];omega) (by
  have:=congrArg List.length h1
  simp only [List.length_append,List.length_cons] at this ⊢
  omega) hx hy
 refine ⟨by rw [h1];simp,by rw [h2];simp,by rw [List.length_append,List.length_singleton];omega,by rw [List.length_append,List.length_singleton];omega,?_,(h6.trans (upd_ext hz g)).trans (upd_swap wj g _ _ _ _ _ _ _ _)⟩
 have e:P++(Y1++[y]++(X2++(M++(X1++[x]++(Y2++Q)))))=(P++Y1)++y :: ((X2++(M++X1))++x :: (Y2++Q)):=by simp
 rw [e]
 exact h7
set_option maxRecDepth 100000 in
set_option maxHeartbeats 4000000 in
theorem swapR_any (B g c n a b k:Nat) (P X M Y Q:List Ct) (w:World) (ha:a=P.length) (hb:b=P.length+X.length+M.length) (hx:k=X.length) (hy:k=Y.length) (hn:n=(P++(X++(M++(Y++Q)))).length) (h:Arr w B g c (P++(X++(M++(Y++Q))))) :
  Calls Tryz.prog 295 #[.slice (some ⟨g,0,none⟩) n c, .int .i64 a, .int .i64 b, .int .i64 k, .func (.func 188) #[] #[]] w fun e w'=>e = .returned (.tuple #[])∧Arr w' B g c (P++(Y++(M++(X++Q))))∧w.grownBy w' (some g):=by
 have hnm:=h.le
 rw [← hn] at hnm
 have hbk:b+k≤n:=by rw [hb,hn];simp only [List.length_append];omega
 have hak:a+k≤b:=by omega
 have HA:=Lib.hid ha
 have HB:=Lib.hid hb
 have HX:=Lib.hid hx
 have HY:=Lib.hid hy
 have HI:Hid (SwIn B g c P X M Y Q w w 0 [] X [] Y):=Lib.hid ⟨rfl,rfl,rfl,rfl,h,World.grownBy.refl w _⟩
 clear ha hb hx hy hn h
 go_enter Tryz.func295,Tryz.ntmps295
 go_wp2
 go_loopg [10] k (fun z v wr => ∃ (i:Nat) (X1 X2 Y1 Y2:List Ct),z=k - i∧i≤k∧v = .int .i64 i∧Hid (SwIn B g c P X M Y Q w wr i X1 X2 Y1 Y2))
 case atStart=>exact ⟨0,[],X,[],Y,rfl,Nat.zero_le _,rfl,HI⟩
 case round =>
  obtain ⟨i,X1,X2,Y1,Y2,rfl,hi,rfl,HJ⟩:=hrel
  clear HI
  by_cases hlt:i<k
  ·obtain ⟨x,X2,rfl⟩:=cons_of (l:=X2) (by
    obtain ⟨q1,q2,q3,q4,_⟩:=HJ.out
    have:=HX.out
    rw [q1,List.length_append] at this
    omega)
   obtain ⟨y,Y2,rfl⟩:=cons_of (l:=Y2) (by
    obtain ⟨q1,q2,q3,q4,_⟩:=HJ.out
    have:=HY.out
    rw [q2,List.length_append] at this
    omega)
   have hf:=HJ.out.form
   obtain ⟨px0,px1⟩:=hf.here (p:=a+i) (by rw [List.length_append];have:=HA.out;have:=HJ.out.2.2.2.1;omega)
   have hf2:Arr wr B g c ((P++(Y1++(x :: X2++(M++X1))))++y :: (Y2++Q)):=by
    have e:(P++Y1)++x :: ((X2++(M++X1))++y :: (Y2++Q))=(P++(Y1++(x :: X2++(M++X1))))++y :: (Y2++Q):=by simp
    rwa [e] at hf
   obtain ⟨py0,py1⟩:=hf2.here (p:=b+i) (by
    obtain ⟨q1,q2,q3,q4,_⟩:=HJ.out
    have e1:=congrArg List.length q1
    have e2:=HB.out
    simp only [List.length_append,List.length_cons] at e1 ⊢
    omega)
   have f0:=hf.free ((a+i) * 2)
   have f1:=hf.free ((a+i) * 2+1)
   have f2:=hf.free ((b+i) * 2)
   have f3:=hf.free ((b+i) * 2+1)
   obtain ⟨nx,hnx⟩ : ∃ nx,nx=x.l.length:=⟨_,rfl⟩
   obtain ⟨ny,hny⟩ : ∃ ny,ny=y.l.length:=⟨_,rfl⟩
   rw [← hnx] at px0
   rw [← hny] at py0
   have HNX:=Lib.hid hnx
   have HNY:=Lib.hid hny
   have XE:Ext wr wr.drew:=(Ext.refl wr).drew
   have PY0 : ∀ z:Xt wr.drew,z.W.cell? ⟨g,(b+i) * 2,none⟩=some (.slice y.A ny y.c):=fun z=>(XE.trans z.x).cell py0
   have PY1 : ∀ z:Xt wr.drew,z.W.cell? ⟨g,(b+i) * 2+1,none⟩=some (.int .i64 y.k):=fun z=>(XE.trans z.x).cell py1
   have PX0 : ∀ z:Xt wr.drew,z.W.cell? ⟨g,(a+i) * 2,none⟩=some (.slice x.A nx x.c):=fun z=>(XE.trans z.x).cell px0
   have PX1 : ∀ z:Xt wr.drew,z.W.cell? ⟨g,(a+i) * 2+1,none⟩=some (.int .i64 x.k):=fun z=>(XE.trans z.x).cell px1
   clear hf hf2 hnx hny
   go_upto_region 3 with fail
   refine wp_region_ord [0,0,0,6,0,0,0,96,0,0,0,1536,3840,7936,0,0,0,98304,245760,507904,1048335,2096911,4194303,8388607] (.flo [0,1,2,3,8,9,10,11,12,13,14,15,16,17,18,19,20] (.pur [4,5,6,7] (.one 21 (.flo [22] (.one 23 (.fin)))))) (by kernel_rfl) (by kernel_rfl) (by intro _ _ d _ _ h;cases d<;>exact h) ?_
   (refine ord_flo (pick_cons rfl (pick_cons rfl (pick_cons rfl (pick_cons rfl (pick_cons rfl (pick_cons rfl (pick_cons rfl (pick_cons rfl (pick_cons rfl (pick_cons rfl (pick_cons rfl (pick_cons rfl (pick_cons rfl (pick_cons rfl (pick_cons rfl (pick_cons rfl (pick_cons rfl pick_nil))))))))))))))))) ?_;(repeat (go_big_quiet_step (fail)));refine wpQuiet_nil ?_;show ordWalk _ _ _ _ _ _ _)
   (refine ord_pur (pick_cons rfl (pick_cons rfl (pick_cons rfl (pick_cons rfl pick_nil)))) ?_;(repeat (go_big_quiet_step (fail)));refine wpQuiet_nil ?_;show ordWalk _ _ _ _ _ _ _)
   refine ord_one (pick_cons rfl pick_nil) ?_;intro K_ hK_
   go_wp2
   (refine ord_flo (pick_cons rfl pick_nil) ?_;(repeat (go_big_quiet_step (fail)));refine wpQuiet_nil ?_;show ordWalk _ _ _ _ _ _ _)
   refine ord_one (pick_cons rfl pick_nil) ?_;intro K_ hK_
   go_wp2
   refine ord_fin ?_
   go_wp2
   go_roundg (k - (i+1))
   case measure=>omega
   case rel=>exact ⟨i+1,X1++[x],X2,Y1++[y],Y2,rfl,by omega,by go_num,Lib.hid (HJ.out.step HA.out HB.out rfl rfl HNX.out HNY.out XE)⟩
  ·have hik:i=k:=by omega
   obtain ⟨q1,q2,q3,q4,q5,q6⟩:=HJ.out
   have e1:X2=[]:=List.eq_nil_of_length_eq_zero (by have:=HX.out;rw [q1,List.length_append] at this;omega)
   have e2:Y2=[]:=List.eq_nil_of_length_eq_zero (by have:=HY.out;rw [q2,List.length_append] at this;omega)
   subst e1 e2
   have HQ5:Hid (Arr wr B g c (P++(Y++(M++(X++Q))))):=Lib.hid (by
    rw [List.append_nil] at q1 q2
    rw [q1,q2]
    simpa using q5)
   have HQ6:=Lib.hid q6
   clear q1 q2 q3 q4 q5 q6
   go_wp2
   go_end0
   exact ⟨rfl,HQ5.out,HQ6.out⟩
open Go.RowKit
/-- the loop's relation: D is what shall be -/
def RotIn (B g c m:Nat) (D:List Ct) (w wi:World) (i j p:Nat) (P U V Q:List Ct):Prop :=
 D=P++(V++(U++Q))∧U.length=i∧V.length=j∧P.length=p∧m=p+i∧0<i∧0<j∧Arr wi B g c (P++(U++(V++Q)))∧w.grownBy wi (some g)
theorem RotIn.left {B g c m:Nat} {D:List Ct} {w wi wj:World} {i j p:Nat} {P U1 U2 V Q:List Ct} (h:RotIn B g c m D w wi i j p P (U1++U2) V Q) (h1:U1.length=j) (h2:0<i - j)
  (ha:Arr wj B g c (P++(V++(U2++(U1++Q))))) (hg:wi.grownBy wj (some g)):RotIn B g c m D w wj (i - j) j (p+j) (P++V) U2 U1 Q:=by
 obtain ⟨q1,q2,q3,q4,q5,q6,q7,q8,q9⟩:=h
 rw [List.length_append] at q2
 refine ⟨by rw [q1];simp,by omega,h1,by rw [List.length_append];omega,by omega,h2,q7,?_,q9.trans hg⟩
 rw [List.append_assoc]
 exact ha
theorem RotIn.right {B g c m:Nat} {D:List Ct} {w wi wj:World} {i j p:Nat} {P U V1 V2 Q:List Ct} (h:RotIn B g c m D w wi i j p P U (V1++V2) Q) (h1:V2.length=i) (h2:0<j - i)
  (ha:Arr wj B g c (P++(V2++(V1++(U++Q))))) (hg:wi.grownBy wj (some g)):RotIn B g c m D w wj i (j - i) p P V2 V1 (U++Q):=by
 obtain ⟨q1,q2,q3,q4,q5,q6,q7,q8,q9⟩:=h
 rw [List.length_append] at q3
 exact ⟨by rw [q1];simp,h1,by omega,q4,q5,q6,h2,ha,q9.trans hg⟩
theorem cut_at {α:Type} (l:List α) (k:Nat) (h:k≤l.length) : ∃ l1 l2,l=l1++l2∧l1.length=k:=⟨l.take k,l.drop k,(List.take_append_drop k l).symm,by rw [List.length_take];omega⟩
set_option maxRecDepth 100000 in
set_option maxHeartbeats 4000000 in
theorem rot_any (B g c n a m b:Nat) (P U V Q:List Ct) (w:World) (ha:a=P.length) (hm:m=a+U.length) (hb:b=m+V.length) (hu:0<U.length) (hv:0<V.length) (hn:n=(P++(U++(V++Q))).length) (h:Arr w B g c (P++(U++(V++Q)))) :
  Calls Tryz.prog 284 #[.slice (some ⟨g,0,none⟩) n c, .int .i64 a, .int .i64 m, .int .i64 b, .func (.func 188) #[] #[]] w fun e w'=>e = .returned (.tuple #[])∧Arr w' B g c (P++(V++(U++Q)))∧w.grownBy w' (some g):=by
 have hnm:=h.le
 rw [← hn] at hnm
 have hbn:b≤n:=by rw [hb,hm,ha,hn];simp only [List.length_append];omega
 obtain ⟨i0,hi0⟩ : ∃ i,i=U.length:=⟨_,rfl⟩
 obtain ⟨j0,hj0⟩ : ∃ j,j=V.length:=⟨_,rfl⟩
 obtain ⟨D,hD⟩ : ∃ D,D=P++(V++(U++Q)):=⟨_,rfl⟩
 have HN:Hid (n=D.length):=Lib.hid (by rw [hn,hD];simp only [List.length_append];omega)
 have HI:Hid (RotIn B g c m D w w i0 j0 a P U V Q):=Lib.hid ⟨hD,hi0.symm,hj0.symm,ha.symm,by omega,by omega,by omega,h,World.grownBy.refl w _⟩
 have e1:(m:Int) - (a:Int)=(i0:Int):=by omega
 have e2:(b:Int) - (m:Int)=(j0:Int):=by omega
 have hij:i0+j0≤n:=by omega
 rw [← hD]
 clear ha hm hb hu hv hn h hi0 hj0 hD
 go_enter Tryz.func284,Tryz.ntmps284
 go_wp2
 go_loopg [10,11] (i0+j0) (fun z u v wr => ∃ (i j p:Nat) (P U V Q:List Ct),z=i+j∧i+j≤n∧u = .int .i64 i∧v = .int .i64 j∧Hid (RotIn B g c m D w wr i j p P U V Q))
 case atStart=>exact ⟨i0,j0,a,P,U,V,Q,rfl,hij,rfl,rfl,HI⟩
 case round =>
  obtain ⟨i,j,p,P,U,V,Q,rfl,hs,rfl,rfl,HJ⟩:=hrel
  clear HI e1 e2
  have hmi:(m:Int) - (i:Int)=(p:Int):=by have:=HJ.out.2.2.2.2.1;omega
  have hmn:m+j≤n:=by
   obtain ⟨q1,q2,q3,q4,q5,_⟩:=HJ.out
   have:=HN.out
   rw [q1] at this
   simp only [List.length_append] at this
   omega
  have him:i≤m:=by have:=HJ.out.2.2.2.2.1;omega
  rcases Nat.lt_trichotomy i j with hlt | heq | hgt
  ·obtain ⟨V1,V2,rfl,hv1⟩:=cut_at V (j - i) (by have:=HJ.out.2.2.1;omega)
   have z1:((i:Int)==(j:Int))=false:=by rw [beq_eq_false_iff_ne];omega
   have z2 : ¬ (j:Int)<i:=by omega
   have hmj:(m:Int)+(j:Int) - (i:Int)=((p+j:Nat):Int):=by omega
   have hji:(j:Int) - (i:Int)=((j - i:Nat):Int):=by omega
   have HV1:=Lib.hid hv1
   clear hv1
   go_wp2_with (go_at_call 295;refine (swapR_any B g c n p (p+j) i P U V1 V2 Q _ HJ.out.2.2.2.1.symm (by have:=HV1.out;have:=HJ.out;have:=this.2.1;have:=HJ.out.2.2.2.1;omega) HJ.out.2.1.symm (by have:=HJ.out.2.2.1;rw [List.length_append] at this;have:=HV1.out;omega) (by rw [HN.out,HJ.out.1];simp only [List.length_append];omega) (by have:=HJ.out.2.2.2.2.2.2.2.1;rwa [List.append_assoc] at this)).mono ?_;rintro e w1 ⟨rfl,a1,g1⟩;have HJ1:=Lib.hid (HJ.out.right (by have:=HJ.out.2.2.1;rw [List.length_append] at this;have:=HV1.out;omega) (by omega) a1 g1);clear a1 g1)
   go_roundg (i+(j - i))
   case measure=>have:=HJ.out.2.2.2.2.2.1;omega
   case rel=>exact ⟨i,j - i,p,P,V2,V1,U++Q,rfl,by omega,rfl,by go_num,HJ1⟩
  ·subst heq
   have z1:((i:Int)==(i:Int))=true:=by simp
   go_wp2_with (go_at_call 295;refine (swapR_any B g c n p m i P U [] V Q _ HJ.out.2.2.2.1.symm (by have:=HJ.out.2.1;have:=HJ.out.2.2.2.1;have:=HJ.out.2.2.2.2.1;simp only [List.length_nil];omega) HJ.out.2.1.symm HJ.out.2.2.1.symm (by rw [HN.out,HJ.out.1];simp only [List.length_append,List.length_nil];omega) HJ.out.2.2.2.2.2.2.2.1).mono ?_;rintro e w1 ⟨rfl,a1,g1⟩;have HA1:Hid (Arr w1 B g c D):=Lib.hid (by rw [HJ.out.1];exact a1);have HG1:=Lib.hid (HJ.out.2.2.2.2.2.2.2.2.trans g1);clear a1 g1)
   go_end0
   exact ⟨rfl,HA1.out,HG1.out⟩
  ·obtain ⟨U1,U2,rfl,hu1⟩:=cut_at U j (by have:=HJ.out.2.1;omega)
   have z1:((i:Int)==(j:Int))=false:=by rw [beq_eq_false_iff_ne];omega
   have z2:(j:Int)<i:=by omega
   have hji:(i:Int) - (j:Int)=((i - j:Nat):Int):=by omega
   have HU1:=Lib.hid hu1
   clear hu1
   go_wp2_with (go_at_call 295;refine (swapR_any B g c n p m j P U1 U2 V Q _ HJ.out.2.2.2.1.symm (by have:=HJ.out.2.1;rw [List.length_append] at this;have:=HJ.out.2.2.2.1;have:=HJ.out.2.2.2.2.1;omega) HU1.out.symm HJ.out.2.2.1.symm (by rw [HN.out,HJ.out.1];simp only [List.length_append];omega) (by have:=HJ.out.2.2.2.2.2.2.2.1;rwa [List.append_assoc] at this)).mono ?_;rintro e w1 ⟨rfl,a1,g1⟩;have HJ1:=Lib.hid (HJ.out.left HU1.out (by omega) a1 g1);clear a1 g1)
   go_roundg (i - j+j)
   case measure=>have:=HJ.out.2.2.2.2.2.2.1;omega
   case rel=>exact ⟨i - j,j,p+j,P++V,U2,U1,Q,rfl,by omega,by go_num,rfl,HJ1⟩
open Go.RowKit
def SortedC (l:List Ct):Prop:=l.Pairwise fun x y=>cmpC x y≤0
theorem SortedC.left {l m:List Ct} (h:SortedC (l++m)):SortedC l:=(List.pairwise_append.1 h).1
theorem SortedC.right {l m:List Ct} (h:SortedC (l++m)):SortedC m:=(List.pairwise_append.1 h).2.1
theorem getD_left {l m:List Ct} {i:Nat} (h:i<l.length):(l++m).getD i Ct.zero=l.getD i Ct.zero:=by
 rw [List.getD_eq_getElem?_getD,List.getElem?_append_left h,List.getD_eq_getElem?_getD]
theorem getD_right {l m:List Ct} {i:Nat} (h:l.length≤i):(l++m).getD i Ct.zero=m.getD (i - l.length) Ct.zero:=by
 rw [List.getD_eq_getElem?_getD,List.getElem?_append_right h,List.getD_eq_getElem?_getD]
theorem mem_getD {l:List Ct} {i:Nat} (h:i<l.length):l.getD i Ct.zero∈l:=by
 rw [List.getD_eq_getElem?_getD,List.getElem?_eq_getElem h]
 exact List.getElem_mem h
theorem mem_mid {P X R:List Ct} {i:Nat} (h1:P.length≤i) (h2:i<P.length+X.length):(P++(X++R)).getD i Ct.zero∈X:=by
 rw [getD_right h1,getD_left (by omega)]
 exact mem_getD (by omega)
/-- an element behind what is ahead of it -/
theorem getD_of {L P Q:List Ct} {x:Ct} {i:Nat} (h:L=P++x :: Q) (hi:i=P.length):L.getD i Ct.zero=x:=by
 rw [h];exact getD_here hi
/-- where the general search ends -/
theorem sym_split {P X Y Q L:List Ct} {a m b mid n p s lo hi:Nat} (hL:L=P++(X++(Y++Q))) (ha:a=P.length) (hm:m=a+X.length) (hb:b=m+Y.length) (hmid:mid=(a+b) / 2) (hn:n=mid+m) (hp:n=p+1)
  (hc:(mid<m∧lo=n - b∧hi=mid)∨(m≤mid∧lo=a∧hi=m)) (h1:lo≤s) (h2:s≤hi) (hA:lo<s → ¬ cmpC (L.getD (n - s) Ct.zero) (L.getD (s - 1) Ct.zero)<0) (hB:s<hi→cmpC (L.getD (p - s) Ct.zero) (L.getD s Ct.zero)<0) :
  ∃ X1 X2 Y1 Y2,X=X1++X2∧Y=Y1++Y2∧s=a+X1.length∧n - s=m+Y1.length∧mid=a+(X1.length+Y1.length) ∧
   (∀ t x y u,X1=t++[x]→Y2=y :: u→cmpC x y≤0)∧(∀ t y x u,Y1=t++[y]→X2=x :: u→cmpC y x<0):=by
 have hs1:a≤s∧s≤m:=by omega
 have hs2:m≤n - s∧n - s≤b:=by omega
 obtain ⟨X1,X2,hX,hX1⟩:=cut_at X (s - a) (by omega)
 obtain ⟨Y1,Y2,hY,hY1⟩:=cut_at Y (n - s - m) (by omega)
 have lX:X.length=X1.length+X2.length:=by rw [hX,List.length_append]
 have lY:Y.length=Y1.length+Y2.length:=by rw [hY,List.length_append]
 refine ⟨X1,X2,Y1,Y2,hX,hY,by omega,by omega,by omega,fun t x y u e1 e2=>?_,fun t y x u e1 e2=>?_⟩
 ·have l1:X1.length=t.length+1:=by rw [e1,List.length_append,List.length_singleton]
  have l2:Y2.length=u.length+1:=by rw [e2,List.length_cons]
  have:=hA (by omega)
  rw [getD_of (L:=L) (P:=P++X++Y1) (Q:=u++Q) (x:=y) (by rw [hL,hY,e2];simp) (by simp only [List.length_append];omega),getD_of (L:=L) (P:=P++t) (Q:=X2++(Y++Q)) (x:=x) (by rw [hL,hX,e1];simp) (by simp only [List.length_append];omega)] at this
  rw [cmpC_tot.neg]
  omega
 ·have l1:Y1.length=t.length+1:=by rw [e1,List.length_append,List.length_singleton]
  have l2:X2.length=u.length+1:=by rw [e2,List.length_cons]
  have:=hB (by omega)
  rw [getD_of (L:=L) (P:=P++X++t) (Q:=Y2++Q) (x:=y) (by rw [hL,hY,e1];simp) (by simp only [List.length_append];omega),getD_of (L:=L) (P:=P++X1) (Q:=u++(Y++Q)) (x:=x) (by rw [hL,hX,e2];simp) (by simp only [List.length_append];omega)] at this
  exact this
/-- one element, behind it a sorted list: where it goes -/
theorem one_split {P Y Q L:List Ct} {x:Ct} {a m b i:Nat} (hL:L=P++([x]++(Y++Q))) (ha:a=P.length) (hm:m=a+1) (hb:b=m+Y.length) (h1:m≤i) (h2:i≤b) (hY:SortedC Y)
  (hA:m<i→cmpC (L.getD (i - 1) Ct.zero) x<0) (hB:i<b → ¬ cmpC (L.getD i Ct.zero) x<0) :
  ∃ Y1 Y2,Y=Y1++Y2∧i=m+Y1.length∧Stable cmpC ([x]++Y) (Y1++x :: Y2):=by
 obtain ⟨Y1,Y2,hS,hY1⟩:=cut_at Y (i - m) (by omega)
 have lY:Y.length=Y1.length+Y2.length:=by rw [hS,List.length_append]
 have hf : ∀ y u,Y2=y :: u→cmpC x y≤0:=fun y u e=>by
  have l2:Y2.length=u.length+1:=by rw [e,List.length_cons]
  have:=hB (by omega)
  rw [getD_of (L:=L) (P:=P++([x]++Y1)) (Q:=u++Q) (x:=y) (by rw [hL,hS,e];simp) (by simp only [List.length_append,List.length_singleton];omega)] at this
  rw [cmpC_tot.neg]
  omega
 refine ⟨Y1,Y2,hS,by omega,?_⟩
 rw [hS] at hY
 have hx2:SortedC (x :: Y2):=List.pairwise_cons.2 ⟨fun z hz=>by
  cases h:Y2 with
  | nil=>rw [h] at hz;cases hz
  | cons y u=>exact cmpC_tot.trans _ _ _ (hf y u h) (head_le cmpC_tot (h ▸ hY.right) z (h ▸ hz)),hY.right⟩
 have:=Stable.merge cmpC_tot (X1:=[]) (X2:=[x]) (Y1:=Y1) (Y2:=Y2) (Z1:=Y1) (Z2:=x :: Y2) (by rw [List.nil_append];exact List.pairwise_singleton _ _) hY (fun t z y s e=>by cases t<;>cases e) (fun t y z s e1 e2=>by
  injection e2 with e2 _
  subst e2
  have l1:Y1.length=t.length+1:=by rw [e1,List.length_append,List.length_singleton]
  have:=hA (by omega)
  rwa [getD_of (L:=L) (P:=P++([x]++t)) (Q:=Y2++Q) (x:=y) (by rw [hL,hS,e1];simp) (by simp only [List.length_append,List.length_singleton];omega)] at this) (by rw [List.nil_append];exact Stable.self hY.left) (Stable.self hx2)
 rw [hS]
 exact this
/-- a sorted list, behind it one element: where that goes -/
theorem last_split {P X Q L:List Ct} {y:Ct} {a m i:Nat} (hL:L=P++(X++([y]++Q))) (ha:a=P.length) (hm:m=a+X.length) (h1:a≤i) (h2:i≤m) (hX:SortedC X)
  (hA:a<i → ¬ cmpC y (L.getD (i - 1) Ct.zero)<0) (hB:i<m→cmpC y (L.getD i Ct.zero)<0) :
  ∃ X1 X2,X=X1++X2∧i=a+X1.length∧Stable cmpC (X++[y]) (X1++y :: X2):=by
 obtain ⟨X1,X2,hS,hX1⟩:=cut_at X (i - a) (by omega)
 have lX:X.length=X1.length+X2.length:=by rw [hS,List.length_append]
 refine ⟨X1,X2,hS,by omega,?_⟩
 refine Stable.insert cmpC_tot (Stable.self (hS ▸ hX) |> fun h=>(hS ▸ h:Stable cmpC X (X1++X2))) (fun z hz=>?_) (fun z hz=>?_)
 ·cases h:X2 with
  | nil=>rw [h] at hz;cases hz
  | cons x u =>
   have l2:X2.length=u.length+1:=by rw [h,List.length_cons]
   have:=hB (by omega)
   rw [getD_of (L:=L) (P:=P++X1) (Q:=u++([y]++Q)) (x:=x) (by rw [hL,hS,h];simp) (by simp only [List.length_append];omega)] at this
   rw [hS] at hX
   exact cmpC_tot.lt_of_lt_le this (head_le cmpC_tot (h ▸ hX.right) z (h ▸ hz))
 ·rcases last_cases X1 with e | ⟨t,x,e⟩
  ·rw [e] at hz;cases hz
  ·rw [e,List.getLast?_append,List.getLast?_singleton] at hz
   have hz:x=z:=by simpa using hz
   subst hz
   have l1:X1.length=t.length+1:=by rw [e,List.length_append,List.length_singleton]
   have:=hA (by omega)
   rwa [getD_of (L:=L) (P:=P++t) (Q:=X2++([y]++Q)) (x:=x) (by rw [hL,hS,e];simp) (by simp only [List.length_append];omega)] at this
end Go.Proofs.YtdgbkpoickbidaaGreatDoor
