/- Lists of updates in memory; their order. stamp.Cmp, with the world behind it told to the block. delta.order: the order of updates. The plain law of row.Sum: same rows put together, sorted. The plain law of delta.Sum: same rows and times put together, sorted. The plain law of sums of sums of updates. Lists of updates that say the same of every set of keys; sums of such lists. Whether a row may be, by its data. Plain. Sums of updates of rows that may be: they do not hang on the order, nor on sums made on the way. Plain. Append with room; slices just built. Slices of bytes that a call owns; made a string. join.wide: a number behind bytes, as eight of them. Lists of ints. Conditions: each theorem states its own. -/
import Derived.Test.YtdgbkpoickbidaaHz2
import Derived.Test.YtdgbkpoickbidaaHz1
import Derived.Sort.Grow
import Derived.Test.YtdgbkpoickbidaaProg
import Derived.Lib.Builder
import Derived.Lib.AppendStr
import Derived.OwnWalk
import Derived.Laws.BytesString
import Derived.Laws.Cells
import Derived.Laws.Concat
import Derived.Deep.LoopGhost
namespace Go.Proofs.Ytdgbkpoickbidaa
open Go.RowKit

/-- an update that lies in memory -/
structure Ud where
 A:Option Addr
 c:Nat
 l:List Dat
 t:Tm
 d:Int
def Ud.zero:Ud:=⟨none,0,[],Tm.zero,0⟩
instance:Inhabited Ud:=⟨Ud.zero⟩
/-- an update's row and time -/
abbrev UK:=List Dat × TV
abbrev UV:=UK × Int
def Ud.k (x:Ud):UK:=(x.l,x.t.v)
def Ud.uv (x:Ud):UV:=(x.k,x.d)
def kcmp (x y:UK):Int:=if cmpR x.1 y.1=0 then tcmp x.2 y.2 else cmpR x.1 y.1
theorem tcmp_tot:TotPre tcmp:=⟨fun x y=>by rw [tcmp_neg y x],fun x y z=>tcmp_trans x y z⟩
theorem cmpR_tot:TotPre cmpR:=⟨cmpR_neg,cmpR_trans⟩
theorem kcmp_tot:TotPre kcmp:=by
 refine ⟨fun x y=>?_,fun x y z h k=>?_⟩
 ·unfold kcmp
  have h:=cmpR_neg x.1 y.1
  by_cases q:cmpR x.1 y.1=0
  ·rw [if_pos q,if_pos (by omega)];exact tcmp_tot.neg _ _
  ·rw [if_neg q,if_neg (by omega)];exact h
 ·unfold kcmp at h k ⊢
  by_cases q1:cmpR x.1 y.1=0
  ·rw [if_pos q1] at h
   by_cases q2:cmpR y.1 z.1=0
   ·rw [if_pos q2] at k
    rw [if_pos (cmpR_tot.eq_trans q1 q2)]
    exact tcmp_tot.trans _ _ _ h k
   ·rw [if_neg q2] at k
    have:=cmpR_tot.lt_of_le_lt (show cmpR x.1 y.1≤0 by omega) (show cmpR y.1 z.1<0 by omega)
    rw [if_neg (by omega)]
    omega
  ·rw [if_neg q1] at h
   have hyz:cmpR y.1 z.1≤0:=by
    by_cases q2:cmpR y.1 z.1=0
    ·omega
    ·rw [if_neg q2] at k;exact k
   have:=cmpR_tot.lt_of_lt_le (show cmpR x.1 y.1<0 by omega) hyz
   rw [if_neg (by omega)]
   omega
def ucmp (x y:Ud):Int:=kcmp x.k y.k
theorem ucmp_tot:TotPre ucmp:=⟨fun x y=>kcmp_tot.neg _ _,fun x y z=>kcmp_tot.trans _ _ _⟩
def udC (x:Ud):List Value:=[.slice x.A x.l.length x.c, .int .u64 x.t.e, .slice x.t.A x.t.l.length x.t.c, .int .i64 x.d]
def udV (x:Ud):Value := .agg #[.slice x.A x.l.length x.c, .int .u64 x.t.e, .slice x.t.A x.t.l.length x.t.c, .int .i64 x.d]
def udsC (L:List Ud):List Value:=L.flatMap udC
theorem udsC_len (L:List Ud):(udsC L).length=L.length * 4:=by
 unfold udsC
 induction L with
 | nil=>rfl
 | cons d l ih=>rw [List.flatMap_cons,List.length_append,ih,List.length_cons,show (udC d).length=4 from rfl];omega
theorem udsC_at : ∀ (L:List Ud) (i j:Nat),i<L.length→j<4→(udsC L)[i * 4+j]?=(udC (L.getD i Ud.zero))[j]?
 | [],i,j,h,_=>absurd h (Nat.not_lt_zero _)
 | d :: l,0,j,_,hj=>by
  unfold udsC
  rw [List.flatMap_cons,Nat.zero_mul,Nat.zero_add,List.getElem?_append_left (by rw [show (udC d).length=4 from rfl];exact hj)]
  rfl
 | d :: l,i+1,j,h,hj=>by
  unfold udsC
  rw [List.flatMap_cons,List.getElem?_append_right (by rw [show (udC d).length=4 from rfl];omega),show (i+1) * 4+j - (udC d).length=i * 4+j by rw [show (udC d).length=4 from rfl];omega]
  exact udsC_at l i j (Nat.lt_of_succ_lt_succ h) hj
theorem udsC_append (L M:List Ud):udsC (L++M)=udsC L++udsC M:=List.flatMap_append
theorem udsC_one (L:List Ud) : ∀ u∈udsC L,u.oneCell'=true:=by
 intro u hu
 obtain ⟨d,_,h⟩:=List.mem_flatMap.1 hu
 simp only [udC,List.mem_cons,List.not_mem_nil,or_false] at h
 rcases h with rfl | rfl | rfl | rfl<;>rfl
theorem udsC_take (L:List Ud) (k:Nat):(udsC L).take (k * 4)=udsC (L.take k):=by
 induction L generalizing k with
 | nil=>simp [udsC]
 | cons x L ih =>
  cases k with
  | zero=>simp [udsC]
  | succ k =>
   show (udC x++udsC L).take _=udC x++udsC (L.take k)
   rw [List.take_append,show (udC x).length=4 from rfl,show (k+1) * 4 - 4=k * 4 by omega,ih,List.take_of_length_le (by show 4≤_;omega)]
theorem udsC_drop (L:List Ud) (k:Nat):(udsC L).drop (k * 4)=udsC (L.drop k):=by
 induction L generalizing k with
 | nil=>simp [udsC]
 | cons x L ih =>
  cases k with
  | zero=>simp [udsC]
  | succ k =>
   show (udC x++udsC L).drop _=udsC (L.drop k)
   rw [List.drop_append,show (udC x).length=4 from rfl,show (k+1) * 4 - 4=k * 4 by omega,ih,List.drop_of_length_le (by show 4≤_;omega),List.nil_append]
theorem udsC_set : ∀ (L:List Ud) (i:Nat) (x:Ud),((((udsC L).set (i * 4) (.slice x.A x.l.length x.c)).set (i * 4+1) (.int .u64 x.t.e)).set (i * 4+2) (.slice x.t.A x.t.l.length x.t.c)).set (i * 4+3) (.int .i64 x.d)=udsC (L.set i x)
 | [],i,x=>rfl
 | d :: l,0,x=>rfl
 | d :: l,i+1,x=>by
  have ih:=udsC_set l i x
  show ((((udC d++udsC l).set ((i+1) * 4) _).set ((i+1) * 4+1) _).set ((i+1) * 4+2) _).set ((i+1) * 4+3) _=udC d++udsC (l.set i x)
  rw [← ih,List.set_append_right _ _ (by show 4≤_;omega),List.set_append_right _ _ (by show 4≤_;omega),List.set_append_right _ _ (by show 4≤_;omega),List.set_append_right _ _ (by show 4≤_;omega),show (i+1) * 4 - (udC d).length=i * 4 by show _ - 4=_;omega,
   show (i+1) * 4+1 - (udC d).length=i * 4+1 by show _ - 4=_;omega,show (i+1) * 4+2 - (udC d).length=i * 4+2 by show _ - 4=_;omega,show (i+1) * 4+3 - (udC d).length=i * 4+3 by show _ - 4=_;omega]
theorem elem_ud:Elem Try.prog 33 51 4 64 (.agg #[.slice none 0 0, .int .u64 0, .slice none 0 0, .int .i64 0]):=⟨by kernel_rfl,by kernel_rfl,rfl,by decide⟩
/-- an update's row and counters lie in memory -/
structure UdR (w:World) (x:Ud):Prop where
 r:Rw w x.A x.c x.l
 t:Sl w 1 x.t.A x.t.l.length x.t.c (wds x.t.l)
theorem UdR.ext {w w':World} {x:Ud} (h:UdR w x) (y:Ext w w'):UdR w' x:=⟨h.r.ext y,h.t.ext y⟩
/-- a list of updates as readings give it -/
structure Uin (w:World) (A:Option Addr) (c:Nat) (L:List Ud):Prop where
 sl:Sl w 4 A L.length c (udsC L)
 ls : ∀ x∈L,UdR w x
theorem Uin.ext {w w':World} {A:Option Addr} {c:Nat} {L:List Ud} (h:Uin w A c L) (x:Ext w w'):Uin w' A c L:=⟨h.sl.ext x,fun y hy=>(h.ls y hy).ext x⟩
theorem Uin.nil (w:World):Uin w none 0 []:=⟨Sl.nil w 4,fun x hx=>(nomatch hx)⟩
theorem getU_mem {L:List Ud} {i:Nat} (h:i<L.length):L.getD i Ud.zero∈L:=by
 rw [List.getD_eq_getElem?_getD,List.getElem?_eq_getElem h]
 exact List.getElem_mem h
theorem Uin.at {w:World} {A:Option Addr} {c:Nat} {L:List Ud} (h:Uin w A c L) {i:Nat} (hi:i<L.length) : ∃ ad,A=some ad∧w.cell? (ad.add (i * 4))=some (.slice (L.getD i Ud.zero).A (L.getD i Ud.zero).l.length (L.getD i Ud.zero).c) ∧
  w.cell? ⟨(ad.add (i * 4)).block,(ad.add (i * 4)).off+1,none⟩=some (.int .u64 (L.getD i Ud.zero).t.e)∧w.cell? ⟨(ad.add (i * 4)).block,(ad.add (i * 4)).off+2,none⟩=some (.slice (L.getD i Ud.zero).t.A (L.getD i Ud.zero).t.l.length (L.getD i Ud.zero).t.c) ∧
  w.cell? ⟨(ad.add (i * 4)).block,(ad.add (i * 4)).off+3,none⟩=some (.int .i64 (L.getD i Ud.zero).d) :=
 own_at4 h.sl hi (show udC (L.getD i Ud.zero)=[.slice (L.getD i Ud.zero).A (L.getD i Ud.zero).l.length (L.getD i Ud.zero).c, .int .u64 (L.getD i Ud.zero).t.e, .slice (L.getD i Ud.zero).t.A (L.getD i Ud.zero).t.l.length (L.getD i Ud.zero).t.c, .int .i64 (L.getD i Ud.zero).d] from rfl) (fun q hq=>udsC_at L i q hi hq)
theorem takeU {L:List Ud} {i:Nat} (h:i<L.length):L.take (i+1)=L.take i++[L.getD i Ud.zero]:=by
 rw [List.take_succ_eq_append_getElem h,List.getD_eq_getElem?_getD,List.getElem?_eq_getElem h];rfl
theorem dropU {L:List Ud} {i:Nat} (h:i<L.length):L.drop i=L.getD i Ud.zero :: L.drop (i+1):=by
 rw [List.drop_eq_getElem_cons h,List.getD_eq_getElem?_getD,List.getElem?_eq_getElem h];rfl
end Go.Proofs.Ytdgbkpoickbidaa
/-! ### a list that is being sorted -/
namespace Go.Proofs.Ytdgbkpoickbidaa.UdS
open Go.RowKit

def cmpC (x y:Ud):Int:=ucmp x y
theorem cmpC_tot:TotPre cmpC:=ucmp_tot
/-- the rows and counters of such a list lie in memory, none of them in block g -/
def Rws (w:World) (g:Nat) (L:List Ud):Prop := ∀ x∈L,UdR w x∧(0<x.l.length → ∀ ad,x.A=some ad→ad.block≠g)∧(0<x.t.l.length → ∀ ad,x.t.A=some ad→ad.block≠g)
/-- the block g holds the list, from its head on; it was made from block B on -/
def Arr (w:World) (B g c:Nat) (L:List Ud):Prop:=Own w B 51 4 (some ⟨g,0,none⟩) L.length c (udsC L)∧0<c
/-- an element that is stored -/
abbrev put4 (w:World) (g i:Nat) (x:Ud) (n m:Nat):World:=(((w.setCell ⟨g,i * 4,none⟩ (.slice x.A n x.c)).setCell ⟨g,i * 4+1,none⟩ (.int .u64 x.t.e)).setCell ⟨g,i * 4+2,none⟩ (.slice x.t.A m x.t.c)).setCell ⟨g,i * 4+3,none⟩ (.int .i64 x.d)
section
variable {w w':World} {B g c:Nat} {L:List Ud}
theorem Arr.ext (h:Arr w B g c L) (x:Ext w w'):Arr w' B g c L:=⟨h.1.ext x,h.2⟩
theorem Rws.ext (h:Rws w g L) (x:Ext w w'):Rws w' g L:=fun y hy=>⟨(h y hy).1.ext x,(h y hy).2⟩
theorem sl_upd {A:Option Addr} {n m:Nat} {size:Nat} {xs:List Value} (h:Sl w size A n m xs) (hx:w.grownBy w' (some g)) (ha:0<n → ∀ ad,A=some ad→ad.block≠g):Sl w' size A n m xs :=
 ⟨h.1,h.2.1,h.2.2.1,h.2.2.2.1,fun hn=>by
  obtain ⟨ad,e,hc⟩:=h.2.2.2.2 hn
  exact ⟨ad,e,fun j u hu=>hx.cell (hc j u hu) (by rw [block_add];intro q;injection q with q;exact ha hn ad e q)⟩⟩
theorem Rws.upd (h:Rws w g L) (hx:w.grownBy w' (some g)):Rws w' g L:=fun y hy=>⟨⟨sl_upd (h y hy).1.r hx (h y hy).2.1,sl_upd (h y hy).1.t hx (h y hy).2.2⟩,(h y hy).2⟩
theorem sl_below {A:Option Addr} {n m:Nat} {size:Nat} {xs:List Value} (h:Sl w size A n m xs) (hs:0<size) (hn:0<n) : ∀ ad,A=some ad→ad.block<w.heap.size:=fun ad e=>by
 obtain ⟨ad',e',hc⟩:=h.2.2.2.2 hn
 rw [e] at e'
 injection e' with e'
 subst e'
 have hl:0<xs.length:=by rw [h.1];exact Nat.mul_pos hn hs
 have:=World.block_lt_of_cell? w _ (hc 0 _ (List.getElem?_eq_getElem hl))
 rwa [block_add] at this
theorem Rws.of {w0:World} (h : ∀ x∈L,UdR w0 x) (x:Ext w0 w) (hg:w0.heap.size≤g):Rws w g L:=fun y hy =>
 ⟨(h y hy).ext x,fun hn ad e=>by have:=sl_below (h y hy).r (by decide) hn ad e;omega,fun hn ad e=>by have:=sl_below (h y hy).t (by decide) hn ad e;omega⟩
theorem Rws.sub {M:List Ud} (h:Rws w g L) (hs : ∀ x∈M,x∈L):Rws w g M:=fun x hx=>h x (hs x hx)
theorem Arr.lt (h:Arr w B g c L):B≤g∧g<w.heap.size:=by
 have:=h.1.lt g (by obtain ⟨k,hk⟩ : ∃ k,c=k+1:=⟨c - 1,by have:=h.2;omega⟩;rw [hk];rfl)
 exact this
theorem Arr.le (h:Arr w B g c L):L.length≤9223372036854775807:=by have:=h.1.le;omega
/-- an element's cells; they may be written -/
theorem Arr.at (h:Arr w B g c L) {i:Nat} (hi:i<L.length):w.cell? ⟨g,i * 4,none⟩=some (.slice (L.getD i Ud.zero).A (L.getD i Ud.zero).l.length (L.getD i Ud.zero).c)∧w.cell? ⟨g,i * 4+1,none⟩=some (.int .u64 (L.getD i Ud.zero).t.e) ∧
  w.cell? ⟨g,i * 4+2,none⟩=some (.slice (L.getD i Ud.zero).t.A (L.getD i Ud.zero).t.l.length (L.getD i Ud.zero).t.c)∧w.cell? ⟨g,i * 4+3,none⟩=some (.int .i64 (L.getD i Ud.zero).d):=by
 obtain ⟨g',e,_,_,_,hc,_⟩:=h.1.form (by omega)
 cases e
 exact ⟨hc _ _ (by rw [← Nat.add_zero (i * 4),udsC_at L i 0 hi (by omega)];rfl),hc _ _ (by rw [udsC_at L i 1 hi (by omega)];rfl),hc _ _ (by rw [udsC_at L i 2 hi (by omega)];rfl),hc _ _ (by rw [udsC_at L i 3 hi (by omega)];rfl)⟩
theorem Arr.free (h:Arr w B g c L) (j:Nat):w.frozen? ⟨g,j,none⟩=false:=by
 rcases h.1.2 with ⟨h1,h2⟩ | ⟨g',cur,e,hb,hg,_⟩
 ·have:=h.2;omega
 ·cases e
  simp [World.frozen?,hg]
theorem Arr.set (h:Arr w B g c L) (i:Nat) (x:Ud):Arr (put4 w g i x x.l.length x.t.l.length) B g c (L.set i x):=by
 have:=(((h.1.put (i * 4) (.slice x.A x.l.length x.c)).put (i * 4+1) (.int .u64 x.t.e)).put (i * 4+2) (.slice x.t.A x.t.l.length x.t.c)).put (i * 4+3) (.int .i64 x.d)
 rw [udsC_set] at this
 refine ⟨?_,h.2⟩
 rw [List.length_set]
 exact this
theorem upd_put4 (w:World) (g i:Nat) (x:Ud) (n m:Nat):w.grownBy (put4 w g i x n m) (some g):=(((upd_set w g _ _).trans (upd_set _ g _ _)).trans (upd_set _ g _ _)).trans (upd_set _ g _ _)
theorem upd_swap {w:World} {g i j:Nat} {x y:Ud} {nx ny tx ty:Nat}:w.grownBy (put4 (put4 w g i y ny ty) g j x nx tx) (some g):=(upd_put4 _ _ _ _ _ _).trans (upd_put4 _ _ _ _ _ _)
end
end Go.Proofs.Ytdgbkpoickbidaa.UdS
namespace Go.Proofs.Ytdgbkpoickbidaa
open Go.RowKit

open Go.RowKit
set_option maxRecDepth 100000 in
set_option maxHeartbeats 600000 in
theorem or2_any (g:Nat) (t:TypeId) (x y:Int) (w:World) (hb:Bk w g t #[.int .i64 x, .int .i64 y]) :
  Calls Try.prog 57 #[.slice (some ⟨g,0,none⟩) 2 2] w fun e w'=>e = .returned (.int .i64 (if x=0 then y else x))∧w=w':=by
 have hx:w.cell? ⟨g,0,none⟩=some (.int .i64 x):=hb.cell 0
 have hy:w.cell? ⟨g,1,none⟩=some (.int .i64 y):=hb.cell 1
 obtain ⟨r,hr⟩ : ∃ r,r=(if x=0 then y else x):=⟨_,rfl⟩
 rw [← hr]
 have HR:=Lib.hid hr
 clear hr
 go_enter Try.func57,Try.ntmps57
 go_wp2
 go_loop [8] (fun v => ∃ k:Nat,k≤2∧v = .int .i64 k∧(0<k→x=0)∧(1<k→y=0)) (fun v=>2 - (intOf v).toNat)
 case atStart=>exact ⟨0,by omega,rfl,by omega,by omega⟩
 case round =>
  obtain ⟨k,hk,rfl,k0,k1⟩:=hrel
  have K0:=Lib.hid k0
  have K1:=Lib.hid k1
  clear k0 k1
  match k,hk with
  | 0,_ =>
   by_cases q:x=0
   ·have q':(x != 0)=false:=by simpa using q
    have Q:=Lib.hid q
    clear q
    go_wp2
    go_round
    case rel=>exact ⟨1,by omega,rfl,fun _=>Q.out,by omega⟩
    case measure=>simp [intOf]
   ·have q':(x != 0)=true:=by simpa using q
    go_wp2
    go_ret
    exact ⟨ret_int (by rw [HR.out];simp [q]),rfl⟩
  | 1,_ =>
   by_cases q:y=0
   ·have q':(y != 0)=false:=by simpa using q
    have Q:=Lib.hid q
    clear q
    go_wp2
    go_round
    case rel=>exact ⟨2,by omega,rfl,fun _=>K0.out (by omega),fun _=>Q.out⟩
    case measure=>simp [intOf]
   ·have q':(y != 0)=true:=by simpa using q
    go_wp2
    go_ret
    exact ⟨ret_int (by rw [HR.out];simp [K0.out (by omega)]),rfl⟩
  | 2,_ =>
   go_wp2
   go_ret
   exact ⟨ret_int (by rw [HR.out];simp [K0.out (by omega),K1.out (by omega)]),rfl⟩
  | k+3,hk=>omega
set_option maxRecDepth 100000 in
set_option maxHeartbeats 1600000 in
theorem order_any (x y:Ud) (nx ny tx ty:Nat) (v:Int) (w:World) (hv:Hid (UdS.cmpC x y=v)) (hnx:Hid (nx=x.l.length)) (hny:Hid (ny=y.l.length)) (htx:Hid (tx=x.t.l.length)) (hty:Hid (ty=y.t.l.length)) (hx:Hid (UdR w x)) (hy:Hid (UdR w y)) :
  Calls Try.prog 40 #[.agg #[.slice x.A nx x.c, .int .u64 x.t.e, .slice x.t.A tx x.t.c, .int .i64 x.d], .agg #[.slice y.A ny y.c, .int .u64 y.t.e, .slice y.t.A ty y.t.c, .int .i64 y.d]] w fun e w'=>e = .returned (.int .i64 v)∧Ext w w':=by
 obtain ⟨r,hr⟩ : ∃ r,cmpR x.l y.l=r:=⟨_,rfl⟩
 obtain ⟨t,ht⟩ : ∃ t,cmpTT x.t.e x.t.l y.t.e y.t.l=t:=⟨_,rfl⟩
 have hvv:(if r=0 then t else r)=v:=by rw [← hv.out, ← hr, ← ht];rfl
 have HV:=Lib.hid hvv
 have HR:=Lib.hid hr
 have HT:=Lib.hid ht
 have X1:Hid (Sl w 1 x.t.A tx x.t.c (wds x.t.l)):=Lib.hid (by rw [htx.out];exact hx.out.t)
 have Y1:Hid (Sl w 1 y.t.A ty y.t.c (wds y.t.l)):=Lib.hid (by rw [hty.out];exact hy.out.t)
 clear hvv hr ht
 go_enter Try.func40,Try.ntmps40
 go_upto_region 1 with fail
 obtain ⟨w0,hw0⟩ : ∃ w0,w0=(w.alloc (Obj.cells #[.slice x.A nx x.c, .int .u64 x.t.e, .slice x.t.A tx x.t.c, .int .i64 x.d] 51)).alloc (Obj.cells #[.slice y.A ny y.c, .int .u64 y.t.e, .slice y.t.A ty y.t.c, .int .i64 y.d] 51):=⟨_,rfl⟩
 have x0:Ext w w0:=hw0 ▸ ((Ext.refl w).alloc _).alloc _
 have a0:Bk w0 w.heap.size 51 #[.slice x.A nx x.c, .int .u64 x.t.e, .slice x.t.A tx x.t.c, .int .i64 x.d]:=by subst hw0;exact (Bk.new _ _ _).alloc _
 have b0:Bk w0 (w.heap.size+1) 51 #[.slice y.A ny y.c, .int .u64 y.t.e, .slice y.t.A ty y.t.c, .int .i64 y.d]:=by subst hw0;exact Bk.at (by simp)
 rw [← hw0]
 have HW0:=Lib.hid hw0
 clear hw0
 have X:Ext w0 w0.drew:=(Ext.refl w0).drew
 have q1 : ∀ y:Xt w0.drew,y.W.cell? ⟨w.heap.size,0,none⟩=some (.slice x.A nx x.c):=fun y=>(a0.ext (X.trans y.x)).cell 0
 have q2 : ∀ y:Xt w0.drew,y.W.cell? ⟨w.heap.size,1,none⟩=some (.int .u64 x.t.e):=fun y=>(a0.ext (X.trans y.x)).cell 1
 have q3 : ∀ y:Xt w0.drew,y.W.cell? ⟨w.heap.size,2,none⟩=some (.slice x.t.A tx x.t.c):=fun y=>(a0.ext (X.trans y.x)).cell 2
 have q4 : ∀ z:Xt w0.drew,z.W.cell? ⟨w.heap.size+1,0,none⟩=some (.slice y.A ny y.c):=fun z=>(b0.ext (X.trans z.x)).cell 0
 have q5 : ∀ z:Xt w0.drew,z.W.cell? ⟨w.heap.size+1,1,none⟩=some (.int .u64 y.t.e):=fun z=>(b0.ext (X.trans z.x)).cell 1
 have q6 : ∀ z:Xt w0.drew,z.W.cell? ⟨w.heap.size+1,2,none⟩=some (.slice y.t.A ty y.t.c):=fun z=>(b0.ext (X.trans z.x)).cell 2
 refine wp_region_ord [0,1,0,4,15,0,32,0,128,511,1023,2047,4095] (.flo [0,1,2,3,5,6,7,8] (.ext 4 (.one 9 (.one 10 (.one 11 (.flo [12] (.fin))))))) (by kernel_rfl) (by kernel_rfl) (by intro _ _ d _ _ h;cases d<;>exact h) ?_
 (refine ord_flo (pick_cons rfl (pick_cons rfl (pick_cons rfl (pick_cons rfl (pick_cons rfl (pick_cons rfl (pick_cons rfl (pick_cons rfl pick_nil)))))))) ?_;(repeat (go_big_quiet_step (fail)));refine wpQuiet_nil ?_;show ordWalk _ _ _ _ _ _ _)
 refine ord_ext (pick_cons rfl pick_nil) ?_;intro K_ hK_
 go_wp2_with (go_at_call 58;refine (rowCmp_any x.A y.A x.c y.c nx ny x.l y.l _ hnx.out hny.out (hx.out.r.ext (x0.trans X)) (hy.out.r.ext (x0.trans X))).mono ?_;rintro e w1 ⟨rfl,x1⟩;rw [HR.out])
 refine ordNext.mk x1 ?_
 refine ord_one (pick_cons rfl pick_nil) ?_;intro K_ hK_
 go_wp2_with (go_at_call 59;refine (cmp_any x.t.e y.t.e x.t.A y.t.A tx ty x.t.c y.t.c x.t.l y.t.l _ (X1.out.ext ((x0.trans X).trans x1)) (Y1.out.ext ((x0.trans X).trans x1))).mono ?_;rintro e w2 ⟨rfl,x2⟩;rw [HT.out])
 refine ord_one (pick_cons rfl pick_nil) ?_;intro K_ hK_
 go_wp2
 refine ord_one (pick_cons rfl pick_nil) ?_;intro K_ hK_
 go_wp2_with (go_at_call 57;refine (or2_any _ _ _ _ _ (Bk.at (by simp))).mono ?_;rintro e w3 ⟨rfl,rfl⟩;rw [HV.out])
 (refine ord_flo (pick_cons rfl pick_nil) ?_;(repeat (go_big_quiet_step (fail)));refine wpQuiet_nil ?_;show ordWalk _ _ _ _ _ _ _)
 refine ord_fin ?_
 go_wp2
 go_ret
 exact ⟨rfl,(((x0.trans X).trans x1).trans x2).alloc _⟩
open Go.RowKit
abbrev V:=List Dat × Int
def cmpV (x y:V):Int:=cmpR x.1 y.1
theorem cmpV_tot:TotPre cmpV:=⟨fun x y=>cmpR_neg x.1 y.1,fun x y z=>cmpR_trans x.1 y.1 z.1⟩
def w64 (n:Int):Int:=IntKind.i64.wrap n
theorem w64_add (a b:Int):w64 (w64 a+b)=w64 (a+b):=by
 unfold w64
 simp only [IntKind.wrap_i64]
 omega
theorem w64_id {a:Int} (h : -9223372036854775808≤a∧a≤9223372036854775807):w64 a=a:=IntWalk.i64_in _ (by omega)
theorem w64_in (a:Int) : -9223372036854775808≤w64 a∧w64 a≤9223372036854775807:=by
 unfold w64
 simp only [IntKind.wrap_i64]
 omega
def InN (x:V):Prop := -9223372036854775808≤x.2∧x.2≤9223372036854775807
def cnt (l:List V):Int:=w64 (l.foldr (fun x a=>x.2+a) 0)
theorem cnt_snoc (l:List V) (x:V):cnt (l++[x])=w64 (cnt l+x.2):=by
 unfold cnt
 rw [w64_add]
 congr 1
 induction l with
 | nil=>simp
 | cons y l ih=>simp only [List.cons_append,List.foldr_cons];rw [ih];omega
theorem cnt_one {x:V} (h:InN x):cnt [x]=x.2:=by
 show w64 (x.2+0)=x.2
 rw [Int.add_zero]
 exact w64_id h
def sumClass:List V→List V
 | []=>[]
 | x :: xs=>[(x.1,cnt (x :: xs))]
theorem sumClass_one {x:V} (h:InN x):sumClass [x]=[x]:=by
 show [(x.1,cnt [x])]=[x]
 rw [cnt_one h]
theorem sumClass_nil {l:List V} (h:sumClass l=[]):l=[]:=by
 cases l with
 | nil=>rfl
 | cons x l=>exact nomatch h
theorem sumClass_snoc {l:List V} {y x:V} (h:[y]=sumClass l):sumClass (l++[x])=[(y.1,w64 (y.2+x.2))]:=by
 cases l with
 | nil=>exact nomatch h
 | cons z l =>
  injection h with h _
  subst h
  show [(z.1,cnt ((z :: l)++[x]))]=_
  rw [cnt_snoc]
/-- R is D, same rows put together, sorted -/
structure Summed (D R:List V):Prop where
 sorted:R.Pairwise fun x y=>cmpV x y<0
 same : ∀ c,alike cmpV c R=sumClass (alike cmpV c D)
theorem Summed.unique {D R S:List V} (h:Summed D R) (k:Summed D S):R=S :=
 Stable.unique cmpV_tot (l:=R) ⟨h.sorted.imp fun q=>Int.le_of_lt q,fun _=>rfl⟩ ⟨k.sorted.imp fun q=>Int.le_of_lt q,fun c=>by rw [h.same,k.same]⟩
theorem alike_one (c x:V):alike cmpV c [x]=if cmpV c x=0 then [x] else []:=by
 unfold alike
 by_cases h:cmpV c x=0
 ·rw [if_pos h,List.filter_cons_of_pos (by simpa using h)]
  rfl
 ·rw [if_neg h,List.filter_cons_of_neg (by simpa using h)]
  rfl
theorem alike_none {c:V} {l:List V} (h : ∀ y∈l, ¬ cmpV c y=0):alike cmpV c l=[]:=List.filter_eq_nil_iff.2 fun y hy q=>h y hy (by simpa using q)
/-! ### rows that are alike, side by side -/
def mergeStep (M:List V) (x:V):List V:=match M.getLast? with
 | some y=>if cmpV y x=0 then M.dropLast++[(y.1,w64 (y.2+x.2))] else M++[x]
 | none=>[x]
def mergeV (S:List V):List V:=S.foldl mergeStep []
theorem mergeStep_nil (x:V):mergeStep [] x=[x]:=rfl
theorem mergeStep_snoc (M:List V) (y x:V):mergeStep (M++[y]) x=if cmpV y x=0 then M++[(y.1,w64 (y.2+x.2))] else M++[y]++[x]:=by
 unfold mergeStep
 rw [List.getLast?_append,List.getLast?_singleton]
 simp
theorem mergeV_snoc (S:List V) (x:V):mergeV (S++[x])=mergeStep (mergeV S) x:=by
 unfold mergeV
 rw [List.foldl_append]
 rfl
theorem snoc_ind {α:Type} {p:List α→Prop} (h0:p []) (h1 : ∀ l x,p l→p (l++[x])) (l:List α):p l:=by
 have key : ∀ m:List α,p m.reverse:=fun m=>by
  induction m with
  | nil=>exact h0
  | cons x m ih=>rw [List.reverse_cons];exact h1 _ _ ih
 have:=key l.reverse
 rwa [List.reverse_reverse] at this
theorem merge_sum (S:List V):S.Pairwise (fun x y=>cmpV x y≤0)→(∀ x∈S,InN x)→Summed S (mergeV S)∧((S=[]∧mergeV S=[]) ∨ ∃ S0 s M0 y,S=S0++[s]∧mergeV S=M0++[y]∧cmpV y s=0):=by
 refine snoc_ind (p:=fun S=>S.Pairwise (fun x y=>cmpV x y≤0)→(∀ x∈S,InN x)→Summed S (mergeV S)∧((S=[]∧mergeV S=[]) ∨ ∃ S0 s M0 y,S=S0++[s]∧mergeV S=M0++[y]∧cmpV y s=0)) ?_ ?_ S
 ·exact fun _ _=>⟨⟨List.Pairwise.nil,fun _=>rfl⟩, .inl ⟨rfl,rfl⟩⟩
 ·intro S x ih hs hin
  have hs':=List.pairwise_append.1 hs
  have hx:=hin x (by simp)
  obtain ⟨⟨i1,i2⟩,i3⟩:=ih hs'.1 (fun y hy=>hin y (List.mem_append_left _ hy))
  rw [mergeV_snoc]
  rcases i3 with ⟨rfl,i4⟩ | ⟨S0,s,M0,y,e1,e2,e3⟩
  ·rw [i4,mergeStep_nil]
   refine ⟨⟨List.pairwise_singleton _ _,fun c=>?_⟩, .inr ⟨[],x,[],x,rfl,rfl,cmpV_tot.refl x⟩⟩
   rw [List.nil_append,alike_one]
   split
   ·rw [sumClass_one hx]
   ·rfl
  ·rw [e2] at i1 i2 ⊢
   rw [mergeStep_snoc]
   have p1:=List.pairwise_append.1 i1
   have hlast : ∀ m∈M0,cmpV m y<0:=fun m hm=>p1.2.2 m hm y (by simp)
   have hsx:cmpV s x≤0:=hs'.2.2 s (by rw [e1];simp) x (by simp)
   have hyx:cmpV y x≤0:=cmpV_tot.trans y s x (by omega) hsx
   by_cases h0:cmpV y x=0
   ·rw [if_pos h0]
    refine ⟨⟨List.pairwise_append.2 ⟨p1.1,List.pairwise_singleton _ _,fun m hm z hz=>?_⟩,fun c=>?_⟩, .inr ⟨S,x,M0,_,rfl,rfl,h0⟩⟩
    ·rw [List.mem_singleton.1 hz];exact hlast m hm
    ·have q:=i2 c
     rw [alike_append,alike_one] at q
     rw [alike_append,alike_append,alike_one,alike_one]
     by_cases hc:cmpV c y=0
     ·have hcx:cmpV c x=0:=cmpV_tot.eq_trans hc h0
      have hM:alike cmpV c M0=[]:=alike_none fun m hm e=>by
       have:=hlast m hm
       have:=(cmpV_tot.eq_left (z:=y) (show cmpV m c=0 by rw [cmpV_tot.neg,e];rfl)).2 hc
       omega
      rw [if_pos hc,hM,List.nil_append] at q
      rw [if_pos (show cmpV c (y.1,w64 (y.2+x.2))=0 from hc),if_pos hcx,hM,List.nil_append]
      exact (sumClass_snoc q).symm
     ·have hcx : ¬ cmpV c x=0:=fun e=>hc (cmpV_tot.eq_trans e (by rw [cmpV_tot.neg,h0];rfl))
      rw [if_neg hc] at q
      rw [if_neg (show ¬ cmpV c (y.1,w64 (y.2+x.2))=0 from hc),if_neg hcx,List.append_nil (alike cmpV c S)]
      exact q
   ·rw [if_neg h0]
    have hlt : ∀ m∈M0++[y],cmpV m x<0:=fun m hm=>by
     rcases List.mem_append.1 hm with h | h
     ·exact cmpV_tot.lt_of_lt_le (hlast m h) hyx
     ·rw [List.mem_singleton.1 h];omega
    refine ⟨⟨List.pairwise_append.2 ⟨i1,List.pairwise_singleton _ _,fun m hm z hz=>?_⟩,fun c=>?_⟩, .inr ⟨S,x,M0++[y],x,rfl,rfl,cmpV_tot.refl x⟩⟩
    ·rw [List.mem_singleton.1 hz];exact hlt m hm
    ·have q:=i2 c
     have e4:alike cmpV c (M0++[y]++[x])=alike cmpV c (M0++[y])++alike cmpV c [x]:=alike_append _ _ _
     have e5:alike cmpV c (S++[x])=alike cmpV c S++alike cmpV c [x]:=alike_append _ _ _
     rw [e4,e5,q,alike_one]
     by_cases hc:cmpV c x=0
     ·have hM:alike cmpV c (M0++[y])=[]:=alike_none fun m hm e=>by
       have:=hlt m hm
       have:=(cmpV_tot.eq_left (z:=x) (show cmpV m c=0 by rw [cmpV_tot.neg,e];rfl)).2 hc
       omega
      rw [hM] at q
      rw [sumClass_nil q.symm,if_pos hc]
      show []++[x]=sumClass ([]++[x])
      rw [List.nil_append,sumClass_one hx]
     ·rw [if_neg hc,List.append_nil,List.append_nil]
theorem Summed.of_stable {D S:List V} (h:Stable cmpV D S) (hin : ∀ x∈D,InN x):Summed D (mergeV S):=by
 have k:=(merge_sum S h.sorted (fun x hx=>hin x ((h.mem cmpV_tot x).1 hx))).1
 exact ⟨k.sorted,fun c=>by rw [k.same,h.same]⟩
/-! ### the document's way: one more row, put into its place -/
def addV:List V→V→List V
 | [],x=>[x]
 | y :: R,x=>if cmpV y x<0 then y :: addV R x else if cmpV y x=0 then (y.1,w64 (y.2+x.2)) :: R else x :: y :: R
theorem alike_cons (c y:V) (R:List V):alike cmpV c (y :: R)=(if cmpV c y=0 then [y] else [])++alike cmpV c R:=by
 have:=alike_append (cmp:=cmpV) c [y] R
 rw [alike_one] at this
 exact this
theorem addV_mem (x:V) : ∀ (R:List V) (z:V),(∀ y∈R,cmpV z y<0)→cmpV z x<0 → ∀ y∈addV R x,cmpV z y<0
 | [],z,_,hx,y,hy=>by rw [List.mem_singleton.1 hy];exact hx
 | a :: R,z,h,hx,y,hy=>by
  unfold addV at hy
  split at hy
  ·rcases List.mem_cons.1 hy with rfl | q
   ·exact h _ (List.mem_cons_self ..)
   ·exact addV_mem x R z (fun b hb=>h b (List.mem_cons_of_mem _ hb)) hx y q
  ·split at hy
   ·rcases List.mem_cons.1 hy with rfl | q
    ·exact h a (List.mem_cons_self ..)
    ·exact h y (List.mem_cons_of_mem _ q)
   ·rcases List.mem_cons.1 hy with rfl | q
    ·exact hx
    ·exact h y q
theorem addV_same (x:V) (hx:InN x) (c:V) : ∀ (R:List V) (l:List V),R.Pairwise (fun x y=>cmpV x y<0)→alike cmpV c R=sumClass l→alike cmpV c (addV R x)=sumClass (l++if cmpV c x=0 then [x] else [])
 | [],l,_,h=>by
  have:=sumClass_nil (show sumClass l=[] from h.symm)
  subst this
  show alike cmpV c [x]=_
  rw [alike_one]
  split
  ·rw [List.nil_append,sumClass_one hx]
  ·rfl
 | y :: R,l,hp,h=>by
  have hp':=List.pairwise_cons.1 hp
  unfold addV
  by_cases h1:cmpV y x<0
  ·rw [if_pos h1,alike_cons]
   rw [alike_cons] at h
   by_cases hc:cmpV c y=0
   ·have hcx : ¬ cmpV c x=0:=fun e=>by have:=(cmpV_tot.eq_left (z:=x) hc).1 e;omega
    rw [if_pos hc] at h ⊢
    have hR:alike cmpV c R=[]:=alike_none fun z hz e=>by
     have:=hp'.1 z hz
     have:=(cmpV_tot.eq_left (z:=z) hc).1 e
     omega
    rw [hR] at h
    have:=addV_same x hx c R [] hp'.2 hR
    rw [this,if_neg hcx,List.append_nil,List.append_nil]
    exact h
   ·rw [if_neg hc] at h ⊢
    exact addV_same x hx c R l hp'.2 h
  ·rw [if_neg h1]
   by_cases h2:cmpV y x=0
   ·rw [if_pos h2,alike_cons]
    rw [alike_cons] at h
    by_cases hc:cmpV c y=0
    ·have hcx:cmpV c x=0:=cmpV_tot.eq_trans hc h2
     have hR:alike cmpV c R=[]:=alike_none fun z hz e=>by
      have:=hp'.1 z hz
      have:=(cmpV_tot.eq_left (z:=z) hc).1 e
      omega
     rw [if_pos hc,hR] at h
     rw [if_pos (show cmpV c (y.1,w64 (y.2+x.2))=0 from hc),hR,if_pos hcx]
     exact (sumClass_snoc h).symm
    ·have hcx : ¬ cmpV c x=0:=fun e=>hc (cmpV_tot.eq_trans e (by rw [cmpV_tot.neg,h2];rfl))
     rw [if_neg hc] at h
     rw [if_neg (show ¬ cmpV c (y.1,w64 (y.2+x.2))=0 from hc),if_neg hcx,List.append_nil]
     exact h
   ·rw [if_neg h2,alike_cons]
    by_cases hc:cmpV c x=0
    ·have hyx:cmpV x y<0:=by rw [cmpV_tot.neg];omega
     have hR:alike cmpV c (y :: R)=[]:=alike_none fun z hz e=>by
      have hxz:cmpV x z<0:=by
       rcases List.mem_cons.1 hz with rfl | q
       ·exact hyx
       ·exact cmpV_tot.lt_of_lt_le hyx (Int.le_of_lt (hp'.1 z q))
      have:=(cmpV_tot.eq_left (z:=z) hc).1 e
      omega
     rw [hR] at h ⊢
     rw [if_pos hc,sumClass_nil h.symm]
     show [x]++[]=sumClass ([]++[x])
     rw [List.nil_append,sumClass_one hx]
     rfl
    ·rw [if_neg hc,List.nil_append,List.append_nil]
     exact h
theorem addV_sorted (x:V) : ∀ R:List V,R.Pairwise (fun x y=>cmpV x y<0)→(addV R x).Pairwise (fun x y=>cmpV x y<0)
 | [],_=>List.pairwise_singleton _ _
 | y :: R,h=>by
  have h':=List.pairwise_cons.1 h
  unfold addV
  split
  ·rename_i h1
   exact List.pairwise_cons.2 ⟨addV_mem x R y h'.1 h1,addV_sorted x R h'.2⟩
  ·split
   ·exact List.pairwise_cons.2 ⟨fun z hz=>h'.1 z hz,h'.2⟩
   ·rename_i h1 h2
    have hyx:cmpV x y<0:=by rw [cmpV_tot.neg];omega
    exact List.pairwise_cons.2 ⟨fun z hz=>(List.mem_cons.1 hz).elim (fun e=>e ▸ hyx) (fun q=>cmpV_tot.lt_of_lt_le hyx (Int.le_of_lt (h'.1 z q))),h⟩
theorem Summed.add {D R:List V} {x:V} (h:Summed D R) (hx:InN x):Summed (D++[x]) (addV R x):=⟨addV_sorted x R h.sorted,fun c=>by rw [addV_same x hx c R _ h.sorted (h.same c),alike_append,alike_one]⟩
def sumAll (L:List V):List V:=L.foldl addV []
theorem Summed.all (L:List V):(∀ x∈L,InN x)→Summed L (sumAll L):=by
 refine snoc_ind (p:=fun L=>(∀ x∈L,InN x)→Summed L (sumAll L)) (fun _=>⟨List.Pairwise.nil,fun _=>rfl⟩) (fun L x ih h=>?_) L
 unfold sumAll
 rw [List.foldl_append]
 exact (ih (fun y hy=>h y (List.mem_append_left _ hy))).add (h x (by simp))
/-- what Sum answers -/
def sumV (L:List V):List V:=(sumAll L).filter fun x => !(x.2==0)
/-! ### one row more in a list of different rows -/
end Go.Proofs.Ytdgbkpoickbidaa
namespace Go.Proofs.Ytdgbkpoickbidaa.UdS
open Go.RowKit

abbrev V:=UK × Int
def cmpV (x y:V):Int:=kcmp x.1 y.1
theorem cmpV_tot:TotPre cmpV:=⟨fun x y=>kcmp_tot.neg x.1 y.1,fun x y z=>kcmp_tot.trans x.1 y.1 z.1⟩
def InN (x:V):Prop := -9223372036854775808≤x.2∧x.2≤9223372036854775807
def cnt (l:List V):Int:=w64 (l.foldr (fun x a=>x.2+a) 0)
theorem cnt_snoc (l:List V) (x:V):cnt (l++[x])=w64 (cnt l+x.2):=by
 unfold cnt
 rw [w64_add]
 congr 1
 induction l with
 | nil=>simp
 | cons y l ih=>simp only [List.cons_append,List.foldr_cons];rw [ih];omega
theorem cnt_one {x:V} (h:InN x):cnt [x]=x.2:=by
 show w64 (x.2+0)=x.2
 rw [Int.add_zero]
 exact w64_id h
def sumClass:List V→List V
 | []=>[]
 | x :: xs=>[(x.1,cnt (x :: xs))]
theorem sumClass_one {x:V} (h:InN x):sumClass [x]=[x]:=by
 show [(x.1,cnt [x])]=[x]
 rw [cnt_one h]
theorem sumClass_nil {l:List V} (h:sumClass l=[]):l=[]:=by
 cases l with
 | nil=>rfl
 | cons x l=>exact nomatch h
theorem sumClass_snoc {l:List V} {y x:V} (h:[y]=sumClass l):sumClass (l++[x])=[(y.1,w64 (y.2+x.2))]:=by
 cases l with
 | nil=>exact nomatch h
 | cons z l =>
  injection h with h _
  subst h
  show [(z.1,cnt ((z :: l)++[x]))]=_
  rw [cnt_snoc]
/-- R is D, same rows put together, sorted -/
structure Summed (D R:List V):Prop where
 sorted:R.Pairwise fun x y=>cmpV x y<0
 same : ∀ c,alike cmpV c R=sumClass (alike cmpV c D)
theorem Summed.unique {D R S:List V} (h:Summed D R) (k:Summed D S):R=S :=
 Stable.unique cmpV_tot (l:=R) ⟨h.sorted.imp fun q=>Int.le_of_lt q,fun _=>rfl⟩ ⟨k.sorted.imp fun q=>Int.le_of_lt q,fun c=>by rw [h.same,k.same]⟩
theorem alike_one (c x:V):alike cmpV c [x]=if cmpV c x=0 then [x] else []:=by
 unfold alike
 by_cases h:cmpV c x=0
 ·rw [if_pos h,List.filter_cons_of_pos (by simpa using h)]
  rfl
 ·rw [if_neg h,List.filter_cons_of_neg (by simpa using h)]
  rfl
theorem alike_none {c:V} {l:List V} (h : ∀ y∈l, ¬ cmpV c y=0):alike cmpV c l=[]:=List.filter_eq_nil_iff.2 fun y hy q=>h y hy (by simpa using q)
/-! ### rows that are alike, side by side -/
def mergeStep (M:List V) (x:V):List V:=match M.getLast? with
 | some y=>if cmpV y x=0 then M.dropLast++[(y.1,w64 (y.2+x.2))] else M++[x]
 | none=>[x]
def mergeV (S:List V):List V:=S.foldl mergeStep []
theorem mergeStep_nil (x:V):mergeStep [] x=[x]:=rfl
theorem mergeStep_snoc (M:List V) (y x:V):mergeStep (M++[y]) x=if cmpV y x=0 then M++[(y.1,w64 (y.2+x.2))] else M++[y]++[x]:=by
 unfold mergeStep
 rw [List.getLast?_append,List.getLast?_singleton]
 simp
theorem mergeV_snoc (S:List V) (x:V):mergeV (S++[x])=mergeStep (mergeV S) x:=by
 unfold mergeV
 rw [List.foldl_append]
 rfl
theorem merge_sum (S:List V):S.Pairwise (fun x y=>cmpV x y≤0)→(∀ x∈S,InN x)→Summed S (mergeV S)∧((S=[]∧mergeV S=[]) ∨ ∃ S0 s M0 y,S=S0++[s]∧mergeV S=M0++[y]∧cmpV y s=0):=by
 refine snoc_ind (p:=fun S=>S.Pairwise (fun x y=>cmpV x y≤0)→(∀ x∈S,InN x)→Summed S (mergeV S)∧((S=[]∧mergeV S=[]) ∨ ∃ S0 s M0 y,S=S0++[s]∧mergeV S=M0++[y]∧cmpV y s=0)) ?_ ?_ S
 ·exact fun _ _=>⟨⟨List.Pairwise.nil,fun _=>rfl⟩, .inl ⟨rfl,rfl⟩⟩
 ·intro S x ih hs hin
  have hs':=List.pairwise_append.1 hs
  have hx:=hin x (by simp)
  obtain ⟨⟨i1,i2⟩,i3⟩:=ih hs'.1 (fun y hy=>hin y (List.mem_append_left _ hy))
  rw [mergeV_snoc]
  rcases i3 with ⟨rfl,i4⟩ | ⟨S0,s,M0,y,e1,e2,e3⟩
  ·rw [i4,mergeStep_nil]
   refine ⟨⟨List.pairwise_singleton _ _,fun c=>?_⟩, .inr ⟨[],x,[],x,rfl,rfl,cmpV_tot.refl x⟩⟩
   rw [List.nil_append,alike_one]
   split
   ·rw [sumClass_one hx]
   ·rfl
  ·rw [e2] at i1 i2 ⊢
   rw [mergeStep_snoc]
   have p1:=List.pairwise_append.1 i1
   have hlast : ∀ m∈M0,cmpV m y<0:=fun m hm=>p1.2.2 m hm y (by simp)
   have hsx:cmpV s x≤0:=hs'.2.2 s (by rw [e1];simp) x (by simp)
   have hyx:cmpV y x≤0:=cmpV_tot.trans y s x (by omega) hsx
   by_cases h0:cmpV y x=0
   ·rw [if_pos h0]
    refine ⟨⟨List.pairwise_append.2 ⟨p1.1,List.pairwise_singleton _ _,fun m hm z hz=>?_⟩,fun c=>?_⟩, .inr ⟨S,x,M0,_,rfl,rfl,h0⟩⟩
    ·rw [List.mem_singleton.1 hz];exact hlast m hm
    ·have q:=i2 c
     rw [alike_append,alike_one] at q
     rw [alike_append,alike_append,alike_one,alike_one]
     by_cases hc:cmpV c y=0
     ·have hcx:cmpV c x=0:=cmpV_tot.eq_trans hc h0
      have hM:alike cmpV c M0=[]:=alike_none fun m hm e=>by
       have:=hlast m hm
       have:=(cmpV_tot.eq_left (z:=y) (show cmpV m c=0 by rw [cmpV_tot.neg,e];rfl)).2 hc
       omega
      rw [if_pos hc,hM,List.nil_append] at q
      rw [if_pos (show cmpV c (y.1,w64 (y.2+x.2))=0 from hc),if_pos hcx,hM,List.nil_append]
      exact (sumClass_snoc q).symm
     ·have hcx : ¬ cmpV c x=0:=fun e=>hc (cmpV_tot.eq_trans e (by rw [cmpV_tot.neg,h0];rfl))
      rw [if_neg hc] at q
      rw [if_neg (show ¬ cmpV c (y.1,w64 (y.2+x.2))=0 from hc),if_neg hcx,List.append_nil (alike cmpV c S)]
      exact q
   ·rw [if_neg h0]
    have hlt : ∀ m∈M0++[y],cmpV m x<0:=fun m hm=>by
     rcases List.mem_append.1 hm with h | h
     ·exact cmpV_tot.lt_of_lt_le (hlast m h) hyx
     ·rw [List.mem_singleton.1 h];omega
    refine ⟨⟨List.pairwise_append.2 ⟨i1,List.pairwise_singleton _ _,fun m hm z hz=>?_⟩,fun c=>?_⟩, .inr ⟨S,x,M0++[y],x,rfl,rfl,cmpV_tot.refl x⟩⟩
    ·rw [List.mem_singleton.1 hz];exact hlt m hm
    ·have q:=i2 c
     have e4:alike cmpV c (M0++[y]++[x])=alike cmpV c (M0++[y])++alike cmpV c [x]:=alike_append _ _ _
     have e5:alike cmpV c (S++[x])=alike cmpV c S++alike cmpV c [x]:=alike_append _ _ _
     rw [e4,e5,q,alike_one]
     by_cases hc:cmpV c x=0
     ·have hM:alike cmpV c (M0++[y])=[]:=alike_none fun m hm e=>by
       have:=hlt m hm
       have:=(cmpV_tot.eq_left (z:=x) (show cmpV m c=0 by rw [cmpV_tot.neg,e];rfl)).2 hc
       omega
      rw [hM] at q
      rw [sumClass_nil q.symm,if_pos hc]
      show []++[x]=sumClass ([]++[x])
      rw [List.nil_append,sumClass_one hx]
     ·rw [if_neg hc,List.append_nil,List.append_nil]
theorem Summed.of_stable {D S:List V} (h:Stable cmpV D S) (hin : ∀ x∈D,InN x):Summed D (mergeV S):=by
 have k:=(merge_sum S h.sorted (fun x hx=>hin x ((h.mem cmpV_tot x).1 hx))).1
 exact ⟨k.sorted,fun c=>by rw [k.same,h.same]⟩
/-! ### the document's way: one more row, put into its place -/
def addV:List V→V→List V
 | [],x=>[x]
 | y :: R,x=>if cmpV y x<0 then y :: addV R x else if cmpV y x=0 then (y.1,w64 (y.2+x.2)) :: R else x :: y :: R
theorem alike_cons (c y:V) (R:List V):alike cmpV c (y :: R)=(if cmpV c y=0 then [y] else [])++alike cmpV c R:=by
 have:=alike_append (cmp:=cmpV) c [y] R
 rw [alike_one] at this
 exact this
theorem addV_mem (x:V) : ∀ (R:List V) (z:V),(∀ y∈R,cmpV z y<0)→cmpV z x<0 → ∀ y∈addV R x,cmpV z y<0
 | [],z,_,hx,y,hy=>by rw [List.mem_singleton.1 hy];exact hx
 | a :: R,z,h,hx,y,hy=>by
  unfold addV at hy
  split at hy
  ·rcases List.mem_cons.1 hy with rfl | q
   ·exact h _ (List.mem_cons_self ..)
   ·exact addV_mem x R z (fun b hb=>h b (List.mem_cons_of_mem _ hb)) hx y q
  ·split at hy
   ·rcases List.mem_cons.1 hy with rfl | q
    ·exact h a (List.mem_cons_self ..)
    ·exact h y (List.mem_cons_of_mem _ q)
   ·rcases List.mem_cons.1 hy with rfl | q
    ·exact hx
    ·exact h y q
theorem addV_same (x:V) (hx:InN x) (c:V) : ∀ (R:List V) (l:List V),R.Pairwise (fun x y=>cmpV x y<0)→alike cmpV c R=sumClass l→alike cmpV c (addV R x)=sumClass (l++if cmpV c x=0 then [x] else [])
 | [],l,_,h=>by
  have:=sumClass_nil (show sumClass l=[] from h.symm)
  subst this
  show alike cmpV c [x]=_
  rw [alike_one]
  split
  ·rw [List.nil_append,sumClass_one hx]
  ·rfl
 | y :: R,l,hp,h=>by
  have hp':=List.pairwise_cons.1 hp
  unfold addV
  by_cases h1:cmpV y x<0
  ·rw [if_pos h1,alike_cons]
   rw [alike_cons] at h
   by_cases hc:cmpV c y=0
   ·have hcx : ¬ cmpV c x=0:=fun e=>by have:=(cmpV_tot.eq_left (z:=x) hc).1 e;omega
    rw [if_pos hc] at h ⊢
    have hR:alike cmpV c R=[]:=alike_none fun z hz e=>by
     have:=hp'.1 z hz
     have:=(cmpV_tot.eq_left (z:=z) hc).1 e
     omega
    rw [hR] at h
    have:=addV_same x hx c R [] hp'.2 hR
    rw [this,if_neg hcx,List.append_nil,List.append_nil]
    exact h
   ·rw [if_neg hc] at h ⊢
    exact addV_same x hx c R l hp'.2 h
  ·rw [if_neg h1]
   by_cases h2:cmpV y x=0
   ·rw [if_pos h2,alike_cons]
    rw [alike_cons] at h
    by_cases hc:cmpV c y=0
    ·have hcx:cmpV c x=0:=cmpV_tot.eq_trans hc h2
     have hR:alike cmpV c R=[]:=alike_none fun z hz e=>by
      have:=hp'.1 z hz
      have:=(cmpV_tot.eq_left (z:=z) hc).1 e
      omega
     rw [if_pos hc,hR] at h
     rw [if_pos (show cmpV c (y.1,w64 (y.2+x.2))=0 from hc),hR,if_pos hcx]
     exact (sumClass_snoc h).symm
    ·have hcx : ¬ cmpV c x=0:=fun e=>hc (cmpV_tot.eq_trans e (by rw [cmpV_tot.neg,h2];rfl))
     rw [if_neg hc] at h
     rw [if_neg (show ¬ cmpV c (y.1,w64 (y.2+x.2))=0 from hc),if_neg hcx,List.append_nil]
     exact h
   ·rw [if_neg h2,alike_cons]
    by_cases hc:cmpV c x=0
    ·have hyx:cmpV x y<0:=by rw [cmpV_tot.neg];omega
     have hR:alike cmpV c (y :: R)=[]:=alike_none fun z hz e=>by
      have hxz:cmpV x z<0:=by
       rcases List.mem_cons.1 hz with rfl | q
       ·exact hyx
       ·exact cmpV_tot.lt_of_lt_le hyx (Int.le_of_lt (hp'.1 z q))
      have:=(cmpV_tot.eq_left (z:=z) hc).1 e
      omega
     rw [hR] at h ⊢
     rw [if_pos hc,sumClass_nil h.symm]
     show [x]++[]=sumClass ([]++[x])
     rw [List.nil_append,sumClass_one hx]
     rfl
    ·rw [if_neg hc,List.nil_append,List.append_nil]
     exact h
theorem addV_sorted (x:V) : ∀ R:List V,R.Pairwise (fun x y=>cmpV x y<0)→(addV R x).Pairwise (fun x y=>cmpV x y<0)
 | [],_=>List.pairwise_singleton _ _
 | y :: R,h=>by
  have h':=List.pairwise_cons.1 h
  unfold addV
  split
  ·rename_i h1
   exact List.pairwise_cons.2 ⟨addV_mem x R y h'.1 h1,addV_sorted x R h'.2⟩
  ·split
   ·exact List.pairwise_cons.2 ⟨fun z hz=>h'.1 z hz,h'.2⟩
   ·rename_i h1 h2
    have hyx:cmpV x y<0:=by rw [cmpV_tot.neg];omega
    exact List.pairwise_cons.2 ⟨fun z hz=>(List.mem_cons.1 hz).elim (fun e=>e ▸ hyx) (fun q=>cmpV_tot.lt_of_lt_le hyx (Int.le_of_lt (h'.1 z q))),h⟩
theorem Summed.add {D R:List V} {x:V} (h:Summed D R) (hx:InN x):Summed (D++[x]) (addV R x):=⟨addV_sorted x R h.sorted,fun c=>by rw [addV_same x hx c R _ h.sorted (h.same c),alike_append,alike_one]⟩
def sumAll (L:List V):List V:=L.foldl addV []
theorem Summed.all (L:List V):(∀ x∈L,InN x)→Summed L (sumAll L):=by
 refine snoc_ind (p:=fun L=>(∀ x∈L,InN x)→Summed L (sumAll L)) (fun _=>⟨List.Pairwise.nil,fun _=>rfl⟩) (fun L x ih h=>?_) L
 unfold sumAll
 rw [List.foldl_append]
 exact (ih (fun y hy=>h y (List.mem_append_left _ hy))).add (h x (by simp))
/-- what Sum answers -/
def sumV (L:List V):List V:=(sumAll L).filter fun x => !(x.2==0)
/-! ### one row more in a list of different rows -/
open Go.RowKit
def nzV (x:V):Bool := !(x.2==0)
def Canon (D:List V):Prop := ∀ x∈D, ∀ y∈D,cmpV x y=0→x.1=y.1
theorem alike_filter (c:V) (p:V→Bool) (l:List V):alike cmpV c (l.filter p)=(alike cmpV c l).filter p:=by
 unfold alike
 rw [List.filter_filter,List.filter_filter]
 congr 1
 funext a
 rw [Bool.and_comm]
theorem sumV_spec {D:List V} (hin : ∀ x∈D,InN x):(sumV D).Pairwise (fun x y=>cmpV x y<0) ∧ ∀ c,alike cmpV c (sumV D)=(sumClass (alike cmpV c D)).filter nzV:=by
 have h:=Summed.all D hin
 refine ⟨h.sorted.filter _,fun c=>?_⟩
 show alike cmpV c ((sumAll D).filter nzV)=_
 rw [alike_filter,h.same]
theorem sumV_eq {D R:List V} (hin : ∀ x∈D,InN x) (hs:R.Pairwise (fun x y=>cmpV x y<0)) (ha : ∀ c,alike cmpV c R=(sumClass (alike cmpV c D)).filter nzV):R=sumV D:=by
 obtain ⟨h1,h2⟩:=sumV_spec hin
 exact Stable.unique cmpV_tot (l:=R) ⟨hs.imp fun q=>Int.le_of_lt q,fun _=>rfl⟩ ⟨h1.imp fun q=>Int.le_of_lt q,fun c=>by rw [h2,ha]⟩
theorem cmpV_self (x:V):cmpV x x=0:=cmpV_tot.refl x
/-- where a sum's row comes from -/
theorem sumV_mem {D:List V} (hin : ∀ x∈D,InN x) {x:V} (hx:x∈sumV D):InN x∧nzV x=true ∧ ∃ y∈D,y.1=x.1:=by
 have h:x∈alike cmpV x (sumV D):=List.mem_filter.2 ⟨hx,by rw [beq_iff_eq];exact cmpV_self x⟩
 rw [(sumV_spec hin).2] at h
 obtain ⟨h1,h2⟩:=List.mem_filter.1 h
 refine ⟨?_,h2,?_⟩
 ·cases hl:alike cmpV x D with
  | nil=>rw [hl] at h1;cases h1
  | cons y l =>
   rw [hl] at h1
   rw [List.mem_singleton.1 h1]
   exact w64_in _
 ·cases hl:alike cmpV x D with
  | nil=>rw [hl] at h1;cases h1
  | cons y l =>
   have hy:y∈alike cmpV x D:=by rw [hl];exact List.mem_cons_self ..
   rw [hl] at h1
   exact ⟨y,(List.mem_filter.1 hy).1,by rw [List.mem_singleton.1 h1]⟩
theorem cnt_nil:cnt []=0:=by decide
theorem mem_alike {c x:V} {D:List V} (h:x∈alike cmpV c D):x∈D∧cmpV c x=0:=by
 obtain ⟨h1,h2⟩:=List.mem_filter.1 h
 exact ⟨h1,by simpa using h2⟩
open Go.RowKit
theorem w64_cong {a b:Int} (h:w64 a=w64 b) (c:Int):w64 (a+c)=w64 (b+c):=by rw [← w64_add a,h,w64_add]
theorem w64_cong2 {a b c d:Int} (h:w64 a=w64 b) (k:w64 c=w64 d):w64 (a+c)=w64 (b+d):=by rw [w64_cong h c,Int.add_comm,w64_cong k b,Int.add_comm]
/-- the sum over the keys of a set -/
def tot (P:UK→Bool):List V→Int
 | []=>0
 | x :: l=>(if P x.1 then x.2 else 0)+tot P l
theorem tot_append (P:UK→Bool) : ∀ a b:List V,tot P (a++b)=tot P a+tot P b
 | [],b=>by show _=0+_;rw [Int.zero_add];rfl
 | x :: a,b=>by
  show (if P x.1 then x.2 else 0)+tot P (a++b)=(if P x.1 then x.2 else 0)+tot P a+tot P b
  rw [tot_append P a b,Int.add_assoc]
theorem tot_map (P:UK→Bool) (f:UK→UK) : ∀ l:List V,tot P (l.map fun x=>(f x.1,x.2))=tot (fun k=>P (f k)) l
 | []=>rfl
 | x :: l=>by
  show (if P (f x.1) then x.2 else 0)+tot P (l.map fun x=>(f x.1,x.2))=_
  rw [tot_map P f l]
  rfl
theorem tot_nz (P:UK→Bool) : ∀ l:List V,tot P (l.filter nzV)=tot P l
 | []=>rfl
 | x :: l=>by
  rw [List.filter_cons]
  by_cases h:x.2=0
  ·have e:nzV x=false:=by simp [nzV,h]
   rw [e]
   show tot P (l.filter nzV)=(if P x.1 then x.2 else 0)+tot P l
   rw [tot_nz P l,h]
   split<;>omega
  ·have e:nzV x=true:=by simp [nzV,h]
   rw [e]
   show (if P x.1 then x.2 else 0)+tot P (l.filter nzV)=_
   rw [tot_nz P l]
   rfl
theorem tot_perm (P:UK→Bool) {a b:List V} (h:a.Perm b):tot P a=tot P b:=by
 induction h with
 | nil=>rfl
 | cons x _ ih=>show _+_=_+_;rw [ih]
 | swap x y l=>show _+(_+_)=_+(_+_);omega
 | trans _ _ h1 h2=>rw [h1,h2]
theorem tot_addV (P:UK→Bool) (x:V) : ∀ R:List V,(∀ y∈R,cmpV y x=0→P y.1=P x.1)→w64 (tot P (addV R x))=w64 (tot P R+(if P x.1 then x.2 else 0))
 | [],_=>by
  show w64 ((if P x.1 then x.2 else 0)+0)=w64 (0+_)
  rw [Int.add_comm]
 | y :: R,h=>by
  unfold addV
  split
  ·show w64 ((if P y.1 then y.2 else 0)+tot P (addV R x))=w64 ((if P y.1 then y.2 else 0)+tot P R+_)
   rw [Int.add_comm,w64_cong (tot_addV P x R fun z hz=>h z (List.mem_cons_of_mem _ hz))]
   congr 1
   omega
  ·split
   ·rename_i h0
    have hp:=h y (List.mem_cons_self ..) h0
    show w64 ((if P y.1 then w64 (y.2+x.2) else 0)+tot P R)=w64 ((if P y.1 then y.2 else 0)+tot P R+(if P x.1 then x.2 else 0))
    rw [← hp]
    cases P y.1 with
    | true =>
     simp only [if_true]
     rw [w64_add]
     congr 1
     omega
    | false=>simp
   ·show w64 ((if P x.1 then x.2 else 0)+((if P y.1 then y.2 else 0)+tot P R))=w64 ((if P y.1 then y.2 else 0)+tot P R+_)
    congr 1
    omega
theorem sumAll_mem {D:List V} (hin : ∀ x∈D,InN x) {x:V} (hx:x∈sumAll D) : ∃ y∈D,y.1=x.1:=by
 have h:x∈alike cmpV x (sumAll D):=List.mem_filter.2 ⟨hx,by rw [beq_iff_eq];exact cmpV_self x⟩
 rw [(Summed.all D hin).same] at h
 cases hl:alike cmpV x D with
 | nil=>rw [hl] at h;cases h
 | cons y l =>
  have hy:y∈alike cmpV x D:=by rw [hl];exact List.mem_cons_self ..
  rw [hl] at h
  exact ⟨y,(List.mem_filter.1 hy).1,by rw [List.mem_singleton.1 h]⟩
theorem tot_sumAll (P:UK→Bool) (L:List V):(∀ x∈L,InN x)→Canon L→w64 (tot P (sumAll L))=w64 (tot P L):=by
 refine snoc_ind (p:=fun L=>(∀ x∈L,InN x)→Canon L→w64 (tot P (sumAll L))=w64 (tot P L)) (fun _ _=>rfl) (fun L x ih hin hc=>?_) L
 have hin' : ∀ y∈L,InN y:=fun y hy=>hin y (List.mem_append_left _ hy)
 have e:sumAll (L++[x])=addV (sumAll L) x:=by unfold sumAll;rw [List.foldl_append];rfl
 rw [e,tot_addV P x _ (fun y hy h0=>?_),w64_cong (ih hin' fun a ha b hb=>hc a (List.mem_append_left _ ha) b (List.mem_append_left _ hb)),tot_append]
 ·show w64 (tot P L+_)=w64 (tot P L+(_+0))
  rw [Int.add_zero]
 ·obtain ⟨z,hz,hzy⟩:=sumAll_mem hin' hy
  have h1:cmpV z x=0:=by
   have:cmpV z x=cmpV y x:=by show kcmp z.1 x.1=kcmp y.1 x.1;rw [hzy]
   rw [this,h0]
  rw [← hzy,hc z (List.mem_append_left _ hz) x (by simp) h1]
/-- two lists say the same -/
def Same (D E:List V):Prop := ∀ P:UK→Bool,w64 (tot P D)=w64 (tot P E)
theorem Same.refl (D:List V):Same D D:=fun _=>rfl
theorem Same.symm {D E:List V} (h:Same D E):Same E D:=fun P=>(h P).symm
theorem Same.trans {D E F:List V} (h:Same D E) (k:Same E F):Same D F:=fun P=>(h P).trans (k P)
theorem Same.append {D E D' E':List V} (h:Same D E) (k:Same D' E'):Same (D++D') (E++E'):=fun P=>by rw [tot_append,tot_append];exact w64_cong2 (h P) (k P)
theorem Same.map {D E:List V} (h:Same D E) (f:UK→UK):Same (D.map fun x=>(f x.1,x.2)) (E.map fun x=>(f x.1,x.2)):=fun P=>by rw [tot_map,tot_map];exact h _
theorem Same.perm {D E:List V} (h:D.Perm E):Same D E:=fun P=>by rw [tot_perm P h]
theorem Same.sum {D:List V} (hin : ∀ x∈D,InN x) (hc:Canon D):Same (sumV D) D:=fun P=>by
 show w64 (tot P ((sumAll D).filter nzV))=_
 rw [tot_nz,tot_sumAll P D hin hc]
theorem cnt_tot (c:V) : ∀ D:List V,(alike cmpV c D).foldr (fun x a=>x.2+a) 0=tot (fun k=>decide (cmpV c (k,0)=0)) D
 | []=>rfl
 | x :: D=>by
  rw [alike_cons]
  have e:cmpV c (x.1,0)=cmpV c x:=rfl
  by_cases h:cmpV c x=0
  ·rw [if_pos h]
   show x.2+(alike cmpV c D).foldr (fun x a=>x.2+a) 0=(if decide (cmpV c (x.1,0)=0)=true then x.2 else 0)+_
   rw [cnt_tot c D,e,if_pos (decide_eq_true h)]
  ·rw [if_neg h]
   show (alike cmpV c D).foldr (fun x a=>x.2+a) 0=(if decide (cmpV c (x.1,0)=0)=true then x.2 else 0)+_
   rw [cnt_tot c D,e,if_neg (by simpa using h),Int.zero_add]
/-- lists that say the same have one sum -/
theorem sumV_same {D E:List V} (h:Same D E) (hc:Canon (D++E)) (hD : ∀ x∈D,InN x) (hE : ∀ x∈E,InN x):sumV D=sumV E:=by
 obtain ⟨h1,h2⟩:=sumV_spec hD
 refine sumV_eq hE h1 fun c=>?_
 rw [h2]
 have hn:cnt (alike cmpV c D)=cnt (alike cmpV c E):=by
  unfold cnt
  rw [cnt_tot,cnt_tot]
  exact h _
 cases h3:alike cmpV c D with
 | nil =>
  cases h4:alike cmpV c E with
  | nil=>rfl
  | cons y l =>
   rw [h3,h4] at hn
   show []=[(y.1,cnt (y :: l))].filter nzV
   rw [← hn,cnt_nil]
   rfl
 | cons x k =>
  cases h4:alike cmpV c E with
  | nil =>
   rw [h3,h4] at hn
   show [(x.1,cnt (x :: k))].filter nzV=[]
   rw [hn,cnt_nil]
   rfl
  | cons y l =>
   rw [h3,h4] at hn
   show [(x.1,cnt (x :: k))].filter nzV=[(y.1,cnt (y :: l))].filter nzV
   have hx:x∈alike cmpV c D:=by rw [h3];exact List.mem_cons_self ..
   have hy:y∈alike cmpV c E:=by rw [h4];exact List.mem_cons_self ..
   have e:x.1=y.1:=hc x (List.mem_append_left _ (mem_alike hx).1) y (List.mem_append_right _ (mem_alike hy).1) (cmpV_tot.eq_trans (by rw [cmpV_tot.neg,(mem_alike hx).2];rfl) (mem_alike hy).2)
   rw [hn,e]
end Go.Proofs.Ytdgbkpoickbidaa.UdS
namespace Go.Proofs.Ytdgbkpoickbidaa
open Go.RowKit

def checkL:List Dat→Int
 | []=>0
 | d :: l=>if d.check=0 then checkL l else d.check
def checkR (l:List Dat):Int:=if 32<l.length then 20 else checkL l
theorem checkL_drop {l:List Dat} {i:Nat} (h:i<l.length):checkL (l.drop i)=if (l.getD i Dat.zero).check=0 then checkL (l.drop (i+1)) else (l.getD i Dat.zero).check:=by
 rw [List.drop_eq_getElem_cons h,List.getD_eq_getElem?_getD,List.getElem?_eq_getElem h]
 rfl
theorem checkL_ok : ∀ l:List Dat,checkL l=0 ↔ ∀ d∈l,d.check=0
 | []=>⟨fun _ d h=>(nomatch h),fun _=>rfl⟩
 | d :: l=>by
  unfold checkL
  by_cases h:d.check=0
  ·rw [if_pos h,checkL_ok l]
   exact ⟨fun q x hx=>(List.mem_cons.1 hx).elim (fun e=>e ▸ h) (q x),fun q x hx=>q x (List.mem_cons_of_mem _ hx)⟩
  ·rw [if_neg h]
   exact ⟨fun q=>absurd q h,fun q=>absurd (q d (List.mem_cons_self ..)) h⟩
/-- the texts of a row lie in memory -/
def RwTxt (l:List Dat):Prop := ∀ d∈l,d.s.size≤9223372036854775807
theorem RwTxt.at {l:List Dat} (h:RwTxt l) {i:Nat} (hi:i<l.length):(l.getD i Dat.zero).s.size≤9223372036854775807:=by
 rw [List.getD_eq_getElem?_getD,List.getElem?_eq_getElem hi]
 exact h _ (List.getElem_mem hi)
open Go.RowKit
/-- an update of a row that may be, of at most so many columns -/
structure GoodJ (N:Nat) (u:UV):Prop where
 ck : ∀ d∈u.1.1,d.check=0
 nr : ∀ d∈u.1.1, -9223372036854775808≤d.n∧d.n≤9223372036854775807
 num:UdS.InN u
 rl:u.1.1.length≤N
 tl:u.1.2.2.length≤100000
 tu:U32 u.1.2.2
theorem cmpR_same : ∀ l m:List Dat,(∀ d∈l,d.check=0)→(∀ d∈m,d.check=0)→cmpR l m=0→l=m
 | [],[],_,_,_=>rfl
 | [],_ :: _,_,_,h=>absurd h (by show ¬ (-1:Int)=0;decide)
 | _ :: _,[],_,_,h=>absurd h (by show ¬ (1:Int)=0;decide)
 | a :: l,b :: m,ha,hb,h=>by
  unfold cmpR at h
  split at h
  ·rename_i h0
   rw [(cmpD_zero (ha a (List.mem_cons_self ..)) (hb b (List.mem_cons_self ..))).1 h0,cmpR_same l m (fun d hd=>ha d (List.mem_cons_of_mem _ hd)) (fun d hd=>hb d (List.mem_cons_of_mem _ hd)) h]
  ·rename_i h0
   exact absurd h h0
section
variable {N:Nat} {D E:List UV}
theorem gj_canon (h : ∀ u∈D,GoodJ N u):UdS.Canon D:=fun x hx y hy h0=>by
 have gx:=(h x hx).ck
 have gy:=(h y hy).ck
 obtain ⟨⟨l,t⟩,d⟩:=x
 obtain ⟨⟨l',t'⟩,d'⟩:=y
 have h1:(if cmpR l l'=0 then tcmp t t' else cmpR l l')=0:=h0
 split at h1
 ·rename_i h2
  rw [show l=l' from cmpR_same l l' gx gy h2,show t=t' from tcmp_zero.1 h1]
 ·rename_i h2
  exact absurd h1 h2
theorem gj_num (h : ∀ u∈D,GoodJ N u) : ∀ u∈D,UdS.InN u:=fun u hu=>(h u hu).num
theorem gj_sum (h : ∀ u∈D,GoodJ N u) : ∀ u∈UdS.sumV D,GoodJ N u:=fun u hu=>by
 obtain ⟨h1,_,y,hy,e⟩:=UdS.sumV_mem (gj_num h) hu
 obtain ⟨a,a2,_,b,c,d⟩:=h y hy
 exact ⟨by rw [← e];exact a,by rw [← e];exact a2,h1,by rw [← e];exact b,by rw [← e];exact c,by rw [← e];exact d⟩
theorem sumJ_same (h:UdS.Same D E) (hD : ∀ u∈D,GoodJ N u) (hE : ∀ u∈E,GoodJ N u):UdS.sumV D=UdS.sumV E :=
 UdS.sumV_same h (gj_canon fun u hu=>(List.mem_append.1 hu).elim (hD u) (hE u)) (gj_num hD) (gj_num hE)
theorem sumJ_perm (hp:D.Perm E) (h : ∀ u∈E,GoodJ N u):UdS.sumV D=UdS.sumV E:=sumJ_same (UdS.Same.perm hp) (fun u hu=>h u (hp.mem_iff.1 hu)) h
/-- a sum is summed once more, with its keys turned -/
theorem sumJ_turn (h : ∀ u∈D,GoodJ N u) (f:UK→UK) (hf : ∀ u∈D,GoodJ N (f u.1,u.2)) (hs : ∀ u∈UdS.sumV D,GoodJ N (f u.1,u.2)):UdS.sumV ((UdS.sumV D).map fun x=>(f x.1,x.2))=UdS.sumV (D.map fun x=>(f x.1,x.2)):=by
 refine sumJ_same (N:=N) (UdS.Same.map (UdS.Same.sum (gj_num h) (gj_canon h)) f) (fun u hu=>?_) (fun u hu=>?_)
 ·obtain ⟨x,hx,rfl⟩:=List.mem_map.1 hu
  exact hs x hx
 ·obtain ⟨x,hx,rfl⟩:=List.mem_map.1 hu
  exact hf x hx
end
open Go.RowKit
theorem cells_at (w:World) (t:TypeId) (cs:Array Value) (j:Nat) (u:Value) (h:cs.toList[j]?=some u):(w.alloc (.cells cs t)).cell? ((⟨w.heap.size,0,none⟩:Addr).add j)=some u:=by
 rw [show (⟨w.heap.size,0,none⟩:Addr).add j=⟨w.heap.size,j,none⟩ by unfold Addr.add;split<;>simp_all,(Bk.new w t cs).cell, ← Array.getElem?_toList]
 exact h
theorem sl_alloc (w:World) (t:TypeId) (cs:Array Value) (xs:List Value) (size n:Nat) (hc:cs.toList=xs) (hl:xs.length=n * size) (hn:n≤1000):Sl (w.alloc (.cells cs t)) size (some ⟨w.heap.size,0,none⟩) n n xs :=
 ⟨hl,Nat.le_refl _,by unfold maxLen;omega,(fun h=>nomatch h),fun _=>⟨_,rfl,fun j x hx=>cells_at w t cs j x (by rw [hc];exact hx)⟩⟩
open Go.RowKit
theorem under_bytes:Try.prog.underlying 95=some (.slice 5):=by kernel_rfl
theorem under_string:Try.prog.underlying 9=some .string:=by kernel_rfl

theorem cells_append (l m:List UInt8):Lib.byteCells (l++m)=Lib.byteCells l++Lib.byteCells m:=by simp [Lib.byteCells]

theorem push_all' : ∀ (ns:List Int) (r:ByteArray),ns.foldl (fun r n=>r.push (UInt8.ofNat n.toNat)) r=⟨(r.data.toList++ns.map fun n=>UInt8.ofNat n.toNat).toArray⟩
 | [],r=>by simp
 | n :: ns,r=>by
  rw [List.foldl_cons,push_all' ns]
  simp
theorem back_bytes : ∀ l:List UInt8,l.map ((fun n:Int=>UInt8.ofNat n.toNat) ∘ fun b:UInt8=>(b.toNat:Int))=l
 | []=>rfl
 | b :: l=>by rw [List.map_cons,back_bytes l];simp
/-! ### bytes that are appended, by the law that says where they lie -/
theorem elem_byte:Elem Try.prog 95 5 1 1 (.int .u8 0):=⟨by kernel_rfl,by kernel_rfl,rfl,by decide⟩
/-- the slice '.slice A n c' owns the bytes xs, in blocks from B on -/
def OwnB (w:World) (B:Nat) (A:Option Addr) (n c:Nat) (xs:List UInt8):Prop:=Own w B 5 1 A n c (Lib.byteCells xs)∧B≤w.heap.size
section
variable {w w':World} {B n c:Nat} {A:Option Addr} {xs:List UInt8}
theorem OwnB.nil (w:World) {B:Nat} (h:B≤w.heap.size):OwnB w B none 0 0 []:=⟨Own.nil w B _ 1,h⟩
theorem OwnB.len (h:OwnB w B A n c xs):n=xs.length:=by
 have:=h.1.1
 rw [Lib.byteCells_length] at this
 omega
theorem OwnB.ext (h:OwnB w B A n c xs) (x:Ext w w'):OwnB w' B A n c xs:=⟨h.1.ext x,Nat.le_trans h.2 x.size⟩
theorem OwnB.alloc (h:OwnB w B A n c xs) (o:Obj):OwnB (w.alloc o) B A n c xs:=h.ext ((Ext.refl w).alloc o)
theorem OwnB.le (h:OwnB w B A n c xs):n≤9223372036854775807:=by have:=h.1.le;omega
theorem OwnB.mono {B':Nat} (h:OwnB w B A n c xs) (hb:B'≤B):OwnB w B' A n c xs:=⟨h.1.mono hb,Nat.le_trans hb h.2⟩
/-- it lies in no block that is new -/
theorem OwnB.ne (h:OwnB w B A n c xs) {g:Nat} (hg:w.heap.size≤g):blk A c≠some g:=fun e=>by have:=(h.1.lt g e).2;omega
theorem bytes_oneCell (ys:List UInt8) : ∀ u∈Lib.byteCells ys,u.oneCell'=true:=by
 intro u hu
 obtain ⟨y,_,rfl⟩:=List.mem_map.1 hu
 rfl
theorem sl_new (w:World) {t:TypeId} {cs:Array Value} {ys:List UInt8} {m:Nat} (hc:cs.toList=Lib.byteCells ys) (hm:ys.length=m) (hb:m≤140737488355328):Sl (w.alloc (.cells cs t)) 1 (some ⟨w.heap.size,0,none⟩) m m (Lib.byteCells ys) :=
 ⟨by rw [Lib.byteCells_length];omega,Nat.le_refl _,by unfold maxLen;omega,(fun h=>nomatch h),fun _=>⟨_,rfl,fun j u hu=>cells_at w t cs j u (by rw [hc];exact hu)⟩⟩
theorem put_bytes {ops:Array Oper} {rest:List Oper} {o:Oper} {a:Act} {Q:Exit→Act→World→Prop} (ys:List UInt8) {cs:Array Value} {m ad:Nat} (hgd:o.guard=none) (s x:Operand)
  (ho:o.op = .call { callee := .builtin .append,args := #[s,x],argTypes := #[95,95] }) (h:OwnB w B A n c xs) (hs:a.eval s = .slice A n c) (hx:a.eval x = .slice (some ⟨ad,0,none⟩) m m) (had:ad=w.heap.size) (hm:ys.length=m) (hc:cs.toList=Lib.byteCells ys)
  (hb:n+m≤140737488355328)
  (k : ∀ A' n' c' w2,OwnB w2 B A' n' c' (xs++ys)→n'=n+m→w.heap.size≤w2.heap.size→Below B w w2→(∀ g,g<w.heap.size→blk A c≠some g→blk A' c'≠some g∧w2.heap[g]?=w.heap[g]?)→wpList Try.prog ops Q rest (a.put o.dst (.slice A' n' c')) w2) :
  wpList Try.prog ops Q (o :: rest) a (w.alloc (.cells cs 5)):=by
 subst had
 have x1:Ext w (w.alloc (.cells cs 5)):=(Ext.refl w).alloc _
 have hx1:w.heap.size+1=(w.alloc (.cells cs 5)).heap.size:=by simp
 refine wpList_append_two _ elem_byte B s x ho hgd A n c _ hs (h.1.alloc _) _ m m _ hx (sl_new w hc hm (by omega)) (bytes_oneCell ys) (by rw [Nat.mul_one];exact hb) (by decide) (Nat.le_trans h.2 x1.size) ?_
 intro A' c' w2 h2 h3 h4
 have hsz:w.heap.size≤w2.heap.size:=Nat.le_trans x1.size h3.size
 have hbel:Below B w w2:=Below.grown (Below.mono x1 h.2) h3 (Nat.le_trans h.2 x1.size) (fun g hg=>(h.1.lt g hg).1)
 refine k A' (n+m) c' w2 ⟨by rw [cells_append];exact h2,Nat.le_trans h.2 hsz⟩ rfl hsz hbel (fun g hg hne=>⟨?_,?_⟩)
 ·rcases h4 with ⟨rfl,rfl⟩ | ⟨h5,_⟩
  ·exact hne
  ·rw [h5, ← hx1]
   intro e
   injection e with e
   omega
 ·rw [h3.block g (by omega) (Ne.symm hne)]
  exact x1.block g hg
end
open Go.RowKit
/-- the eight bytes, k of them left -/
def hiB (n:Int):UInt8:=UInt8.ofNat (n / 2 ^ 56).toNat
def wideL:Nat→Int→List UInt8
 | 0,_=>[]
 | k+1,n=>hiB n :: wideL k (IntKind.u64.wrap (n * 256))
theorem hiB_cell {x:Int} (h:0≤x∧x≤18446744073709551615):[Value.int .u8 (x / 72057594037927936)]=Lib.byteCells [hiB x]:=by
 have e:((hiB x).toNat:Int)=x / 72057594037927936:=by
  show ((UInt8.ofNat (x / 72057594037927936).toNat).toNat:Int)=_
  rw [UInt8.toNat_ofNat']
  omega
 show _=[Value.int .u8 ((hiB x).toNat:Int)]
 rw [e]
theorem wrap_u64_mul (x:Int):0≤IntKind.u64.wrap (x * 256)∧IntKind.u64.wrap (x * 256)≤18446744073709551615:=by
 have e:IntKind.u64.wrap (x * 256)=x * 256 % 18446744073709551616:=rfl
 rw [e]
 omega
/-- other blocks stay, and are not the list's -/
def Rest (w:World) (A:Option Addr) (c:Nat) (w':World) (A':Option Addr) (c':Nat):Prop := ∀ g,g<w.heap.size→blk A c≠some g→blk A' c'≠some g∧w'.heap[g]?=w.heap[g]?
theorem Rest.refl (w:World) (A:Option Addr) (c:Nat):Rest w A c w A c:=fun _ _ h=>⟨h,rfl⟩
theorem Rest.trans {a b d:World} {A A' A2:Option Addr} {c c' c2:Nat} (h:Rest a A c b A' c') (k:Rest b A' c' d A2 c2) (hs:a.heap.size≤b.heap.size):Rest a A c d A2 c2:=fun g hg hn=>by
 obtain ⟨h1,h2⟩:=h g hg hn
 obtain ⟨k1,k2⟩:=k g (Nat.lt_of_lt_of_le hg hs) h1
 exact ⟨k1,k2.trans h2⟩
set_option maxRecDepth 100000 in
set_option maxHeartbeats 1000000 in
theorem wide_any (n:Int) (A:Option Addr) (m c B:Nat) (xs:List UInt8) (w:World) (h:OwnB w B A m c xs) (hm:m≤100000000000) (hn:0≤n∧n≤18446744073709551615) :
  Calls Try.prog 50 #[.slice A m c, .int .u64 n] w fun e w' => ∃ A' m' c',e = .returned (.slice A' m' c')∧m'=m+8∧OwnB w' B A' m' c' (xs++wideL 8 n)∧Below B w w'∧Rest w A c w' A' c':=by
 have HB:=Lib.hid h.2
 have HO:=Lib.hid h
 clear h
 go_enter Try.func50,Try.ntmps50
 go_wp2
 go_loopg [0,1,5] 8 (fun z v0 v1 v5 wr => ∃ (k:Nat) (A':Option Addr) (m' c':Nat) (x:Int) (ys:List UInt8),z=8 - k∧k≤8∧v0 = .slice A' m' c'∧v1 = .int .u64 x∧v5 = .int .i64 k∧m'≤m+k∧Hid (m'=m+k)∧Hid (OwnB wr B A' m' c' ys)∧Hid (ys++wideL (8 - k) x=xs++wideL 8 n)∧Hid (Below B w wr∧Rest w A c wr A' c')∧(0≤x∧x≤18446744073709551615))
 case atStart=>exact ⟨0,A,m,c,n,xs,rfl,by omega,rfl,rfl,rfl,by omega,Lib.hid (by omega),HO,Lib.hid rfl,Lib.hid ⟨Below.refl B w,Rest.refl w A c⟩,hn⟩
 case round =>
  obtain ⟨k,A',m',c',x,ys,rfl,hk,rfl,rfl,rfl,hm1,hm2,hO,hY,hB,hx⟩:=hrel
  by_cases hlt:k<8
  ·have hcell:=Lib.hid (hiB_cell hx)
   go_wp2_with (at_builtin;refine put_bytes [hiB x] rfl _ _ rfl hO.out rfl rfl (by first | rfl | simp) rfl hcell.out (by omega) ?_;intro A2 n2 c2 w2 o2 hn2 hz hbel hne;have O2:=Lib.hid o2;have HN2:=Lib.hid hn2;have HR2:=Lib.hid (show Rest wr A' c' w2 A2 c2 from hne);clear o2 hne hn2)
   go_roundg (8 - (k+1))
   case measure=>omega
   case rel =>
    refine ⟨k+1,A2,n2,c2,IntKind.u64.wrap (x * 256),ys++[hiB x],rfl,by omega,rfl,rfl,rfl,?_,?_,O2,?_,?_,wrap_u64_mul x⟩
    ·have:=HN2.out;have:=hm2.out;omega
    ·exact Lib.hid (by rw [HN2.out,hm2.out];omega)
    ·refine Lib.hid ?_
     rw [← hY.out,List.append_assoc]
     congr 1
     rw [show 8 - k=(8 - (k+1))+1 by omega]
     rfl
    ·exact Lib.hid ⟨hB.out.1.trans hbel,hB.out.2.trans HR2.out hB.out.1.size⟩
  ·obtain rfl:k=8:=by omega
   go_wp2
   go_ret
   refine ⟨A',m',c',rfl,hm2.out,?_,hB.out.1,hB.out.2⟩
   have e:=hY.out
   rw [← e]
   exact (List.append_nil ys).symm ▸ hO.out
open Go.RowKit
def ints (l:List Int):List Value:=l.map (Value.int .i64)
theorem ints_one (l:List Int) : ∀ u∈ints l,u.oneCell'=true:=by
 intro u hu
 obtain ⟨x,_,rfl⟩:=List.mem_map.1 hu
 rfl
/-- the slice '.slice A l.length c' reads as the ints l -/
def Is (w:World) (A:Option Addr) (c:Nat) (l:List Int):Prop:=Sl w 1 A l.length c (ints l)
theorem Is.ext {w w':World} {A:Option Addr} {c:Nat} {l:List Int} (h:Is w A c l) (x:Ext w w'):Is w' A c l:=Sl.ext h x
theorem Is.at {w:World} {A:Option Addr} {c:Nat} {l:List Int} (h:Is w A c l) {k:Nat} (hk:k<l.length) : ∃ ad,A=some ad∧w.cell? (ad.add k)=some (.int .i64 (l.getD k 0)):=by
 obtain ⟨ad,h1,h2⟩:=h.2.2.2.2 (by omega)
 refine ⟨ad,h1,h2 k _ ?_⟩
 unfold ints
 rw [List.getElem?_map,List.getElem?_eq_getElem hk,List.getD_eq_getElem?_getD,List.getElem?_eq_getElem hk]
 rfl
theorem elem_int:Elem Try.prog 22 3 1 8 (.int .i64 0):=⟨by kernel_rfl,by kernel_rfl,rfl,by decide⟩
end Go.Proofs.Ytdgbkpoickbidaa
