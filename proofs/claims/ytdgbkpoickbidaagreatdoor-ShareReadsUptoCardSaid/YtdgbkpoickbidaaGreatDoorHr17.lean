/- penstockref04.Join, Meet: what they answer. penstockref04.Join of times of one depth. penstockref05.Advance: the time that stands for another one. penstockref10: At, Advance. ShareReads: what stands in memory, and what a handle was told. Conditions: each theorem states its own. -/
import Derived.Test.YtdgbkpoickbidaaGreatDoorHr10
import Derived.Test.YtdgbkpoickbidaaGreatDoorHr2
import Derived.Test.YtdgbkpoickbidaaGreatDoorHr1
import Derived.Test.YtdgbkpoickbidaaGreatDoorHr15
import Derived.Test.YtdgbkpoickbidaaGreatDoorHr16
import Derived.Deep.CutBlock
namespace Go.Proofs.YtdgbkpoickbidaaGreatDoor
open Go.RowKit

open Go.RowKit
open Go.RowKit
open Go.RowKit
theorem urleq_at {b:Bool} (e1 e2:Int) (A1 A2:Option Addr) (n1 n2 c1 c2:Nat) (l1 l2:List Int) (w:World) (hb:Hid (leqT e1 l1 e2 l2=b)) (h1:Sl w 1 A1 n1 c1 (wds l1)) (h2:Sl w 1 A2 n2 c2 (wds l2)) :
  Calls Tryz.prog 119 #[.agg #[.int .u64 e1, .slice A1 n1 c1], .agg #[.int .u64 e2, .slice A2 n2 c2]] w fun e w'=>e = .returned (.bool b)∧Ext w w':=hb.out ▸ rleq_any e1 e2 A1 A2 n1 n2 c1 c2 l1 l2 w h1 h2
theorem AddR.late {w w0 w':World} {U0 U:List V} {e:Ending} (h:AddR w0 U0 e w') (x:Ext w w0) (hv:U0=U):AddR w U e w':=by
 subst hv
 obtain ⟨A,m,c,M,e1,e2,i,v,x2⟩:=h
 exact ⟨A,m,c,M,e1,e2,i,v,x.trans x2⟩
theorem AddU.late {w w0 w':World} {U:List UV} {e:Ending} (h:AddU w0 U e w') (x:Ext w w0):AddU w U e w':=by
 obtain ⟨A,m,c,M,e1,e2,i,v,x2⟩:=h
 exact ⟨A,m,c,M,e1,e2,i,v,x.trans x2⟩
/-- the bag of an answer, and where it lies -/
def AtP (w:World) (L:List Ud) (U:List V) (e:Ending) (w':World):Prop := ∃ A m c M,e = .returned (.slice A m c)∧m=M.length∧Own w' w.heap.size 154 2 A m c (ctsC M)∧(∀ y∈M, ∃ x∈L,y.A=x.A∧y.c=x.c∧y.l=x.l)∧M.map valC=U∧Ext w w'
theorem AtP.toR {w w':World} {L:List Ud} {U:List V} {e:Ending} (h:AtP w L U e w') (hL : ∀ x∈L,UdR w x):AddR w U e w':=by
 obtain ⟨A,m,c,M,e1,e2,o,p,v,x⟩:=h
 refine ⟨A,m,c,M,e1,e2,⟨by rw [← e2];exact o.sl,fun y hy=>?_⟩,v,x⟩
 obtain ⟨z,hz,q1,q2,q3⟩:=p y hy
 rw [q1,q2,q3]
 exact (hL z hz).r.ext x
theorem atP_late {w w0 w':World} {L:List Ud} {t:TV} {U0 U:List V} {e:Ending} (h:SumRP w0 (atU L t) U0 e w') (x:Ext w w0) (hv:U0=U):AtP w L U e w':=by
 subst hv
 obtain ⟨A,m,c,M,e1,e2,o,p,v,x2⟩:=h
 refine ⟨A,m,c,M,e1,e2,o.mono x.size,fun y hy=>?_,v,x.trans x2⟩
 obtain ⟨z,hz,q1,q2,q3⟩:=p y hy
 obtain ⟨u,hu,rfl⟩:=List.mem_map.1 hz
 exact ⟨u,(List.mem_filter.1 hu).1,q1,q2,q3⟩
set_option maxRecDepth 100000 in
set_option maxHeartbeats 8000000 in
theorem refAt10_own {U:List V} (A:Option Addr) (c n:Nat) (L:List Ud) (e:Int) (At:Option Addr) (nt ct:Nat) (lt:List Int) (w:World) (hU:Hid (sumV (atV (L.map Ud.uv) (e,lt))=U)) (hn:Hid (n=L.length)) (h:Hid (Uin w A c L)) (h9:n≤1000000) (ht:Hid (Sl w 1 At nt ct (wds lt))) :
  Calls Tryz.prog 26 #[.slice A n c, .agg #[.int .u64 e, .slice At nt ct]] w (AtP w L U):=by
 go_enter Tryz.func26,Tryz.ntmps26
 go_wp2
 obtain ⟨wb,hwb⟩ : ∃ wb,wb=w.alloc (.cells #[.int .u64 e, .slice At nt ct] 26):=⟨_,rfl⟩
 have XB:Hid (Ext w wb):=Lib.hid (by rw [hwb];exact (Ext.refl _).alloc _)
 have BT:Hid (Bk wb w.heap.size 26 #[.int .u64 e, .slice At nt ct]):=Lib.hid (by rw [hwb];exact Bk.new _ _ _)
 rw [← hwb]
 clear hwb
 obtain ⟨gt,hgt⟩ : ∃ k,k=w.heap.size:=⟨_,rfl⟩
 rw [← hgt] at BT ⊢
 clear hgt
 have HP0:Hid (UAtI wb wb L (e,lt) 0 none 0 0):=Lib.hid ⟨rfl,Own.nil _ _ _ _,Ext.refl _⟩
 go_loopg [5,6] n (fun z u v wr => ∃ (i m c3:Nat) (A3:Option Addr),z=n - i∧i≤n∧m≤i∧u = .slice A3 m c3∧v = .int .i64 i∧Hid (UAtI wb wr L (e,lt) i A3 m c3))
 case atStart=>exact ⟨0,0,0,none,rfl,Nat.zero_le _,Nat.le_refl _,rfl,rfl,HP0⟩
 case round =>
  clear HP0
  obtain ⟨i,m,c3,A3,rfl,hi,hmi,rfl,rfl,HP⟩:=hrel
  by_cases hlt:i<n
  ·have hil:i<L.length:=by rw [← hn.out];exact hlt
   have XW:=XB.out.trans HP.out.ext
   obtain ⟨ad,rfl,p0,p1,p2,p3⟩:=(h.out.ext XW).at hil
   have hm:=getU_mem hil
   obtain ⟨x,hx⟩ : ∃ x,L.getD i Ud.zero=x:=⟨_,rfl⟩
   rw [hx] at p0 p1 p2 p3 hm
   obtain ⟨nx,hnx⟩ : ∃ nx,nx=x.l.length:=⟨_,rfl⟩
   obtain ⟨tx,htx⟩ : ∃ tx,tx=x.t.l.length:=⟨_,rfl⟩
   rw [← hnx] at p0
   rw [← htx] at p2
   have HNX:=Lib.hid hnx
   have HX:=Lib.hid hx
   have HIL:=Lib.hid hil
   have HTX:Hid (∀ W,Ext wr W→Sl W 1 x.t.A tx x.t.c (wds x.t.l)):=Lib.hid (fun W q=>by rw [htx];exact ((h.out.ls x hm).t.ext XW).ext q)
   have HT:Hid (∀ W,Ext wr W→Sl W 1 At nt ct (wds lt)):=Lib.hid (fun W q=>(ht.out.ext XW).ext q)
   have X:Ext wr wr.drew:=(Ext.refl wr).drew
   have t0 : ∀ z:Xt wr.drew,z.W.cell? ⟨gt,0,none⟩=some (.int .u64 e):=fun z=>(BT.out.ext ((HP.out.ext.trans X).trans z.x)).cell 0
   have t1 : ∀ z:Xt wr.drew,z.W.cell? ⟨gt,1,none⟩=some (.slice At nt ct):=fun z=>(BT.out.ext ((HP.out.ext.trans X).trans z.x)).cell 1
   have P0 : ∀ z:Xt wr.drew,z.W.cell? (ad.add (i * 4))=some (.slice x.A nx x.c):=fun z=>(X.trans z.x).cell p0
   have P1 : ∀ z:Xt wr.drew,z.W.cell? ⟨(ad.add (i * 4)).block,(ad.add (i * 4)).off+1,none⟩=some (.int .u64 x.t.e):=fun z=>(X.trans z.x).cell p1
   have P2 : ∀ z:Xt wr.drew,z.W.cell? ⟨(ad.add (i * 4)).block,(ad.add (i * 4)).off+2,none⟩=some (.slice x.t.A tx x.t.c):=fun z=>(X.trans z.x).cell p2
   have P3 : ∀ z:Xt wr.drew,z.W.cell? ⟨(ad.add (i * 4)).block,(ad.add (i * 4)).off+3,none⟩=some (.int .i64 x.d):=fun z=>(X.trans z.x).cell p3
   obtain ⟨b,hb⟩ : ∃ b,leqT x.t.e x.t.l e lt=b:=⟨_,rfl⟩
   have HB:=Lib.hid hb
   clear hil hm hx hnx htx hb XW p0 p1 p2 p3
   go_upto_region 5 with fail
   refine wp_region_ord [0,0,3,7,15,0,63] (.flo [0,1,2,3,4,5] (.one 6 (.fin))) (by kernel_rfl) (by kernel_rfl) (by intro _ _ d _ _ h;cases d<;>exact h) ?_
   (refine ord_flo (pick_cons rfl (pick_cons rfl (pick_cons rfl (pick_cons rfl (pick_cons rfl (pick_cons rfl pick_nil)))))) ?_;(repeat (go_big_quiet_step (fail)));refine wpQuiet_nil ?_;show ordWalk _ _ _ _ _ _ _)
   refine ord_one (pick_cons rfl pick_nil) ?_;intro K_ hK_
   go_wp2_with (go_at_call 119;refine (urleq_at x.t.e e x.t.A At tx nt x.t.c ct x.t.l lt _ HB (HTX.out _ X) (HT.out _ X)).mono ?_;rintro r w1 ⟨rfl,x1⟩)
   refine ord_fin ?_
   cases b with
   | true =>
    have P0 : ∀ z:Xt w1,z.W.cell? (ad.add (i * 4))=some (.slice x.A nx x.c):=fun z=>P0 ⟨z.W,x1.trans z.x⟩
    have P3 : ∀ z:Xt w1,z.W.cell? ⟨(ad.add (i * 4)).block,(ad.add (i * 4)).off+3,none⟩=some (.int .i64 x.d):=fun z=>P3 ⟨z.W,x1.trans z.x⟩
    have HP1:=Lib.hid ((HP.out.own.ext (X.trans x1)))
    have HE1:=Lib.hid (HP.out.ext.trans (X.trans x1))
    clear P1 P2 t0 t1 X
    have X:Ext w1 w1.drew:=(Ext.refl w1).drew
    have P0 : ∀ z:Xt w1.drew,z.W.cell? (ad.add (i * 4))=some (.slice x.A nx x.c):=fun z=>P0 ⟨z.W,X.trans z.x⟩
    have P3 : ∀ z:Xt w1.drew,z.W.cell? ⟨(ad.add (i * 4)).block,(ad.add (i * 4)).off+3,none⟩=some (.int .i64 x.d):=fun z=>P3 ⟨z.W,X.trans z.x⟩
    have hw1:wb.heap.size≤w1.heap.size:=HE1.out.size
    go_upto_region 6 with fail
    refine wp_region_ord [0,0,0,6,14,30,0,0,192,448,960,2046,4094,8191,16383] (.pur [0] (.flo [1,2,3,4,5,6,7,8,9,10,11] (.one 12 (.one 13 (.flo [14] (.fin)))))) (by kernel_rfl) (by kernel_rfl) (by intro _ _ d _ _ h;cases d<;>exact h) ?_
    (refine ord_pur (pick_cons rfl pick_nil) ?_;(repeat (go_big_quiet_step (fail)));refine wpQuiet_nil ?_;show ordWalk _ _ _ _ _ _ _)
    (refine ord_flo (pick_cons rfl (pick_cons rfl (pick_cons rfl (pick_cons rfl (pick_cons rfl (pick_cons rfl (pick_cons rfl (pick_cons rfl (pick_cons rfl (pick_cons rfl (pick_cons rfl pick_nil))))))))))) ?_;(repeat (go_big_quiet_step (fail)));refine wpQuiet_nil ?_;show ordWalk _ _ _ _ _ _ _)
    refine ord_one (pick_cons rfl pick_nil) ?_;intro K_ hK_
    go_wp2
    refine ord_one (pick_cons rfl pick_nil) ?_;intro K_ hK_
    go_wp2_with (at_builtin;refine wpList_append_two _ elem_ct wb.heap.size _ _ rfl rfl A3 m c3 (ctsC (atU (L.take i) (e,lt))) rfl ((HP1.out.ext X).alloc _) (some ⟨w1.heap.size,0,none⟩) 1 1 [.slice x.A nx x.c, .int .i64 x.d] rfl (sl_ct _ _ _ _) (by intro u hu;simp at hu;rcases hu with rfl | rfl<;>rfl) (by omega) (by decide) (by simp;omega) ?_;intro A6 c6 w6 o6 g6 h6;clear h6;have HQ6:Hid (UAtI wb w6 L (e,lt) (i+1) A6 (m+1) c6):=Lib.hid (HP.out.more HIL.out HX.out HB.out rfl (by have:=o6;rwa [HNX.out] at this) (((HE1.out.trans X).alloc _).grown g6 (fun k e=>(HP1.out.lt k e).1)));clear o6 g6)
    go_simp
    (refine ord_flo (pick_cons rfl pick_nil) ?_;(repeat (go_big_quiet_step (fail)));refine wpQuiet_nil ?_;show ordWalk _ _ _ _ _ _ _)
    refine ord_fin ?_
    go_wp2
    go_roundg (n - (i+1))
    case measure=>omega
    case rel=>exact ⟨i+1,m+1,c6,A6,rfl,by omega,by omega,rfl,by go_num,HQ6⟩
   | false =>
    have HQ6:Hid (UAtI wb w1 L (e,lt) (i+1) A3 m c3):=Lib.hid (HP.out.skip HIL.out HX.out HB.out (X.trans x1))
    go_wp2
    go_roundg (n - (i+1))
    case measure=>omega
    case rel=>exact ⟨i+1,m,c3,A3,rfl,by omega,by omega,rfl,by go_num,HQ6⟩
  ·obtain rfl:i=n:=by omega
   have XW:=XB.out.trans HP.out.ext
   have ea:atU (L.take i) (e,lt)=atU L (e,lt):=by rw [List.take_of_length_le (by rw [← hn.out];exact Nat.le_refl _)]
   have HC:Hid (Ctin wr A3 c3 (atU L (e,lt))):=Lib.hid ⟨by have:=HP.out.own.sl;have q:=HP.out.len;rw [ea] at this q;rwa [q] at this,fun y hy=>by
    obtain ⟨x,hx,rfl⟩:=List.mem_map.1 hy
    exact (h.out.ls x (List.mem_filter.1 hx).1).r.ext XW⟩
   have HM:Hid (m=(atU L (e,lt)).length):=Lib.hid (by rw [← ea];exact HP.out.len)
   have HV:Hid (sumV ((atU L (e,lt)).map valC)=U):=Lib.hid (by rw [atU_val];exact hU.out)
   have HXW:=Lib.hid XW
   clear ea XW
   go_wp2_with (go_at_call 120;refine (refSum_own A3 c3 m (atU L (e,lt)) _ HM.out HC.out (by omega)).mono ?_;rintro r w2 hr;have HR:Hid (AtP w L U r w2):=Lib.hid (atP_late hr HXW.out HV.out);obtain ⟨A2,m2,c2,R2,rfl,hr2⟩:=hr;clear hr2)
   go_ret
   exact HR.out
theorem refAt10_any {U:List V} (A:Option Addr) (c n:Nat) (L:List Ud) (e:Int) (At:Option Addr) (nt ct:Nat) (lt:List Int) (w:World) (hU:Hid (sumV (atV (L.map Ud.uv) (e,lt))=U)) (hn:Hid (n=L.length)) (h:Hid (Uin w A c L)) (h9:n≤1000000) (ht:Hid (Sl w 1 At nt ct (wds lt))) :
  Calls Tryz.prog 26 #[.slice A n c, .agg #[.int .u64 e, .slice At nt ct]] w (AddR w U):=(refAt10_own A c n L e At nt ct lt w hU hn h h9 ht).mono fun _ _ q=>q.toR h.out.ls
/-- counters that a call has handed back: as they came in, or in memory of their own -/
def TmFrom (w wr:World) (x z:Ud):Prop:=(z.t.A=x.t.A∧z.t.c=x.t.c∧z.t.l=x.t.l)∨Own wr w.heap.size 180 1 z.t.A z.t.l.length z.t.c (wds z.t.l)
def UdFrom (w wr:World) (x z:Ud):Prop:=z.A=x.A∧z.c=x.c∧z.l=x.l∧TmFrom w wr x z
theorem UdFrom.ext {w wr w':World} {x z:Ud} (h:UdFrom w wr x z) (y:Ext wr w'):UdFrom w w' x z:=⟨h.1,h.2.1,h.2.2.1,h.2.2.2.imp id fun o=>o.ext y⟩
theorem UdFrom.udr {w wr:World} {x z:Ud} (h:UdFrom w wr x z) (u:UdR w x) (y:Ext w wr):UdR wr z:=by
 obtain ⟨e1,e2,e3,q⟩:=h
 refine ⟨by rw [e1,e2,e3];exact u.r.ext y,?_⟩
 rcases q with ⟨f1,f2,f3⟩ | o
 ·rw [f1,f2,f3];exact u.t.ext y
 ·exact o.sl
theorem UdFrom.like {w wr:World} {x z y:Ud} (h:UdFrom w wr x z) (q:UdLike y z):UdFrom w wr x y:=by
 obtain ⟨e1,e2,e3,e4⟩:=h
 obtain ⟨f1,f2,f3,f4⟩:=q
 exact ⟨f1.trans e1,f2.trans e2,f3.trans e3,by unfold TmFrom;rw [f4];exact e4⟩
/-- so far: the list with the new times -/
structure RAdvI (w wr:World) (S:List TV) (L:List Ud) (i:Nat) (A:Option Addr) (m c:Nat) (K:List Ud):Prop where
 own:Own wr w.heap.size 95 4 A m c (udsC K)
 len:m=K.length
 ls : ∀ z∈K, ∃ x∈L,UdFrom w wr x z
 vals:K.map Ud.uv=((L.take i).map Ud.uv).map (advK S)
 ext:Ext w wr
theorem RAdvI.udr {w wr:World} {S:List TV} {L K:List Ud} {i m c:Nat} {A:Option Addr} (h:RAdvI w wr S L i A m c K) (hL : ∀ x∈L,UdR w x) : ∀ x∈K,UdR wr x:=fun z hz=>by
 obtain ⟨x,hx,q⟩:=h.ls z hz
 exact q.udr (hL x hx) h.ext
theorem RAdvI.more {w wr w2 w6:World} {S:List TV} {L K:List Ud} {i m c c6 m6:Nat} {A A6:Option Addr} {x z:Ud} {ob:Obj} (h:RAdvI w wr S L i A m c K) (hi:i<L.length) (hx:L.getD i Ud.zero=x) (hz:z.uv=advK S x.uv) (hm:m6=m+1) (x2:Ext wr w2) (ht:UdFrom w w2 x z)
  (o:Own w6 w.heap.size 95 4 A6 m6 c6 (udsC K++udC z)) (g:(w2.alloc ob).grownBy w6 (blk A c)):RAdvI w w6 S L (i+1) A6 m6 c6 (K++[z]):=by
 have kept : ∀ {k0 s:Nat} {e:TypeId} {A':Option Addr} {n' c':Nat} {xs:List Value},e≠95→Own w2 k0 e s A' n' c' xs→Own w6 k0 e s A' n' c' xs:=fun {k0 s e A' n' c' xs} he o=>(o.alloc ob).kept g (by
  cases hb:blk A' c' with
  | none=>exact .inl rfl
  | some k=>exact .inr (fun q=>own_types o (h.own.ext x2) he hb q.symm))
 have old : ∀ x y,UdFrom w w2 x y→UdFrom w w6 x y:=fun x y hy=>⟨hy.1,hy.2.1,hy.2.2.1,hy.2.2.2.imp id fun o=>kept udtype_word o⟩
 refine ⟨by rw [udsC_append,show udsC [z]=udC z by simp [udsC]];exact o,by rw [List.length_append,hm,h.len];rfl,fun y hy=>?_,?_,((h.ext.trans x2).alloc _).grown g (fun k e=>(h.own.lt k e).1)⟩
 ·rcases List.mem_append.1 hy with hy | hy
  ·obtain ⟨q,hq,f⟩:=h.ls y hy
   exact ⟨q,hq,old q y (f.ext x2)⟩
  ·rw [List.mem_singleton.1 hy];exact ⟨x,hx ▸ getU_mem hi,old x z ht⟩
 ·rw [takeU hi,hx,List.map_append,List.map_append,List.map_append,h.vals,List.map_singleton,List.map_singleton,List.map_singleton,hz]
open Go.RowKit
def uptoH (x:Hv) (first:Int):Int:=if x.begun=true then x.seen else first
/-- all that was inserted, what the handle was told (if there is one), and up to where -/
structure RdI (w0 w:World) (M:List Hop) (i gt:Nat) (first:Int) (v:TrV) (hx:Option Hv) (upto:Int) (A1:Option Addr) (n1 c1:Nat) (L:List Ud) (A2:Option Addr) (n2 c2:Nat) (D:List Ud) (K:Nat→Prop):Prop where
 s:Sho w0 w K gt v (L.map Ud.uv) (hopsLen M i)
 a:Own w w0.heap.size 95 4 A1 n1 c1 (udsC L)
 ak : ∀ k,blk A1 c1=some k→K k
 d:Tl w0 w K A2 n2 c2 D
 ap : ∀ k,blk A1 c1=some k→blk A2 c2≠some k
 len:n1=L.length
 ls : ∀ x∈L,UdR w0 x∧InU x
 no:hx=none→D=[]∧upto=first
 yes : ∀ x,hx=some x→x∈v.hs∧x.ended=false∧ToldH x first (L.map Ud.uv) (D.map Ud.uv)∧upto=uptoH x first
 nn:n2≤600 * (i+1)
section
variable {w0 w w':World} {M:List Hop} {i gt:Nat} {first upto:Int} {v v':TrV} {hx:Option Hv} {A1 A2:Option Addr} {n1 c1 n2 c2:Nat} {L D Q:List Ud} {K:Nat→Prop}
theorem RdI.grow (h:RdI w0 w M i gt first v hx upto A1 n1 c1 L A2 n2 c2 D K) (x:Ext w w'):RdI w0 w' M i gt first v hx upto A1 n1 c1 L A2 n2 c2 D K:=⟨h.s.grow x,h.a.ext x,h.ak,h.d.ext x,h.ap,h.len,h.ls,h.no,h.yes,h.nn⟩
theorem RdI.next (h:RdI w0 w M i gt first v hx upto A1 n1 c1 L A2 n2 c2 D K) (hi:i<M.length):RdI w0 w M (i+1) gt first v hx upto A1 n1 c1 L A2 n2 c2 D K:=⟨h.s.more (by rw [hopsLen_succ hi];omega),h.a,h.ak,h.d,h.ap,h.len,h.ls,h.no,h.yes,by have:=h.nn;omega⟩
theorem RdI.uin (h:RdI w0 w M i gt first v hx upto A1 n1 c1 L A2 n2 c2 D K):Uin w A1 c1 L:=⟨by have:=h.a.sl;rwa [h.len] at this,fun x hx=>(h.ls x hx).1.ext h.s.ext⟩
theorem RdI.start (s:Sho w0 w (fun _=>False) gt v [] 0):RdI w0 w M 0 gt first v none first none 0 0 [] none 0 0 [] (fun _=>False) :=
 ⟨by rw [hopsLen_zero];exact s,Own.nil _ _ _ _,fun k hk=>(nomatch hk),Tl.nil,fun k hk=>(nomatch hk),rfl,fun x hx=>(nomatch hx),fun _=>⟨rfl,rfl⟩,fun x hx=>(nomatch hx),Nat.zero_le _⟩
/-- a call that keeps what was inserted, and the handles -/
theorem RdI.to (h:RdI w0 w M i gt first v hx upto A1 n1 c1 L A2 n2 c2 D K) (kp:Kp w0 K w w') (s:Sho w0 w' K gt v' (L.map Ud.uv) (hopsLen M i)) (hs:v'.hs=v.hs):RdI w0 w' M i gt first v' hx upto A1 n1 c1 L A2 n2 c2 D K :=
 ⟨s,h.a.upd kp fun k hk q=>q.2 (h.ak k hk),h.ak,h.d.kp kp,h.ap,h.len,h.ls,h.no,fun x hx=>by rw [hs];exact h.yes x hx,h.nn⟩
/-- a new handle -/
theorem RdI.share {g:Nat} (h:RdI w0 w M i gt first v none upto A1 n1 c1 L A2 n2 c2 D K) (kp:Kp w0 K w w') (s:Sho w0 w' K gt { v with hs:=v.hs++[newH g first] } (L.map Ud.uv) (hopsLen M i)):RdI w0 w' M i gt first { v with hs:=v.hs++[newH g first] } (some (newH g first)) upto A1 n1 c1 L A2 n2 c2 D K:=by
 obtain ⟨e1,e2⟩:=h.no rfl
 refine ⟨s,h.a.upd kp fun k hk q=>q.2 (h.ak k hk),h.ak,h.d.kp kp,h.ap,h.len,h.ls,fun q=>(nomatch q),fun x hx=>?_,h.nn⟩
 injection hx with hx
 subst hx
 exact ⟨List.mem_append_right _ (List.mem_singleton.2 rfl),rfl,⟨fun u hu=>(by rw [e1] at hu;exact (nomatch hu)),fun _=>⟨by rw [e1];rfl,rfl⟩,fun b=>(nomatch b)⟩,e2⟩
/-- the trace's side of an insertion: `all` has not been appended to yet -/
theorem RdI.told (h:RdI w0 w M i gt first v hx upto A1 n1 c1 L A2 n2 c2 D K) {l:List UV} (hu : ∀ x∈l,v.up≤x.1.2.1) : ∀ x,hx=some x→ToldH x first (L.map Ud.uv++l) (D.map Ud.uv):=fun x hx=>by
 obtain ⟨h1,_,h3,_⟩:=h.yes x hx
 exact h3.grow fun b u hu'=>by
  have q1:=((h.s.tt.ok.hs x h1).2 b).2
  have q2:=hu u hu'
  omega
theorem RdI.ins {w6:World} {A':Option Addr} {c' k:Nat} {N:List Ud} (h:RdI w0 w M i gt first v hx upto A1 n1 c1 L A2 n2 c2 D K) (hi:i<M.length) (hk:k=N.length) (hkM:k=(M.getD i Hop.zero).L.length) (hN : ∀ x∈N,UdR w0 x∧InU x) (kp:Kp w0 K w w6) (s:Sho w0 w6 K gt v' (L.map Ud.uv++N.map Ud.uv) (hopsLen M i+k+1)) (hs:v'.hs=v.hs) (hu : ∀ x∈N.map Ud.uv,v.up≤x.1.2.1)
  (o:Own w' w0.heap.size 95 4 A' (n1+k) c' (udsC L++udsC N)) (g:w6.grownBy w' (blk A1 c1)) (q:(A'=A1∧c'=c1)∨(blk A' c'=some w6.heap.size∧Ext w6 w')) : ∃ K',RdI w0 w' M (i+1) gt first v' hx upto A' (n1+k) c' (L++N) A2 n2 c2 D K':=by
 have u:=grown_upd g
 have hK : ∀ k,K k→(fun k=>K k∨(w6.heap.size≤k∧k<w'.heap.size)) k:=fun _ hk => .inl hk
 have d6:=h.d.kp kp
 have a6:=h.a.upd kp fun k hk q=>q.2 (h.ak k hk)
 have e:=hopsLen_succ hi
 have s6:Sho w0 w' (fun k=>K k∨(w6.heap.size≤k∧k<w'.heap.size)) gt v' (L.map Ud.uv++N.map Ud.uv) (hopsLen M i+k+1):=by
  obtain ⟨R,t,h1,h2,h3⟩:=s.r
  have z:=u.size
  refine ⟨ext_updS s.ext u fun k hk=>(a6.lt k hk).1,⟨R,t,h1.upd u fun k hk q=>(h3 k hk).2 (h.ak k q),h2,fun k hk=>⟨(h3 k hk).1,fun q=>?_⟩⟩,fun k hk=>?_,s.tt⟩
  ·rcases q with r | r
   ·exact (h3 k hk).2 r
   ·have:=h1.low k hk;omega
  ·rcases hk with r | r
   ·exact Nat.lt_of_lt_of_le (s.lo k r) z
   ·exact r.2
 refine ⟨_,⟨by rw [List.map_append];exact s6.more (by omega),by rw [udsC_append];exact o,fun j hj=>?_,(d6.far a6 u fun k h1 h2=>h.ap k h2 h1).wide hK,fun j hj h2=>?_,by rw [List.length_append,h.len,hk],fun x hx=>(List.mem_append.1 hx).elim (h.ls x) (hN x),h.no,fun x hx=>?_,by have:=h.nn;omega⟩⟩
 ·rcases q with ⟨rfl,rfl⟩ | ⟨r,_⟩
  ·exact .inl (h.ak j hj)
  ·exact .inr ⟨by rw [r] at hj;injection hj with hj;omega,(o.lt j hj).2⟩
 ·rcases q with ⟨rfl,rfl⟩ | ⟨r,_⟩
  ·exact h.ap j hj h2
  ·rw [r] at hj
   injection hj with hj
   have:=(d6.own.lt j h2).2
   omega
 ·obtain ⟨h1,h2,_,h4⟩:=h.yes x hx
  exact ⟨by rw [hs];exact h1,h2,by rw [List.map_append];exact h.told hu x hx,h4⟩
/-- what was told, and what is there, at an epoch -/
theorem RdI.ask {x:Hv} (h:RdI w0 w M i gt first v (some x) upto A1 n1 c1 L A2 n2 c2 D K) (hf:0≤first∧first≤18446744073709551615) {n:Int} (h1:first≤n) (h2:n<upto):sumV (atV (D.map Ud.uv) (n,[]))=sumV (atV (L.map Ud.uv) (n,[])):=by
 obtain ⟨_,_,t,e⟩:=h.yes x rfl
 unfold uptoH at e
 split at e
 ·rename_i b
  exact t.at b h.s.tt.tl.good hf h1 (by omega)
 ·omega
theorem rd_next_g {t:TrV} {x:Hv}:(nextV t x).2.2.2.g=x.g∧(nextV t x).2.2.2.ended=x.ended:=by
 unfold nextV
 split
 ·exact ⟨rfl,rfl⟩
 ·split<;>exact ⟨rfl,rfl⟩
theorem rd_setH {H:List Hv} {x y:Hv} (hx:x∈H) (hg:y.g=x.g):y∈setH H y:=List.mem_map.2 ⟨x,hx,by rw [if_pos hg.symm]⟩
/-- the handle is asked; its answer is put to the list -/
theorem RdI.tell {x:Hv} {w6:World} {A:Option Addr} {m:Nat} {q:Int × List UV × Int × Hv} (h:RdI w0 w M i gt first v (some x) upto A1 n1 c1 L A2 n2 c2 D K) (hf:0≤first∧first≤18446744073709551615) (hq:nextV v x=q) (hB:hopsLen M i≤300) (hm:m=Q.length) (u:Uout w6 w.heap.size A m Q) (hv:Q.map Ud.uv=q.2.1) (kp:Kp w0 K w w6)
  (f : ∀ K':Nat→Prop,(∀ k,K' k→K k∨(w.heap.size≤k∧k<w6.heap.size))→Sho w0 w6 K' gt { v with hs:=setH v.hs q.2.2.2 } (L.map Ud.uv) (hopsLen M i)) (hn:n2≤600 * i) :
  q.1=0∧upto≤q.2.2.1∧q.2.2.2.g=x.g∧n2+m≤600 * (i+1)∧Own w6 w0.heap.size 95 4 A2 n2 c2 (udsC D)∧w0.heap.size≤w6.heap.size ∧
  ∀ A' c' w',Own w' w0.heap.size 95 4 A' (n2+m) c' (udsC D++udsC Q)→w6.grownBy w' (blk A2 c2)→((A'=A2∧c'=c2)∨(blk A' c'=some w6.heap.size∧Ext w6 w')) →
   ∃ K',RdI w0 w' M i gt first { v with hs:=setH v.hs q.2.2.2 } (some q.2.2.2) q.2.2.1 A1 n1 c1 L A' (n2+m) c' (D++Q) K':=by
 obtain ⟨h1,h2,h3,h4⟩:=h.yes x rfl
 have k:=ToldH.next h.s.tt h1 h2 h3 hf
 have hg:=rd_next_g (t:=v) (x:=x)
 have hh:=h.s.tt.ok.hs x h1
 rw [hq] at k hg
 obtain ⟨k1,k2,k3,k4⟩:=k
 have hgood : ∀ x∈Q,InU x:=uds_good hv fun u hu=>k2.good u (List.mem_append_right _ hu)
 have hlen:Q.length≤600:=by
  have e1:Q.length=q.2.1.length:=by rw [← hv,List.length_map]
  rw [e1, ← hq]
  have hall:=Nat.le_trans h.s.tt.all_len hB
  have h0:=out_len (allV v.s) x.begun x.seen
  have h1:=usumV_len (outV (allV v.s) x.begun x.seen)
  unfold nextV
  split
  ·exact Nat.zero_le _
  ·split
   ·exact Nat.zero_le _
   ·show (UdS.sumV (outV (allV v.s) x.begun x.seen)).length≤600
    omega
 have hup:upto≤q.2.2.1∧q.2.2.1=uptoH q.2.2.2 first:=by
  rw [k3,k4,h4]
  unfold uptoH
  by_cases c:x.begun=false∧v.up≤x.seen
  ·have:=(h3.no c.1).2
   rw [if_pos c,if_pos c,c.1,if_neg Bool.false_ne_true]
   omega
  ·rw [if_neg c,if_neg c]
   have e2:(tellH x v.up).begun=true:=rfl
   have e3:(tellH x v.up).seen=v.up:=rfl
   rw [if_pos e2,e3]
   refine ⟨?_,rfl⟩
   cases hb:x.begun with
   | true =>
    rw [if_pos rfl]
    exact (hh.2 hb).2
   | false =>
    rw [if_neg Bool.false_ne_true]
    have q1:=(h3.no hb).2
    have q2 : ¬ v.up≤x.seen:=fun q=>c ⟨hb,q⟩
    omega
 have a6:=h.a.upd kp fun k hk q=>q.2 (h.ak k hk)
 have d6:=(h.d.kp kp).wide (K':=fun k=>K k∨(w.heap.size≤k∧k<w6.heap.size)) fun _ hk => .inl hk
 have s6:=f (fun k=>K k∨(w.heap.size≤k∧k<w6.heap.size)) fun _ hk=>hk
 have q6:=tlE_new (K:=fun k=>K k∨(w.heap.size≤k∧k<w6.heap.size)) u (fun _ a b => .inr ⟨a,b⟩) hgood
 refine ⟨k1,hup.1,hg.1,by omega,d6.own,s6.ext.size,fun A' c' w' o g r=>?_⟩
 have uu:=grown_upd g
 refine ⟨fun k=>(K k∨(w.heap.size≤k∧k<w6.heap.size))∨(w6.heap.size≤k∧k<w'.heap.size),s6.app (k:=0) (A':=none) (c':=0) d6 (fun _ hk=>hk) g,a6.upd uu fun j h1 h2=>h.ap j h1 h2,fun j hj => .inl (.inl (h.ak j hj)),d6.app (fun _ hk => .inl hk) (fun _ h1 h2 => .inr ⟨h1,h2⟩) hm q6 o g r,fun j hj h2=>?_,h.len,h.ls,fun e=>(nomatch e),fun y hy=>?_,by omega⟩
 ·rcases r with ⟨rfl,rfl⟩ | ⟨r,_⟩
  ·exact h.ap j hj h2
  ·rw [r] at h2
   injection h2 with h2
   have:=(a6.lt j hj).2
   omega
 ·injection hy with hy
  subst hy
  exact ⟨rd_setH h1 hg.1,by rw [hg.2];exact h2,by rw [List.map_append,hv];exact k2,hup.2⟩
/-- what its answer is -/
theorem RdI.pre {x:Hv} {q:Int × List UV × Int × Hv} (h:RdI w0 w M i gt first v (some x) upto A1 n1 c1 L A2 n2 c2 D K) (hf:0≤first∧first≤18446744073709551615) (hq:nextV v x=q):q.1=0∧upto≤q.2.2.1:=by
 obtain ⟨h1,h2,h3,h4⟩:=h.yes x rfl
 have k:=ToldH.next h.s.tt h1 h2 h3 hf
 have hh:=h.s.tt.ok.hs x h1
 rw [hq] at k
 obtain ⟨k1,_,k3,_⟩:=k
 refine ⟨k1,?_⟩
 rw [k3,h4]
 unfold uptoH
 by_cases c:x.begun=false∧v.up≤x.seen
 ·have:=(h3.no c.1).2
  rw [if_pos c,c.1,if_neg Bool.false_ne_true]
  omega
 ·rw [if_neg c]
  cases hb:x.begun with
  | true =>
   rw [if_pos rfl]
   exact (hh.2 hb).2
  | false =>
   rw [if_neg Bool.false_ne_true]
   have q1:=(h3.no hb).2
   have q2 : ¬ v.up≤x.seen:=fun q=>c ⟨hb,q⟩
   omega
/-- the handle holds less -/
theorem RdI.hallow {x:Hv} {n:Int} (h:RdI w0 w M i gt first v (some x) upto A1 n1 c1 L A2 n2 c2 D K) (kp:Kp w0 K w w') (s:Sho w0 w' K gt (hallowT v x n).2 (L.map Ud.uv) (hopsLen M i)) : ∃ y,y.g=x.g∧RdI w0 w' M i gt first (hallowT v x n).2 (some y) upto A1 n1 c1 L A2 n2 c2 D K:=by
 obtain ⟨h1,h2,h3,h4⟩:=h.yes x rfl
 have hy : ∃ y∈(hallowT v x n).2.hs,y.g=x.g∧y.begun=x.begun∧y.seen=x.seen∧y.ended=x.ended:=by
  by_cases he:x.ended=true
  ·have e:hallowT v x n=(7,v):=by unfold hallowT;rw [if_pos he]
   rw [e]
   exact ⟨x,h1,rfl,rfl,rfl,rfl⟩
  ·by_cases hr:n<x.hold∨(if x.begun=true then x.seen - 1 else x.seen)<n
   ·have e:hallowT v x n=(120,v):=by unfold hallowT;rw [if_neg he,if_pos hr]
    rw [e]
    exact ⟨x,h1,rfl,rfl,rfl,rfl⟩
   ·have e:hallowT v x n=(0,compactT { v with hs:=setH v.hs { x with hold:=n } }):=by unfold hallowT;rw [if_neg he,if_neg hr]
    rw [e]
    exact ⟨{ x with hold:=n },rd_setH (x:=x) (y:={ x with hold:=n }) h1 rfl,rfl,rfl,rfl,rfl⟩
 obtain ⟨y,y1,y2,y3,y4,y5⟩:=hy
 refine ⟨y,y2,s,h.a.upd kp fun k hk q=>q.2 (h.ak k hk),h.ak,h.d.kp kp,h.ap,h.len,h.ls,fun e=>(nomatch e),fun z hz=>?_,h.nn⟩
 injection hz with hz
 subst hz
 exact ⟨y1,by rw [y5];exact h2,h3.hold y3 y4,by rw [h4];unfold uptoH;rw [y3,y4]⟩
/-- a new block is looked at too -/
theorem RdI.cell {go:Nat} (h:RdI w0 w M i gt first v hx upto A1 n1 c1 L A2 n2 c2 D K) (x:Ext w w') (h1:w.heap.size≤go) (h2:go<w'.heap.size):RdI w0 w' M i gt first v hx upto A1 n1 c1 L A2 n2 c2 D (fun k=>K k∨k=go):=by
 have s:=h.s
 obtain ⟨R,t,r1,r2,r3⟩:=s.r
 refine ⟨⟨s.ext.trans x,⟨R,t,r1.ext x,r2,fun k hk=>⟨(r3 k hk).1,fun q=>?_⟩⟩,fun k hk=>?_,s.tt⟩,h.a.ext x,fun k hk => .inl (h.ak k hk),(h.d.ext x).wide fun _ hk => .inl hk,h.ap,h.len,h.ls,h.no,h.yes,h.nn⟩
 ·rcases q with q | q
  ·exact (r3 k hk).2 q
  ·have:=r1.low k hk;omega
 ·rcases hk with hk | hk
  ·exact Nat.lt_of_lt_of_le (s.lo k hk) x.size
  ·omega
def hptr:Option Hv→Value
 | none => .pointer none
 | some x => .pointer (some ⟨x.g,0,none⟩)
end
end Go.Proofs.YtdgbkpoickbidaaGreatDoor
