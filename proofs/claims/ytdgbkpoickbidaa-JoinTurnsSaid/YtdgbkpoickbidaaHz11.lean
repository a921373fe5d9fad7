/- penstockref02.Cmp: what it answers of any two rows. penstockref02.Cmp, its answer a name. penstockref10: cmp, add. penstockref10: Sum. penstockref00.SameRow: what it answers. penstockref00.SameTime, SameTimes: what they answer. penstockref00.SameUpdates: of what is the same it says so. penstocklaw14.JoinTurns. The weights of updates that come in. What comes in: lists of ints. What the reach gives at chapter 14: how long what comes in is. Conditions: each theorem states its own. -/
import Derived.Test.YtdgbkpoickbidaaHz2
import Derived.Test.YtdgbkpoickbidaaHz10
import Derived.Test.YtdgbkpoickbidaaHz1
import Derived.Deep.LoopGhost
import Derived.Test.YtdgbkpoickbidaaHz6
import Derived.Test.YtdgbkpoickbidaaHz3
import Derived.Test.YtdgbkpoickbidaaHz8
import Derived.Test.YtdgbkpoickbidaaHz9
import Derived.SizedLaws
namespace Go.Proofs.Ytdgbkpoickbidaa
open Go.RowKit

set_option maxRecDepth 100000 in
set_option maxHeartbeats 4000000 in
theorem rowRCmp_any (A1 A2:Option Addr) (c1 c2 n1 n2:Nat) (l m:List Dat) (w:World) (e1:n1=l.length) (e2:n2=m.length) (h1:Rw w A1 c1 l) (h2:Rw w A2 c2 m) :
  Calls Try.prog 63 #[.slice A1 n1 c1, .slice A2 n2 c2] w fun e w'=>e = .returned (.int .i64 (cmpR l m))∧Ext w w':=by
 have E1:=Lib.hid e1
 have E2:=Lib.hid e2
 have hl1:=h1.le
 have hl2:=h2.le
 rw [← e1] at hl1
 rw [← e2] at hl2
 have H1:=Lib.hid h1
 have H2:=Lib.hid h2
 clear e1 e2 h1 h2
 go_enter Try.func63,Try.ntmps63
 go_wp2
 go_loopw [5] (fun v wr => ∃ i:Nat,i≤n1∧v = .int .i64 i∧Hid (i≤m.length∧cmpR (l.drop i) (m.drop i)=cmpR l m)∧Ext w wr) (fun v _=>n1 - (intOf v).toNat)
 case atStart=>exact ⟨0,Nat.zero_le _,rfl,Lib.hid ⟨Nat.zero_le _,rfl⟩,Ext.refl _⟩
 case round =>
  obtain ⟨i,hi,rfl,hr,er⟩:=hrel
  have hsz:=er.size
  by_cases hlt:i<n1
  ·by_cases hlt2:i<n2
   ·obtain ⟨a1,rfl,p0,p1,p2,p3⟩:=(H1.out.ext er).at (show i<l.length by rw [← E1.out];exact hlt)
    obtain ⟨d,hd⟩ : ∃ d,l.getD i Dat.zero=d:=⟨_,rfl⟩
    rw [hd] at p0 p1 p2 p3
    obtain ⟨a2,rfl,q0,q1,q2,q3⟩:=(H2.out.ext er).at (show i<m.length by rw [← E2.out];exact hlt2)
    obtain ⟨d2,hd2⟩ : ∃ d,m.getD i Dat.zero=d:=⟨_,rfl⟩
    rw [hd2] at q0 q1 q2 q3
    obtain ⟨v,hv⟩ : ∃ v,cmpD d d2=v:=⟨_,rfl⟩
    have HS:Hid (cmpR l m=if v=0 then cmpR (l.drop (i+1)) (m.drop (i+1)) else v):=Lib.hid (by rw [← hr.out.2,cmpR_drop (by rw [← E1.out];exact hlt) (by rw [← E2.out];exact hlt2),hd,hd2,hv])
    have HB:Hid (i+1≤m.length):=Lib.hid (by rw [← E2.out];exact hlt2)
    clear hd hd2 hr
    obtain ⟨ka,ba,na,sa⟩:=d
    obtain ⟨kb,bb,nb,sb⟩:=d2
    simp only at p0 p1 p2 p3 q0 q1 q2 q3
    have HV:=Lib.hid hv
    clear hv
    have X:Ext wr wr.drew:=(Ext.refl wr).drew
    have P0 : ∀ y:Xt wr.drew,y.W.cell? (a1.add (i * 4))=some (.int .u8 ka):=fun y=>(X.trans y.x).cell p0
    have P1 : ∀ y:Xt wr.drew,y.W.cell? ⟨(a1.add (i * 4)).block,(a1.add (i * 4)).off+1,none⟩=some (.bool ba):=fun y=>(X.trans y.x).cell p1
    have P2 : ∀ y:Xt wr.drew,y.W.cell? ⟨(a1.add (i * 4)).block,(a1.add (i * 4)).off+2,none⟩=some (.int .i64 na):=fun y=>(X.trans y.x).cell p2
    have P3 : ∀ y:Xt wr.drew,y.W.cell? ⟨(a1.add (i * 4)).block,(a1.add (i * 4)).off+3,none⟩=some (.string sa):=fun y=>(X.trans y.x).cell p3
    have Q0 : ∀ y:Xt wr.drew,y.W.cell? (a2.add (i * 4))=some (.int .u8 kb):=fun y=>(X.trans y.x).cell q0
    have Q1 : ∀ y:Xt wr.drew,y.W.cell? ⟨(a2.add (i * 4)).block,(a2.add (i * 4)).off+1,none⟩=some (.bool bb):=fun y=>(X.trans y.x).cell q1
    have Q2 : ∀ y:Xt wr.drew,y.W.cell? ⟨(a2.add (i * 4)).block,(a2.add (i * 4)).off+2,none⟩=some (.int .i64 nb):=fun y=>(X.trans y.x).cell q2
    have Q3 : ∀ y:Xt wr.drew,y.W.cell? ⟨(a2.add (i * 4)).block,(a2.add (i * 4)).off+3,none⟩=some (.string sb):=fun y=>(X.trans y.x).cell q3
    by_cases hv0:v=0
    ·subst hv0
     go_upto_region 4 with fail
     refine wp_region_ord [0,0,3,7,0,0,48,112,255,511] (.flo [0,1,2,3,4,5,6,7] (.one 8 (.flo [9] (.fin)))) (by kernel_rfl) (by kernel_rfl) (by intro _ _ d _ _ h;cases d<;>exact h) ?_
     (refine ord_flo (pick_cons rfl (pick_cons rfl (pick_cons rfl (pick_cons rfl (pick_cons rfl (pick_cons rfl (pick_cons rfl (pick_cons rfl pick_nil)))))))) ?_;(repeat (go_big_quiet_step (fail)));refine wpQuiet_nil ?_;show ordWalk _ _ _ _ _ _ _)
     refine ord_one (pick_cons rfl pick_nil) ?_;intro K_ hK_
     go_wp2_with (go_at_call 73;refine (rcmpD_lit _ _ _ _ _ _ _ _ _ HV).mono ?_;rintro e w1 ⟨rfl,x1⟩)
     (refine ord_flo (pick_cons rfl pick_nil) ?_;(repeat (go_big_quiet_step (fail)));refine wpQuiet_nil ?_;show ordWalk _ _ _ _ _ _ _)
     refine ord_fin ?_
     go_wp2
     go_roundw
     case rel=>exact ⟨i+1,by omega,by go_num,Lib.hid ⟨HB.out,by rw [HS.out];simp⟩,er.trans (X.trans x1)⟩
     case measure=>simp [intOf];omega
    ·have z:(v != 0)=true:=by simpa using hv0
     have HZ:=Lib.hid hv0
     clear hv0
     go_upto_region 4 with fail
     refine wp_region_ord [0,0,3,7,0,0,48,112,255,511] (.flo [0,1,2,3,4,5,6,7] (.one 8 (.flo [9] (.fin)))) (by kernel_rfl) (by kernel_rfl) (by intro _ _ d _ _ h;cases d<;>exact h) ?_
     (refine ord_flo (pick_cons rfl (pick_cons rfl (pick_cons rfl (pick_cons rfl (pick_cons rfl (pick_cons rfl (pick_cons rfl (pick_cons rfl pick_nil)))))))) ?_;(repeat (go_big_quiet_step (fail)));refine wpQuiet_nil ?_;show ordWalk _ _ _ _ _ _ _)
     refine ord_one (pick_cons rfl pick_nil) ?_;intro K_ hK_
     go_wp2_with (go_at_call 73;refine (rcmpD_lit _ _ _ _ _ _ _ _ _ HV).mono ?_;rintro e w1 ⟨rfl,x1⟩)
     (refine ord_flo (pick_cons rfl pick_nil) ?_;(repeat (go_big_quiet_step (fail)));refine wpQuiet_nil ?_;show ordWalk _ _ _ _ _ _ _)
     refine ord_fin ?_
     go_wp2
     go_ret
     exact ⟨(by rw [HS.out,if_neg HZ.out];rfl),er.trans (X.trans x1)⟩
   ·have HS:Hid (cmpR l m=1):=Lib.hid (by rw [← hr.out.2];exact cmpR_more (by rw [← E1.out];exact hlt) (by rw [← E2.out];omega))
    have h3:n2<n1:=by omega
    clear hr
    go_wp2
    go_ret
    exact ⟨(by rw [HS.out];rfl),er⟩
  ·have HS:Hid (cmpR l m=if i<m.length then -1 else 0):=Lib.hid (by rw [← hr.out.2];exact cmpR_end (by rw [← E1.out];omega))
   have HB:Hid (i≤m.length):=Lib.hid hr.out.1
   obtain rfl:i=n1:=by omega
   by_cases h2:i<n2
   ·have HT:Hid (cmpR l m = -1):=Lib.hid (by rw [HS.out,if_pos (by rw [← E2.out];exact h2)])
    clear HS hr
    go_wp2
    go_ret
    exact ⟨(by rw [HT.out];rfl),er⟩
   ·have HT:Hid (cmpR l m=0):=Lib.hid (by rw [HS.out,if_neg (by rw [← E2.out];exact h2)])
    have h3 : ¬ n2<i:=by have:=HB.out;rw [← E2.out] at this;omega
    clear HS hr
    go_wp2
    go_ret
    exact ⟨(by rw [HT.out];rfl),er⟩
open Go.RowKit
theorem rowRCmp_lit {v:Int} (A1 A2:Option Addr) (c1 c2 n1 n2:Nat) (l m:List Dat) (w:World) (hv:Hid (cmpR l m=v)) (e1:Hid (n1=l.length)) (e2:Hid (n2=m.length)) (h1:Hid (Rw w A1 c1 l)) (h2:Hid (Rw w A2 c2 m)) :
  Calls Try.prog 63 #[.slice A1 n1 c1, .slice A2 n2 c2] w fun e w'=>e = .returned (.int .i64 v)∧Ext w w':=hv.out ▸ rowRCmp_any A1 A2 c1 c2 n1 n2 l m w e1.out e2.out h1.out h2.out
open Go.RowKit
set_option maxRecDepth 100000 in
set_option maxHeartbeats 2000000 in
theorem rucmp_any (x y:Ud) (nx ny tx ty:Nat) (v:Int) (w:World) (hv:Hid (UdS.cmpC x y=v)) (hnx:Hid (nx=x.l.length)) (hny:Hid (ny=y.l.length)) (htx:Hid (tx=x.t.l.length)) (hty:Hid (ty=y.t.l.length)) (hx:Hid (UdR w x)) (hy:Hid (UdR w y)) (ux:Hid (U32 x.t.l)) (uy:Hid (U32 y.t.l)) (h9:tx≤1000000) (h8:ty≤1000000) :
  Calls Try.prog 48 #[.agg #[.slice x.A nx x.c, .int .u64 x.t.e, .slice x.t.A tx x.t.c, .int .i64 x.d], .agg #[.slice y.A ny y.c, .int .u64 y.t.e, .slice y.t.A ty y.t.c, .int .i64 y.d]] w fun e w'=>e = .returned (.int .i64 v)∧Ext w w':=by
 obtain ⟨r,hr⟩ : ∃ r,cmpR x.l y.l=r:=⟨_,rfl⟩
 obtain ⟨t,ht⟩ : ∃ t,tcmp (x.t.e,x.t.l) (y.t.e,y.t.l)=t:=⟨_,rfl⟩
 have hvv:(if r=0 then t else r)=v:=by rw [← hv.out, ← hr, ← ht];rfl
 have HR:=Lib.hid hr
 have HT:=Lib.hid ht
 have X1:Hid (∀ W,Ext w W→Sl W 1 x.t.A tx x.t.c (wds x.t.l)):=Lib.hid (fun W q=>by rw [htx.out];exact hx.out.t.ext q)
 have Y1:Hid (∀ W,Ext w W→Sl W 1 y.t.A ty y.t.c (wds y.t.l)):=Lib.hid (fun W q=>by rw [hty.out];exact hy.out.t.ext q)
 clear hr ht
 go_enter Try.func48,Try.ntmps48
 have x0:Ext w ((w.alloc (Obj.cells #[.slice x.A nx x.c, .int .u64 x.t.e, .slice x.t.A tx x.t.c, .int .i64 x.d] 51)).alloc (Obj.cells #[.slice y.A ny y.c, .int .u64 y.t.e, .slice y.t.A ty y.t.c, .int .i64 y.d] 51)):=((Ext.refl w).alloc _).alloc _
 have a0:Hid (Bk ((w.alloc (Obj.cells #[.slice x.A nx x.c, .int .u64 x.t.e, .slice x.t.A tx x.t.c, .int .i64 x.d] 51)).alloc (Obj.cells #[.slice y.A ny y.c, .int .u64 y.t.e, .slice y.t.A ty y.t.c, .int .i64 y.d] 51)) w.heap.size 51 #[.slice x.A nx x.c, .int .u64 x.t.e, .slice x.t.A tx x.t.c, .int .i64 x.d]):=Lib.hid ((Bk.new _ _ _).alloc _)
 have b0:Hid (Bk ((w.alloc (Obj.cells #[.slice x.A nx x.c, .int .u64 x.t.e, .slice x.t.A tx x.t.c, .int .i64 x.d] 51)).alloc (Obj.cells #[.slice y.A ny y.c, .int .u64 y.t.e, .slice y.t.A ty y.t.c, .int .i64 y.d] 51)) (w.heap.size+1) 51 #[.slice y.A ny y.c, .int .u64 y.t.e, .slice y.t.A ty y.t.c, .int .i64 y.d]):=Lib.hid (Bk.at (by simp))
 have p0:=a0.out.cell 0
 have p1:=b0.out.cell 0
 have m1:True:=trivial
 by_cases hr0:r=0
 ·subst hr0
  rw [if_pos rfl] at hvv
  have HV:=Lib.hid hvv
  clear hvv
  go_wp2_with (first
   | (go_at_call 63;have mk:=m1;clear m1 mk;refine (rowRCmp_lit x.A y.A x.c y.c nx ny x.l y.l _ HR hnx hny (Lib.hid (hx.out.r.ext x0)) (Lib.hid (hy.out.r.ext x0))).mono ?_;rintro e w1 ⟨rfl,x1⟩;have r1:=(a0.out.ext x1).cell 1;have r2:=(a0.out.ext x1).cell 2;have s1:=(b0.out.ext x1).cell 1;have s2:=(b0.out.ext x1).cell 2;have X2:=Lib.hid (x0.trans x1);clear x1;have m2:True:=trivial)
   | (go_at_call 64;have mk:=m2;clear m2 mk;refine (rtc_at x.t.e y.t.e x.t.A y.t.A tx ty x.t.c y.t.c x.t.l y.t.l _ HT (Lib.hid (X1.out _ X2.out)) (Lib.hid (Y1.out _ X2.out)) ux uy h9 h8).mono ?_;rintro e w2 ⟨rfl,x2⟩)
   | fail)
  go_ret
  exact ⟨ret_int HV.out,X2.out.trans x2⟩
 ·have zr:(r==0)=false:=by simpa using hr0
  rw [if_neg hr0] at hvv
  have HV:=Lib.hid hvv
  clear hvv
  go_wp2_with (first
   | (go_at_call 63;have mk:=m1;clear m1 mk;refine (rowRCmp_lit x.A y.A x.c y.c nx ny x.l y.l _ HR hnx hny (Lib.hid (hx.out.r.ext x0)) (Lib.hid (hy.out.r.ext x0))).mono ?_;rintro e w1 ⟨rfl,x1⟩)
   | fail)
  go_ret
  exact ⟨ret_int HV.out,x0.trans x1⟩
/-- what add hands back -/
def AddU (w:World) (V:List UV) (e:Ending) (w':World):Prop := ∃ A m c M,e = .returned (.slice A m c)∧m=M.length∧Uin w' A c M∧M.map Ud.uv=V∧Ext w w'
/-- y is x but for how often -/
def UdLike (y x:Ud):Prop:=y.A=x.A∧y.c=x.c∧y.l=x.l∧y.t=x.t
theorem UdLike.udr {w:World} {x y:Ud} (h:UdLike y x) (u:UdR w x):UdR w y:=by
 obtain ⟨e1,e2,e3,e4⟩:=h
 exact ⟨by rw [e1,e2,e3];exact u.r,by rw [e4];exact u.t⟩
/-- the same, and where it lies -/
def AddP (w:World) (L:List Ud) (V:List UV) (e:Ending) (w':World):Prop := ∃ A m c M,e = .returned (.slice A m c)∧m=M.length∧Own w' w.heap.size 51 4 A m c (udsC M)∧(∀ y∈M, ∃ x∈L,UdLike y x)∧M.map Ud.uv=V∧Ext w w'
theorem AddP.toU {w w':World} {L:List Ud} {V:List UV} {e:Ending} (h:AddP w L V e w') (hL : ∀ x∈L,UdR w x):AddU w V e w':=by
 obtain ⟨A,m,c,M,e1,e2,o,p,v,x⟩:=h
 refine ⟨A,m,c,M,e1,e2,⟨by rw [← e2];exact o.sl,fun y hy=>?_⟩,v,x⟩
 obtain ⟨z,hz,q⟩:=p y hy
 exact (q.udr (hL z hz)).ext x
theorem addp_uin {w w':World} {B m c:Nat} {A:Option Addr} {L M:List Ud} {x:Ud} (o:Own w' B 51 4 A m c (udsC M)) (hm:m=M.length) (p : ∀ y∈M, ∃ z∈x :: L,UdLike y z) (hx:UdR w x) (h : ∀ z∈L,UdR w z) (X:Ext w w'):Uin w' A c M:=by
 refine ⟨by rw [← hm];exact o.sl,fun y hy=>?_⟩
 obtain ⟨z,hz,q⟩:=p y hy
 rcases List.mem_cons.1 hz with rfl | hz
 ·exact (q.udr hx).ext X
 ·exact (q.udr (h z hz)).ext X
theorem Uin.dropS {w:World} {A:Option Addr} {c n k:Nat} {L:List Ud} (h:Uin w A c L) (hn:n=L.length) (hk:k≤n):Sl w 4 (if c=k then A else A.map (·.add (k * 4))) (n - k) (c - k) (udsC (L.drop k)):=by
 have:=Sl.drop (k:=k) h.sl (by omega)
 rwa [udsC_drop, ← hn] at this
theorem Uin.takeS {w:World} {A:Option Addr} {c n k:Nat} {L:List Ud} (h:Uin w A c L) (hn:n=L.length) (hk:k≤n):Sl w 4 A k c (udsC (L.take k)):=by
 have:=Sl.take (k:=k) h.sl (by omega)
 rwa [udsC_take] at this
theorem addu_new {w w':World} {L:List Ud} {A6:Option Addr} {c6 n k m B:Nat} {x:Ud} (hn:n=L.length) (hk:k≤n) (hs:UdS.Srt L) (h1 : ∀ j,k=j+1→kcmp (L.getD j Ud.zero).k x.k<0) (h2 : ∀ y∈L.drop k,0<UdS.cmpC y x) (hm:m=n+1)
  (o:Own w' B 51 4 A6 m c6 (udsC (L.take k)++udC x++udsC (L.drop k))) (X:Ext w w') (hB:w.heap.size≤B):AddP w (x :: L) (UdS.addV (L.map Ud.uv) x.uv) (.returned (.slice A6 m c6)) w':=by
 have hl:(L.take k++x :: L.drop k).length=m:=by rw [List.length_append,List.length_cons,List.length_take,List.length_drop];omega
 refine ⟨A6,m,c6,L.take k++x :: L.drop k,rfl,hl.symm,?_,fun y hy=>⟨y,?_,rfl,rfl,rfl,rfl⟩,UdS.add_at_new hs (by omega) rfl h1 (fun y hy=>h2 y (List.mem_of_mem_head? hy)),X⟩
 ·have e:udsC (L.take k++x :: L.drop k)=udsC (L.take k)++udC x++udsC (L.drop k):=by rw [udsC_append,List.append_assoc];rfl
  rw [e]
  exact o.mono hB
 ·rcases List.mem_append.1 hy with hy | hy
  ·exact List.mem_cons_of_mem _ (List.mem_of_mem_take hy)
  ·rcases List.mem_cons.1 hy with rfl | hy
   ·exact List.mem_cons_self ..
   ·exact List.mem_cons_of_mem _ (List.mem_of_mem_drop hy)
theorem addu_eq {w w3:World} {L:List Ud} {c3 n j g B:Nat} {x y:Ud} {s:Int} (hn:n=L.length) (hj:j<n) (hs:UdS.Srt L) (hy:L.getD j Ud.zero=y) (hv:UdS.cmpC y x=0) (hsm:w64 (y.d+x.d)=s) (hg:w.heap.size≤g)
  (o:Own w3 B 51 4 (some ⟨g,0,none⟩) n c3 (udsC L)) (X:Ext w w3) (hB:w.heap.size≤B):AddP w (x :: L) (UdS.addV (L.map Ud.uv) x.uv) (.returned (.slice (some ⟨g,0,none⟩) n c3)) (w3.setCell ⟨g,j * 4+3,none⟩ (.int .i64 s)):=by
 have XE:Ext w (w3.setCell ⟨g,j * 4+3,none⟩ (.int .i64 s)):=X.set (p:=⟨g,_,none⟩) hg _
 refine ⟨_,n,c3,L.set j ⟨y.A,y.c,y.l,y.t,s⟩,rfl,by rw [List.length_set];exact hn,?_,fun z hz=>?_,UdS.add_at_eq hs (by omega) hy hv hsm,XE⟩
 ·have:=(o.put (j * 4+3) (.int .i64 s)).mono hB
  rw [UdS.udsC_set3 L j y s (by omega) hy] at this
  exact this
 ·rcases List.mem_or_eq_of_mem_set hz with hz | rfl
  ·exact ⟨z,List.mem_cons_of_mem _ hz,rfl,rfl,rfl,rfl⟩
  ·exact ⟨y,List.mem_cons_of_mem _ (hy ▸ getU_mem (by omega)),rfl,rfl,rfl,rfl⟩
set_option maxRecDepth 100000 in
set_option maxHeartbeats 16000000 in
theorem radd10_any {V:List UV} (A:Option Addr) (c n:Nat) (L:List Ud) (x:Ud) (nx tx:Nat) (w:World) (hV:Hid (UdS.addV (L.map Ud.uv) x.uv=V)) (hn:Hid (n=L.length)) (hnx:Hid (nx=x.l.length)) (htx:Hid (tx=x.t.l.length)) (h:Hid (Uin w A c L)) (hx:Hid (UdR w x)) (hs:Hid (UdS.Srt L)) (ux:Hid (U32 x.t.l)) (uL:Hid (∀ y∈L,U32 y.t.l∧y.t.l.length≤1000000)) (h9:n≤1000000) (h8:tx≤1000000) :
  Calls Try.prog 29 #[.slice A n c, .agg #[.slice x.A nx x.c, .int .u64 x.t.e, .slice x.t.A tx x.t.c, .int .i64 x.d]] w (AddP w (x :: L) V):=by
 rw [← hV.out]
 have hcap:n≤c∧c≤9223372036854775807:=by have:=h.out.sl.cap;rwa [← hn.out] at this
 go_enter Try.func29,Try.ntmps29
 go_wp2
 obtain ⟨wb,hwb⟩ : ∃ wb,wb=w.alloc (.cells #[.slice x.A nx x.c, .int .u64 x.t.e, .slice x.t.A tx x.t.c, .int .i64 x.d] 51):=⟨_,rfl⟩
 have XB:Hid (Ext w wb):=Lib.hid (by rw [hwb];exact (Ext.refl _).alloc _)
 have BU:Hid (Bk wb w.heap.size 51 #[.slice x.A nx x.c, .int .u64 x.t.e, .slice x.t.A tx x.t.c, .int .i64 x.d]):=Lib.hid (by rw [hwb];exact Bk.new _ _ _)
 rw [← hwb]
 clear hwb
 obtain ⟨gu,hgu⟩ : ∃ k,k=w.heap.size:=⟨_,rfl⟩
 rw [← hgu] at BU ⊢
 clear hgu
 have HXN:Hid (udC x=[.slice x.A nx x.c, .int .u64 x.t.e, .slice x.t.A tx x.t.c, .int .i64 x.d]):=Lib.hid (by rw [hnx.out,htx.out];rfl)
 have HD0:Hid (∀ y∈L.drop n,0<UdS.cmpC y x):=Lib.hid (fun y hy=>by rw [List.drop_of_length_le (by rw [← hn.out];exact Nat.le_refl _)] at hy;cases hy)
 go_loopg [5] n (fun z v wr => ∃ k:Nat,z=k∧k≤n∧v = .int .i64 k∧Hid (∀ y∈L.drop k,0<UdS.cmpC y x)∧Hid (Ext wb wr))
 case atStart=>exact ⟨n,rfl,Nat.le_refl _,rfl,HD0,Lib.hid (Ext.refl _)⟩
 case round =>
  clear HD0
  obtain ⟨k,hzk,hk,rfl,HD,HE⟩:=hrel
  have X:Ext wr wr.drew:=(Ext.refl wr).drew
  have q0 : ∀ z:Xt wr.drew,z.W.cell? ⟨gu,0,none⟩=some (.slice x.A nx x.c):=fun z=>(BU.out.ext ((HE.out.trans X).trans z.x)).cell 0
  have q1 : ∀ z:Xt wr.drew,z.W.cell? ⟨gu,1,none⟩=some (.int .u64 x.t.e):=fun z=>(BU.out.ext ((HE.out.trans X).trans z.x)).cell 1
  have q2 : ∀ z:Xt wr.drew,z.W.cell? ⟨gu,2,none⟩=some (.slice x.t.A tx x.t.c):=fun z=>(BU.out.ext ((HE.out.trans X).trans z.x)).cell 2
  have q3 : ∀ z:Xt wr.drew,z.W.cell? ⟨gu,3,none⟩=some (.int .i64 x.d):=fun z=>(BU.out.ext ((HE.out.trans X).trans z.x)).cell 3
  have HUX:Hid (∀ W,Ext wb W→UdR W x):=Lib.hid (fun W q=>(hx.out.ext XB.out).ext q)
  cases k with
  | zero =>
   go_upto_region 2 with fail
   refine wp_region_ord [0,1,3,7,7,23,63,127,7,511,1023,2047] (.flo [0,1,2,3,4,5,6,7,8] (.one 9 (.flo [10,11] (.fin)))) (by kernel_rfl) (by kernel_rfl) (by intro _ _ d _ _ h;cases d<;>exact h) ?_
   (refine ord_flo (pick_cons rfl (pick_cons rfl (pick_cons rfl (pick_cons rfl (pick_cons rfl (pick_cons rfl (pick_cons rfl (pick_cons rfl (pick_cons rfl pick_nil))))))))) ?_;(repeat (go_big_quiet_step (fail)));refine wpQuiet_nil ?_;show ordWalk _ _ _ _ _ _ _)
   refine ord_one (pick_cons rfl pick_nil) ?_;intro K_ hK_
   go_wp2
   (refine ord_flo (pick_cons rfl (pick_cons rfl pick_nil)) ?_;(repeat (go_big_quiet_step (fail)));refine wpQuiet_nil ?_;show ordWalk _ _ _ _ _ _ _)
   refine ord_fin ?_
   have x3:Ext wr.drew wr.drew:=Ext.refl _
   obtain ⟨w3,hw3⟩ : ∃ W:World,W=wr.drew:=⟨_,rfl⟩
   rw [← hw3] at X x3 ⊢
   have x3:Ext w3 w3:=Ext.refl _
   clear hw3
   have HE:=Lib.hid (HE.out.trans (X.trans x3))
   clear q0 q1 q2 q3 X
   obtain ⟨wr,hwr⟩ : ∃ W:World,W=w3:=⟨_,rfl⟩
   rw [← hwr] at HE ⊢
   clear hwr x3
   have X:Ext wr wr.drew:=(Ext.refl wr).drew
   have q0 : ∀ z:Xt wr.drew,z.W.cell? ⟨gu,0,none⟩=some (.slice x.A nx x.c):=fun z=>(BU.out.ext ((HE.out.trans X).trans z.x)).cell 0
   have q1 : ∀ z:Xt wr.drew,z.W.cell? ⟨gu,1,none⟩=some (.int .u64 x.t.e):=fun z=>(BU.out.ext ((HE.out.trans X).trans z.x)).cell 1
   have q2 : ∀ z:Xt wr.drew,z.W.cell? ⟨gu,2,none⟩=some (.slice x.t.A tx x.t.c):=fun z=>(BU.out.ext ((HE.out.trans X).trans z.x)).cell 2
   have q3 : ∀ z:Xt wr.drew,z.W.cell? ⟨gu,3,none⟩=some (.int .i64 x.d):=fun z=>(BU.out.ext ((HE.out.trans X).trans z.x)).cell 3
   go_upto_region 4 with fail
   refine wp_region_ord [0,1,3,7,7,23,63,127,7,511,1023,2047] (.flo [0,1,2,3,4,5,6,7,8] (.one 9 (.flo [10,11] (.fin)))) (by kernel_rfl) (by kernel_rfl) (by intro _ _ d _ _ h;cases d<;>exact h) ?_
   (refine ord_flo (pick_cons rfl (pick_cons rfl (pick_cons rfl (pick_cons rfl (pick_cons rfl (pick_cons rfl (pick_cons rfl (pick_cons rfl (pick_cons rfl pick_nil))))))))) ?_;(repeat (go_big_quiet_step (fail)));refine wpQuiet_nil ?_;show ordWalk _ _ _ _ _ _ _)
   refine ord_one (pick_cons rfl pick_nil) ?_;intro K_ hK_
   go_wp2
   (refine ord_flo (pick_cons rfl (pick_cons rfl pick_nil)) ?_;(repeat (go_big_quiet_step (fail)));refine wpQuiet_nil ?_;show ordWalk _ _ _ _ _ _ _)
   refine ord_fin ?_
   have x3:Ext wr.drew wr.drew:=Ext.refl _
   obtain ⟨w3,hw3⟩ : ∃ W:World,W=wr.drew:=⟨_,rfl⟩
   rw [← hw3] at X x3 ⊢
   have x3:Ext w3 w3:=Ext.refl _
   clear hw3
   have HE:=Lib.hid (HE.out.trans (X.trans x3))
   clear q0 q1 q2 q3 X
   obtain ⟨wr,hwr⟩ : ∃ W:World,W=w3:=⟨_,rfl⟩
   rw [← hwr] at HE ⊢
   clear hwr x3
   have ST:Hid (Sl wr 4 A (0) c (udsC (L.take (0)))):=Lib.hid ((h.out.ext (XB.out.trans HE.out)).takeS hn.out hk)
   have SD:Hid (Sl wr 4 (if c=0 then A else A.map (·.add ((0) * 4))) (n - (0)) (c - (0)) (udsC (L.drop (0)))):=Lib.hid ((h.out.ext (XB.out.trans HE.out)).dropS hn.out hk)
   cases A with
   | none =>
    obtain rfl:c=0:=h.out.sl.2.2.2.1 rfl
    have hn0:n=0:=by omega
    subst hn0
    have p1:True:=trivial
    go_wp2_with (first
     | (at_builtin;have mk:=p1;clear p1 mk;refine wpList_append_two _ elem_ud wr.heap.size _ _ rfl rfl none 0 0 [] rfl (Own.nil _ _ _ _) none 0 0 (udsC (L.take 0)) rfl ST.out (udsC_one _) (by omega) (by decide) (Nat.le_refl _) ?_;intro A4 c4 w4 o4 g4 h4;clear h4;have y4:Ext wr w4:=Ext.grown (Ext.refl _) g4 (fun k e=>nomatch e);have O4:Hid (Own w4 wr.heap.size 51 4 A4 0 c4 (udsC (L.take 0))):=Lib.hid (by have:=o4;rwa [Nat.zero_add,List.nil_append] at this);have e0:=(BU.out.ext (HE.out.trans y4)).cell 0;have e1:=(BU.out.ext (HE.out.trans y4)).cell 1;have e2:=(BU.out.ext (HE.out.trans y4)).cell 2;have e3:=(BU.out.ext (HE.out.trans y4)).cell 3;have Y4:=Lib.hid y4;clear o4 g4 y4;have p2:True:=trivial)
     | (at_builtin;have mk:=p2;clear p2 mk;refine wpList_append_two _ elem_ud wr.heap.size _ _ rfl rfl A4 0 c4 (udsC (L.take 0)) rfl (O4.out.alloc _) (some ⟨w4.heap.size,0,none⟩) 1 1 [.slice x.A nx x.c, .int .u64 x.t.e, .slice x.t.A tx x.t.c, .int .i64 x.d] rfl (Sl.one w4 #[.slice x.A nx x.c, .int .u64 x.t.e, .slice x.t.A tx x.t.c, .int .i64 x.d] 51 4 rfl) (by intro u hu;simp at hu;rcases hu with rfl | rfl | rfl | rfl<;>rfl) (by omega) (by decide) (Nat.le_trans Y4.out.size ((Ext.refl w4).alloc _).size) ?_;intro A5 c5 w5 o5 g5 h5;clear h5;have Y5:Hid (Ext wr w5):=Lib.hid (Ext.grown (Y4.out.alloc _) g5 (fun k e=>(O4.out.lt k e).1));have O5:=Lib.hid o5;clear o5 g5;have p3:True:=trivial)
     | (at_builtin;have mk:=p3;clear p3 mk;refine wpList_append_two _ elem_ud wr.heap.size _ _ rfl rfl A5 (0+1) c5 _ rfl O5.out none (0) (0) (udsC (L.drop 0)) rfl ((Sl.ext (by have:=SD.out;simpa using this) Y5.out)) (udsC_one _) (by omega) (by decide) Y5.out.size ?_;intro A6 c6 w6 o6 g6 h6;clear h6;have Y6:Hid (Ext wr w6):=Lib.hid (Ext.grown Y5.out g6 (fun k e=>(O5.out.lt k e).1));have O6:=Lib.hid o6;clear o6 g6)
     | fail)
    go_ret
    exact addu_new (k:=0) (m:=0+1+(0)) hn.out (by omega) hs.out (fun j e=>by omega) HD.out (by omega) (by have:=O6.out;rw [HXN.out];exact this) ((XB.out.trans HE.out).trans Y6.out) (XB.out.trans HE.out).size
   | some a3 =>
    by_cases hcj:c=0
    ·subst hcj
     have hn0:n=0:=by omega
     subst hn0
     have p1:True:=trivial
     go_wp2_with (first
      | (at_builtin;have mk:=p1;clear p1 mk;refine wpList_append_two _ elem_ud wr.heap.size _ _ rfl rfl none 0 0 [] rfl (Own.nil _ _ _ _) (some a3) 0 0 (udsC (L.take 0)) rfl ST.out (udsC_one _) (by omega) (by decide) (Nat.le_refl _) ?_;intro A4 c4 w4 o4 g4 h4;clear h4;have y4:Ext wr w4:=Ext.grown (Ext.refl _) g4 (fun k e=>nomatch e);have O4:Hid (Own w4 wr.heap.size 51 4 A4 0 c4 (udsC (L.take 0))):=Lib.hid (by have:=o4;rwa [Nat.zero_add,List.nil_append] at this);have e0:=(BU.out.ext (HE.out.trans y4)).cell 0;have e1:=(BU.out.ext (HE.out.trans y4)).cell 1;have e2:=(BU.out.ext (HE.out.trans y4)).cell 2;have e3:=(BU.out.ext (HE.out.trans y4)).cell 3;have Y4:=Lib.hid y4;clear o4 g4 y4;have p2:True:=trivial)
      | (at_builtin;have mk:=p2;clear p2 mk;refine wpList_append_two _ elem_ud wr.heap.size _ _ rfl rfl A4 0 c4 (udsC (L.take 0)) rfl (O4.out.alloc _) (some ⟨w4.heap.size,0,none⟩) 1 1 [.slice x.A nx x.c, .int .u64 x.t.e, .slice x.t.A tx x.t.c, .int .i64 x.d] rfl (Sl.one w4 #[.slice x.A nx x.c, .int .u64 x.t.e, .slice x.t.A tx x.t.c, .int .i64 x.d] 51 4 rfl) (by intro u hu;simp at hu;rcases hu with rfl | rfl | rfl | rfl<;>rfl) (by omega) (by decide) (Nat.le_trans Y4.out.size ((Ext.refl w4).alloc _).size) ?_;intro A5 c5 w5 o5 g5 h5;clear h5;have Y5:Hid (Ext wr w5):=Lib.hid (Ext.grown (Y4.out.alloc _) g5 (fun k e=>(O4.out.lt k e).1));have O5:=Lib.hid o5;clear o5 g5;have p3:True:=trivial)
      | (at_builtin;have mk:=p3;clear p3 mk;refine wpList_append_two _ elem_ud wr.heap.size _ _ rfl rfl A5 (0+1) c5 _ rfl O5.out _ (0) (0) (udsC (L.drop 0)) rfl ((Sl.ext (by have:=SD.out;simpa using this) Y5.out)) (udsC_one _) (by omega) (by decide) Y5.out.size ?_;intro A6 c6 w6 o6 g6 h6;clear h6;have Y6:Hid (Ext wr w6):=Lib.hid (Ext.grown Y5.out g6 (fun k e=>(O5.out.lt k e).1));have O6:=Lib.hid o6;clear o6 g6)
      | fail)
     go_ret
     exact addu_new (k:=0) (m:=0+1+(0)) hn.out (by omega) hs.out (fun j e=>by omega) HD.out (by omega) (by have:=O6.out;rw [HXN.out];exact this) ((XB.out.trans HE.out).trans Y6.out) (XB.out.trans HE.out).size
    ·have p1:True:=trivial
     go_wp2_with (first
      | (at_builtin;have mk:=p1;clear p1 mk;refine wpList_append_two _ elem_ud wr.heap.size _ _ rfl rfl none 0 0 [] rfl (Own.nil _ _ _ _) (some a3) 0 c (udsC (L.take 0)) rfl ST.out (udsC_one _) (by omega) (by decide) (Nat.le_refl _) ?_;intro A4 c4 w4 o4 g4 h4;clear h4;have y4:Ext wr w4:=Ext.grown (Ext.refl _) g4 (fun k e=>nomatch e);have O4:Hid (Own w4 wr.heap.size 51 4 A4 0 c4 (udsC (L.take 0))):=Lib.hid (by have:=o4;rwa [Nat.zero_add,List.nil_append] at this);have e0:=(BU.out.ext (HE.out.trans y4)).cell 0;have e1:=(BU.out.ext (HE.out.trans y4)).cell 1;have e2:=(BU.out.ext (HE.out.trans y4)).cell 2;have e3:=(BU.out.ext (HE.out.trans y4)).cell 3;have Y4:=Lib.hid y4;clear o4 g4 y4;have p2:True:=trivial)
      | (at_builtin;have mk:=p2;clear p2 mk;refine wpList_append_two _ elem_ud wr.heap.size _ _ rfl rfl A4 0 c4 (udsC (L.take 0)) rfl (O4.out.alloc _) (some ⟨w4.heap.size,0,none⟩) 1 1 [.slice x.A nx x.c, .int .u64 x.t.e, .slice x.t.A tx x.t.c, .int .i64 x.d] rfl (Sl.one w4 #[.slice x.A nx x.c, .int .u64 x.t.e, .slice x.t.A tx x.t.c, .int .i64 x.d] 51 4 rfl) (by intro u hu;simp at hu;rcases hu with rfl | rfl | rfl | rfl<;>rfl) (by omega) (by decide) (Nat.le_trans Y4.out.size ((Ext.refl w4).alloc _).size) ?_;intro A5 c5 w5 o5 g5 h5;clear h5;have Y5:Hid (Ext wr w5):=Lib.hid (Ext.grown (Y4.out.alloc _) g5 (fun k e=>(O4.out.lt k e).1));have O5:=Lib.hid o5;clear o5 g5;have p3:True:=trivial)
      | (at_builtin;have mk:=p3;clear p3 mk;refine wpList_append_two _ elem_ud wr.heap.size _ _ rfl rfl A5 (0+1) c5 _ rfl O5.out _ (n) (c) (udsC (L.drop 0)) rfl ((Sl.ext (by have:=SD.out;rw [if_neg hcj] at this;simpa [Addr.add] using this) Y5.out)) (udsC_one _) (by omega) (by decide) Y5.out.size ?_;intro A6 c6 w6 o6 g6 h6;clear h6;have Y6:Hid (Ext wr w6):=Lib.hid (Ext.grown Y5.out g6 (fun k e=>(O5.out.lt k e).1));have O6:=Lib.hid o6;clear o6 g6)
      | fail)
     go_ret
     exact addu_new (k:=0) (m:=0+1+(n)) hn.out (by omega) hs.out (fun j e=>by omega) HD.out (by omega) (by have:=O6.out;rw [HXN.out];exact this) ((XB.out.trans HE.out).trans Y6.out) (XB.out.trans HE.out).size
  | succ j =>
   have hjL:j<L.length:=by rw [← hn.out];omega
   have hcel : ∀ W,Ext wb W → ∃ ad,A=some ad∧W.cell? (ad.add (j * 4))=some (.slice (L.getD j Ud.zero).A (L.getD j Ud.zero).l.length (L.getD j Ud.zero).c) ∧
     W.cell? ⟨(ad.add (j * 4)).block,(ad.add (j * 4)).off+1,none⟩=some (.int .u64 (L.getD j Ud.zero).t.e)∧W.cell? ⟨(ad.add (j * 4)).block,(ad.add (j * 4)).off+2,none⟩=some (.slice (L.getD j Ud.zero).t.A (L.getD j Ud.zero).t.l.length (L.getD j Ud.zero).t.c) ∧
     W.cell? ⟨(ad.add (j * 4)).block,(ad.add (j * 4)).off+3,none⟩=some (.int .i64 (L.getD j Ud.zero).d):=fun W q=>((h.out.ext XB.out).ext q).at hjL
   obtain ⟨ad,eA,_⟩:=hcel wb (Ext.refl _)
   have hUY : ∀ W,Ext wb W→UdR W (L.getD j Ud.zero):=fun W q=>((h.out.ls _ (getU_mem hjL)).ext XB.out).ext q
   have h32:=uL.out _ (getU_mem hjL)
   have hdrop:L.drop j=L.getD j Ud.zero :: L.drop (j+1):=dropU hjL
   obtain ⟨y,hy⟩ : ∃ y,L.getD j Ud.zero=y:=⟨_,rfl⟩
   simp only [hy,eA,Option.some.injEq,exists_eq_left'] at hcel hUY h32 hdrop
   obtain ⟨ny,hny⟩ : ∃ ny,ny=y.l.length:=⟨_,rfl⟩
   obtain ⟨ty,hty⟩ : ∃ ty,ty=y.t.l.length:=⟨_,rfl⟩
   simp only [← hny, ← hty] at hcel
   have HNY:=Lib.hid hny
   have HTY:=Lib.hid hty
   have HY:=Lib.hid hy
   have HUY:=Lib.hid hUY
   have HU32:Hid (U32 y.t.l):=Lib.hid h32.1
   have hty9:ty≤1000000:=by rw [hty];exact h32.2
   have HDR:=Lib.hid hdrop
   have HC0:=Lib.hid (fun W q=>(hcel W q).1)
   have HC1:=Lib.hid (fun W q=>(hcel W q).2.1)
   have HC2:=Lib.hid (fun W q=>(hcel W q).2.2.1)
   have HC3:=Lib.hid (fun W q=>(hcel W q).2.2.2)
   obtain ⟨v,hv⟩ : ∃ v,UdS.cmpC y x=v:=⟨_,rfl⟩
   have HV:=Lib.hid hv
   subst eA
   clear hcel hUY h32 hy hny hty hv hdrop hjL
   have za:decide ((0:Int)<(j:Int)+1)=true:=decide_eq_true (by omega)
   have s0 : ∀ z:Xt wr.drew,z.W.cell? (ad.add (j * 4))=some (.slice y.A ny y.c):=fun z=>HC0.out _ ((HE.out.trans X).trans z.x)
   have s1 : ∀ z:Xt wr.drew,z.W.cell? ⟨(ad.add (j * 4)).block,(ad.add (j * 4)).off+1,none⟩=some (.int .u64 y.t.e):=fun z=>HC1.out _ ((HE.out.trans X).trans z.x)
   have s2 : ∀ z:Xt wr.drew,z.W.cell? ⟨(ad.add (j * 4)).block,(ad.add (j * 4)).off+2,none⟩=some (.slice y.t.A ty y.t.c):=fun z=>HC2.out _ ((HE.out.trans X).trans z.x)
   have s3 : ∀ z:Xt wr.drew,z.W.cell? ⟨(ad.add (j * 4)).block,(ad.add (j * 4)).off+3,none⟩=some (.int .i64 y.d):=fun z=>HC3.out _ ((HE.out.trans X).trans z.x)
   by_cases hp:0<v
   ·have zv:decide (0<v)=true:=decide_eq_true hp
    have HP:=Lib.hid hp
    clear hp
    go_upto_region 2 with fail
    refine wp_region_ord [0,1,3,7,7,23,63,127,7,511,1023,2047] (.flo [0,1,2,3,4,5,6,7,8] (.one 9 (.flo [10,11] (.fin)))) (by kernel_rfl) (by kernel_rfl) (by intro _ _ d _ _ h;cases d<;>exact h) ?_
    (refine ord_flo (pick_cons rfl (pick_cons rfl (pick_cons rfl (pick_cons rfl (pick_cons rfl (pick_cons rfl (pick_cons rfl (pick_cons rfl (pick_cons rfl pick_nil))))))))) ?_;(repeat (go_big_quiet_step (fail)));refine wpQuiet_nil ?_;show ordWalk _ _ _ _ _ _ _)
    refine ord_one (pick_cons rfl pick_nil) ?_;intro K_ hK_
    go_wp2_with (go_at_call 48;refine (rucmp_any y x ny nx ty tx _ _ HV HNY hnx HTY htx (Lib.hid (HUY.out _ (HE.out.trans X))) (Lib.hid (HUX.out _ (HE.out.trans X))) HU32 ux hty9 h8).mono ?_;rintro e w3 ⟨rfl,x3⟩)
    (refine ord_flo (pick_cons rfl (pick_cons rfl pick_nil)) ?_;(repeat (go_big_quiet_step (fail)));refine wpQuiet_nil ?_;show ordWalk _ _ _ _ _ _ _)
    refine ord_fin ?_
    go_wp2
    go_roundg j
    case measure=>omega
    case rel=>exact ⟨j,rfl,by omega,by go_num,Lib.hid (fun z hz=>by rw [HDR.out] at hz;rcases List.mem_cons.1 hz with rfl | hz;(rw [HV.out];exact HP.out);exact HD.out z hz),Lib.hid (HE.out.trans (X.trans x3))⟩
   ·have zv:decide (0<v)=false:=decide_eq_false hp
    have HNP:=Lib.hid hp
    clear hp
    go_upto_region 2 with fail
    refine wp_region_ord [0,1,3,7,7,23,63,127,7,511,1023,2047] (.flo [0,1,2,3,4,5,6,7,8] (.one 9 (.flo [10,11] (.fin)))) (by kernel_rfl) (by kernel_rfl) (by intro _ _ d _ _ h;cases d<;>exact h) ?_
    (refine ord_flo (pick_cons rfl (pick_cons rfl (pick_cons rfl (pick_cons rfl (pick_cons rfl (pick_cons rfl (pick_cons rfl (pick_cons rfl (pick_cons rfl pick_nil))))))))) ?_;(repeat (go_big_quiet_step (fail)));refine wpQuiet_nil ?_;show ordWalk _ _ _ _ _ _ _)
    refine ord_one (pick_cons rfl pick_nil) ?_;intro K_ hK_
    go_wp2_with (go_at_call 48;refine (rucmp_any y x ny nx ty tx _ _ HV HNY hnx HTY htx (Lib.hid (HUY.out _ (HE.out.trans X))) (Lib.hid (HUX.out _ (HE.out.trans X))) HU32 ux hty9 h8).mono ?_;rintro e w3 ⟨rfl,x3⟩)
    (refine ord_flo (pick_cons rfl (pick_cons rfl pick_nil)) ?_;(repeat (go_big_quiet_step (fail)));refine wpQuiet_nil ?_;show ordWalk _ _ _ _ _ _ _)
    refine ord_fin ?_
    clear s0 s1 s2 s3
    have HE:=Lib.hid (HE.out.trans (X.trans x3))
    clear q0 q1 q2 q3 X
    obtain ⟨wr,hwr⟩ : ∃ W:World,W=w3:=⟨_,rfl⟩
    rw [← hwr] at HE ⊢
    clear hwr x3
    have X:Ext wr wr.drew:=(Ext.refl wr).drew
    have q0 : ∀ z:Xt wr.drew,z.W.cell? ⟨gu,0,none⟩=some (.slice x.A nx x.c):=fun z=>(BU.out.ext ((HE.out.trans X).trans z.x)).cell 0
    have q1 : ∀ z:Xt wr.drew,z.W.cell? ⟨gu,1,none⟩=some (.int .u64 x.t.e):=fun z=>(BU.out.ext ((HE.out.trans X).trans z.x)).cell 1
    have q2 : ∀ z:Xt wr.drew,z.W.cell? ⟨gu,2,none⟩=some (.slice x.t.A tx x.t.c):=fun z=>(BU.out.ext ((HE.out.trans X).trans z.x)).cell 2
    have q3 : ∀ z:Xt wr.drew,z.W.cell? ⟨gu,3,none⟩=some (.int .i64 x.d):=fun z=>(BU.out.ext ((HE.out.trans X).trans z.x)).cell 3
    have s0 : ∀ z:Xt wr.drew,z.W.cell? (ad.add (j * 4))=some (.slice y.A ny y.c):=fun z=>HC0.out _ ((HE.out.trans X).trans z.x)
    have s1 : ∀ z:Xt wr.drew,z.W.cell? ⟨(ad.add (j * 4)).block,(ad.add (j * 4)).off+1,none⟩=some (.int .u64 y.t.e):=fun z=>HC1.out _ ((HE.out.trans X).trans z.x)
    have s2 : ∀ z:Xt wr.drew,z.W.cell? ⟨(ad.add (j * 4)).block,(ad.add (j * 4)).off+2,none⟩=some (.slice y.t.A ty y.t.c):=fun z=>HC2.out _ ((HE.out.trans X).trans z.x)
    have s3 : ∀ z:Xt wr.drew,z.W.cell? ⟨(ad.add (j * 4)).block,(ad.add (j * 4)).off+3,none⟩=some (.int .i64 y.d):=fun z=>HC3.out _ ((HE.out.trans X).trans z.x)
    by_cases hv0:v=0
    ·have HV0:=Lib.hid hv0
     subst hv0
     go_upto_region 4 with fail
     refine wp_region_ord [0,1,3,7,7,23,63,127,7,511,1023,2047] (.flo [0,1,2,3,4,5,6,7,8] (.one 9 (.flo [10,11] (.fin)))) (by kernel_rfl) (by kernel_rfl) (by intro _ _ d _ _ h;cases d<;>exact h) ?_
     (refine ord_flo (pick_cons rfl (pick_cons rfl (pick_cons rfl (pick_cons rfl (pick_cons rfl (pick_cons rfl (pick_cons rfl (pick_cons rfl (pick_cons rfl pick_nil))))))))) ?_;(repeat (go_big_quiet_step (fail)));refine wpQuiet_nil ?_;show ordWalk _ _ _ _ _ _ _)
     refine ord_one (pick_cons rfl pick_nil) ?_;intro K_ hK_
     go_wp2_with (go_at_call 48;refine (rucmp_any y x ny nx ty tx _ _ HV HNY hnx HTY htx (Lib.hid (HUY.out _ (HE.out.trans X))) (Lib.hid (HUX.out _ (HE.out.trans X))) HU32 ux hty9 h8).mono ?_;rintro e w3 ⟨rfl,x3⟩)
     (refine ord_flo (pick_cons rfl (pick_cons rfl pick_nil)) ?_;(repeat (go_big_quiet_step (fail)));refine wpQuiet_nil ?_;show ordWalk _ _ _ _ _ _ _)
     refine ord_fin ?_
     have HE:=Lib.hid (HE.out.trans (X.trans x3))
     clear q0 q1 q2 q3 s0 s1 s2 s3 X
     obtain ⟨wr,hwr⟩ : ∃ W:World,W=w3:=⟨_,rfl⟩
     rw [← hwr] at HE ⊢
     clear hwr x3
     have SL:Hid (Sl wr 4 (some ad) n c (udsC L)):=Lib.hid (by have:=(h.out.ext (XB.out.trans HE.out)).sl;rwa [← hn.out] at this)
     obtain ⟨s,hsm⟩ : ∃ s,w64 (y.d+x.d)=s:=⟨_,rfl⟩
     have hsm2:IntKind.i64.wrap (y.d+x.d)=s:=hsm
     have HSM:=Lib.hid hsm
     clear hsm
     go_upto_region 7 with (first
      | (at_builtin;refine wpList_append_two _ elem_ud wr.heap.size _ _ rfl rfl none 0 0 [] rfl (Own.nil _ _ _ _) (some ad) n c (udsC L) rfl SL.out (udsC_one _) (by omega) (by decide) (Nat.le_refl _) ?_;intro A4 c4 w4 o4 g4 h4;clear h4;have y4:Ext wr w4:=Ext.grown (Ext.refl _) g4 (fun k e=>nomatch e);have o4:Own w4 wr.heap.size 51 4 A4 n c4 (udsC L):=(by have:=o4;rwa [Nat.zero_add,List.nil_append] at this);have hf:=o4.form (show 0<n by omega);obtain ⟨g4',eA4,_,hg4,_,hc4,hf4⟩:=hf;subst eA4;have O4:=Lib.hid o4;have Y4:=Lib.hid y4;have HG4:=Lib.hid hg4;have d3:=hc4 (j * 4+3) (.int .i64 y.d) (by rw [udsC_at L j 3 (by rw [← hn.out];omega) (by omega),HY.out];rfl);have f3:=hf4 (j * 4+3);clear o4 g4 hg4 hc4 hf4)
      | fail)
     have X:Ext w4 w4.drew:=(Ext.refl w4).drew
     have e3 : ∀ z:Xt w4.drew,z.W.cell? ⟨g4',j * 4+3,none⟩=some (.int .i64 y.d):=fun z=>(X.trans z.x).cell d3
     have u3 : ∀ z:Xt w4.drew,z.W.cell? ⟨gu,3,none⟩=some (.int .i64 x.d):=fun z=>(BU.out.ext (((HE.out.trans Y4.out).trans X).trans z.x)).cell 3
     have HRES:=Lib.hid (addu_eq (B:=wr.heap.size) (n:=n) (x:=x) hn.out (by omega) hs.out HY.out HV.out HSM.out (Nat.le_trans (XB.out.trans HE.out).size HG4.out) (O4.out.ext X) (((XB.out.trans HE.out).trans Y4.out).trans X) (XB.out.trans HE.out).size)
     refine wp_region_ord [0,0,2,7,15,31,0,64,255,511,1023,2047] (.flo [0,1,2,3,4,5,6,7,8,9,10] (.one 11 (.fin))) (by kernel_rfl) (by kernel_rfl) (by intro _ _ d _ _ h;cases d<;>exact h) ?_
     (refine ord_flo (pick_cons rfl (pick_cons rfl (pick_cons rfl (pick_cons rfl (pick_cons rfl (pick_cons rfl (pick_cons rfl (pick_cons rfl (pick_cons rfl (pick_cons rfl (pick_cons rfl pick_nil))))))))))) ?_;(repeat (go_big_quiet_step (fail)));refine wpQuiet_nil ?_;show ordWalk _ _ _ _ _ _ _)
     refine ord_one (pick_cons rfl pick_nil) ?_;intro K_ hK_
     go_wp2
     refine ord_fin ?_
     go_wp2
     go_ret
     exact HRES.out
    ·have zv0:(v==0)=false:=by simpa using hv0
     have HLT:Hid (kcmp y.k x.k<0):=Lib.hid (by have a:=HNP.out;have b:=HV.out;show UdS.cmpC y x<0;omega)
     clear hv0
     go_upto_region 4 with fail
     refine wp_region_ord [0,1,3,7,7,23,63,127,7,511,1023,2047] (.flo [0,1,2,3,4,5,6,7,8] (.one 9 (.flo [10,11] (.fin)))) (by kernel_rfl) (by kernel_rfl) (by intro _ _ d _ _ h;cases d<;>exact h) ?_
     (refine ord_flo (pick_cons rfl (pick_cons rfl (pick_cons rfl (pick_cons rfl (pick_cons rfl (pick_cons rfl (pick_cons rfl (pick_cons rfl (pick_cons rfl pick_nil))))))))) ?_;(repeat (go_big_quiet_step (fail)));refine wpQuiet_nil ?_;show ordWalk _ _ _ _ _ _ _)
     refine ord_one (pick_cons rfl pick_nil) ?_;intro K_ hK_
     go_wp2_with (go_at_call 48;refine (rucmp_any y x ny nx ty tx _ _ HV HNY hnx HTY htx (Lib.hid (HUY.out _ (HE.out.trans X))) (Lib.hid (HUX.out _ (HE.out.trans X))) HU32 ux hty9 h8).mono ?_;rintro e w3 ⟨rfl,x3⟩)
     (refine ord_flo (pick_cons rfl (pick_cons rfl pick_nil)) ?_;(repeat (go_big_quiet_step (fail)));refine wpQuiet_nil ?_;show ordWalk _ _ _ _ _ _ _)
     refine ord_fin ?_
     clear s0 s1 s2 s3
     have HE:=Lib.hid (HE.out.trans (X.trans x3))
     clear q0 q1 q2 q3 X
     obtain ⟨wr,hwr⟩ : ∃ W:World,W=w3:=⟨_,rfl⟩
     rw [← hwr] at HE ⊢
     clear hwr x3
     have ST:Hid (Sl wr 4 (some ad) (j+1) c (udsC (L.take (j+1)))):=Lib.hid ((h.out.ext (XB.out.trans HE.out)).takeS hn.out hk)
     have SD:Hid (Sl wr 4 (if c=j+1 then some ad else (some ad:Option Addr).map (·.add ((j+1) * 4))) (n - (j+1)) (c - (j+1)) (udsC (L.drop (j+1)))):=Lib.hid ((h.out.ext (XB.out.trans HE.out)).dropS hn.out hk)
     by_cases hcj:c=j+1
     ·obtain rfl:n=j+1:=by omega
      subst hcj
      have p1:True:=trivial
      go_wp2_with (first
       | (at_builtin;have mk:=p1;clear p1 mk;refine wpList_append_two _ elem_ud wr.heap.size _ _ rfl rfl none 0 0 [] rfl (Own.nil _ _ _ _) (some ad) (j+1) (j+1) (udsC (L.take (j+1))) rfl ST.out (udsC_one _) (by omega) (by decide) (Nat.le_refl _) ?_;intro A4 c4 w4 o4 g4 h4;clear h4;have y4:Ext wr w4:=Ext.grown (Ext.refl _) g4 (fun k e=>nomatch e);have O4:Hid (Own w4 wr.heap.size 51 4 A4 (j+1) c4 (udsC (L.take (j+1)))):=Lib.hid (by have:=o4;rwa [Nat.zero_add,List.nil_append] at this);have e0:=(BU.out.ext (HE.out.trans y4)).cell 0;have e1:=(BU.out.ext (HE.out.trans y4)).cell 1;have e2:=(BU.out.ext (HE.out.trans y4)).cell 2;have e3:=(BU.out.ext (HE.out.trans y4)).cell 3;have Y4:=Lib.hid y4;clear o4 g4 y4;have p2:True:=trivial)
       | (at_builtin;have mk:=p2;clear p2 mk;refine wpList_append_two _ elem_ud wr.heap.size _ _ rfl rfl A4 (j+1) c4 (udsC (L.take (j+1))) rfl (O4.out.alloc _) (some ⟨w4.heap.size,0,none⟩) 1 1 [.slice x.A nx x.c, .int .u64 x.t.e, .slice x.t.A tx x.t.c, .int .i64 x.d] rfl (Sl.one w4 #[.slice x.A nx x.c, .int .u64 x.t.e, .slice x.t.A tx x.t.c, .int .i64 x.d] 51 4 rfl) (by intro u hu;simp at hu;rcases hu with rfl | rfl | rfl | rfl<;>rfl) (by omega) (by decide) (Nat.le_trans Y4.out.size ((Ext.refl w4).alloc _).size) ?_;intro A5 c5 w5 o5 g5 h5;clear h5;have Y5:Hid (Ext wr w5):=Lib.hid (Ext.grown (Y4.out.alloc _) g5 (fun k e=>(O4.out.lt k e).1));have O5:=Lib.hid o5;clear o5 g5;have p3:True:=trivial)
       | (at_builtin;have mk:=p3;clear p3 mk;refine wpList_append_two _ elem_ud wr.heap.size _ _ rfl rfl A5 ((j+1)+1) c5 _ rfl O5.out _ (0) (0) (udsC (L.drop (j+1))) rfl ((Sl.ext (by have:=SD.out;rw [if_pos rfl,Nat.sub_self] at this;exact this) Y5.out)) (udsC_one _) (by omega) (by decide) Y5.out.size ?_;intro A6 c6 w6 o6 g6 h6;clear h6;have Y6:Hid (Ext wr w6):=Lib.hid (Ext.grown Y5.out g6 (fun k e=>(O5.out.lt k e).1));have O6:=Lib.hid o6;clear o6 g6)
       | fail)
      go_ret
      exact addu_new (k:=(j+1)) (m:=(j+1)+1+(0)) hn.out (by omega) hs.out (fun j' e=>by obtain rfl:j=j':=(by omega);rw [HY.out];exact HLT.out) HD.out (by omega) (by have:=O6.out;rw [HXN.out];exact this) ((XB.out.trans HE.out).trans Y6.out) (XB.out.trans HE.out).size
     ·have p1:True:=trivial
      go_wp2_with (first
       | (at_builtin;have mk:=p1;clear p1 mk;refine wpList_append_two _ elem_ud wr.heap.size _ _ rfl rfl none 0 0 [] rfl (Own.nil _ _ _ _) (some ad) (j+1) c (udsC (L.take (j+1))) rfl ST.out (udsC_one _) (by omega) (by decide) (Nat.le_refl _) ?_;intro A4 c4 w4 o4 g4 h4;clear h4;have y4:Ext wr w4:=Ext.grown (Ext.refl _) g4 (fun k e=>nomatch e);have O4:Hid (Own w4 wr.heap.size 51 4 A4 (j+1) c4 (udsC (L.take (j+1)))):=Lib.hid (by have:=o4;rwa [Nat.zero_add,List.nil_append] at this);have e0:=(BU.out.ext (HE.out.trans y4)).cell 0;have e1:=(BU.out.ext (HE.out.trans y4)).cell 1;have e2:=(BU.out.ext (HE.out.trans y4)).cell 2;have e3:=(BU.out.ext (HE.out.trans y4)).cell 3;have Y4:=Lib.hid y4;clear o4 g4 y4;have p2:True:=trivial)
       | (at_builtin;have mk:=p2;clear p2 mk;refine wpList_append_two _ elem_ud wr.heap.size _ _ rfl rfl A4 (j+1) c4 (udsC (L.take (j+1))) rfl (O4.out.alloc _) (some ⟨w4.heap.size,0,none⟩) 1 1 [.slice x.A nx x.c, .int .u64 x.t.e, .slice x.t.A tx x.t.c, .int .i64 x.d] rfl (Sl.one w4 #[.slice x.A nx x.c, .int .u64 x.t.e, .slice x.t.A tx x.t.c, .int .i64 x.d] 51 4 rfl) (by intro u hu;simp at hu;rcases hu with rfl | rfl | rfl | rfl<;>rfl) (by omega) (by decide) (Nat.le_trans Y4.out.size ((Ext.refl w4).alloc _).size) ?_;intro A5 c5 w5 o5 g5 h5;clear h5;have Y5:Hid (Ext wr w5):=Lib.hid (Ext.grown (Y4.out.alloc _) g5 (fun k e=>(O4.out.lt k e).1));have O5:=Lib.hid o5;clear o5 g5;have p3:True:=trivial)
       | (at_builtin;have mk:=p3;clear p3 mk;refine wpList_append_two _ elem_ud wr.heap.size _ _ rfl rfl A5 ((j+1)+1) c5 _ rfl O5.out (some (ad.add ((j+1) * 4))) (n - (j+1)) (c - (j+1)) (udsC (L.drop (j+1))) rfl ((Sl.ext (by have:=SD.out;rw [if_neg hcj] at this;exact this) Y5.out)) (udsC_one _) (by omega) (by decide) Y5.out.size ?_;intro A6 c6 w6 o6 g6 h6;clear h6;have Y6:Hid (Ext wr w6):=Lib.hid (Ext.grown Y5.out g6 (fun k e=>(O5.out.lt k e).1));have O6:=Lib.hid o6;clear o6 g6)
       | fail)
      go_ret
      exact addu_new (k:=(j+1)) (m:=(j+1)+1+(n - (j+1))) hn.out (by omega) hs.out (fun j' e=>by obtain rfl:j=j':=(by omega);rw [HY.out];exact HLT.out) HD.out (by omega) (by have:=O6.out;rw [HXN.out];exact this) ((XB.out.trans HE.out).trans Y6.out) (XB.out.trans HE.out).size
open Go.RowKit
namespace UdS
theorem addV_key : ∀ (R:List V) (x y:V),y∈addV R x→y.1=x.1 ∨ ∃ z∈R,z.1=y.1
 | [],x,y,h => .inl (by rw [List.mem_singleton.1 h])
 | a :: R,x,y,h=>by
  unfold addV at h
  split at h
  ·rcases List.mem_cons.1 h with rfl | h
   ·exact .inr ⟨_,List.mem_cons_self ..,rfl⟩
   ·rcases addV_key R x y h with q | ⟨z,hz,q⟩
    ·exact .inl q
    ·exact .inr ⟨z,List.mem_cons_of_mem _ hz,q⟩
  ·split at h
   ·rcases List.mem_cons.1 h with rfl | h
    ·exact .inr ⟨_,List.mem_cons_self ..,rfl⟩
    ·exact .inr ⟨y,List.mem_cons_of_mem _ h,rfl⟩
   ·rcases List.mem_cons.1 h with rfl | h
    ·exact .inl rfl
    ·exact .inr ⟨y,h,rfl⟩
theorem usumTo_key {L:List Ud} : ∀ (i:Nat) (y:V),y∈usumTo L i → ∃ x∈L,x.k=y.1
 | 0,y,h=>by unfold usumTo at h;simp at h
 | i+1,y,h=>by
  by_cases hi:i<L.length
  ·rw [usumTo_succ hi rfl] at h
   rcases addV_key _ _ _ h with q | ⟨z,hz,q⟩
   ·exact ⟨_,getU_mem hi,q.symm⟩
   ·obtain ⟨x,hx,e⟩:=usumTo_key i z hz
    exact ⟨x,hx,e.trans q⟩
  ·have e:usumTo L (i+1)=usumTo L i:=by unfold usumTo;rw [List.take_of_length_le (by omega),List.take_of_length_le (by omega)]
   rw [e] at h
   exact usumTo_key i y h
end UdS
/-- what is not none, so far -/
def LeftU (w1 wr:World) (M:List Ud) (j:Nat) (A:Option Addr) (m c:Nat):Prop:=m=((M.take j).filter UdS.nzC).length∧Own wr w1.heap.size 51 4 A m c (udsC ((M.take j).filter UdS.nzC))∧Ext w1 wr
theorem LeftU.skip {w1 wr:World} {M:List Ud} {j m c:Nat} {A:Option Addr} {x:Ud} (h:LeftU w1 wr M j A m c) (hj:j<M.length) (hx:M.getD j Ud.zero=x) (hz:(x.d==0)=true):LeftU w1 wr M (j+1) A m c:=by
 have e:(M.take (j+1)).filter UdS.nzC=(M.take j).filter UdS.nzC:=by
  rw [takeU hj,hx,List.filter_append]
  have:[x].filter UdS.nzC=[]:=by simp [UdS.nzC,hz]
  rw [this,List.append_nil]
 unfold LeftU
 rw [e]
 exact h
theorem LeftU.more {w1 wr w2:World} {M:List Ud} {j m c m2 c2:Nat} {A A2:Option Addr} {x:Ud} (h:LeftU w1 wr M j A m c) (hj:j<M.length) (hx:M.getD j Ud.zero=x) (hz:(x.d==0)=false) (hm:m2=m+1)
  (o:Own w2 w1.heap.size 51 4 A2 m2 c2 (udsC ((M.take j).filter UdS.nzC)++udC x)) (X:Ext w1 w2):LeftU w1 w2 M (j+1) A2 m2 c2:=by
 have e:(M.take (j+1)).filter UdS.nzC=(M.take j).filter UdS.nzC++[x]:=by
  rw [takeU hj,hx,List.filter_append]
  have:[x].filter UdS.nzC=[x]:=by simp [UdS.nzC,hz]
  rw [this]
 unfold LeftU
 rw [e,List.length_append,udsC_append]
 exact ⟨by rw [hm,h.1];rfl,by rw [show udsC [x]=udC x by simp [udsC]];exact o,X⟩
def RefAtU (w wr:World) (L:List Ud) (i:Nat) (A:Option Addr) (m c:Nat):Prop := ∃ M,m=M.length∧Uin wr A c M∧M.map Ud.uv=UdS.usumTo L i∧(∀ y∈M, ∃ x∈L,UdLike y x)∧Ext w wr
theorem add_like {L M M4:List Ud} {x:Ud} (hx:x∈L) (h : ∀ y∈M, ∃ z∈L,UdLike y z) (h4 : ∀ y∈M4, ∃ z∈x :: M,UdLike y z) : ∀ y∈M4, ∃ z∈L,UdLike y z:=fun y hy=>by
 obtain ⟨z,hz,a1,a2,a3,a4⟩:=h4 y hy
 rcases List.mem_cons.1 hz with rfl | hz
 ·exact ⟨z,hx,a1,a2,a3,a4⟩
 ·obtain ⟨q,hq,b1,b2,b3,b4⟩:=h z hz
  exact ⟨q,hq,a1.trans b1,a2.trans b2,a3.trans b3,a4.trans b4⟩
set_option maxRecDepth 100000 in
set_option maxHeartbeats 8000000 in
theorem refSum10_own {V:List UV} (A:Option Addr) (c n:Nat) (L:List Ud) (w:World) (hV:Hid (UdS.sumV (L.map Ud.uv)=V)) (hn:Hid (n=L.length)) (h:Hid (Uin w A c L)) (h9:n≤1000000) (hin:Hid (∀ x∈L,UdS.InN x.uv)) (uL:Hid (∀ y∈L,U32 y.t.l∧y.t.l.length≤1000000)) :
  Calls Try.prog 12 #[.slice A n c] w (AddP w L V):=by
 have HR0:Hid (RefAtU w w L 0 none 0 0):=Lib.hid ⟨[],rfl,Uin.nil _,rfl,fun y hy=>(nomatch hy),Ext.refl w⟩
 go_enter Try.func12,Try.ntmps12
 go_wp2
 go_loopg [3,4] n (fun z u v wr => ∃ (i m c3:Nat) (A3:Option Addr),z=n - i∧i≤n∧m≤i∧u = .slice A3 m c3∧v = .int .i64 i∧Hid (RefAtU w wr L i A3 m c3))
 case atStart=>exact ⟨0,0,0,none,rfl,Nat.zero_le _,Nat.le_refl _,rfl,rfl,HR0⟩
 case round =>
  clear HR0
  obtain ⟨i,m,c3,A3,rfl,hi,hmi,rfl,rfl,HP⟩:=hrel
  by_cases hlt:i<n
  ·obtain ⟨M,hM,hC,hv,hp,X⟩:=HP.out
   have HPV:=Lib.hid hp
   have hil:i<L.length:=by rw [← hn.out];exact hlt
   obtain ⟨ad,rfl,p0,p1,p2,p3⟩:=(h.out.ext X).at hil
   have hm:=getU_mem hil
   obtain ⟨x,hx⟩ : ∃ x,L.getD i Ud.zero=x:=⟨_,rfl⟩
   rw [hx] at p0 p1 p2 p3 hm
   obtain ⟨nx,hnx⟩ : ∃ nx,nx=x.l.length:=⟨_,rfl⟩
   obtain ⟨tx,htx⟩ : ∃ tx,tx=x.t.l.length:=⟨_,rfl⟩
   rw [← hnx] at p0
   rw [← htx] at p2
   have HUX:=Lib.hid ((h.out.ls x hm).ext X)
   have HMC:=Lib.hid hC
   have HNX:=Lib.hid hnx
   have HTX:=Lib.hid htx
   have HMM:=Lib.hid hM
   have UX:Hid (U32 x.t.l):=Lib.hid (uL.out x hm).1
   have htx9:tx≤1000000:=by rw [htx];exact (uL.out x hm).2
   have HS:Hid (UdS.Srt M):=Lib.hid (UdS.Srt.of (by rw [hv];exact UdS.usumTo_srt hin.out i))
   have HML:Hid (∀ y∈M,U32 y.t.l∧y.t.l.length≤1000000):=Lib.hid (fun y hy=>by
    have:y.uv∈UdS.usumTo L i:=by rw [← hv];exact List.mem_map.2 ⟨y,hy,rfl⟩
    obtain ⟨z,hz,e⟩:=UdS.usumTo_key i _ this
    have e2:z.t.l=y.t.l:=congrArg (fun q:UK=>q.2.2) e
    rw [← e2]
    exact uL.out z hz)
   have HV:Hid (UdS.addV (M.map Ud.uv) x.uv=UdS.usumTo L (i+1)):=Lib.hid (by rw [UdS.usumTo_succ hil hx,hv])
   have HXX:=Lib.hid X
   have HXM:Hid (x∈L):=Lib.hid hm
   clear hM hC hv hp X hil hm hx hnx htx HP
   go_wp2_with (go_at_call 29;refine (radd10_any A3 c3 m M x nx tx _ HV HMM HNX HTX HMC HUX HS UX HML (by omega) htx9).mono ?_;rintro e w1 hadd;obtain ⟨A4,m4,c4,M4,rfl,hm4,o4,p4,hv4,X4⟩:=hadd;have hC4:=addp_uin o4 hm4 p4 HUX.out HMC.out.ls X4;have hml:m4≤i+1:=(by rw [hm4];have q:=congrArg List.length hv4;rw [List.length_map] at q;rw [q];exact UdS.usumTo_len L (i+1));have HP4:Hid (RefAtU w w1 L (i+1) A4 m4 c4):=Lib.hid ⟨M4,hm4,hC4,hv4,add_like HXM.out HPV.out p4,HXX.out.trans X4⟩;clear hm4 hC4 hv4 X4 o4 p4)
   go_roundg (n - (i+1))
   case measure=>omega
   case rel=>exact ⟨i+1,m4,c4,A4,rfl,by omega,hml,rfl,by go_num,HP4⟩
  ·obtain rfl:i=n:=by omega
   obtain ⟨M,hM,hC,hv,hp,X⟩:=HP.out
   have HPV:=Lib.hid hp
   clear hp
   obtain ⟨w1,hw1⟩ : ∃ w1:World,w1=wr:=⟨_,rfl⟩
   rw [← hw1] at hC X ⊢
   clear hw1
   have HM:=Lib.hid hM
   have HC:=Lib.hid hC
   have HMV:=Lib.hid hv
   have HX:=Lib.hid X
   have HL0:Hid (LeftU w1 w1 M 0 none 0 0):=Lib.hid ⟨rfl,Own.nil _ _ _ _,Ext.refl _⟩
   clear hM hC hv X HP
   go_wp2
   go_loopg [5,6] m (fun z u v wr => ∃ (j n5 c5:Nat) (A5:Option Addr),z=m - j∧j≤m∧n5≤j∧u = .slice A5 n5 c5∧v = .int .i64 j∧Hid (LeftU w1 wr M j A5 n5 c5))
   case atStart=>exact ⟨0,0,0,none,rfl,Nat.zero_le _,Nat.le_refl _,rfl,rfl,HL0⟩
   case round =>
    clear HL0
    obtain ⟨j,n5,c5,A5,rfl,hj,hnj,rfl,rfl,HQ⟩:=hrel
    by_cases hlt:j<m
    ·have hjl:j<M.length:=by rw [← HM.out];exact hlt
     obtain ⟨ad,rfl,p0,p1,p2,p3⟩:=(HC.out.ext HQ.out.2.2).at hjl
     obtain ⟨x,hx⟩ : ∃ x,M.getD j Ud.zero=x:=⟨_,rfl⟩
     rw [hx] at p0 p1 p2 p3
     obtain ⟨nx,hnx⟩ : ∃ nx,nx=x.l.length:=⟨_,rfl⟩
     obtain ⟨tx,htx⟩ : ∃ tx,tx=x.t.l.length:=⟨_,rfl⟩
     rw [← hnx] at p0
     rw [← htx] at p2
     have HJ:=Lib.hid hjl
     have HXJ:=Lib.hid hx
     have HXN:Hid (udC x=[.slice x.A nx x.c, .int .u64 x.t.e, .slice x.t.A tx x.t.c, .int .i64 x.d]):=Lib.hid (by rw [hnx,htx];rfl)
     clear hjl hx hnx htx
     cases hz:(x.d==0)
     ·have HZ:=Lib.hid hz
      go_wp2_with (at_builtin;refine wpList_append_two _ elem_ud w1.heap.size _ _ rfl rfl A5 n5 c5 (udsC ((M.take j).filter UdS.nzC)) rfl (Own.alloc HQ.out.2.1 _) (some ⟨wr.heap.size,0,none⟩) 1 1 [.slice x.A nx x.c, .int .u64 x.t.e, .slice x.t.A tx x.t.c, .int .i64 x.d] rfl (Sl.one wr #[.slice x.A nx x.c, .int .u64 x.t.e, .slice x.t.A tx x.t.c, .int .i64 x.d] 51 4 rfl) (by intro u hu;simp at hu;rcases hu with rfl | rfl | rfl | rfl<;>rfl) (by omega) (by decide) (by have:=Ext.size HQ.out.2.2;simp;omega) ?_;intro A6 c6 w6 o6 g6 h6;clear h6;have HQ6:=Lib.hid (LeftU.more (m2:=n5+1) HQ.out HJ.out HXJ.out HZ.out rfl (by rw [HXN.out];exact o6) (Ext.grown (Ext.alloc HQ.out.2.2 _) g6 (fun k e=>(HQ.out.2.1.lt k e).1)));clear o6 g6)
      go_roundg (m - (j+1))
      case measure=>omega
      case rel=>exact ⟨j+1,n5+1,c6,A6,rfl,by omega,by omega,rfl,by go_num,HQ6⟩
     ·have HQ6:=Lib.hid (HQ.out.skip HJ.out HXJ.out hz)
      go_wp2
      go_roundg (m - (j+1))
      case measure=>omega
      case rel=>exact ⟨j+1,n5,c5,A5,rfl,by omega,by omega,rfl,by go_num,HQ6⟩
    ·obtain rfl:j=m:=by omega
     have HE:Hid (AddP w L V (.returned (.slice A5 n5 c5)) wr):=Lib.hid (by
      obtain ⟨q1,q2,q3⟩:=HQ.out
      rw [List.take_of_length_le (by rw [← HM.out];exact Nat.le_refl _)] at q1 q2
      refine ⟨A5,n5,c5,M.filter UdS.nzC,rfl,q1,q2.mono HX.out.size,fun y hy=>HPV.out y (List.mem_filter.1 hy).1,?_,HX.out.trans q3⟩
      have e:M.map Ud.uv=UdS.sumAll (L.map Ud.uv):=by rw [HMV.out];unfold UdS.usumTo UdS.sumAll;rw [List.take_of_length_le (by rw [← hn.out];exact Nat.le_refl _)]
      rw [← hV.out]
      unfold UdS.sumV
      rw [← e,List.filter_map]
      rfl)
     go_wp2
     go_ret
     exact HE.out
theorem refSum10_any {V:List UV} (A:Option Addr) (c n:Nat) (L:List Ud) (w:World) (hV:Hid (UdS.sumV (L.map Ud.uv)=V)) (hn:Hid (n=L.length)) (h:Hid (Uin w A c L)) (h9:n≤1000000) (hin:Hid (∀ x∈L,UdS.InN x.uv)) (uL:Hid (∀ y∈L,U32 y.t.l∧y.t.l.length≤1000000)) :
  Calls Try.prog 12 #[.slice A n c] w (AddU w V):=(refSum10_own A c n L w hV hn h h9 hin uL).mono fun _ _ q=>q.toU h.out.ls
open Go.RowKit
set_option maxRecDepth 100000 in
set_option maxHeartbeats 1000000 in
theorem sameRow_any (A1 A2:Option Addr) (c1 c2 n m:Nat) (l:List Dat) (w:World) (hn:n=l.length) (hm:m=n) (h1:Rw w A1 c1 l) (h2:Rw w A2 c2 l) :
  Calls Try.prog 27 #[.slice A1 n c1, .slice A2 m c2] w fun e w'=>e = .returned (.bool true)∧Ext w w':=by
 subst hm
 have hnm:=h1.le
 rw [← hn] at hnm
 have HN:=Lib.hid hn
 have H1:=Lib.hid h1
 have H2:=Lib.hid h2
 clear hn h1 h2
 go_enter Try.func27,Try.ntmps27
 go_wp2
 go_loopw [5] (fun v wr => ∃ i:Nat,i≤m∧v = .int .i64 i∧Ext w wr) (fun v _=>m - (intOf v).toNat)
 case atStart=>exact ⟨0,Nat.zero_le _,rfl,Ext.refl _⟩
 case round =>
  obtain ⟨i,hi,rfl,er⟩:=hrel
  by_cases hlt:i<m
  ·have hil:i<l.length:=by rw [← HN.out];exact hlt
   obtain ⟨ad,rfl,p0,p1,p2,p3⟩:=(H1.out.ext er).at hil
   obtain ⟨bd,rfl,q0,q1,q2,q3⟩:=(H2.out.ext er).at hil
   obtain ⟨d,hd⟩ : ∃ d,l.getD i Dat.zero=d:=⟨_,rfl⟩
   rw [hd] at p0 p1 p2 p3 q0 q1 q2 q3
   have XE:Ext wr wr.drew:=(Ext.refl wr).drew
   have P0 : ∀ z:Xt wr.drew,z.W.cell? (ad.add (i * 4))=some (.int .u8 d.k):=fun z=>(XE.trans z.x).cell p0
   have P1 : ∀ z:Xt wr.drew,z.W.cell? ⟨(ad.add (i * 4)).block,(ad.add (i * 4)).off+1,none⟩=some (.bool d.b):=fun z=>(XE.trans z.x).cell p1
   have P2 : ∀ z:Xt wr.drew,z.W.cell? ⟨(ad.add (i * 4)).block,(ad.add (i * 4)).off+2,none⟩=some (.int .i64 d.n):=fun z=>(XE.trans z.x).cell p2
   have P3 : ∀ z:Xt wr.drew,z.W.cell? ⟨(ad.add (i * 4)).block,(ad.add (i * 4)).off+3,none⟩=some (.string d.s):=fun z=>(XE.trans z.x).cell p3
   have Q0 : ∀ z:Xt wr.drew,z.W.cell? (bd.add (i * 4))=some (.int .u8 d.k):=fun z=>(XE.trans z.x).cell q0
   have Q1 : ∀ z:Xt wr.drew,z.W.cell? ⟨(bd.add (i * 4)).block,(bd.add (i * 4)).off+1,none⟩=some (.bool d.b):=fun z=>(XE.trans z.x).cell q1
   have Q2 : ∀ z:Xt wr.drew,z.W.cell? ⟨(bd.add (i * 4)).block,(bd.add (i * 4)).off+2,none⟩=some (.int .i64 d.n):=fun z=>(XE.trans z.x).cell q2
   have Q3 : ∀ z:Xt wr.drew,z.W.cell? ⟨(bd.add (i * 4)).block,(bd.add (i * 4)).off+3,none⟩=some (.string d.s):=fun z=>(XE.trans z.x).cell q3
   clear hil hd
   go_upto_region 6 with fail
   refine wp_region_ord [0,0,3,7,0,0,48,112,255] (.flo [0,1,2,3,4,5,6,7,8] (.fin)) (by kernel_rfl) (by kernel_rfl) (by intro _ _ d _ _ h;cases d<;>exact h) ?_
   (refine ord_flo (pick_cons rfl (pick_cons rfl (pick_cons rfl (pick_cons rfl (pick_cons rfl (pick_cons rfl (pick_cons rfl (pick_cons rfl (pick_cons rfl pick_nil))))))))) ?_;(repeat (go_big_quiet_step (fail)));refine wpQuiet_nil ?_;show ordWalk _ _ _ _ _ _ _)
   refine ord_fin ?_
   go_wp2
   go_roundw
   case rel=>exact ⟨i+1,by omega,by go_num,er.trans XE⟩
   case measure=>simp [intOf];omega
  ·go_wp2
   go_ret
   exact ⟨rfl,er⟩
theorem sameRow_lit (A1 A2:Option Addr) (c1 c2 n m:Nat) (l:List Dat) (w:World) (hn:Hid (n=l.length)) (hm:Hid (m=n)) (h1:Hid (Rw w A1 c1 l)) (h2:Hid (Rw w A2 c2 l)) :
  Calls Try.prog 27 #[.slice A1 n c1, .slice A2 m c2] w fun e w'=>e = .returned (.bool true)∧Ext w w':=sameRow_any A1 A2 c1 c2 n m l w hn.out hm.out h1.out h2.out
open Go.RowKit
theorem sameTime_any (e1 e2:Int) (A1 A2:Option Addr) (n1 n2 c1 c2:Nat) (l1 l2:List Int) (w:World) (h1:Sl w 1 A1 n1 c1 (wds l1)) (h2:Sl w 1 A2 n2 c2 (wds l2)) :
  Calls Try.prog 28 #[.agg #[.int .u64 e1, .slice A1 n1 c1], .agg #[.int .u64 e2, .slice A2 n2 c2]] w fun e w'=>e = .returned (.bool (decide (e1=e2∧l1=l2)))∧Ext w w':=by
 by_cases k1:e1=e2
 ·have q1:(e1==e2)=true:=by simpa using k1
  go_enter Try.func28,Try.ntmps28
  go_wp2_with (go_at_call 47;refine (sameWords_any A1 A2 n1 n2 c1 c2 l1 l2 _ (h1.ext (((Ext.refl w).alloc _).alloc _)) (h2.ext (((Ext.refl w).alloc _).alloc _))).mono ?_;rintro r w1 ⟨rfl,x1⟩)
  refine bodyPost_ret (v := .bool (decide (l1=l2))) (by simp only [results,Try.results28];go_simp) rfl ?_
  exact ⟨by simp [k1],(((Ext.refl w).alloc _).alloc _).trans x1⟩
 ·have q1:(e1==e2)=false:=by simpa using k1
  go_enter Try.func28,Try.ntmps28
  go_wp2
  refine bodyPost_ret (v := .bool false) (by simp only [results,Try.results28];go_simp) rfl ?_
  exact ⟨by simp [k1],(((Ext.refl w).alloc _).alloc _)⟩
open Go.RowKit
theorem uval_at {L M:List Ud} (h:L.map Ud.uv=M.map Ud.uv) {i:Nat} (hi:i<L.length):(M.getD i Ud.zero).l=(L.getD i Ud.zero).l∧(M.getD i Ud.zero).t.e=(L.getD i Ud.zero).t.e∧(M.getD i Ud.zero).t.l=(L.getD i Ud.zero).t.l∧(M.getD i Ud.zero).d=(L.getD i Ud.zero).d:=by
 have hl:=congrArg List.length h
 rw [List.length_map,List.length_map] at hl
 have e:=congrArg (fun l:List UV=>l[i]?) h
 simp only [List.getElem?_map] at e
 rw [List.getElem?_eq_getElem hi,List.getElem?_eq_getElem (by omega)] at e
 simp only [Option.map_some,Option.some.injEq] at e
 rw [List.getD_eq_getElem?_getD,List.getD_eq_getElem?_getD,List.getElem?_eq_getElem hi,List.getElem?_eq_getElem (by omega)]
 exact ⟨(congrArg (fun q:UV=>q.1.1) e).symm,(congrArg (fun q:UV=>q.1.2.1) e).symm,(congrArg (fun q:UV=>q.1.2.2) e).symm,(congrArg Prod.snd e).symm⟩
theorem usameTime_at {b:Bool} (e1 e2:Int) (A1 A2:Option Addr) (n1 n2 c1 c2:Nat) (l1 l2:List Int) (w:World) (hb:Hid (decide (e1=e2∧l1=l2)=b)) (h1:Hid (Sl w 1 A1 n1 c1 (wds l1))) (h2:Hid (Sl w 1 A2 n2 c2 (wds l2))) :
  Calls Try.prog 28 #[.agg #[.int .u64 e1, .slice A1 n1 c1], .agg #[.int .u64 e2, .slice A2 n2 c2]] w fun e w'=>e = .returned (.bool b)∧Ext w w':=hb.out ▸ sameTime_any e1 e2 A1 A2 n1 n2 c1 c2 l1 l2 w h1.out h2.out
set_option maxRecDepth 100000 in
set_option maxHeartbeats 4000000 in
theorem sameUps_any (A1 A2:Option Addr) (c1 c2 n m:Nat) (L M:List Ud) (w:World) (hn:Hid (n=L.length)) (hm:Hid (m=M.length)) (h1:Hid (Uin w A1 c1 L)) (h2:Hid (Uin w A2 c2 M)) (he:Hid (L.map Ud.uv=M.map Ud.uv)) :
  Calls Try.prog 11 #[.slice A1 n c1, .slice A2 m c2] w fun e w'=>e = .returned (.bool true)∧Ext w w':=by
 have hl:=congrArg List.length he.out
 rw [List.length_map,List.length_map] at hl
 obtain rfl:m=n:=by rw [hn.out,hm.out,hl]
 have hnm:m≤9223372036854775807:=by rw [hn.out];exact h1.out.sl.le
 clear hl
 go_enter Try.func11,Try.ntmps11
 go_wp2
 go_loopw [5] (fun v wr => ∃ i:Nat,i≤m∧v = .int .i64 i∧Ext w wr) (fun v _=>m - (intOf v).toNat)
 case atStart=>exact ⟨0,Nat.zero_le _,rfl,Ext.refl _⟩
 case round =>
  obtain ⟨i,hi,rfl,er⟩:=hrel
  by_cases hlt:i<m
  ·have hil:i<L.length:=by rw [← hn.out];exact hlt
   have him:i<M.length:=by rw [← hm.out];exact hlt
   obtain ⟨ad,rfl,p0,p1,p2,p3⟩:=(h1.out.ext er).at hil
   obtain ⟨bd,rfl,q0,q1,q2,q3⟩:=(h2.out.ext er).at him
   have hr1:=h1.out.ls _ (getU_mem hil)
   have hr2:=h2.out.ls _ (getU_mem him)
   obtain ⟨e1,e2,e3,e4⟩:=uval_at he.out hil
   obtain ⟨x,hx⟩ : ∃ x,L.getD i Ud.zero=x:=⟨_,rfl⟩
   obtain ⟨y,hy⟩ : ∃ y,M.getD i Ud.zero=y:=⟨_,rfl⟩
   rw [hx] at p0 p1 p2 p3 hr1 e1 e2 e3 e4
   rw [hy] at q0 q1 q2 q3 hr2 e1 e2 e3 e4
   obtain ⟨xA,xc,xl,⟨xe,xtA,xtc,xtl⟩,xd⟩:=x
   obtain ⟨yA,yc,yl,⟨ye,ytA,ytc,ytl⟩,yd⟩:=y
   dsimp only at p0 p1 p2 p3 q0 q1 q2 q3 hr1 hr2 e1 e2 e3 e4
   subst e1 e2 e3 e4
   obtain ⟨nx,hnx⟩ : ∃ nx,nx=yl.length:=⟨_,rfl⟩
   obtain ⟨tx,htx⟩ : ∃ tx,tx=ytl.length:=⟨_,rfl⟩
   rw [← hnx] at p0 q0
   rw [← htx] at p2 q2
   have HNX:=Lib.hid hnx
   have HEQ:Hid (nx=nx):=Lib.hid rfl
   have HR1:Hid (∀ W,Ext wr W→Rw W xA xc yl):=Lib.hid (fun W q=>(hr1.r.ext er).ext q)
   have HR2:Hid (∀ W,Ext wr W→Rw W yA yc yl):=Lib.hid (fun W q=>(hr2.r.ext er).ext q)
   have HT1:Hid (∀ W,Ext wr W→Sl W 1 xtA tx xtc (wds ytl)):=Lib.hid (fun W q=>by rw [htx];exact (hr1.t.ext er).ext q)
   have HT2:Hid (∀ W,Ext wr W→Sl W 1 ytA tx ytc (wds ytl)):=Lib.hid (fun W q=>by rw [htx];exact (hr2.t.ext er).ext q)
   have X:Ext wr wr.drew:=(Ext.refl wr).drew
   have P0 : ∀ z:Xt wr.drew,z.W.cell? (ad.add (i * 4))=some (.slice xA nx xc):=fun z=>(X.trans z.x).cell p0
   have P1 : ∀ z:Xt wr.drew,z.W.cell? ⟨(ad.add (i * 4)).block,(ad.add (i * 4)).off+1,none⟩=some (.int .u64 ye):=fun z=>(X.trans z.x).cell p1
   have P2 : ∀ z:Xt wr.drew,z.W.cell? ⟨(ad.add (i * 4)).block,(ad.add (i * 4)).off+2,none⟩=some (.slice xtA tx xtc):=fun z=>(X.trans z.x).cell p2
   have P3 : ∀ z:Xt wr.drew,z.W.cell? ⟨(ad.add (i * 4)).block,(ad.add (i * 4)).off+3,none⟩=some (.int .i64 yd):=fun z=>(X.trans z.x).cell p3
   have Q0 : ∀ z:Xt wr.drew,z.W.cell? (bd.add (i * 4))=some (.slice yA nx yc):=fun z=>(X.trans z.x).cell q0
   have Q1 : ∀ z:Xt wr.drew,z.W.cell? ⟨(bd.add (i * 4)).block,(bd.add (i * 4)).off+1,none⟩=some (.int .u64 ye):=fun z=>(X.trans z.x).cell q1
   have Q2 : ∀ z:Xt wr.drew,z.W.cell? ⟨(bd.add (i * 4)).block,(bd.add (i * 4)).off+2,none⟩=some (.slice ytA tx ytc):=fun z=>(X.trans z.x).cell q2
   have Q3 : ∀ z:Xt wr.drew,z.W.cell? ⟨(bd.add (i * 4)).block,(bd.add (i * 4)).off+3,none⟩=some (.int .i64 yd):=fun z=>(X.trans z.x).cell q3
   clear hil him hr1 hr2 hx hy hnx htx
   go_upto_region 6 with fail
   clear p0 p1 p2 p3 q0 q1 q2 q3
   refine wp_region_ord [0,0,3,7,15,0,0,96,224,480,1023,2047,4095,4095,16383,32767,65535,4095,4095,397311,921599,1970175,4194303,8388607,16777215,33554431,67108863,67108863,268435455,536870911,1073741823,67108863,67108863,6509559807,15099494399,32279363583,68719476735,137438953471,274877906943] (.flo [0,1,2,3,4,5,6,7,8,9,10,11,12,13,14,15,16,17,18,19,20,21] (.one 22 (.flo [23,24,25,26,27,28,29,30,31,32,33,34,35] (.one 36 (.flo [37,38] (.fin)))))) (by kernel_rfl) (by kernel_rfl) (by intro _ _ d _ _ h;cases d<;>exact h) ?_
   (refine ord_flo (pick_cons rfl (pick_cons rfl (pick_cons rfl (pick_cons rfl (pick_cons rfl (pick_cons rfl (pick_cons rfl (pick_cons rfl (pick_cons rfl (pick_cons rfl (pick_cons rfl (pick_cons rfl (pick_cons rfl (pick_cons rfl (pick_cons rfl (pick_cons rfl (pick_cons rfl (pick_cons rfl (pick_cons rfl (pick_cons rfl (pick_cons rfl (pick_cons rfl pick_nil)))))))))))))))))))))) ?_;(repeat (go_big_quiet_step (fail)));refine wpQuiet_nil ?_;show ordWalk _ _ _ _ _ _ _)
   refine ord_one (pick_cons rfl pick_nil) ?_;intro K_ hK_
   go_wp2_with (go_at_call 27;refine (sameRow_lit xA yA xc yc nx nx yl _ HNX HEQ (Lib.hid (HR1.out _ X)) (Lib.hid (HR2.out _ X))).mono ?_;rintro e w1 ⟨rfl,x1⟩)
   have P1 : ∀ z:Xt w1,z.W.cell? ⟨(ad.add (i * 4)).block,(ad.add (i * 4)).off+1,none⟩=some (.int .u64 ye):=fun z=>P1 ⟨z.W,x1.trans z.x⟩
   have P2 : ∀ z:Xt w1,z.W.cell? ⟨(ad.add (i * 4)).block,(ad.add (i * 4)).off+2,none⟩=some (.slice xtA tx xtc):=fun z=>P2 ⟨z.W,x1.trans z.x⟩
   have Q1 : ∀ z:Xt w1,z.W.cell? ⟨(bd.add (i * 4)).block,(bd.add (i * 4)).off+1,none⟩=some (.int .u64 ye):=fun z=>Q1 ⟨z.W,x1.trans z.x⟩
   have Q2 : ∀ z:Xt w1,z.W.cell? ⟨(bd.add (i * 4)).block,(bd.add (i * 4)).off+2,none⟩=some (.slice ytA tx ytc):=fun z=>Q2 ⟨z.W,x1.trans z.x⟩
   clear P0 P3 Q0 Q3
   (refine ord_flo (pick_cons rfl (pick_cons rfl (pick_cons rfl (pick_cons rfl (pick_cons rfl (pick_cons rfl (pick_cons rfl (pick_cons rfl (pick_cons rfl (pick_cons rfl (pick_cons rfl (pick_cons rfl (pick_cons rfl pick_nil))))))))))))) ?_;(repeat (go_big_quiet_step (fail)));refine wpQuiet_nil ?_;show ordWalk _ _ _ _ _ _ _)
   refine ord_one (pick_cons rfl pick_nil) ?_;intro K_ hK_
   go_wp2_with (go_at_call 28;refine (usameTime_at (b:=true) ye ye xtA ytA tx tx xtc ytc ytl ytl _ (Lib.hid (by simp)) (Lib.hid (HT1.out _ (X.trans x1))) (Lib.hid (HT2.out _ (X.trans x1)))).mono ?_;rintro e w2 ⟨rfl,x2⟩)
   (refine ord_flo (pick_cons rfl (pick_cons rfl pick_nil)) ?_;(repeat (go_big_quiet_step (fail)));refine wpQuiet_nil ?_;show ordWalk _ _ _ _ _ _ _)
   refine ord_fin ?_
   go_wp2
   go_roundw
   case rel=>exact ⟨i+1,by omega,by go_num,er.trans ((X.trans x1).trans x2)⟩
   case measure=>simp [intOf];omega
  ·go_wp2
   go_ret
   exact ⟨rfl,er⟩
open Go.RowKit
set_option maxRecDepth 100000 in
set_option maxHeartbeats 16000000 in
theorem turns_any (A1 A2 A:Option Addr) (n1 n2 n c1 c2 c:Nat) (l r:List Int) (M:List Stp) (w:World) (h1:Hid (n1=l.length)) (h2:Hid (n2=r.length)) (hn:Hid (n=M.length)) (hl:Hid (Is w A1 c1 l)) (hr:Hid (Is w A2 c2 r)) (hM:Hid (Stin w A c M))
  (hb:Hid (∀ x∈M,StpIn x∧stpB x 140737488355328∧stpX x 140737488355328)) (b1:n1≤140737488355328) (b2:n2≤140737488355328) (b3:n≤140737488355328) :
  Calls Try.prog 3 #[.slice A1 n1 c1, .slice A2 n2 c2, .slice A n c] w fun e w'=>e = .returned (.bool true)∧Ext w w':=by
 have HX:Hid (Ext w w):=Lib.hid (Ext.refl w)
 have HB1:Hid (∀ x∈M,stpB x 140737488355328):=Lib.hid (fun x hx=>(hb.out x hx).2.1)
 have HB2:Hid (∀ x∈M,stpB x 140737488355328∧stpX x 140737488355328):=Lib.hid (fun x hx=>(hb.out x hx).2)
 go_enter Try.func3,Try.ntmps3
 by_cases h200:n1+n2≤200
 ·have hgt:((200:Int)<(n1:Int)+(n2:Int))=False:=by simp;omega
  cases hk:newOk l r with
  | false =>
   have HK1:=Lib.hid hk
   have HK2:Hid (newOk r l=false):=Lib.hid (by rw [newOk_comm];exact hk)
   clear hk
   have m1:True:=trivial
   go_wp2_with (first
    | (go_at_call 4;refine (much14_any A c n M _ hn (Lib.hid (hM.out.ext HX.out)) HB1 b3).mono ?_;rintro e w1 ⟨b,rfl,hfew,x1⟩;have HX:=Lib.hid (HX.out.trans x1);have HF:=Lib.hid hfew;clear x1 hfew;cases b)
    | (go_at_call 5;refine (known14_any _).mono ?_;rintro e w2 ⟨rfl,x2⟩;have HX:=Lib.hid (HX.out.trans x2);clear x2)
    | (go_at_call 6;refine (sound_any A c n M _ hn (Lib.hid (hM.out.ext HX.out)) HB2 b3).mono ?_;rintro e w3 ⟨v,rfl,hok,x3⟩;have HX:=Lib.hid (HX.out.trans x3);have HS:=Lib.hid hok;clear x3 hok;cases v)
    | (go_at_call 7;refine (alike_any A c n M _ hn (Lib.hid (hM.out.ext HX.out)) HB1 b3).mono ?_;rintro e w4 ⟨⟨p,q,is,rfl,hal⟩,x4⟩;have HX:=Lib.hid (HX.out.trans x4);have HA:=Lib.hid hal;clear x4 hal;cases is)
    | (have z:=m1;clear z m1;go_at_call 8;refine (new_bad A1 A2 n1 n2 c1 c2 l r _ h1 h2 (Lib.hid (hl.out.ext HX.out)) (Lib.hid (hr.out.ext HX.out)) HK1).mono ?_;rintro e w5 ⟨rfl,x5⟩;have HX:=Lib.hid (HX.out.trans x5);clear x5)
    | (go_at_call 8;refine (new_bad A2 A1 n2 n1 c2 c1 r l _ h2 h1 (Lib.hid (hr.out.ext HX.out)) (Lib.hid (hl.out.ext HX.out)) HK2).mono ?_;rintro e w6 ⟨rfl,x6⟩;have HX:=Lib.hid (HX.out.trans x6);clear x6))
   all_goals
    go_ret
    exact ⟨rfl,HX.out⟩
  | true =>
   have HK1:=Lib.hid hk
   have HK2:Hid (newOk r l=true):=Lib.hid (by rw [newOk_comm];exact hk)
   clear hk
   have m1:True:=trivial
   go_wp2_with (first
    | (go_at_call 4;refine (much14_any A c n M _ hn (Lib.hid (hM.out.ext HX.out)) HB1 b3).mono ?_;rintro e w1 ⟨b,rfl,hfew,x1⟩;have HX:=Lib.hid (HX.out.trans x1);have HF:=Lib.hid hfew;clear x1 hfew;cases b)
    | (go_at_call 5;refine (known14_any _).mono ?_;rintro e w2 ⟨rfl,x2⟩;have HX:=Lib.hid (HX.out.trans x2);clear x2)
    | (go_at_call 6;refine (sound_any A c n M _ hn (Lib.hid (hM.out.ext HX.out)) HB2 b3).mono ?_;rintro e w3 ⟨v,rfl,hok,x3⟩;have HX:=Lib.hid (HX.out.trans x3);have HS:=Lib.hid hok;clear x3 hok;cases v)
    | (go_at_call 7;refine (alike_any A c n M _ hn (Lib.hid (hM.out.ext HX.out)) HB1 b3).mono ?_;rintro e w4 ⟨⟨p,q,is,rfl,hal⟩,x4⟩;have HX:=Lib.hid (HX.out.trans x4);have HA:=Lib.hid hal;clear x4 hal;cases is)
    | (have z:=m1;clear z m1;go_at_call 8;refine (new_ok A1 A2 n1 n2 c1 c2 l r _ h1 h2 (Lib.hid (hl.out.ext HX.out)) (Lib.hid (hr.out.ext HX.out)) HK1).mono ?_;rintro e w5 hN;obtain ⟨ga,sa,ta,rfl,j1,f1,x5⟩:=new_js h1.out h2.out hN;have J1:=Lib.hid j1;have F1:Hid (∀ k,JF ga sa ta k→w.heap.size≤k):=Lib.hid (fun k hk=>Nat.le_trans HX.out.size (f1 k hk));have HX:=Lib.hid (HX.out.trans x5);clear hN j1 f1 x5)
    | (go_at_call 8;refine (new_ok A2 A1 n2 n1 c2 c1 r l _ h2 h1 (Lib.hid (hr.out.ext HX.out)) (Lib.hid (hl.out.ext HX.out)) HK2).mono ?_;rintro e w6 hN;obtain ⟨gb,sb,tb,rfl,j2,f2,x6⟩:=new_js h2.out h1.out hN;have HT0:Hid (∀ W AC cn cc cols,Ext w6 W→Own W 0 3 1 AC cn cc (ints cols)→TuI w W ga gb l r sa ta sb tb M 0 AC cn cc cols):=Lib.hid (fun W AC cn cc cols X o=>⟨(J1.out.ext x6).ext X,j2.ext X,fun k hk hk2=>by have q1:=J1.out.lt hk;have q2:=f2 k hk2;omega,F1.out,fun k hk=>Nat.le_trans HX.out.size (f2 k hk),(HX.out.trans x6).trans X,o⟩);have HX:=Lib.hid (HX.out.trans x6);clear hN j2 f2 x6))
   all_goals try (go_ret;exact ⟨rfl,HX.out⟩)
   obtain ⟨⟨p0,_⟩,⟨q0,_⟩,hal,har⟩:=HA.out trivial
   have hok:=HS.out trivial
   have hfew:=HF.out trivial
   have hp32:=alk_le hal (ok_lefts hok)
   have hq32:=alk_le har (ok_rights hok)
   obtain ⟨np,hp⟩ : ∃ np:Nat,p=np:=⟨p.toNat,by omega⟩
   obtain ⟨nq,hq⟩ : ∃ nq:Nat,q=nq:=⟨q.toNat,by omega⟩
   subst hp
   subst hq
   have HAL:=Lib.hid hal
   have HAR:=Lib.hid har
   have HOK:=Lib.hid hok
   have HFEW:=Lib.hid hfew
   have hp32:np≤32:=by omega
   have hq32:nq≤32:=by omega
   clear hal har hok hfew HA p0 q0 HS HF
   obtain ⟨wl,rfl⟩ : ∃ x,x=w6:=⟨_,rfl⟩
   go_loopg [15,16] np (fun z v15 v16 wr => ∃ (i cc:Nat) (AC:Option Addr),z=np - i∧i≤np∧v16 = .int .i64 i∧v15 = .slice AC i cc∧Hid (Own wr wl.heap.size 3 1 AC i cc (ints ((List.range i).map fun k=>((nq+k:Nat):Int))))∧Hid (Ext wl wr))
   case atStart=>exact ⟨0,0,none,rfl,Nat.zero_le _,rfl,rfl,Lib.hid (Own.nil _ _ _ _),Lib.hid (Ext.refl _)⟩
   case round =>
    obtain ⟨i,cc,AC,rfl,hi,rfl,rfl,HO,HE⟩:=hrel
    by_cases hlt:i<np
    ·have HOW:Hid (Own (wr.alloc (.cells #[.int .i64 ((nq:Int)+(i:Int))] 3)) wl.heap.size 3 1 AC i cc (ints ((List.range i).map fun k=>((nq+k:Nat):Int)))):=Lib.hid (HO.out.alloc _)
     have hsz:=HE.out.size
     go_wp2_with (at_builtin;refine wpList_append_two _ elem_int wl.heap.size _ _ rfl rfl AC i cc (ints ((List.range i).map fun k=>((nq+k:Nat):Int))) rfl HOW.out (some ⟨wr.heap.size,0,none⟩) 1 1 [.int .i64 ((nq:Int)+(i:Int))] rfl (Sl.one wr #[.int .i64 ((nq:Int)+(i:Int))] 3 1 rfl) (by intro u hu;simp at hu;subst hu;rfl) (by omega) (by decide) (by simp;omega) ?_;intro A5 c5 w5 o5 g5 x5;have HO5:=Lib.hid o5;have HG5:=Lib.hid g5;clear o5 g5 x5)
     go_roundg (np - (i+1))
     case measure=>omega
     case rel =>
      refine ⟨i+1,c5,A5,rfl,by omega,by go_num,rfl,Lib.hid ?_,Lib.hid ((HE.out.alloc _).grown HG5.out (fun k hk=>(HO.out.lt k hk).1))⟩
      have:=HO5.out
      rw [turnC_fst np nq i hlt]
      unfold ints at this ⊢
      rw [List.map_append]
      simpa using this
    ·obtain rfl:np=i:=by omega
     obtain ⟨wc,rfl⟩ : ∃ x,x=wr:=⟨_,rfl⟩
     go_wp2
     go_loopg [15,17] nq (fun z v15 v17 wr => ∃ (i cc:Nat) (AC:Option Addr),z=nq - i∧i≤nq∧v17 = .int .i64 i∧v15 = .slice AC ((np+i:Nat):Nat) cc∧Hid (Own wr wl.heap.size 3 1 AC (np+i) cc (ints ((List.range np).map (fun k=>((nq+k:Nat):Int))++(List.range i).map fun k=>((k:Nat):Int))))∧Hid (Ext wl wr))
     case atStart=>exact ⟨0,cc,AC,rfl,Nat.zero_le _,rfl,rfl,Lib.hid (by rw [List.range_zero,List.map_nil,List.append_nil];exact HO.out),HE⟩
     case round =>
      clear HO HE
      obtain ⟨i,cc,AC,rfl,hi,rfl,rfl,HO,HE⟩:=hrel
      by_cases hlt:i<nq
      ·have HOW:Hid (Own (wr.alloc (.cells #[.int .i64 (i:Int)] 3)) wl.heap.size 3 1 AC (np+i) cc (ints ((List.range np).map (fun k=>((nq+k:Nat):Int))++(List.range i).map fun k=>((k:Nat):Int)))):=Lib.hid (HO.out.alloc _)
       have hsz:=HE.out.size
       go_wp2_with (at_builtin;refine wpList_append_two _ elem_int wl.heap.size _ _ rfl rfl AC (np+i) cc (ints ((List.range np).map (fun k=>((nq+k:Nat):Int))++(List.range i).map fun k=>((k:Nat):Int))) rfl HOW.out (some ⟨wr.heap.size,0,none⟩) 1 1 [.int .i64 (i:Int)] rfl (Sl.one wr #[.int .i64 (i:Int)] 3 1 rfl) (by intro u hu;simp at hu;subst hu;rfl) (by omega) (by decide) (by simp;omega) ?_;intro A5 c5 w5 o5 g5 x5;have HO5:=Lib.hid o5;have HG5:=Lib.hid g5;clear o5 g5 x5)
       go_roundg (nq - (i+1))
       case measure=>omega
       case rel =>
        refine ⟨i+1,c5,A5,rfl,by omega,by go_num,rfl,Lib.hid ?_,Lib.hid ((HE.out.alloc _).grown HG5.out (fun k hk=>(HO.out.lt k hk).1))⟩
        have:=HO5.out
        rw [turnC_snd i, ← List.append_assoc]
        unfold ints at this ⊢
        rw [List.map_append]
        simpa [Nat.add_assoc] using this
      ·obtain rfl:nq=i:=by omega
       have HTS:=Lib.hid (HT0.out wr AC (np+nq) cc (turnC np nq) HE.out (HO.out.mono (Nat.zero_le _)))
       clear HO HE HT0
       obtain ⟨wd,rfl⟩ : ∃ x,x=wr:=⟨_,rfl⟩
       go_wp2
       go_loopg [18] n (fun z v18 wr => ∃ (i:Nat) (sa ta sb tb:SdM),z=n - i∧i≤n∧v18 = .int .i64 i∧Hid (TuI w wr ga gb l r sa ta sb tb M i AC (np+nq) cc (turnC np nq)))
       case atStart=>exact ⟨0,sa,ta,sb,tb,rfl,Nat.zero_le _,rfl,HTS⟩
       case round =>
        clear HTS
        obtain ⟨i,sa,ta,sb,tb,rfl,hi,rfl,HT⟩:=hrel
        by_cases hlt:i<n
        ·have hiM:i<M.length:=by rw [← hn.out];exact hlt
         have HIM:=Lib.hid hiM
         obtain ⟨x,hx⟩ : ∃ x,M.getD i Stp.zero=x:=⟨_,rfl⟩
         have hxm:x∈M:=hx ▸ getSt_mem hiM
         obtain ⟨ad,hA,_,_,q2,q3⟩:=hM.out.at hiM hx
         have HXR:Hid (StpR w x):=Lib.hid (hM.out.ls x hxm)
         have hst:=few_step HFEW.out hiM
         rw [hx] at hst
         have HGG:=Lib.hid (good_of_in HFEW.out HOK.out hxm (hb.out x hxm).1)
         have HLV:=Lib.hid (lv_good HFEW.out HOK.out (fun x hx=>(hb.out x hx).1) i)
         have HCC:=Lib.hid (step_cols HAL.out rfl HAR.out rfl hxm)
         have HRF:=Lib.hid (round_f HLV.out.1 HLV.out.2 (fun u hu=>by obtain ⟨y,hy,rfl⟩:=List.mem_map.1 hu;exact HGG.out.1 y hy) (fun u hu=>by obtain ⟨y,hy,rfl⟩:=List.mem_map.1 hu;exact HGG.out.2 y hy) (lv_cols HAL.out rfl i) (rv_cols HAR.out rfl i) HCC.out.1 HCC.out.2 (by omega) hst l r)
         have HX1:=Lib.hid hx
         obtain ⟨nL,hnL⟩ : ∃ k,x.L.length=k:=⟨_,rfl⟩
         obtain ⟨nR,hnR⟩ : ∃ k,x.R.length=k:=⟨_,rfl⟩
         rw [hnL] at q2 hst
         rw [hnR] at q3 hst
         have HNL:=Lib.hid hnL.symm
         have HNR:=Lib.hid hnR.symm
         have D2:Hid (∀ W,Ext w W→W.cell? ⟨(ad.add (i * 4)).block,(ad.add (i * 4)).off+2,none⟩=some (.slice x.A nL x.c)):=Lib.hid (fun W y=>y.cell q2)
         have D3:Hid (∀ W,Ext w W→W.cell? ⟨(ad.add (i * 4)).block,(ad.add (i * 4)).off+3,none⟩=some (.slice x.B nR x.b)):=Lib.hid (fun W y=>y.cell q3)
         rw [hA]
         clear hnL hnR hx hxm hiM q2 q3
         have X:Ext wr wr.drew:=(Ext.refl wr).drew
         have Q2 : ∀ z:Xt wr.drew,z.W.cell? ⟨(ad.add (i * 4)).block,(ad.add (i * 4)).off+2,none⟩=some (.slice x.A nL x.c):=fun z=>D2.out _ (HT.out.x.trans (X.trans z.x))
         have Q3 : ∀ z:Xt wr.drew,z.W.cell? ⟨(ad.add (i * 4)).block,(ad.add (i * 4)).off+3,none⟩=some (.slice x.B nR x.b):=fun z=>D3.out _ (HT.out.x.trans (X.trans z.x))
         have HTD:=Lib.hid (HT.out.ext X)
         go_upto_region 23 with fail
         refine wp_region_ord [0,0,0,6,14,30,0,0,192,448,960,2047,4095] (.flo [0,1,2,3,4,5,6,7,8,9,10] (.one 11 (.flo [12] (.fin)))) (by kernel_rfl) (by kernel_rfl) (by intro _ _ d _ _ h;cases d<;>exact h) ?_
         (refine ord_flo (pick_cons rfl (pick_cons rfl (pick_cons rfl (pick_cons rfl (pick_cons rfl (pick_cons rfl (pick_cons rfl (pick_cons rfl (pick_cons rfl (pick_cons rfl (pick_cons rfl pick_nil))))))))))) ?_;(repeat (go_big_quiet_step (fail)));refine wpQuiet_nil ?_;show ordWalk _ _ _ _ _ _ _)
         refine ord_one (pick_cons rfl pick_nil) ?_;intro K_ hK_
         go_wp2_with (go_at_call 9;refine (push_js nL nR x.c x.b x.A x.B x.L x.R (Lib.hid HTD.out.ja) HK1 HNL HNR (Lib.hid fun w' u=>HXR.out.u.ext (HTD.out.keep u).2.1) (Lib.hid fun w' u=>HXR.out.v.ext (HTD.out.keep u).2.1) (Lib.hid HGG.out.1) (Lib.hid HGG.out.2) (by omega)).mono ?_;rintro e v1 ⟨AX,kx,NX,sa2,ta2,rfl,p1⟩;have P1:=Lib.hid p1;clear p1)
         (refine ord_flo (pick_cons rfl pick_nil) ?_;(repeat (go_big_quiet_step (fail)));refine wpQuiet_nil ?_;show ordWalk _ _ _ _ _ _ _)
         refine ord_fin ?_
         clear Q2 Q3
         have XD:Ext v1 v1.drew:=(Ext.refl v1).drew
         have P1:=Lib.hid (P1.out.ext XD)
         have HK:=Lib.hid (HTD.out.keep P1.out.x)
         have Q2 : ∀ z:Xt v1.drew,z.W.cell? ⟨(ad.add (i * 4)).block,(ad.add (i * 4)).off+2,none⟩=some (.slice x.A nL x.c):=fun z=>D2.out _ (HK.out.2.1.trans z.x)
         have Q3 : ∀ z:Xt v1.drew,z.W.cell? ⟨(ad.add (i * 4)).block,(ad.add (i * 4)).off+3,none⟩=some (.slice x.B nR x.b):=fun z=>D3.out _ (HK.out.2.1.trans z.x)
         have HKU:Hid (∀ w',Upd (JF gb sb tb) v1.drew w'→Ext w w'):=Lib.hid (fun w' u=>ext_upd2 HK.out.2.1 u (fun k h1 h2=>by have:=HTD.out.fb k h2;omega))
         go_upto_region 24 with fail
         refine wp_region_ord [0,0,0,6,14,30,0,0,192,448,960,2047,4095] (.flo [0,1,2,3,4,5,6,7,8,9,10] (.one 11 (.flo [12] (.fin)))) (by kernel_rfl) (by kernel_rfl) (by intro _ _ d _ _ h;cases d<;>exact h) ?_
         (refine ord_flo (pick_cons rfl (pick_cons rfl (pick_cons rfl (pick_cons rfl (pick_cons rfl (pick_cons rfl (pick_cons rfl (pick_cons rfl (pick_cons rfl (pick_cons rfl (pick_cons rfl pick_nil))))))))))) ?_;(repeat (go_big_quiet_step (fail)));refine wpQuiet_nil ?_;show ordWalk _ _ _ _ _ _ _)
         refine ord_one (pick_cons rfl pick_nil) ?_;intro K_ hK_
         go_wp2_with (go_at_call 9;refine (push_js nR nL x.b x.c x.B x.A x.R x.L (Lib.hid HK.out.1) HK2 HNR HNL (Lib.hid fun w' u=>HXR.out.v.ext (HKU.out w' u)) (Lib.hid fun w' u=>HXR.out.u.ext (HKU.out w' u)) (Lib.hid HGG.out.2) (Lib.hid HGG.out.1) (by omega)).mono ?_;rintro e v2 ⟨AY,ky,NY,sb2,tb2,rfl,p2⟩;have HST:=Lib.hid (HTD.out.step HIM.out HX1.out P1.out p2);have V1:=Lib.hid P1.out.v;have V2:=Lib.hid p2.v;have L1:=Lib.hid P1.out.ln;have L2:=Lib.hid p2.ln;clear p2)
         (refine ord_flo (pick_cons rfl pick_nil) ?_;(repeat (go_big_quiet_step (fail)));refine wpQuiet_nil ?_;show ordWalk _ _ _ _ _ _ _)
         refine ord_fin ?_
         clear Q2 Q3
         have HIS:Hid (Is v2 AC cc (turnC np nq)):=Lib.hid (by show Sl v2 1 AC (turnC np nq).length cc (ints (turnC np nq));rw [turnC_len];exact HST.out.1.co.sl)
         have HCN:Hid (np+nq=(turnC np nq).length):=Lib.hid (turnC_len np nq).symm
         have HYM:Hid (∀ y∈NY,y.uv∈UdS.sumV (pushA r l (rv M i) (lv M i) (x.R.map Ud.uv) (x.L.map Ud.uv))):=Lib.hid (fun y hy=>by rw [← V2.out];exact List.mem_map.2 ⟨y,hy,rfl⟩)
         have HRC:Hid (∀ y∈NY, ∀ x∈turnC np nq,0≤x∧x<y.l.length):=Lib.hid (fun y hy z hz=>by
          have e1:=HRF.out.c _ (HYM.out y hy)
          replace e1:y.l.length=nq+np:=e1
          have e2:=turnC_in np nq z hz
          omega)
         have HZ:Hid (∀ y∈NY,y.l.length≤100000∧y.t.l.length≤100000):=Lib.hid (fun y hy=>⟨Nat.le_trans (HRF.out.g _ (HYM.out y hy)).rl (by decide),(HRF.out.g _ (HYM.out y hy)).tl⟩)
         have hky:ky≤1000000:=by
          have e1:=congrArg List.length V2.out
          rw [List.length_map, ← L2.out] at e1
          have:=HRF.out.n
          omega
         have HV1:Hid (Uin v2 AX kx NX):=Lib.hid HST.out.2.1
         have HU2:Hid (Uin v2 AY ky NY):=Lib.hid HST.out.2.2
         have HTN:=Lib.hid HST.out.1
         clear HK HKU HTD HT P1 X XD
         go_wp2_with (first
          | (go_at_call 10;refine (project_any ky ky (np+nq) cc AY AC (turnC np nq) NY v2 HU2 L2 HIS HCN HRC (by omega) hky HZ).mono ?_;rintro e v3 ⟨A3,c3,xs,rfl,e3,l3,x3⟩;have E3:Hid (xs.map Ud.uv=(UdS.sumV (pushA r l (rv M i) (lv M i) (x.R.map Ud.uv) (x.L.map Ud.uv))).map (projU (turnC np nq))):=Lib.hid (by rw [e3, ← V2.out,List.map_map];rfl);have LS3:=Lib.hid l3.uin;have HV1:=Lib.hid (HV1.out.ext x3);have HTN:=Lib.hid (HTN.out.ext x3);obtain ⟨nx,hnx⟩ : ∃ nx,xs.length=nx:=⟨_,rfl⟩;rw [hnx];have HNX:=Lib.hid hnx.symm;have hnx9:nx≤1000000:=(by have q1:=congrArg List.length E3.out;rw [List.length_map,List.length_map] at q1;have:=HRF.out.n;omega);clear e3 l3 x3 hnx)
          | (go_at_call 12;refine (refSum10_any (V:=UdS.sumV (pushA l r (lv M i) (rv M i) (x.L.map Ud.uv) (x.R.map Ud.uv))) A3 c3 nx xs _ (Lib.hid (by rw [E3.out];exact HRF.out.law)) HNX LS3 hnx9 (Lib.hid fun y hy=>(HRF.out.gp y.uv (by rw [← E3.out];exact List.mem_map.2 ⟨y,hy,rfl⟩)).num) (Lib.hid fun y hy=>⟨(HRF.out.gp y.uv (by rw [← E3.out];exact List.mem_map.2 ⟨y,hy,rfl⟩)).tu,Nat.le_trans (HRF.out.gp y.uv (by rw [← E3.out];exact List.mem_map.2 ⟨y,hy,rfl⟩)).tl (by decide)⟩)).mono ?_;rintro e v4 ⟨A4,m4,c4,R4,rfl,hm4,u4,e4,x4⟩;have HM4:=Lib.hid hm4;have U4:=Lib.hid u4;have E4:=Lib.hid e4;have HV1:=Lib.hid (HV1.out.ext x4);have HTN:=Lib.hid (HTN.out.ext x4);clear hm4 u4 e4 x4)
          | (go_at_call 11;refine (sameUps_any AX A4 kx c4 kx m4 NX R4 _ L1 HM4 HV1 U4 (Lib.hid (V1.out.trans E4.out.symm))).mono ?_;rintro e v5 ⟨rfl,x5⟩;have HTN:=Lib.hid (HTN.out.ext x5);clear x5))
         rw [← hA]
         go_roundg (n - (i+1))
         case measure=>omega
         case rel=>exact ⟨i+1,sa2,ta2,sb2,tb2,by omega,by omega,by go_num,HTN⟩
        ·obtain rfl:i=n:=by omega
         obtain ⟨s,hs⟩ : ∃ s:Int,((UdS.sumV (lv M i)).length:Int)+((UdS.sumV (rv M i)).length:Int)=s:=⟨_,rfl⟩
         have HS1:=Lib.hid hs
         have HS2:Hid (((UdS.sumV (rv M i)).length:Int)+((UdS.sumV (lv M i)).length:Int)=s):=Lib.hid (by rw [← hs];exact Int.add_comm _ _)
         clear hs
         have m2:True:=trivial
         go_wp2_with (first
          | (have z:=m2;clear z m2;go_at_call 13;refine (len_js (Lib.hid HT.out.ja)).mono ?_;rw [HS1.out];rintro e v1 ⟨rfl,x1⟩;have HT:=Lib.hid (HT.out.ext x1);clear x1)
          | (go_at_call 13;refine (len_js (Lib.hid HT.out.jb)).mono ?_;rw [HS2.out];rintro e v2 ⟨rfl,x2⟩;have HT:=Lib.hid (HT.out.ext x2);clear x2))
         go_ret
         exact ⟨ret_bool (by simp),HT.out.x⟩
 ·have hgt:((200:Int)<(n1:Int)+(n2:Int))=True:=by simp;omega
  go_wp2_with (first
   | (go_at_call 4;refine (much14_any A c n M _ hn (Lib.hid (hM.out.ext HX.out)) HB1 b3).mono ?_;rintro e w1 ⟨b,rfl,hfew,x1⟩;have HX:=Lib.hid (HX.out.trans x1);clear x1 hfew;cases b)
   | (go_at_call 5;refine (known14_any _).mono ?_;rintro e w2 ⟨rfl,x2⟩;have HX:=Lib.hid (HX.out.trans x2);clear x2))
  all_goals
   go_ret
   exact ⟨rfl,HX.out⟩
end Go.Proofs.Ytdgbkpoickbidaa
namespace Go.Proofs.Ytdgbkpoickbidaa
open Go.ChangeShapes Go.WideShapes Go.ChangeAt Go.RowKit Go.WideElems

section
variable {H:Type} {enc:TypeId × Value→H} {W:World}
theorem weights_part {e:TypeId} {d:DataW H} {n:Nat} : ∀ {l:List (DataW H)},d∈l→n∈d.weights Try.prog e→n∈DataW.weightsAll Try.prog e l
 | x :: r,h,hn=>by
  unfold DataW.weightsAll
  rcases List.mem_cons.1 h with rfl | h
  ·exact List.mem_append_left _ hn
  ·exact List.mem_append_right _ (weights_part h hn)
set_option maxRecDepth 100000 in
/-- each element of a slice is read; its weights are the slice's -/
theorem each_weight {α:Type} {T E:TypeId} (ht:Try.prog.underlying T=some (.slice E)) {size:Nat} (hs:Try.prog.cellsOf E=size) (C:α→List Value) (hC : ∀ x,(C x).length=size) {L:List α} {Cs:List Value} (hat : ∀ i (hi:i<L.length) j,j<size→Cs[i * size+j]?=(C (L[i]'hi))[j]?) {A:Option Addr} {c:Nat} (sl:Sl W size A L.length c Cs)
  {fuel:Nat} {y:DataW H × List MemPlace} (h:DataW.trod enc Try.prog W 0 (fun _=>true) true fuel T [.slice A L.length c]=some y) : ∀ i (hi:i<L.length), ∃ fu z,DataW.trod enc Try.prog W 0 (fun _=>true) true fu E (C (L[i]'hi))=some z ∧ ∀ n∈z.1.weights Try.prog E,n∈y.1.weights Try.prog T:=by
 intro i hi
 rcases Go.Deep.open_slice ht h with ⟨hcs,_⟩ | ⟨a,n,k,m,fu,D,Pl,hcs,_,hnc,hcm,hm,rfl,hx⟩
 ·have e:L.length=0:=by injection hcs with q;injection q
  omega
 ·rw [hs] at hx
  have hn:L.length=n:=by injection hcs with q;injection q
  have hA:A=some a:=by injection hcs with q;injection q
  subst hA
  have hmn:n≤m:=by rw [hm];split<;>omega
  obtain ⟨cs',h1,h2⟩:=hx i (by omega)
  obtain ⟨_,h4,h3⟩:=World.cells?_some h1
  have e:cs'=C (L[i]'hi):=by
   refine List.ext_getElem? fun j=>?_
   rcases Nat.lt_or_ge j size with q | q
   ·rw [← h3 j q,add_add']
    obtain ⟨ad,e1,hc⟩:=sl.2.2.2.2 (by omega)
    injection e1 with e1
    subst e1
    have q2:j<(C (L[i]'hi)).length:=by rw [hC];exact q
    have e3:(C (L[i]'hi))[j]?=some ((C (L[i]'hi))[j]'q2):=List.getElem?_eq_getElem q2
    rw [e3]
    exact hc _ _ (by rw [hat i hi j q];exact e3)
   ·rw [List.getElem?_eq_none (by omega),List.getElem?_eq_none (by rw [hC];exact q)]
  subst e
  refine ⟨fu,_,h2,fun q hq=>?_⟩
  have hd:D i∈(List.range n).map D:=List.mem_map.2 ⟨i,List.mem_range.2 (by omega),rfl⟩
  show q∈DataW.weights Try.prog T (DataW.slice ((List.range n).map D) ((List.range (m - n)).map fun j=>D (n+j)))
  unfold DataW.weights
  rw [ht]
  exact List.mem_cons_of_mem _ (List.mem_append_left _ (weights_part hd hq))
set_option maxRecDepth 100000 in
theorem dat_w {fuel:Nat} {d:Dat} {y:DataW H × List MemPlace} (h:DataW.trod enc Try.prog W 0 (fun _=>true) true fuel 55 (datC d)=some y):d.s.size∈y.1.weights Try.prog 55:=by
 obtain ⟨y0,y1,y2,y3,n,rfl,hl,h0,h1,h2,h3⟩:=Go.Joins.trod_struct4 Try.underlying55 h
 have g3:DataW.trod enc Try.prog W 0 (fun _=>true) true n 9 [.string d.s]=some y3:=by
  have:DataW.trod enc Try.prog W 0 (fun _=>true) true n 9 (((datC d).drop 3).take (Try.prog.cellsOf 9))=some y3:=h3
  rw [one_str] at this
  exact this
 obtain ⟨s,e3,ey,_⟩:=DataW.trod_string Try.underlying9 g3
 have e:d.s=s:=by simpa using e3
 subst ey
 have hsz:s.data.toList.length=s.size:=by simp
 rw [e, ← hsz]
 show _∈DataW.weights Try.prog 55 (DataW.agg [y0.1,y1.1,y2.1,DataW.lit (.string s.data.toList)])
 unfold DataW.weights
 rw [Try.underlying55]
 exact DataW.weights_mem_each (j:=3) (t:=9) (d:=DataW.lit (.string s.data.toList)) rfl rfl _ (by unfold DataW.weights;exact List.mem_singleton.2 rfl)
set_option maxRecDepth 100000 in
theorem row_w {fuel:Nat} {A:Option Addr} {c:Nat} {l:List Dat} {y:DataW H × List MemPlace} (h:DataW.trod enc Try.prog W 0 (fun _=>true) true fuel 49 [.slice A l.length c]=some y) (hr:Rw W A c l) : ∀ d∈l,d.s.size∈y.1.weights Try.prog 49:=fun d hd=>by
 obtain ⟨i,hi,rfl⟩:=List.getElem_of_mem hd
 obtain ⟨fu,z,h2,h3⟩:=each_weight Try.underlying49 four_dat datC (fun _=>rfl) (fun i hi j hj=>by
  have e2:=rowC_at l i j hi hj
  rwa [List.getD_eq_getElem?_getD,List.getElem?_eq_getElem hi] at e2) hr h i hi
 exact h3 _ (dat_w h2)
set_option maxRecDepth 100000 in
theorem ud_w {fuel:Nat} {x:Ud} {y:DataW H × List MemPlace} (h:DataW.trod enc Try.prog W 0 (fun _=>true) true fuel 51 (udC x)=some y) (hr:Rw W x.A x.c x.l) : ∀ d∈x.l,d.s.size∈y.1.weights Try.prog 51:=fun d hd=>by
 obtain ⟨y0,y1,y2,n,hy,hl,h0,h1,h2⟩:=Go.Deep.trod_struct3 Try.underlying51 h
 have g0:DataW.trod enc Try.prog W 0 (fun _=>true) true n 49 [.slice x.A x.l.length x.c]=some y0:=by
  have:DataW.trod enc Try.prog W 0 (fun _=>true) true n 49 (((udC x).drop 0).take (Try.prog.cellsOf 49))=some y0:=h0
  rw [one_rowu] at this
  exact this
 have k:=row_w g0 hr d hd
 rw [hy]
 show _∈DataW.weights Try.prog 51 (DataW.agg [y0.1,y1.1,y2.1])
 unfold DataW.weights
 rw [Try.underlying51]
 exact DataW.weights_mem_each (j:=0) (t:=49) (d:=y0.1) rfl rfl _ k
end
end Go.Proofs.Ytdgbkpoickbidaa
namespace Go.Proofs.Ytdgbkpoickbidaa
open Go.ChangeShapes Go.WideShapes Go.ChangeAt Go.RowKit Go.WideElems

section
variable {H:Type} {enc:TypeId × Value→H} {W:World}
set_option maxRecDepth 100000 in
theorem come_ints {base:Nat} {v:Value} {d:DataW H} {p:List MemPlace} (hv:Value.okWide Try.prog W .any base 22 v) (h:DataW.Trod enc Try.prog W 0 (fun _=>true) true 22 v d p) :
  ∃ A c l,v = .slice A l.length c∧Is W A c l∧(∀ x∈l, -9223372036854775808≤x∧x≤9223372036854775807):=by
 obtain ⟨A',n',c',rfl⟩:=okWide_slice Try.underlying22 hv
 obtain ⟨fuel,hf⟩:=h
 rcases open_ints Try.underlying22 Try.underlying3 (by kernel_rfl) hf with ⟨hcs,_⟩ | ⟨a,n,c,zs,hcs,_,hnc,hcm,hzl,_,hcell,hwf⟩
 ·have e:(Value.slice A' n' c') = .slice none 0 0:=by injection hcs
  obtain ⟨rfl,rfl,rfl⟩:A'=none∧n'=0∧c'=0:=by simpa using e
  exact ⟨none,0,[],rfl,Sl.nil W 1,fun x hx=>by cases hx⟩
 ·have e:(Value.slice A' n' c') = .slice (some a) n c:=by injection hcs
  obtain ⟨rfl,rfl,rfl⟩:A'=some a∧n'=n∧c'=c:=by simpa using e
  have hz:zs.length=c':=by simpa using hzl
  have hl:(zs.take n').length=n':=by rw [List.length_take];omega
  refine ⟨some a,c',zs.take n',by rw [hl],⟨by simp [ints],by rw [hl];exact hnc,hcm,(fun h=>nomatch h),fun _=>⟨a,rfl,fun j u hu=>?_⟩⟩,fun x hx=>dwf_i64 (hwf x (List.mem_of_mem_take hx))⟩
  simp only [ints,List.getElem?_map,List.getElem?_take] at hu
  split at hu
  ·rename_i hj
   have hc1:=hcell j (by omega)
   rw [List.getD_eq_getElem?_getD,List.getElem?_eq_getElem (show j<zs.length by omega)] at hc1
   rw [List.getElem?_eq_getElem (show j<zs.length by omega)] at hu
   simp only [Option.map_some,Option.some.injEq] at hu
   rw [← hu]
   exact hc1
  ·cases hu
end
end Go.Proofs.Ytdgbkpoickbidaa
namespace Go.Proofs.Ytdgbkpoickbidaa
open Go.ChangeShapes Go.WideShapes Go.ChangeAt Go.RowKit Go.WideElems

section
variable {H:Type} {enc:TypeId × Value→H} {W:World}
/-- a list's length is at most a weight -/
theorem slice_w {T E:TypeId} (ht:Try.prog.underlying T=some (.slice E)) (hb:1≤Try.prog.bytesOf E) {fuel n c:Nat} {A:Option Addr} {y:DataW H × List MemPlace} (h:DataW.trod enc Try.prog W 0 (fun _=>true) true fuel T [.slice A n c]=some y):n=0 ∨ ∃ q∈y.1.weights Try.prog T,n≤q:=by
 rcases Go.Deep.open_slice ht h with ⟨hcs,_⟩ | ⟨a,n',c',m,fu,D,Pl,hcs,_,hnc,hcm,hm,hy,hx⟩
 ·have e:(Value.slice A n c) = .slice none 0 0:=by injection hcs
  injection e with _ e _
  exact .inl e
 ·have e:(Value.slice A n c) = .slice (some a) n' c':=by injection hcs
  injection e with _ e _
  subst e
  refine .inr ⟨(((List.range n).map D).length+((List.range (m - n)).map fun j=>D (n+j)).length) * Try.prog.bytesOf E,?_,?_⟩
  ·rw [hy]
   show _∈DataW.weights Try.prog T (DataW.slice ((List.range n).map D) ((List.range (m - n)).map fun j=>D (n+j)))
   unfold DataW.weights
   rw [ht]
   exact List.mem_cons_self ..
  ·rw [List.length_map,List.length_range]
   exact Nat.le_trans (Nat.le_add_right _ _) (Nat.le_mul_of_pos_right _ hb)
/-- all weights that are asked of are within the reach -/
def InReach (l:List Nat):Prop := ∀ q∈l,q≤140737488355328
theorem reach_of {t:TypeId} {d:DataW H} {ts:List TypeId} {ds:List (DataW H)} {j:Nat} (ht:ts[j]?=some t) (hd:ds[j]?=some d) (hz:(DataW.weightsEach Try.prog ts ds).all (· ≤ reachBytes)=true):InReach (d.weights Try.prog t):=fun q hq=>by
 have hm:=DataW.weights_mem_each ht hd _ hq
 have hle:=List.all_eq_true.1 hz _ hm
 have hle2:q≤reachBytes:=of_decide_eq_true hle
 have:=reachBytes_lt
 have e:(2:Nat) ^ 47=140737488355328:=by decide
 omega
theorem len_reach {T E:TypeId} (ht:Try.prog.underlying T=some (.slice E)) (hb:1≤Try.prog.bytesOf E) {fuel n c:Nat} {A:Option Addr} {y:DataW H × List MemPlace} (h:DataW.trod enc Try.prog W 0 (fun _=>true) true fuel T [.slice A n c]=some y) (hr:InReach (y.1.weights Try.prog T)):n≤140737488355328:=by
 rcases slice_w ht hb h with e | ⟨q,hq,e⟩
 ·omega
 ·exact Nat.le_trans e (hr q hq)
set_option maxRecDepth 100000 in
theorem uds_w {fuel:Nat} {A:Option Addr} {c:Nat} {L:List Ud} {y:DataW H × List MemPlace} (h:DataW.trod enc Try.prog W 0 (fun _=>true) true fuel 33 [.slice A L.length c]=some y) (hu:Uin W A c L) (hr:InReach (y.1.weights Try.prog 33)) : ∀ x∈L, ∀ t∈x.l,t.s.size≤140737488355328:=fun x hx t htx=>by
 obtain ⟨i,hi,rfl⟩:=List.getElem_of_mem hx
 obtain ⟨fu,z,h3,h4⟩:=each_weight Try.underlying33 four_ud udC (fun _=>rfl) (fun i hi j hj=>by
  have e2:=udsC_at L i j hi hj
  rwa [List.getD_eq_getElem?_getD,List.getElem?_eq_getElem hi] at e2) hu.sl h i hi
 exact hr _ (h4 _ (ud_w h3 (hu.ls _ hx).r t htx))
set_option maxRecDepth 100000 in
theorem st_w {fuel:Nat} {x:Stp} {y:DataW H × List MemPlace} (h:DataW.trod enc Try.prog W 0 (fun _=>true) true fuel 37 (stpC x)=some y) (hx:StpR W x) (hr:InReach (y.1.weights Try.prog 37)):stpB x 140737488355328∧stpX x 140737488355328:=by
 obtain ⟨y0,y1,y2,y3,n,hy,hl,h0,h1,h2,h3⟩:=trod_struct4s Try.underlying37 h
 have g1:DataW.trod enc Try.prog W 0 (fun _=>true) true n 35 [.slice x.tA x.T.length x.tc]=some y1:=by
  have:DataW.trod enc Try.prog W 0 (fun _=>true) true n 35 (((stpC x).drop 1).take (Try.prog.cellsOf 35))=some y1:=h1
  rw [one_tmst] at this
  exact this
 have g2:DataW.trod enc Try.prog W 0 (fun _=>true) true n 33 [.slice x.A x.L.length x.c]=some y2:=by
  have:DataW.trod enc Try.prog W 0 (fun _=>true) true n 33 (((stpC x).drop 2).take (Try.prog.cellsOf 33))=some y2:=h2
  rw [one_udst] at this
  exact this
 have g3:DataW.trod enc Try.prog W 0 (fun _=>true) true n 33 [.slice x.B x.R.length x.b]=some y3:=by
  have:DataW.trod enc Try.prog W 0 (fun _=>true) true n 33 (((stpC x).drop 3).take (Try.prog.cellsOf 33))=some y3:=h3
  rw [one_udst] at this
  exact this
 have hw : ∀ (j:Nat) (t:TypeId) (d:DataW H),([4,35,33,33]:List TypeId)[j]?=some t→[y0.1,y1.1,y2.1,y3.1][j]?=some d→InReach (d.weights Try.prog t):=fun j t d ht hd q hq=>by
  refine hr q ?_
  rw [hy]
  show _∈DataW.weights Try.prog 37 (DataW.agg [y0.1,y1.1,y2.1,y3.1])
  unfold DataW.weights
  rw [Try.underlying37]
  exact DataW.weights_mem_each (j:=j) (t:=t) (d:=d) ht hd _ hq
 have r1:=hw 1 _ _ rfl rfl
 have r2:=hw 2 _ _ rfl rfl
 have r3:=hw 3 _ _ rfl rfl
 exact ⟨⟨len_reach Try.underlying35 (by decide +kernel) g1 r1,len_reach Try.underlying33 (by decide +kernel) g2 r2,len_reach Try.underlying33 (by decide +kernel) g3 r3⟩,uds_w g2 hx.u r2,uds_w g3 hx.v r3⟩
set_option maxRecDepth 100000 in
theorem come_steps_z {base:Nat} {v:Value} {d:DataW H} {p:List MemPlace} (hv:Value.okWide Try.prog W .any base 23 v) (h:DataW.Trod enc Try.prog W 0 (fun _=>true) true 23 v d p) :
  ∃ A c M,v = .slice A (List.length M) c∧Stin W A c M∧(∀ x∈M,StpIn x) ∧
   ∀ (ts:List TypeId) (ds:List (DataW H)) (j:Nat),ts[j]?=some 23→ds[j]?=some d→(DataW.weightsEach Try.prog ts ds).all (· ≤ reachBytes)=true→(∀ x∈M,stpB x 140737488355328∧stpX x 140737488355328)∧M.length≤140737488355328:=by
 obtain ⟨A,c,M,rfl,h1,h2,_⟩:=come_steps hv h
 obtain ⟨fuel,hf⟩:=h
 refine ⟨A,c,M,rfl,h1,fun x hx=>(h2 x hx).1,fun ts ds j ht hd hz=>?_⟩
 have hr:=reach_of ht hd hz
 refine ⟨fun x hx=>?_,len_reach Try.underlying23 (by decide +kernel) hf hr⟩
 obtain ⟨i,hi,rfl⟩:=List.getElem_of_mem hx
 obtain ⟨fu,z,h3,h4⟩:=each_weight Try.underlying23 four_st stpC (fun _=>rfl) (fun i hi j hj=>by
  have e2:=stpsC_at M i j hi hj
  rwa [List.getD_eq_getElem?_getD,List.getElem?_eq_getElem hi] at e2) h1.sl hf i hi
 exact st_w h3 (h1.ls _ hx) (fun q hq=>hr q (h4 q hq))
set_option maxRecDepth 100000 in
theorem come_ints_z {base:Nat} {v:Value} {d:DataW H} {p:List MemPlace} (hv:Value.okWide Try.prog W .any base 22 v) (h:DataW.Trod enc Try.prog W 0 (fun _=>true) true 22 v d p) :
  ∃ A c l,v = .slice A l.length c∧Is W A c l∧(∀ x∈l, -9223372036854775808≤x∧x≤9223372036854775807) ∧
   ∀ (ts:List TypeId) (ds:List (DataW H)) (j:Nat),ts[j]?=some 22→ds[j]?=some d→(DataW.weightsEach Try.prog ts ds).all (· ≤ reachBytes)=true→l.length≤140737488355328:=by
 obtain ⟨A,c,l,rfl,h1,h2⟩:=come_ints hv h
 obtain ⟨fuel,hf⟩:=h
 exact ⟨A,c,l,rfl,h1,h2,fun ts ds j ht hd hz=>len_reach Try.underlying22 (by decide +kernel) hf (reach_of ht hd hz)⟩
end
end Go.Proofs.Ytdgbkpoickbidaa
