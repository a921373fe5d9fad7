/- slices.insertionSortCmpFunc at updates: the walk. slices.SortStableFunc at fewer than 20 updates. slices.SortStableFunc at updates. delta.Sum: what it answers. The form in which times are answered, with an error's number. stamp.Join, Meet with one answer. Lists of times that are fine; stamp.Join of times of one depth. chain.Advance: the time that stands for another one. delta.Advance: updates whose times nobody beyond since can tell. A spine's At, All. Conditions: each theorem states its own. -/
import Derived.Test.YtdgbkpoickbidaaGreatDoorHr8
import Derived.Test.YtdgbkpoickbidaaGreatDoorHr9
import Derived.Deep.LoopGhost
import Derived.Test.YtdgbkpoickbidaaGreatDoorHr1
import Derived.Test.YtdgbkpoickbidaaGreatDoorHr2
import Derived.Test.YtdgbkpoickbidaaGreatDoorHr7
namespace Go.Proofs.YtdgbkpoickbidaaGreatDoor.UdS
open Go.RowKit

theorem snoc_cases {α:Type} (s:List α):s=[] ∨ ∃ t y,s=t++[y]:=by
 rcases List.eq_nil_or_concat s with h | ⟨t,y,h⟩
 ·exact .inl h
 ·exact .inr ⟨t,y,by rw [h,List.concat_eq_append]⟩
theorem InsIn.ext {B g c a:Nat} {P S T Q D':List Ud} {x:Ud} {w wi wz:World} {j:Nat} {s1 s2:List Ud} (h:InsIn B g c a P S T Q D' x w wi j s1 s2) (hz:Ext wi wz):InsIn B g c a P S T Q D' x w wz j s1 s2 :=
 ⟨h.1,h.2.1,h.2.2.1,h.2.2.2.1.ext hz,h.2.2.2.2.1.trans (upd_ext hz g),h.2.2.2.2.2.ext hz⟩
theorem ins_step {B g c a q:Nat} {P S T Q D':List Ud} {x:Ud} {w wi:World} {j:Nat} {t s2:List Ud} {y:Ud} (h:InsIn B g c a P S T Q D' x w wi j (t++[y]) s2) (hv:cmpC x y<0) (ha:a=P.length) (hq:q=a+t.length) {nx ny tx ty:Nat} (hx:nx=x.l.length) (hy:ny=y.l.length) (hx2:tx=x.t.l.length) (hy2:ty=y.t.l.length) :
  InsIn B g c a P S T Q D' x w (put4 (put4 wi g (q+1) y ny ty) g q x nx tx) q t (y :: s2):=by
 subst hx hy hx2 hy2
 obtain ⟨h1,h2,h3,h4,h5,h6⟩:=h
 have e:P++(t++[y]++x :: (s2++(T++Q)))=(P++t)++y :: x :: (s2++(T++Q)):=by simp
 rw [e] at h4
 have h7:=h4.swap (q:=q) (by rw [List.length_append];omega)
 have hu:wi.grownBy (put4 (put4 wi g (q+1) y y.l.length y.t.l.length) g q x x.l.length x.t.l.length) (some g):=upd_swap
 refine ⟨hq,by rw [h2];simp,fun z hz=>?_,?_,h5.trans hu,h6.upd hu⟩
 ·rcases List.mem_cons.1 hz with rfl | hz
  ·exact hv
  ·exact h3 z hz
 ·have e2:P++(t++x :: (y :: s2++(T++Q)))=(P++t)++x :: y :: (s2++(T++Q)):=by simp
  rw [e2]
  exact h7
theorem ins_exit {B g c a:Nat} {P S T Q D D':List Ud} {x:Ud} {w wo wi:World} {i j:Nat} {s1 s2:List Ud} (ho:InsOut B g c a P S Q w wo i D D' (x :: T)) (h:InsIn B g c a P S T Q D' x wo wi j s1 s2) (hl : ∀ y,s1.getLast?=some y → ¬ cmpC x y<0) {wz:World} (hz:Ext wi wz) :
  InsOut B g c a P S Q w wz (i+1) (D++[x]) (s1++x :: s2) T:=by
 obtain ⟨o1,o2,o3,o4,o5,o6⟩:=ho
 obtain ⟨h1,h2,h3,h4,h5,h6⟩:=h
 subst h2
 refine ⟨by rw [o1];simp,by rw [List.length_append,List.length_singleton];omega,o3.insert cmpC_tot h3 hl,?_,(o5.trans h5).trans (upd_ext hz g),(h6.sub (fun z hz=>List.mem_cons_of_mem _ hz)).ext hz⟩
 have e:P++(s1++x :: s2++(T++Q))=P++(s1++x :: (s2++(T++Q))):=by simp
 rw [e]
 exact h4.ext hz
set_option maxRecDepth 100000 in
set_option maxHeartbeats 8000000 in
theorem insSort_some (B g c n a b:Nat) (P S0 Q:List Ud) (x0:Ud) (w:World) (ha:a=P.length) (hb:b=P.length+(S0.length+1)) (hn:n=(P++(x0 :: S0++Q)).length) (h:Arr w B g c (P++(x0 :: S0++Q))) (hr:Rws w g (x0 :: S0)) :
  Calls Tryz.prog 222 #[.slice (some ⟨g,0,none⟩) n c, .int .i64 a, .int .i64 b, .func (.func 103) #[] #[]] w fun e w'=>e = .returned (.tuple #[]) ∧ ∃ S',Stable cmpC (x0 :: S0) S'∧Arr w' B g c (P++(S'++Q))∧w.grownBy w' (some g):=by
 obtain ⟨S,hS⟩ : ∃ S,S=x0 :: S0:=⟨_,rfl⟩
 have hnm:=h.le
 rw [← hn] at hnm
 have hbn:b≤n:=by
  rw [hb,hn]
  simp only [List.length_append,List.length_cons]
  omega
 have HA:=Lib.hid ha
 have HB:=Lib.hid hb
 have HN:=Lib.hid hn
 have hab:a+1≤b:=by omega
 have HO:Hid (InsOut B g c a P S Q w w (a+1) [x0] [x0] S0):=Lib.hid ⟨hS,rfl,Stable.one x0,by rw [List.singleton_append, ← List.cons_append];exact h,World.grownBy.refl w _,by rw [hS];exact hr⟩
 have HSL:Hid (b=a+S.length):=Lib.hid (by rw [hS,List.length_cons];omega)
 rw [← hS]
 clear ha hb hn h hr hS
 go_enter Tryz.func222,Tryz.ntmps222
 go_wp2
 go_loopg [8] (b - (a+1)) (fun z v wo => ∃ (i:Nat) (D D' T:List Ud),z=b - i∧i≤b∧v = .int .i64 i∧Hid (InsOut B g c a P S Q w wo i D D' T))
 case atStart=>exact ⟨a+1,[x0],[x0],S0,rfl,hab,by simp,HO⟩
 case round =>
  obtain ⟨i,D,D',T,rfl,hi,rfl,HI⟩:=hrel
  clear HO
  obtain ⟨wo,hwo⟩ : ∃ wo:World,wo=wr:=⟨_,rfl⟩
  rw [← hwo] at HI ⊢
  clear hwo
  by_cases hlt:i<b
  ·obtain ⟨x,T,rfl⟩ : ∃ x T',T=x :: T':=by
    cases T with
    | nil =>
     obtain ⟨q1,q2,_⟩:=HI.out
     have:=HSL.out
     rw [q1,List.append_nil] at this
     omega
    | cons x T=>exact ⟨x,T,rfl⟩
   have HII:Hid (InsIn B g c a P S T Q D' x wo wo i D' []):=Lib.hid (by
    obtain ⟨q1,q2,q3,q4,q5,q6⟩:=HI.out
    refine ⟨by rw [stable_len q3];exact q2,(List.append_nil _).symm,fun y hy=>(nomatch hy),by rw [List.nil_append];exact q4,World.grownBy.refl wo _,fun z hz=>?_⟩
    rcases List.mem_cons.1 hz with rfl | hz
    ·exact q6 z (by rw [q1];simp)
    ·exact q6 z hz)
   go_wp2
   go_loopg [9] D'.length (fun z v wi => ∃ (j:Nat) (s1 s2:List Ud),z=s1.length∧v = .int .i64 j∧j≤i∧Hid (InsIn B g c a P S T Q D' x wo wi j s1 s2))
   case atStart=>exact ⟨i,D',[],rfl,rfl,Nat.le_refl _,HII⟩
   case round =>
    obtain ⟨j,s1,s2,rfl,rfl,hj,HJ⟩:=hrel
    clear HII
    obtain ⟨wi,hwi⟩ : ∃ wi:World,wi=wr:=⟨_,rfl⟩
    rw [← hwi] at HJ ⊢
    clear hwi
    rcases snoc_cases s1 with rfl | ⟨t,y,rfl⟩
    ·have hja:j=a:=by have:=HJ.out.1;simpa using this
     subst hja
     go_upto_region 4 with fail
     refine wp_region_ord [0,0,3,7,15,15,15,111,239,15,15,1039,3599,7695,16383,32767,65535] (.flo [0,1,2,3,4,5,6,7,8,9,10,11,12,13] (.one 14 (.flo [15,16] (.fin)))) (by kernel_rfl) (by kernel_rfl) (by intro _ _ d _ _ h;cases d<;>exact h) ?_
     (refine ord_flo (pick_cons rfl (pick_cons rfl (pick_cons rfl (pick_cons rfl (pick_cons rfl (pick_cons rfl (pick_cons rfl (pick_cons rfl (pick_cons rfl (pick_cons rfl (pick_cons rfl (pick_cons rfl (pick_cons rfl (pick_cons rfl pick_nil)))))))))))))) ?_;(repeat (go_big_quiet_step (fail)));refine wpQuiet_nil ?_;show ordWalk _ _ _ _ _ _ _)
     refine ord_one (pick_cons rfl pick_nil) ?_;intro K_ hK_
     go_wp2
     (refine ord_flo (pick_cons rfl (pick_cons rfl pick_nil)) ?_;(repeat (go_big_quiet_step (fail)));refine wpQuiet_nil ?_;show ordWalk _ _ _ _ _ _ _)
     refine ord_fin ?_
     go_wp2
     go_roundg (b - (i+1))
     case measure=>omega
     case rel=>exact ⟨i+1,D++[x],_,T,rfl,by omega,by go_num,Lib.hid (ins_exit HI.out HJ.out (fun y hy=>(nomatch hy)) ((Ext.refl wi).drew))⟩
    ·obtain ⟨q,hq⟩ : ∃ q,q=a+t.length:=⟨_,rfl⟩
     have hjq:j=q+1:=by have:=HJ.out.1;rw [List.length_append,List.length_singleton] at this;omega
     subst hjq
     have hqP:q=(P++t).length:=by rw [List.length_append, ← HA.out];exact hq
     have e:P++(t++[y]++x :: (s2++(T++Q)))=(P++t)++y :: x :: (s2++(T++Q)):=by simp
     have hArr:=HJ.out.2.2.2.1
     rw [e] at hArr
     obtain ⟨⟨py0,py1,py2,py3⟩,px0,px1,px2,px3⟩:=Arr.two (s2:=[]) hArr hqP
     have f0:=hArr.free ((q+1) * 4)
     have f0b:=hArr.free ((q+1) * 4+1)
     have f1:=hArr.free ((q+1) * 4+2)
     have f1b:=hArr.free ((q+1) * 4+3)
     have f2:=hArr.free (q * 4)
     have f2b:=hArr.free (q * 4+1)
     have f3:=hArr.free (q * 4+2)
     have f3b:=hArr.free (q * 4+3)
     have hrx:=HJ.out.2.2.2.2.2 x (List.mem_cons_self ..)
     have hry:=HJ.out.2.2.2.2.2 y (List.mem_cons_of_mem _ (by
      obtain ⟨o1,o2,o3,_⟩:=HI.out
      have hd:y∈D':=by rw [HJ.out.2.1];simp
      rw [o1]
      exact List.mem_append_left _ ((o3.mem cmpC_tot y).1 hd)))
     have za:decide ((a:Int)<(q:Int)+1)=true:=by simp;omega
     have hqa2:a≤q:=by omega
     have hqn:q+1<n:=by omega
     have hjb:q+1≤i:=hj
     obtain ⟨v,hv⟩ : ∃ v,cmpC x y=v:=⟨_,rfl⟩
     obtain ⟨nx,hnx⟩ : ∃ nx,nx=x.l.length:=⟨_,rfl⟩
     obtain ⟨tx,htx⟩ : ∃ tx,tx=x.t.l.length:=⟨_,rfl⟩
     obtain ⟨ny,hny⟩ : ∃ ny,ny=y.l.length:=⟨_,rfl⟩
     obtain ⟨ty,hty⟩ : ∃ ty,ty=y.t.l.length:=⟨_,rfl⟩
     rw [← hnx] at px0;rw [← htx] at px2
     rw [← hny] at py0;rw [← hty] at py2
     have X:Ext wi wi.drew:=(Ext.refl wi).drew
     have HRX:=Lib.hid hrx.1
     have HRY:=Lib.hid hry.1
     have HNX:=Lib.hid hnx
     have HTX:=Lib.hid htx
     have HNY:=Lib.hid hny
     have HTY:=Lib.hid hty
     have HQ:=Lib.hid hq
     have HQP:=Lib.hid hqP
     have hArr0:=Lib.hid hArr
     have HV:Hid (cmpC x y=v):=Lib.hid hv
     have PY0 : ∀ z:Xt wi.drew,z.W.cell? ⟨g,q * 4,none⟩=some (.slice y.A ny y.c):=fun z=>(X.trans z.x).cell py0
     have PY1 : ∀ z:Xt wi.drew,z.W.cell? ⟨g,q * 4+1,none⟩=some (.int .u64 y.t.e):=fun z=>(X.trans z.x).cell py1
     have PY2 : ∀ z:Xt wi.drew,z.W.cell? ⟨g,q * 4+2,none⟩=some (.slice y.t.A ty y.t.c):=fun z=>(X.trans z.x).cell py2
     have PY3 : ∀ z:Xt wi.drew,z.W.cell? ⟨g,q * 4+3,none⟩=some (.int .i64 y.d):=fun z=>(X.trans z.x).cell py3
     have PX0 : ∀ z:Xt wi.drew,z.W.cell? ⟨g,(q+1) * 4,none⟩=some (.slice x.A nx x.c):=fun z=>(X.trans z.x).cell px0
     have PX1 : ∀ z:Xt wi.drew,z.W.cell? ⟨g,(q+1) * 4+1,none⟩=some (.int .u64 x.t.e):=fun z=>(X.trans z.x).cell px1
     have PX2 : ∀ z:Xt wi.drew,z.W.cell? ⟨g,(q+1) * 4+2,none⟩=some (.slice x.t.A tx x.t.c):=fun z=>(X.trans z.x).cell px2
     have PX3 : ∀ z:Xt wi.drew,z.W.cell? ⟨g,(q+1) * 4+3,none⟩=some (.int .i64 x.d):=fun z=>(X.trans z.x).cell px3
     clear hrx hry hnx hny htx hty hv hArr e hqP py0 py1 px0 px1 hq hj
     by_cases hv0:v<0
     ·have zv:decide (v<0)=true:=by simpa using hv0
      have HV0:Hid (cmpC x y<0):=Lib.hid (by show cmpC x y<0;rw [HV.out];exact hv0)
      go_upto_region 4 with fail
      refine wp_region_ord [0,0,3,7,15,15,15,111,239,15,15,1039,3599,7695,16383,32767,65535] (.flo [0,1,2,3,4,5,6,7,8,9,10,11,12,13] (.one 14 (.flo [15,16] (.fin)))) (by kernel_rfl) (by kernel_rfl) (by intro _ _ d _ _ h;cases d<;>exact h) ?_
      (refine ord_flo (pick_cons rfl (pick_cons rfl (pick_cons rfl (pick_cons rfl (pick_cons rfl (pick_cons rfl (pick_cons rfl (pick_cons rfl (pick_cons rfl (pick_cons rfl (pick_cons rfl (pick_cons rfl (pick_cons rfl (pick_cons rfl pick_nil)))))))))))))) ?_;(repeat (go_big_quiet_step (fail)));refine wpQuiet_nil ?_;show ordWalk _ _ _ _ _ _ _)
      refine ord_one (pick_cons rfl pick_nil) ?_;intro K_ hK_
      go_wp2_with (go_at_call 103;refine (order_any x y nx ny tx ty v _ HV HNX HNY HTX HTY (Lib.hid (HRX.out.ext X)) (Lib.hid (HRY.out.ext X))).mono ?_;rintro e w1 ⟨rfl,x1⟩)
      (refine ord_flo (pick_cons rfl (pick_cons rfl pick_nil)) ?_;(repeat (go_big_quiet_step (fail)));refine wpQuiet_nil ?_;show ordWalk _ _ _ _ _ _ _)
      refine ord_fin ?_
      have HA1:=Lib.hid (hArr0.out.ext (X.trans x1))
      obtain ⟨⟨py0,py1,py2,py3⟩,px0,px1,px2,px3⟩:=Arr.two (s2:=[]) HA1.out HQP.out
      rw [← HNX.out] at px0;rw [← HTX.out] at px2
      rw [← HNY.out] at py0;rw [← HTY.out] at py2
      have f0:=HA1.out.free ((q+1) * 4)
      have f0b:=HA1.out.free ((q+1) * 4+1)
      have f1:=HA1.out.free ((q+1) * 4+2)
      have f1b:=HA1.out.free ((q+1) * 4+3)
      have f2:=HA1.out.free (q * 4)
      have f2b:=HA1.out.free (q * 4+1)
      have f3:=HA1.out.free (q * 4+2)
      have f3b:=HA1.out.free (q * 4+3)
      have X1:Ext w1 w1.drew:=(Ext.refl w1).drew
      have PY0 : ∀ z:Xt w1.drew,z.W.cell? ⟨g,q * 4,none⟩=some (.slice y.A ny y.c):=fun z=>(X1.trans z.x).cell py0
      have PY1 : ∀ z:Xt w1.drew,z.W.cell? ⟨g,q * 4+1,none⟩=some (.int .u64 y.t.e):=fun z=>(X1.trans z.x).cell py1
      have PY2 : ∀ z:Xt w1.drew,z.W.cell? ⟨g,q * 4+2,none⟩=some (.slice y.t.A ty y.t.c):=fun z=>(X1.trans z.x).cell py2
      have PY3 : ∀ z:Xt w1.drew,z.W.cell? ⟨g,q * 4+3,none⟩=some (.int .i64 y.d):=fun z=>(X1.trans z.x).cell py3
      have PX0 : ∀ z:Xt w1.drew,z.W.cell? ⟨g,(q+1) * 4,none⟩=some (.slice x.A nx x.c):=fun z=>(X1.trans z.x).cell px0
      have PX1 : ∀ z:Xt w1.drew,z.W.cell? ⟨g,(q+1) * 4+1,none⟩=some (.int .u64 x.t.e):=fun z=>(X1.trans z.x).cell px1
      have PX2 : ∀ z:Xt w1.drew,z.W.cell? ⟨g,(q+1) * 4+2,none⟩=some (.slice x.t.A tx x.t.c):=fun z=>(X1.trans z.x).cell px2
      have PX3 : ∀ z:Xt w1.drew,z.W.cell? ⟨g,(q+1) * 4+3,none⟩=some (.int .i64 x.d):=fun z=>(X1.trans z.x).cell px3
      go_upto_region 6 with fail
      refine wp_region_ord [0,0,0,0,8,0,0,64,224,480,0,0,3072,7168,16355,32739,65535,131071] (.flo [0,1,5,6,7,8,9,10,11,12,13,14] (.pur [2,3,4] (.one 15 (.flo [16] (.one 17 (.fin)))))) (by kernel_rfl) (by kernel_rfl) (by intro _ _ d _ _ h;cases d<;>exact h) ?_
      (refine ord_flo (pick_cons rfl (pick_cons rfl (pick_cons rfl (pick_cons rfl (pick_cons rfl (pick_cons rfl (pick_cons rfl (pick_cons rfl (pick_cons rfl (pick_cons rfl (pick_cons rfl (pick_cons rfl pick_nil)))))))))))) ?_;(repeat (go_big_quiet_step (fail)));refine wpQuiet_nil ?_;show ordWalk _ _ _ _ _ _ _)
      (refine ord_pur (pick_cons rfl (pick_cons rfl (pick_cons rfl pick_nil))) ?_;(repeat (go_big_quiet_step (fail)));refine wpQuiet_nil ?_;show ordWalk _ _ _ _ _ _ _)
      refine ord_one (pick_cons rfl pick_nil) ?_;intro K_ hK_
      go_wp2
      (refine ord_flo (pick_cons rfl pick_nil) ?_;(repeat (go_big_quiet_step (fail)));refine wpQuiet_nil ?_;show ordWalk _ _ _ _ _ _ _)
      refine ord_one (pick_cons rfl pick_nil) ?_;intro K_ hK_
      go_wp2
      refine ord_fin ?_
      go_wp2
      go_roundg t.length
      case measure=>simp
      case rel=>exact ⟨q,t,y :: s2,rfl,by go_num,by omega,Lib.hid ((ins_step (HJ.out.ext (X.trans x1)) HV0.out HA.out HQ.out HNX.out HNY.out HTX.out HTY.out).ext (Ext.refl _).drew)⟩
     ·have zv:decide (v<0)=false:=by simpa using hv0
      have HV0:Hid (¬ cmpC x y<0):=Lib.hid (by show ¬ cmpC x y<0;rw [HV.out];exact hv0)
      go_upto_region 4 with fail
      refine wp_region_ord [0,0,3,7,15,15,15,111,239,15,15,1039,3599,7695,16383,32767,65535] (.flo [0,1,2,3,4,5,6,7,8,9,10,11,12,13] (.one 14 (.flo [15,16] (.fin)))) (by kernel_rfl) (by kernel_rfl) (by intro _ _ d _ _ h;cases d<;>exact h) ?_
      (refine ord_flo (pick_cons rfl (pick_cons rfl (pick_cons rfl (pick_cons rfl (pick_cons rfl (pick_cons rfl (pick_cons rfl (pick_cons rfl (pick_cons rfl (pick_cons rfl (pick_cons rfl (pick_cons rfl (pick_cons rfl (pick_cons rfl pick_nil)))))))))))))) ?_;(repeat (go_big_quiet_step (fail)));refine wpQuiet_nil ?_;show ordWalk _ _ _ _ _ _ _)
      refine ord_one (pick_cons rfl pick_nil) ?_;intro K_ hK_
      go_wp2_with (go_at_call 103;refine (order_any x y nx ny tx ty v _ HV HNX HNY HTX HTY (Lib.hid (HRX.out.ext X)) (Lib.hid (HRY.out.ext X))).mono ?_;rintro e w1 ⟨rfl,x1⟩)
      (refine ord_flo (pick_cons rfl (pick_cons rfl pick_nil)) ?_;(repeat (go_big_quiet_step (fail)));refine wpQuiet_nil ?_;show ordWalk _ _ _ _ _ _ _)
      refine ord_fin ?_
      go_wp2
      go_roundg (b - (i+1))
      case measure=>omega
      case rel=>exact ⟨i+1,D++[x],_,T,rfl,by omega,by go_num,Lib.hid (ins_exit HI.out HJ.out (fun z hz=>by simp only [List.getLast?_append,List.getLast?_singleton,Option.some_or] at hz;injection hz with hz;rw [← hz];exact Int.not_lt.2 HV0.out) (X.trans x1))⟩
  ·obtain rfl:i=b:=by omega
   have HT:Hid (T=[]):=Lib.hid (by
    obtain ⟨q1,q2,_⟩:=HI.out
    have:=HSL.out
    rw [q1,List.length_append] at this
    exact List.eq_nil_of_length_eq_zero (by omega))
   go_wp2
   go_end0
   obtain ⟨q1,q2,q3,q4,q5,q6⟩:=HI.out
   rw [HT.out] at q1 q4
   rw [List.append_nil] at q1
   exact ⟨rfl,D',by rw [q1];exact q3,q4,q5⟩
open Go.RowKit
/-- what a sort leaves behind -/
def Sorted (B g c:Nat) (L:List Ud) (w:World) (e:Ending) (w':World):Prop:=e = .returned (.tuple #[]) ∧ ∃ L',Stable cmpC L L'∧Arr w' B g c L'∧w.grownBy w' (some g)
set_option maxRecDepth 100000 in
set_option maxHeartbeats 800000 in
theorem insSort_none (A:Option Addr) (n c a b:Nat) (w:World) (h:b≤a) (ha:a≤1000000000) :
  Calls Tryz.prog 222 #[.slice A n c, .int .i64 a, .int .i64 b, .func (.func 103) #[] #[]] w fun e w'=>e = .returned (.tuple #[])∧w=w':=by
 have h1 : ¬ (a:Int)+1<b:=by omega
 go_enter Tryz.func222,Tryz.ntmps222
 go_wp2
 go_loop [8] (fun v=>v = .int .i64 ((a:Int)+1)) (fun _=>0)
 case atStart=>rfl
 case round =>
  subst hrel
  go_wp2
  go_end0
  exact ⟨rfl,rfl⟩
open Go.RowKit
/-- blocks sorted up to a -/
def Pass1 (B g c:Nat) (L:List Ud) (w wr:World) (a:Nat) (S T:List Ud):Prop :=
 S.length=a∧a+T.length=L.length∧(∀ x∈T,x∈L)∧(∀ T',Bks cmpC 20 T T'→Bks cmpC 20 L (S++T'))∧Arr wr B g c (S++T)∧w.grownBy wr (some g)
theorem Pass1.step {B g c a:Nat} {L:List Ud} {w wr w1:World} {S T1 T2 Z:List Ud} (h:Pass1 B g c L w wr a S (T1++T2)) (h1:T1.length=20) (hz:Stable cmpC T1 Z) (ha:Arr w1 B g c (S++(Z++T2))) (hg:wr.grownBy w1 (some g)):Pass1 B g c L w w1 (a+20) (S++Z) T2:=by
 obtain ⟨q1,q2,q3,q4,q5,q6⟩:=h
 have lz:=stable_len hz
 rw [List.length_append] at q2
 refine ⟨by rw [List.length_append];omega,by omega,fun x hx=>q3 x (List.mem_append_right _ hx),fun T' hT=>?_,by rw [List.append_assoc];exact ha,q6.trans hg⟩
 rw [List.append_assoc]
 exact q4 (Z++T') (.more T1 Z T2 T' h1 hz hT)
theorem Pass1.last {B g c a:Nat} {L:List Ud} {w wr w1:World} {S T Z:List Ud} (h:Pass1 B g c L w wr a S T) (h1:T.length≤20) (hz:Stable cmpC T Z) (ha:Arr w1 B g c (S++Z)) (hg:wr.grownBy w1 (some g)):Bks cmpC 20 L (S++Z)∧Arr w1 B g c (S++Z)∧w.grownBy w1 (some g) :=
 ⟨h.2.2.2.1 Z (.last T Z h1 hz),ha,h.2.2.2.2.2.trans hg⟩
/-- blocks of so many, sorted -/
def Pass2 (B g c s:Nat) (L:List Ud) (w wr:World) (S:List Ud):Prop:=Bks cmpC s L S∧Arr wr B g c S∧w.grownBy wr (some g)
/-- two by two merged, up to a -/
def Pass3 (B g c s:Nat) (L:List Ud) (w wr:World) (a:Nat) (D O R:List Ud):Prop :=
 D.length=a∧a+R.length=L.length∧Bks cmpC s O R∧(∀ x∈R,x∈L)∧(∀ R',Bks cmpC (2 * s) O R'→Bks cmpC (2 * s) L (D++R'))∧Arr wr B g c (D++R)∧w.grownBy wr (some g)
theorem bks_len {s:Nat} {O S:List Ud} (h:Bks cmpC s O S):S.length=O.length:=h.len stable_len
theorem Pass2.start {B g c s:Nat} {L:List Ud} {w wr:World} {S:List Ud} (h:Pass2 B g c s L w wr S):Pass3 B g c s L w wr 0 [] L S :=
 ⟨rfl,by rw [bks_len h.1,Nat.zero_add],h.1,fun x hx=>(h.1.mem cmpC_tot x).1 hx,fun _ h=>h,h.2.1,h.2.2⟩
theorem Pass3.step {B g c s a:Nat} {L:List Ud} {w wr w1:World} {D O1 O2 O3 S1 S2 S3 Z:List Ud} (h:Pass3 B g c s L w wr a D (O1++(O2++O3)) (S1++(S2++S3))) (l1:O1.length=s) (l2:O2.length=s) (s1:Stable cmpC O1 S1) (s2:Stable cmpC O2 S2) (h3:Bks cmpC s O3 S3)
  (hz:Stable cmpC (S1++S2) Z) (ha:Arr w1 B g c (D++(Z++S3))) (hg:wr.grownBy w1 (some g)):Pass3 B g c s L w w1 (a+2 * s) (D++Z) O3 S3:=by
 obtain ⟨q1,q2,q3,q4,q5,q6,q7⟩:=h
 have e1:=stable_len s1
 have e2:=stable_len s2
 have lz:=stable_len hz
 rw [List.length_append] at lz
 simp only [List.length_append] at q2
 refine ⟨by rw [List.length_append];omega,by omega,h3,fun x hx=>q4 x (List.mem_append_right _ (List.mem_append_right _ hx)),fun R' hR=>?_,by rw [List.append_assoc];exact ha,q7.trans hg⟩
 have:=q5 (Z++R') (by
  rw [← List.append_assoc]
  exact .more (O1++O2) Z O3 R' (by rw [List.length_append];omega) (Stable.join s1 s2 hz) hR)
 rwa [List.append_assoc]
theorem Pass3.rest {B g c s a:Nat} {L:List Ud} {w wr w1:World} {D O1 O2 S1 S2 Z:List Ud} (h:Pass3 B g c s L w wr a D (O1++O2) (S1++S2)) (hl:(O1++O2).length≤2 * s) (s1:Stable cmpC O1 S1) (s2:Stable cmpC O2 S2)
  (hz:Stable cmpC (S1++S2) Z) (ha:Arr w1 B g c (D++(Z++[]))) (hg:wr.grownBy w1 (some g)):Pass2 B g c (2 * s) L w w1 (D++Z):=by
 obtain ⟨q1,q2,q3,q4,q5,q6,q7⟩:=h
 exact ⟨q5 Z (.last _ Z hl (Stable.join s1 s2 hz)),by rwa [List.append_nil] at ha,q7.trans hg⟩
theorem Pass3.none {B g c s a:Nat} {L:List Ud} {w wr:World} {D O R:List Ud} (h:Pass3 B g c s L w wr a D O R) (hs:0<s) (hl:O.length≤s):Pass2 B g c (2 * s) L w wr (D++R):=by
 obtain ⟨q1,q2,q3,q4,q5,q6,q7⟩:=h
 exact ⟨q5 R (.last O R (by omega) (q3.all cmpC_tot hs hl)),q6,q7⟩
set_option maxRecDepth 100000 in
set_option maxHeartbeats 16000000 in
theorem stable_any (B g c n:Nat) (L:List Ud) (w:World) (hn:n=L.length) (hbig:n≤1000000000) (h:Arr w B g c L) (hr:Rws w g L) :
  Calls Tryz.prog 181 #[.slice (some ⟨g,0,none⟩) n c, .int .i64 n, .func (.func 103) #[] #[]] w (Sorted B g c L w):=by
 have HR:=Lib.hid hr
 have HN:=Lib.hid hn
 have HP0:Hid (Pass1 B g c L w w 0 [] L):=Lib.hid ⟨rfl,Nat.zero_add _,fun _ h=>h,fun _ h=>h,h,World.grownBy.refl w _⟩
 clear h hr hn
 go_enter Tryz.func181,Tryz.ntmps181
 go_wp2
 go_loopg [7,8] n (fun z u v wr => ∃ (a:Nat) (S T:List Ud),z=n - a∧a≤n∧u = .int .i64 a∧v = .int .i64 ((a+20:Nat):Int)∧Hid (Pass1 B g c L w wr a S T))
 case atStart=>exact ⟨0,[],L,rfl,Nat.zero_le _,rfl,by go_num,HP0⟩
 case round =>
  obtain ⟨a,S,T,rfl,han,rfl,rfl,HJ⟩:=hrel
  clear HP0
  by_cases hlt:a+20≤n
  ·obtain ⟨T1,T2,rfl,ht⟩:=cut_at T 20 (by have:=HJ.out.2.1;have:=HN.out;omega)
   obtain ⟨x0,S0,rfl⟩:=cons_of (l:=T1) (by omega)
   have HT:=Lib.hid ht
   clear ht
   have zl:((a+20:Nat):Int)≤(n:Int):=by omega
   go_wp2_with (go_at_call 222;refine (insSort_some B g c n a (a+20) S S0 T2 x0 _ HJ.out.1.symm (by have:=HJ.out.1;have:=HT.out;rw [List.length_cons] at this;omega) (by have:=HJ.out;have e1:=this.1;have e2:=this.2.1;have e3:=HN.out;rw [List.length_append,e1];omega) HJ.out.2.2.2.2.1 ((HR.out.upd HJ.out.2.2.2.2.2).sub fun x hx=>HJ.out.2.2.1 x (List.mem_append_left _ hx))).mono ?_;rintro e w1 ⟨rfl,Z,s1,s2,s3⟩;have HJ1:=Lib.hid (HJ.out.step HT.out s1 s2 s3);clear s1 s2 s3)
   go_roundg (n - (a+20))
   case measure=>omega
   case rel=>exact ⟨a+20,S++Z,T2,rfl,hlt,by go_num,by go_num,HJ1⟩
  ·have zl : ¬ ((a+20:Nat):Int)≤(n:Int):=by omega
   have HX : ∃ P:World→Prop,(∀ w1,P w1 → ∃ S1,Pass2 B g c 20 L w w1 S1)∧Calls Tryz.prog 222 #[.slice (some ⟨g,0,none⟩) n c, .int .i64 a, .int .i64 n, .func (.func 103) #[] #[]] wr fun e w'=>e = .returned (.tuple #[])∧P w':=by
    refine ⟨fun w1 => ∃ S1,Pass2 B g c 20 L w w1 S1,fun _ h=>h,?_⟩
    have hl:=HJ.out.2.1
    rw [← HN.out] at hl
    by_cases ht:0<T.length
    ·obtain ⟨x0,S0,rfl⟩:=cons_of ht
     refine (insSort_some B g c n a n S S0 [] x0 wr HJ.out.1.symm (by have:=HJ.out.1;rw [List.length_cons] at hl;omega) (by rw [List.append_nil,List.length_append,HJ.out.1];exact hl.symm) (by rw [List.append_nil];exact HJ.out.2.2.2.2.1) ((HR.out.upd HJ.out.2.2.2.2.2).sub fun x hx=>HJ.out.2.2.1 x hx)).mono ?_
     rintro e w1 ⟨rfl,Z,s1,s2,s3⟩
     rw [List.append_nil] at s2
     exact ⟨rfl,_,HJ.out.last (by omega) s1 s2 s3⟩
    ·have e:T=[]:=nil_or ht
     subst e
     refine (insSort_none _ n c a n wr (by rw [List.length_nil] at hl;omega) (by omega)).mono ?_
     rintro e w1 ⟨rfl,rfl⟩
     exact ⟨rfl,_,HJ.out.last (Nat.zero_le _) Stable.nil HJ.out.2.2.2.2.1 (World.grownBy.refl _ _)⟩
   obtain ⟨PP,hp1,hp2⟩:=HX
   have HP1:=Lib.hid hp1
   have HP2:=Lib.hid hp2
   clear hp1 hp2
   go_wp2_with (go_at_call 222;refine HP2.out.mono ?_;rintro e w1 ⟨rfl,s1⟩;obtain ⟨S1,s2⟩:=HP1.out _ s1;have HS:=Lib.hid s2;clear s1 s2)
   clear HP1 HP2
   go_loopg [6,7,8] (n - 20) (fun z u v t wr => ∃ (s:Nat) (S:List Ud),z=n - s∧0<s∧s≤3000000000∧u = .int .i64 s∧Hid (Pass2 B g c s L w wr S))
   case atStart=>exact ⟨20,S1,rfl,by omega,by omega,rfl,HS⟩
   case round =>
    obtain ⟨s,S,rfl,hs0,hs9,rfl,HQ⟩:=hrel
    clear HS HJ
    obtain ⟨wo,hwo⟩ : ∃ wo:World,wo=wr:=⟨_,rfl⟩
    rw [← hwo] at HQ ⊢
    clear hwo
    by_cases hsn:s<n
    ·have HQ3:=Lib.hid HQ.out.start
     go_wp2
     go_loopg [7,8] n (fun z u v wr => ∃ (a:Nat) (D O R:List Ud),z=n - a∧a≤n∧u = .int .i64 a∧v = .int .i64 ((a+2 * s:Nat):Int)∧Hid (Pass3 B g c s L w wr a D O R))
     case atStart=>exact ⟨0,[],L,S,rfl,Nat.zero_le _,rfl,by go_num,HQ3⟩
     case round =>
      obtain ⟨a,D,O,R,rfl,han,rfl,rfl,HI⟩:=hrel
      clear HQ3
      have hOl:O.length=R.length:=(bks_len HI.out.2.2.1).symm
      have hRl:a+R.length=n:=by rw [HN.out];exact HI.out.2.1
      by_cases hlt:a+2 * s≤n
      ·obtain ⟨O1,S1,O2,S2,O3,S3,rfl,rfl,l1,l2,s1,s2,s3⟩:=HI.out.2.2.1.two hs0 (by omega)
       obtain ⟨ms,hms⟩ : ∃ q,q=a+s:=⟨_,rfl⟩
       have zm:(a:Int)+(s:Int)=(ms:Int):=by omega
       have e1:=stable_len s1
       have e2:=stable_len s2
       have HG:=Lib.hid (And.intro l1 (And.intro l2 (And.intro s1 (And.intro s2 s3))))
       have HE:=Lib.hid (And.intro e1 (And.intro e2 hms))
       have hmn:ms≤n:=by omega
       clear l1 l2 s1 s2 s3 e1 e2 hOl hRl hms
       have zl:((a+2 * s:Nat):Int)≤(n:Int):=by omega
       go_wp2_with (go_at_call 223;refine (symM_all (S1.length+S2.length) B g c n a ms (a+2 * s) D S1 S2 S3 _ (Nat.le_refl _) (by have:=HE.out;have:=HG.out;omega) (by have:=HE.out;have:=HG.out;omega) HI.out.1.symm (by have:=HE.out;have:=HG.out;omega) (by have:=HE.out;have:=HG.out;omega) (by have:=HI.out.2.1;have:=HI.out.1;have:=HN.out;rw [List.length_append];omega) HG.out.2.2.1.sorted HG.out.2.2.2.1.sorted HI.out.2.2.2.2.2.1 ((HR.out.upd HI.out.2.2.2.2.2.2).sub fun x hx=>HI.out.2.2.2.1 x (by rcases List.mem_append.1 hx with hx | hx<;>simp [hx])) hbig).mono ?_;rintro e w1 ⟨rfl,Z,z1,z2,z3⟩;have HI1:=Lib.hid (HI.out.step HG.out.1 HG.out.2.1 HG.out.2.2.1 HG.out.2.2.2.1 HG.out.2.2.2.2 z1 z2 z3);clear z1 z2 z3)
       go_roundg (n - (a+2 * s))
       case measure=>omega
       case rel=>exact ⟨a+2 * s,D++Z,O3,S3,rfl,hlt,by go_num,by go_num,HI1⟩
      ·have zl : ¬ ((a+2 * s:Nat):Int)≤(n:Int):=by omega
       obtain ⟨ms,hms⟩ : ∃ q,q=a+s:=⟨_,rfl⟩
       have zm:(a:Int)+(s:Int)=(ms:Int):=by omega
       by_cases hm:a+s<n
       ·obtain ⟨O1,S1,O2,S2,rfl,rfl,l1,s1,s2⟩:=HI.out.2.2.1.rest cmpC_tot hs0 (by omega) (by omega)
        have e1:=stable_len s1
        have e2:=stable_len s2
        have HO:Hid ((O1++O2).length≤2 * s):=Lib.hid (by omega)
        have HG:=Lib.hid (And.intro l1 (And.intro s1 s2))
        have HE:=Lib.hid (And.intro e1 (And.intro e2 (And.intro hRl hms)))
        have zn:(ms:Int)<(n:Int):=by omega
        clear l1 s1 s2 e1 e2 hOl hRl hms
        go_wp2_with (go_at_call 223;refine (symM_all (S1.length+S2.length) B g c n a ms n D S1 S2 [] _ (Nat.le_refl _) (by have:=HE.out;have:=HG.out;omega) (by have:=HE.out;have:=HG.out;simp only [List.length_append] at *;omega) HI.out.1.symm (by have:=HE.out;have:=HG.out;omega) (by have:=HE.out;have:=HG.out;simp only [List.length_append] at *;omega) (by have:=HI.out.2.1;have:=HI.out.1;have:=HN.out;rw [List.append_nil,List.length_append];omega) HG.out.2.1.sorted HG.out.2.2.sorted (by rw [List.append_nil];exact HI.out.2.2.2.2.2.1) ((HR.out.upd HI.out.2.2.2.2.2.2).sub fun x hx=>HI.out.2.2.2.1 x hx) hbig).mono ?_;rintro e w1 ⟨rfl,Z,z1,z2,z3⟩;have HI1:=Lib.hid (HI.out.rest HO.out HG.out.2.1 HG.out.2.2 z1 z2 z3);clear z1 z2 z3)
        go_roundg (n - 2 * s)
        case measure=>omega
        case rel=>exact ⟨2 * s,D++Z,rfl,by omega,by omega,by go_num,HI1⟩
       ·have zn : ¬ (ms:Int)<(n:Int):=by omega
        have HI1:=Lib.hid (HI.out.none hs0 (by omega))
        have hmb:ms≤2000000000:=by omega
        clear hOl hRl hms
        go_wp2
        go_roundg (n - 2 * s)
        case measure=>omega
        case rel=>exact ⟨2 * s,D++R,rfl,by omega,by omega,by go_num,HI1⟩
    ·have HE:Hid (Sorted B g c L w (.returned (.tuple #[])) wo):=Lib.hid ⟨rfl,S,HQ.out.1.all cmpC_tot hs0 (by rw [← HN.out];omega),HQ.out.2.1,HQ.out.2.2⟩
     go_wp2
     go_end0
     exact HE.out
set_option maxRecDepth 100000 in
set_option maxHeartbeats 800000 in
theorem sortStable_any (B g c n:Nat) (L:List Ud) (w:World) (hn:n=L.length) (hbig:n≤1000000000) (h:Arr w B g c L) (hr:Rws w g L) :
  Calls Tryz.prog 102 #[.slice (some ⟨g,0,none⟩) n c, .func (.func 103) #[] #[]] w (Sorted B g c L w):=by
 have H:=Lib.hid h
 have HR:=Lib.hid hr
 have HN:=Lib.hid hn
 clear h hr hn
 go_enter Tryz.func102,Tryz.ntmps102
 go_wp2_with (go_at_call 181;refine (stable_any B g c n L _ HN.out hbig H.out HR.out).mono ?_;rintro e w1 ⟨rfl,s1⟩;have S1:=Lib.hid s1;clear s1)
 go_end0
 exact ⟨rfl,S1.out⟩
end Go.Proofs.YtdgbkpoickbidaaGreatDoor.UdS
namespace Go.Proofs.YtdgbkpoickbidaaGreatDoor
open Go.RowKit

namespace UdS
set_option maxRecDepth 100000 in
set_option maxHeartbeats 400000 in
theorem clip_any (A:Option Addr) (n c:Nat) (w:World) (hn:n≤c) (hc:c≤9223372036854775807) :
  Calls Tryz.prog 105 #[.slice A n c] w fun e w'=>e = .returned (.slice A n n)∧w=w':=by
 go_enter Tryz.func105,Tryz.ntmps105
 cases A with
 | none =>
  go_wp2
  go_ret
  exact ⟨by simp,rfl⟩
 | some a =>
  go_wp2
  go_ret
  exact ⟨by simp,rfl⟩
set_option maxRecDepth 100000 in
set_option maxHeartbeats 400000 in
theorem sortNone_any (A:Option Addr) (c:Nat) (w:World) :
  Calls Tryz.prog 102 #[.slice A 0 c, .func (.func 103) #[] #[]] w fun e w'=>e = .returned (.tuple #[])∧w=w':=by
 have hs : ∀ W:World,Calls Tryz.prog 181 #[.slice A 0 c, .int .i64 0, .func (.func 103) #[] #[]] W fun e w'=>e = .returned (.tuple #[])∧W=w':=fun W=>by
  go_enter Tryz.func181,Tryz.ntmps181
  go_wp2
  go_loop [7,8] (fun u v=>u = .int .i64 0∧v = .int .i64 20) (fun _ _=>0)
  case atStart=>exact ⟨rfl,rfl⟩
  case round =>
   obtain ⟨rfl,rfl⟩:=hrel
   go_wp2_with (go_at_call 222;refine (insSort_none _ 0 c 0 0 _ (Nat.le_refl _) (by decide)).mono ?_;rintro e w1 ⟨rfl,rfl⟩)
   go_loop [6,7,8] (fun u v z=>u = .int .i64 20) (fun _ _ _=>0)
   case atStart=>rfl
   case round =>
    subst hrel
    go_wp2
    go_end0
    exact ⟨rfl,rfl⟩
 go_enter Tryz.func102,Tryz.ntmps102
 go_wp2_with (go_at_call 181;refine (hs _).mono ?_;rintro e w1 ⟨rfl,rfl⟩)
 go_end0
 exact ⟨rfl,rfl⟩
set_option maxRecDepth 100000 in
set_option maxHeartbeats 400000 in
theorem delNone_any (A:Option Addr) (c:Nat) (w:World) :
  Calls Tryz.prog 106 #[.slice A 0 c, .func (.func 107) #[] #[]] w fun e w'=>e = .returned (.slice A 0 c)∧w=w':=by
 have hs : ∀ W:World,Calls Tryz.prog 185 #[.slice A 0 c, .func (.func 107) #[] #[]] W fun e w'=>e = .returned (.int .i64 (-1))∧W=w':=fun W=>by
  go_enter Tryz.func185,Tryz.ntmps185
  go_wp2
  go_loop [8] (fun v=>v = .int .i64 0) (fun _=>0)
  case atStart=>rfl
  case round =>
   subst hrel
   go_wp2
   go_ret
   exact ⟨rfl,rfl⟩
 go_enter Tryz.func106,Tryz.ntmps106
 go_wp2_with (go_at_call 185;refine (hs _).mono ?_;rintro e w1 ⟨rfl,rfl⟩)
 go_ret
 exact ⟨rfl,rfl⟩
set_option maxRecDepth 100000 in
set_option maxHeartbeats 4000000 in
theorem dsum_none (A:Option Addr) (c:Nat) (w:World) (h:Hid (Uin w A c [])) :
  Calls Tryz.prog 16 #[.slice A 0 c] w (DSumRes w []):=by
 have hn:Hid ((0:Nat)=([]:List Ud).length):=Lib.hid rfl
 go_enter Tryz.func16,Tryz.ntmps16
 go_wp2_with (first
  | (go_at_call 101;refine (clone_ups A 0 c [] _ hn h (by decide)).mono ?_;rintro r w1 ⟨A1,c1,rfl,o1,x1⟩;have X1:=Lib.hid x1;clear o1 x1)
  | (go_at_call 102;refine (sortNone_any A1 c1 _).mono ?_;rintro e w2 ⟨rfl,rfl⟩)
  | fail)
 go_loop [4,13] (fun u v=>u = .slice none 0 0∧v = .int .i64 0) (fun _ _=>0)
 case atStart=>exact ⟨rfl,rfl⟩
 case round =>
  obtain ⟨rfl,rfl⟩:=hrel
  go_wp2_with (first
   | (go_at_call 106;refine (delNone_any none 0 _).mono ?_;rintro e w2 ⟨rfl,rfl⟩)
   | (go_at_call 105;refine (clip_any none 0 0 _ (Nat.le_refl _) (by decide)).mono ?_;rintro e w3 ⟨rfl,rfl⟩)
   | fail)
  go_ret
  exact ⟨none,0,[],by simp,rfl,Uout.nil _ _,rfl,X1.out⟩
set_option maxRecDepth 100000 in
set_option maxHeartbeats 16000000 in
theorem dsum_some (A:Option Addr) (c n:Nat) (L:List Ud) (w:World) (h0:0<n) (hn:Hid (n=L.length)) (h:Hid (Uin w A c L)) (h9:n≤1000000) (hin:Hid (∀ x∈L,InN x.uv)) (hr:Hid (∀ x∈L,x.l.length≤1000000000∧x.t.l.length≤1000000000)) :
  Calls Tryz.prog 16 #[.slice A n c] w (DSumRes w L):=by
 have m1:True:=trivial
 go_enter Tryz.func16,Tryz.ntmps16
 go_wp2_with (first
  | (go_at_call 101;have mk:=m1;clear m1 mk;refine (clone_ups A n c L _ hn h h9).mono ?_;rintro r w1 ⟨A1,c1,rfl,o1,x1⟩;have hf:=o1.form h0;obtain ⟨g,eA,hb,hg1,hg2,_,_⟩:=hf;subst eA;have HAr:Hid (Arr w1 w.heap.size g c1 L):=Lib.hid ⟨by rw [← hn.out];exact o1,by have:=o1.le.1;omega⟩;have HRw:Hid (Rws w1 g L):=Lib.hid (Rws.of h.out.ls x1 hg1);have X1:=Lib.hid x1;have HG:=Lib.hid hg1;clear o1 x1 hb hg1 hg2;have m2:True:=trivial)
  | (go_at_call 102;have mk:=m2;clear m2 mk;refine (sortStable_any w.heap.size g c1 n L _ hn.out (by omega) HAr.out HRw.out).mono ?_;rintro e w2 ⟨rfl,S,st,ar,up⟩;have HST:=Lib.hid st;have HSL:Hid (n=S.length):=Lib.hid (by rw [stable_len st];exact hn.out);have HMem:Hid (∀ x∈S,x∈L):=Lib.hid (fun x hx=>(st.mem cmpC_tot x).1 hx);have X2:Hid (Ext w w2):=Lib.hid (X1.out.grown up (fun k e=>by cases e;exact HG.out));have HS:Hid (Uin w2 (some ⟨g,0,none⟩) c1 S):=Lib.hid ⟨ar.1.sl,fun x hx=>((HRw.out.upd up) x (HMem.out x hx)).1⟩;have hgw:w.heap.size≤w2.heap.size:=X2.out.size;clear st ar up)
  | fail)
 have HSI:Hid (∀ x∈S,InN x.uv):=Lib.hid (fun x hx=>hin.out x (HMem.out x hx))
 have HSR:Hid (∀ x∈S,x.l.length≤1000000000∧x.t.l.length≤1000000000):=Lib.hid (fun x hx=>hr.out x (HMem.out x hx))
 have HP0:Hid (DSumAt w w2 S w2 0 none 0 []):=Lib.hid ⟨Uout.nil _ _,rfl,Nat.le_refl _,Ext.refl _,X2.out⟩
 clear h hr
 go_loopg [4,13] n (fun z u v wr => ∃ (i m:Nat) (A2:Option Addr) (c2:Nat) (O:List Ud),z=n - i∧i≤n∧m≤i∧u = .slice A2 m c2∧v = .int .i64 i∧Hid (m=O.length)∧Hid (∀ k,blk A2 c2=some k→w2.heap.size≤k)∧Hid (DSumAt w w2 S wr i A2 c2 O))
 case atStart=>exact ⟨0,0,none,0,[],rfl,Nat.zero_le _,Nat.le_refl _,rfl,rfl,Lib.hid rfl,Lib.hid (fun k hk=>nomatch hk),HP0⟩
 case round =>
  clear HP0
  obtain ⟨i,m,A2,c2,O,rfl,hi,hmi,rfl,rfl,HM,HLo,HP⟩:=hrel
  by_cases hlt:i<n
  ·have hil:i<S.length:=by rw [← HSL.out];exact hlt
   obtain ⟨ad,eA,p0,p1,p2,p3⟩:=(HS.out.ext HP.out.ext).at hil
   cases eA
   rw [show (⟨g,0,none⟩:Addr).add (i * 4)=⟨g,i * 4,none⟩ from by unfold Addr.add;split<;>simp_all] at p0 p1 p2 p3
   have hmm:=getU_mem hil
   obtain ⟨x,hx⟩ : ∃ x,S.getD i Ud.zero=x:=⟨_,rfl⟩
   rw [hx] at p0 p1 p2 p3 hmm
   obtain ⟨nx,hnx⟩ : ∃ nx,nx=x.l.length:=⟨_,rfl⟩
   obtain ⟨tx,htx⟩ : ∃ tx,tx=x.t.l.length:=⟨_,rfl⟩
   rw [← hnx] at p0
   rw [← htx] at p2
   have HNX:=Lib.hid hnx
   have HTX:=Lib.hid htx
   have HX:=Lib.hid hx
   have HIL:=Lib.hid hil
   have hnx9:nx≤1000000000:=by rw [hnx];exact (HSR.out x hmm).1
   have htx9:tx≤1000000000:=by rw [htx];exact (HSR.out x hmm).2
   have HUX:Hid (∀ W,Ext w2 W→UdR W x):=Lib.hid (fun W q=>(HS.out.ls x hmm).ext q)
   obtain ⟨wb,hwb⟩ : ∃ z,z=wr.alloc (.cells #[.slice x.A nx x.c, .int .u64 x.t.e, .slice x.t.A tx x.t.c, .int .i64 x.d] 95):=⟨_,rfl⟩
   have XB:Ext wr wb:=by rw [hwb];exact (Ext.refl wr).alloc _
   have BX:Hid (Bk wb wr.heap.size 95 #[.slice x.A nx x.c, .int .u64 x.t.e, .slice x.t.A tx x.t.c, .int .i64 x.d]):=Lib.hid (by rw [hwb];exact Bk.new _ _ _)
   have HB:Hid (DSumAt w w2 S wb i A2 c2 O):=Lib.hid (HP.out.mono XB)
   clear hil hmm hx hnx htx
   go_upto_region 7 with fail
   rw [← hwb]
   clear hwb p0 p1 p2 p3
   obtain ⟨gu,hgu⟩ : ∃ k,k=wr.heap.size:=⟨_,rfl⟩
   rw [← hgu] at BX ⊢
   clear hgu
   have X:Ext wb wb.drew:=(Ext.refl wb).drew
   have q0 : ∀ z:Xt wb.drew,z.W.cell? ⟨gu,0,none⟩=some (.slice x.A nx x.c):=fun z=>(BX.out.ext (X.trans z.x)).cell 0
   have q1 : ∀ z:Xt wb.drew,z.W.cell? ⟨gu,1,none⟩=some (.int .u64 x.t.e):=fun z=>(BX.out.ext (X.trans z.x)).cell 1
   have q2 : ∀ z:Xt wb.drew,z.W.cell? ⟨gu,2,none⟩=some (.slice x.t.A tx x.t.c):=fun z=>(BX.out.ext (X.trans z.x)).cell 2
   have q3 : ∀ z:Xt wb.drew,z.W.cell? ⟨gu,3,none⟩=some (.int .i64 x.d):=fun z=>(BX.out.ext (X.trans z.x)).cell 3
   cases i with
   | zero =>
    have HOn:Hid (O=[] ∨ ∃ M y,O=M++[y] ∧ ¬ kcmp y.k x.k=0):=Lib.hid (.inl (List.eq_nil_of_length_eq_zero (by rw [← HM.out];omega)))
    refine wp_region_ord [0,1,3,7,7,23,63,127,7,511,1023,2047] (.flo [0,1,2,3,4,5,6,7,8] (.one 9 (.flo [10,11] (.fin)))) (by kernel_rfl) (by kernel_rfl) (by intro _ _ d _ _ h;cases d<;>exact h) ?_
    (refine ord_flo (pick_cons rfl (pick_cons rfl (pick_cons rfl (pick_cons rfl (pick_cons rfl (pick_cons rfl (pick_cons rfl (pick_cons rfl (pick_cons rfl pick_nil))))))))) ?_;(repeat (go_big_quiet_step (fail)));refine wpQuiet_nil ?_;show ordWalk _ _ _ _ _ _ _)
    refine ord_one (pick_cons rfl pick_nil) ?_;intro K_ hK_
    go_wp2
    (refine ord_flo (pick_cons rfl (pick_cons rfl pick_nil)) ?_;(repeat (go_big_quiet_step (fail)));refine wpQuiet_nil ?_;show ordWalk _ _ _ _ _ _ _)
    refine ord_fin ?_
    have HB:=Lib.hid (HB.out.mono X)
    obtain ⟨w3,hw3⟩ : ∃ w3,w3=wb.drew:=⟨_,rfl⟩
    have BX:=Lib.hid (BX.out.ext X)
    rw [← hw3] at HB BX ⊢
    clear hw3 q0 q1 q2 q3 X
    have BX0:=BX.out.cell 0
    have BX1:=BX.out.cell 1
    have BX2:=BX.out.cell 2
    have BX3:=BX.out.cell 3
    have HUW:=Lib.hid (HUX.out _ HB.out.ext)
    have hw3:w.heap.size≤w3.heap.size:=Nat.le_trans hgw HB.out.ext.size
    have m5:True:=trivial
    go_wp2_with (first
     | (go_at_call 104;have mk:=m5;clear m5 mk;refine (ucopied_any x nx tx _ HNX HTX HUW hnx9 htx9).mono ?_;rintro e w4 ⟨A4,c4,B4,b4,rfl,o4,t4,x4⟩;have O4:=Lib.hid o4;have T4:=Lib.hid t4;have X4:=Lib.hid x4;have hw4:w.heap.size≤(w4.alloc (.cells (#[.slice A4 nx c4, .int .u64 x.t.e, .slice B4 tx b4, .int .i64 x.d]:Array Value) 95)).heap.size:=(by have:=x4.size;simp;omega);clear o4 t4 x4;have m6:True:=trivial)
     | (at_builtin;have mk:=m6;clear m6 mk;refine wpList_append_two _ elem_ud w.heap.size _ _ rfl rfl A2 m c2 (udsC O) rfl (by have:=(HB.out.out.ext X4.out).own.alloc (.cells (#[.slice A4 nx c4, .int .u64 x.t.e, .slice B4 tx b4, .int .i64 x.d]:Array Value) 95);rwa [← HM.out] at this) (some ⟨w4.heap.size,0,none⟩) 1 1 [.slice A4 nx c4, .int .u64 x.t.e, .slice B4 tx b4, .int .i64 x.d] rfl (Sl.one w4 #[.slice A4 nx c4, .int .u64 x.t.e, .slice B4 tx b4, .int .i64 x.d] 95 4 rfl) (by intro u hu;simp at hu;rcases hu with rfl | rfl | rfl | rfl<;>rfl) (by omega) (by decide) hw4 ?_;intro A6 c6 w6 o6 g6 h6;have HN6:Hid (DSumAt w w2 S w6 (0+1) A6 c6 (O++[⟨A4,c4,x.l,⟨x.t.e,B4,b4,x.t.l⟩,x.d⟩])):=Lib.hid ⟨Uout.push HB.out.out X4.out (x:=⟨A4,c4,x.l,⟨x.t.e,B4,b4,x.t.l⟩,x.d⟩) (by have:=O4.out;rwa [HNX.out] at this) (by have:=T4.out;rwa [HTX.out] at this) hw3 _ (by have:=o6;rw [HM.out,HNX.out,HTX.out] at this;exact this) g6,dkeep_is HB.out.is HIL.out HX.out HOn.out rfl,by rw [List.length_append, ← HM.out];show m+1≤_;omega,((HB.out.ext.trans X4.out).alloc _).grown g6 (fun k hk=>HLo.out k hk),X2.out⟩;have HL6:Hid (∀ k,blk A6 c6=some k→w2.heap.size≤k):=Lib.hid (fun k hk=>by rcases h6 with ⟨e1,e2⟩ | ⟨e1,_⟩;(subst e1 e2;exact HLo.out k hk);(rw [e1] at hk;injection hk with hk;have q1:=HB.out.ext.size;have q2:=X4.out.size;have q3:=((Ext.refl w4).alloc (.cells (#[.slice A4 nx c4, .int .u64 x.t.e, .slice B4 tx b4, .int .i64 x.d]:Array Value) 95)).size;omega));clear o6 g6 h6)
     | fail)
    go_roundg (n - (0+1))
    case measure=>omega
    case rel=>exact ⟨0+1,m+1,A6,c6,_,rfl,by omega,by omega,rfl,by go_num,Lib.hid (by rw [List.length_append,HM.out];rfl),HL6,HN6⟩
   | succ j =>
    have hjl:j<S.length:=by have:=HIL.out;omega
    obtain ⟨ad,eA,s0,s1,s2,s3⟩:=(HS.out.ext (HB.out.ext.trans X)).at hjl
    cases eA
    rw [show (⟨g,0,none⟩:Addr).add (j * 4)=⟨g,j * 4,none⟩ from by unfold Addr.add;split<;>simp_all] at s0 s1 s2 s3
    have hms:=getU_mem hjl
    obtain ⟨M,y,hOM,hkk⟩:=dlast HST.out.sorted HSI.out HB.out.is hjl
    obtain ⟨s,hs⟩ : ∃ s,S.getD j Ud.zero=s:=⟨_,rfl⟩
    rw [hs] at s0 s1 s2 s3 hms hkk
    obtain ⟨ns,hns⟩ : ∃ ns,ns=s.l.length:=⟨_,rfl⟩
    obtain ⟨ts,hts⟩ : ∃ ts,ts=s.t.l.length:=⟨_,rfl⟩
    rw [← hns] at s0
    rw [← hts] at s2
    have HNS:=Lib.hid hns
    have HTS:=Lib.hid hts
    have HUS:Hid (∀ W,Ext w2 W→UdR W s):=Lib.hid (fun W q=>(HS.out.ls s hms).ext q)
    have S0 : ∀ z:Xt wb.drew,z.W.cell? ⟨g,j * 4,none⟩=some (.slice s.A ns s.c):=fun z=>z.x.cell s0
    have S1 : ∀ z:Xt wb.drew,z.W.cell? ⟨g,j * 4+1,none⟩=some (.int .u64 s.t.e):=fun z=>z.x.cell s1
    have S2 : ∀ z:Xt wb.drew,z.W.cell? ⟨g,j * 4+2,none⟩=some (.slice s.t.A ts s.t.c):=fun z=>z.x.cell s2
    have S3 : ∀ z:Xt wb.drew,z.W.cell? ⟨g,j * 4+3,none⟩=some (.int .i64 s.d):=fun z=>z.x.cell s3
    obtain ⟨v,hv⟩ : ∃ v,cmpC s x=v:=⟨_,rfl⟩
    have HV:=Lib.hid hv
    have HKK:Hid (kcmp y.k x.k=0↔v=0):=Lib.hid (by rw [← hv];exact hkk x)
    have HOM:=Lib.hid hOM
    have HU1:=Lib.hid (HUS.out _ (HB.out.ext.trans X))
    have HU2:=Lib.hid (HUX.out _ (HB.out.ext.trans X))
    have za:decide ((0:Int)<(j:Int)+1)=true:=decide_eq_true (by omega)
    clear hs hms hns hts hv hOM hkk hjl s0 s1 s2 s3
    by_cases hv0:v=0
    ·have HC:Hid (kcmp y.k x.k=0):=Lib.hid (HKK.out.2 hv0)
     subst hv0
     clear HKK
     refine wp_region_ord [0,1,3,7,7,23,63,127,7,511,1023,2047] (.flo [0,1,2,3,4,5,6,7,8] (.one 9 (.flo [10,11] (.fin)))) (by kernel_rfl) (by kernel_rfl) (by intro _ _ d _ _ h;cases d<;>exact h) ?_
     (refine ord_flo (pick_cons rfl (pick_cons rfl (pick_cons rfl (pick_cons rfl (pick_cons rfl (pick_cons rfl (pick_cons rfl (pick_cons rfl (pick_cons rfl pick_nil))))))))) ?_;(repeat (go_big_quiet_step (fail)));refine wpQuiet_nil ?_;show ordWalk _ _ _ _ _ _ _)
     refine ord_one (pick_cons rfl pick_nil) ?_;intro K_ hK_
     go_wp2_with (go_at_call 103;refine (order_any s x ns nx ts tx 0 _ HV HNS HNX HTS HTX HU1 HU2).mono ?_;rintro e w3 ⟨rfl,x3⟩)
     (refine ord_flo (pick_cons rfl (pick_cons rfl pick_nil)) ?_;(repeat (go_big_quiet_step (fail)));refine wpQuiet_nil ?_;show ordWalk _ _ _ _ _ _ _)
     refine ord_fin ?_
     have HB:=Lib.hid (HB.out.mono (X.trans x3))
     have BX:=Lib.hid (BX.out.ext (X.trans x3))
     clear q0 q1 q2 q3 S0 S1 S2 S3 x3
     obtain ⟨p,hp⟩ : ∃ p,p=M.length:=⟨_,rfl⟩
     have hmp:m=p+1:=by rw [HM.out,HOM.out,List.length_append,hp];rfl
     subst hmp
     have HPL:=Lib.hid hp
     have hob:=HB.out.out.own
     have hof:=hob.form (by rw [← HM.out];omega)
     obtain ⟨g2,eA2,hb2,hg2,_,hc2,hf2⟩:=hof
     subst eA2
     have hg3:w2.heap.size≤g2:=HLo.out g2 hb2
     have hyy:(udsC O)[p * 4+3]?=some (.int .i64 y.d):=by
      rw [udsC_at O p 3 (by rw [← HM.out];omega) (by omega),HOM.out,List.getD_eq_getElem?_getD,List.getElem?_append_right (by rw [hp];exact Nat.le_refl _),hp,Nat.sub_self]
      rfl
     have y3:=hc2 _ _ hyy
     have f3:=hf2 (p * 4+3)
     have u3:=BX.out.cell 3
     obtain ⟨sm,hsm⟩ : ∃ sm,w64 (y.d+x.d)=sm:=⟨_,rfl⟩
     have hsm2:IntKind.i64.wrap (y.d+x.d)=sm:=hsm
     have HSM:=Lib.hid hsm
     have X3:Ext w3 w3.drew:=(Ext.refl w3).drew
     have Y3 : ∀ z:Xt w3.drew,z.W.cell? ⟨g2,p * 4+3,none⟩=some (.int .i64 y.d):=fun z=>(X3.trans z.x).cell y3
     have U3 : ∀ z:Xt w3.drew,z.W.cell? ⟨gu,3,none⟩=some (.int .i64 x.d):=fun z=>(X3.trans z.x).cell u3
     have HB3:Hid (DSumAt w w2 S (w3.setCell ⟨g2,p * 4+3,none⟩ (.int .i64 sm)) (j+1+1) (some ⟨g2,0,none⟩) c2 (M++[⟨y.A,y.c,y.l,y.t,sm⟩])):=Lib.hid (DSumAt.join (by have:=HB.out;rwa [HOM.out] at this) HIL.out HX.out HC.out HPL.out HSM.out hg3)
     clear hyy hp hsm hob hc2 hf2 hb2
     go_upto_region 8 with fail
     refine wp_region_ord [0,0,2,6,15,31,63,0,128,511,1023,2047,4095] (.flo [0,1,2,3,4,5,6,7,8,9,10,11] (.one 12 (.fin))) (by kernel_rfl) (by kernel_rfl) (by intro _ _ d _ _ h;cases d<;>exact h) ?_
     (refine ord_flo (pick_cons rfl (pick_cons rfl (pick_cons rfl (pick_cons rfl (pick_cons rfl (pick_cons rfl (pick_cons rfl (pick_cons rfl (pick_cons rfl (pick_cons rfl (pick_cons rfl (pick_cons rfl pick_nil)))))))))))) ?_;(repeat (go_big_quiet_step (fail)));refine wpQuiet_nil ?_;show ordWalk _ _ _ _ _ _ _)
     refine ord_one (pick_cons rfl pick_nil) ?_;intro K_ hK_
     go_wp2
     refine ord_fin ?_
     go_wp2
     go_roundg (n - (j+1+1))
     case measure=>omega
     case rel=>exact ⟨j+1+1,p+1,some ⟨g2,0,none⟩,c2,_,rfl,by omega,by omega,rfl,by go_num,Lib.hid (by rw [List.length_append,HPL.out];rfl),HLo,Lib.hid (HB3.out.mono (Ext.refl _).drew)⟩
    ·have zv:(v==0)=false:=by simpa using hv0
     have HOn:Hid (O=[] ∨ ∃ M y,O=M++[y] ∧ ¬ kcmp y.k x.k=0):=Lib.hid (.inr ⟨M,y,HOM.out,fun q=>hv0 (HKK.out.1 q)⟩)
     refine wp_region_ord [0,1,3,7,7,23,63,127,7,511,1023,2047] (.flo [0,1,2,3,4,5,6,7,8] (.one 9 (.flo [10,11] (.fin)))) (by kernel_rfl) (by kernel_rfl) (by intro _ _ d _ _ h;cases d<;>exact h) ?_
     (refine ord_flo (pick_cons rfl (pick_cons rfl (pick_cons rfl (pick_cons rfl (pick_cons rfl (pick_cons rfl (pick_cons rfl (pick_cons rfl (pick_cons rfl pick_nil))))))))) ?_;(repeat (go_big_quiet_step (fail)));refine wpQuiet_nil ?_;show ordWalk _ _ _ _ _ _ _)
     refine ord_one (pick_cons rfl pick_nil) ?_;intro K_ hK_
     go_wp2_with (go_at_call 103;refine (order_any s x ns nx ts tx v _ HV HNS HNX HTS HTX HU1 HU2).mono ?_;rintro e w3 ⟨rfl,x3⟩)
     (refine ord_flo (pick_cons rfl (pick_cons rfl pick_nil)) ?_;(repeat (go_big_quiet_step (fail)));refine wpQuiet_nil ?_;show ordWalk _ _ _ _ _ _ _)
     refine ord_fin ?_
     have HB:=Lib.hid (HB.out.mono (X.trans x3))
     have BX:=Lib.hid (BX.out.ext (X.trans x3))
     clear q0 q1 q2 q3 S0 S1 S2 S3 x3 X
     have BX0:=BX.out.cell 0
     have BX1:=BX.out.cell 1
     have BX2:=BX.out.cell 2
     have BX3:=BX.out.cell 3
     have HUW:=Lib.hid (HUX.out _ HB.out.ext)
     have hw3:w.heap.size≤w3.heap.size:=Nat.le_trans hgw HB.out.ext.size
     have m5:True:=trivial
     go_wp2_with (first
      | (go_at_call 104;have mk:=m5;clear m5 mk;refine (ucopied_any x nx tx _ HNX HTX HUW hnx9 htx9).mono ?_;rintro e w4 ⟨A4,c4,B4,b4,rfl,o4,t4,x4⟩;have O4:=Lib.hid o4;have T4:=Lib.hid t4;have X4:=Lib.hid x4;have hw4:w.heap.size≤(w4.alloc (.cells (#[.slice A4 nx c4, .int .u64 x.t.e, .slice B4 tx b4, .int .i64 x.d]:Array Value) 95)).heap.size:=(by have:=x4.size;simp;omega);clear o4 t4 x4;have m6:True:=trivial)
      | (at_builtin;have mk:=m6;clear m6 mk;refine wpList_append_two _ elem_ud w.heap.size _ _ rfl rfl A2 m c2 (udsC O) rfl (by have:=(HB.out.out.ext X4.out).own.alloc (.cells (#[.slice A4 nx c4, .int .u64 x.t.e, .slice B4 tx b4, .int .i64 x.d]:Array Value) 95);rwa [← HM.out] at this) (some ⟨w4.heap.size,0,none⟩) 1 1 [.slice A4 nx c4, .int .u64 x.t.e, .slice B4 tx b4, .int .i64 x.d] rfl (Sl.one w4 #[.slice A4 nx c4, .int .u64 x.t.e, .slice B4 tx b4, .int .i64 x.d] 95 4 rfl) (by intro u hu;simp at hu;rcases hu with rfl | rfl | rfl | rfl<;>rfl) (by omega) (by decide) hw4 ?_;intro A6 c6 w6 o6 g6 h6;have HN6:Hid (DSumAt w w2 S w6 ((j+1)+1) A6 c6 (O++[⟨A4,c4,x.l,⟨x.t.e,B4,b4,x.t.l⟩,x.d⟩])):=Lib.hid ⟨Uout.push HB.out.out X4.out (x:=⟨A4,c4,x.l,⟨x.t.e,B4,b4,x.t.l⟩,x.d⟩) (by have:=O4.out;rwa [HNX.out] at this) (by have:=T4.out;rwa [HTX.out] at this) hw3 _ (by have:=o6;rw [HM.out,HNX.out,HTX.out] at this;exact this) g6,dkeep_is HB.out.is HIL.out HX.out HOn.out rfl,by rw [List.length_append, ← HM.out];show m+1≤_;omega,((HB.out.ext.trans X4.out).alloc _).grown g6 (fun k hk=>HLo.out k hk),X2.out⟩;have HL6:Hid (∀ k,blk A6 c6=some k→w2.heap.size≤k):=Lib.hid (fun k hk=>by rcases h6 with ⟨e1,e2⟩ | ⟨e1,_⟩;(subst e1 e2;exact HLo.out k hk);(rw [e1] at hk;injection hk with hk;have q1:=HB.out.ext.size;have q2:=X4.out.size;have q3:=((Ext.refl w4).alloc (.cells (#[.slice A4 nx c4, .int .u64 x.t.e, .slice B4 tx b4, .int .i64 x.d]:Array Value) 95)).size;omega));clear o6 g6 h6)
      | fail)
     go_roundg (n - ((j+1)+1))
     case measure=>omega
     case rel=>exact ⟨(j+1)+1,m+1,A6,c6,_,rfl,by omega,by omega,rfl,by go_num,Lib.hid (by rw [List.length_append,HM.out];rfl),HL6,HN6⟩
  ·obtain rfl:i=n:=by omega
   obtain ⟨j,rfl⟩ : ∃ j,i=j+1:=⟨i - 1,by omega⟩
   obtain ⟨M,y,hOM,_⟩:=dlast HST.out.sorted HSI.out HP.out.is (show j<S.length by rw [← HSL.out];omega)
   have hm0:0<m:=by rw [HM.out,hOM];simp
   have hob:=HP.out.out.own
   have hof:=hob.form (by rw [← HM.out];exact hm0)
   obtain ⟨g2,eA2,hb2,hg2,_,_,_⟩:=hof
   subst eA2
   have hmc:m≤c2:=by have:=hob.le.1;rwa [← HM.out] at this
   have hc9:c2≤9223372036854775807:=hob.le.2
   have HArr:Hid (Arr wr w.heap.size g2 c2 O):=Lib.hid ⟨hob,by omega⟩
   have HV:Hid ((O.filter nzC).map Ud.uv=sumV (L.map Ud.uv)):=Lib.hid (dsum_val hin.out HST.out (by have:=HP.out.is;rwa [List.take_of_length_le (by rw [← HSL.out];exact Nat.le_refl _)] at this))
   have HXE:Hid (Ext w wr):=Lib.hid (X2.out.trans HP.out.ext)
   have HG2:=Lib.hid hg2
   clear hOM hob hb2 hg2
   have m3:True:=trivial
   go_wp2_with (first
    | (go_at_call 106;have mk:=m3;clear m3 mk;refine (deleteFunc_any w.heap.size g2 c2 m O _ HM.out HArr.out).mono ?_;rintro e w5 ⟨m5,rfl,hm5,ar5,up5⟩;have HD:Hid (Uout w5 w.heap.size (some ⟨g2,0,none⟩) c2 (O.filter nzC)):=Lib.hid (Uout.del HP.out.out nzC ar5 up5);have X5:Hid (Ext w w5):=Lib.hid (HXE.out.grown up5 (fun k e=>by cases e;exact HG2.out));have HM5:=Lib.hid hm5;have hm5c:m5≤c2:=(by rw [hm5];exact ar5.1.le.1);clear hm5 ar5 up5;have m4:True:=trivial)
    | (go_at_call 105;have mk:=m4;clear m4 mk;refine (clip_any (some ⟨g2,0,none⟩) m5 c2 _ hm5c hc9).mono ?_;rintro e w6 ⟨rfl,rfl⟩)
    | fail)
   go_ret
   exact ⟨some ⟨g2,0,none⟩,m5,O.filter nzC,by simp,HM5.out,by have:=HD.out.clip;rwa [← HM5.out] at this,HV.out,X5.out⟩
theorem dsum_any (A:Option Addr) (c n:Nat) (L:List Ud) (w:World) (hn:Hid (n=L.length)) (h:Hid (Uin w A c L)) (h9:n≤1000000) (hin:Hid (∀ x∈L,InN x.uv)) (hr:Hid (∀ x∈L,x.l.length≤1000000000∧x.t.l.length≤1000000000)) :
  Calls Tryz.prog 16 #[.slice A n c] w (DSumRes w L):=by
 rcases Nat.eq_zero_or_pos n with h0 | h0
 ·subst h0
  have e:L=[]:=List.eq_nil_of_length_eq_zero hn.out.symm
  subst e
  exact dsum_none A c w h
 ·exact dsum_some A c n L w h0 hn h h9 hin hr
end UdS
open Go.RowKit
open Go.RowKit
open Go.RowKit
/-- counters of 32 bits, not too many -/
def Fine (L:List Tm):Prop := ∀ x∈L,U32 x.l∧x.l.length≤100000
theorem join_ok {mx:Int} {zl:List Int} (e1 e2:Int) (A1 A2:Option Addr) (n c1 c2:Nat) (l1 l2:List Int) (w:World) (hm:Hid (max e1 e2=mx)) (hz:Hid (List.zipWith max l1 l2=zl)) (h1:Sl w 1 A1 n c1 (wds l1)) (h2:Sl w 1 A2 n c2 (wds l2)) (u1:U32 l1) (u2:U32 l2) (hn:n≤100000) :
  Calls Tryz.prog 191 #[.agg #[.int .u64 e1, .slice A1 n c1], .agg #[.int .u64 e2, .slice A2 n c2]] w fun e w' =>
   ∃ A c,e = .returned (.tuple #[.agg #[.int .u64 mx, .slice A n c], .int .u16 0])∧Own w' w.heap.size 180 1 A n c (wds zl)∧Ext w w':=by
 rw [← hm.out, ← hz.out]
 exact join_same e1 e2 A1 A2 n c1 c2 l1 l2 w h1 h2 u1 u2 (by omega)
open Go.RowKit
theorem u32_max {l m:List Int} (h:U32 l) (k:U32 m):U32 (List.zipWith max l m):=by
 intro x hx
 obtain ⟨i,hi,rfl⟩:=List.getElem_of_mem hx
 rw [List.getElem_zipWith]
 rw [List.length_zipWith] at hi
 have a:=h _ (List.getElem_mem (show i<l.length by omega))
 have b:=k _ (List.getElem_mem (show i<m.length by omega))
 omega
theorem u32_min {l m:List Int} (h:U32 l) (k:U32 m):U32 (List.zipWith min l m):=by
 intro x hx
 obtain ⟨i,hi,rfl⟩:=List.getElem_of_mem hx
 rw [List.getElem_zipWith]
 rw [List.length_zipWith] at hi
 have a:=h _ (List.getElem_mem (show i<l.length by omega))
 have b:=k _ (List.getElem_mem (show i<m.length by omega))
 omega
theorem meet_ok {mx:Int} {zl:List Int} (e1 e2:Int) (A1 A2:Option Addr) (n c1 c2:Nat) (l1 l2:List Int) (w:World) (hm:Hid (min e1 e2=mx)) (hz:Hid (List.zipWith min l1 l2=zl)) (h1:Sl w 1 A1 n c1 (wds l1)) (h2:Sl w 1 A2 n c2 (wds l2)) (u1:U32 l1) (u2:U32 l2) (hn:n≤100000) :
  Calls Tryz.prog 192 #[.agg #[.int .u64 e1, .slice A1 n c1], .agg #[.int .u64 e2, .slice A2 n c2]] w fun e w' =>
   ∃ A c,e = .returned (.tuple #[.agg #[.int .u64 mx, .slice A n c], .int .u16 0])∧Own w' w.heap.size 180 1 A n c (wds zl)∧Ext w w':=by
 rw [← hm.out, ← hz.out]
 exact meet_same e1 e2 A1 A2 n c1 c2 l1 l2 w h1 h2 u1 u2 (by omega)
/-- a time in memory of its own -/
def TimeR (v:TV) (w:World) (r:Ending) (w':World):Prop := ∃ A n c,r = .returned (.agg #[.int .u64 v.1, .slice A n c])∧n=v.2.length∧Own w' w.heap.size 180 1 A n c (wds v.2)∧Ext w w'
/-- what stands within the loop: the one time that has been found so far lies in a block of its own -/
structure AdvI (w wr:World) (g:Nat) (A:Option Addr) (c n:Nat) (o:TV):Prop where
 bk:Bk wr g 26 #[.int .u64 o.1, .slice A n c]
 own:Own wr w.heap.size 180 1 A n c (wds o.2)
 u:U32 o.2
theorem AdvI.grow {w wr w2:World} {g:Nat} {A:Option Addr} {c n:Nat} {o:TV} (h:AdvI w wr g A c n o) (x:Ext wr w2):AdvI w w2 g A c n o:=⟨h.bk.ext x,h.own.ext x,h.u⟩
theorem fold_take {V:List TV} {t:TV} {k:Nat} (h:k<V.length):(V.take (k+1)).foldl (advStep t) none=advStep t ((V.take k).foldl (advStep t) none) V[k]:=by
 rw [List.take_succ_eq_append_getElem h,List.foldl_append];rfl
/-- how the loop stands: nothing yet, or one -/
def AdvV (w wr:World) (v:Value) (n:Nat) (acc:Option TV):Prop:=(acc=none∧v = .slice none 0 0) ∨ ∃ g A c o,acc=some o∧v = .slice (some ⟨g,0,none⟩) 1 1∧AdvI w wr g A c n o
set_option maxRecDepth 100000 in
set_option maxHeartbeats 8000000 in
theorem advance_any (AL:Option Addr) (cL m:Nat) (L:List Tm) (e:Int) (A:Option Addr) (n c:Nat) (l:List Int) (w:World) (hm:Hid (m=L.length)) (hL:Hid (Tin w AL cL L)) (fL:Hid (Fine L)) (ht:Hid (Sl w 1 A n c (wds l))) (u:U32 l) (h9:m≤1000000) (hn:n≤100000) :
  Calls Tryz.prog 110 #[.slice AL m cL, .agg #[.int .u64 e, .slice A n c]] w (TimeR (advV (L.map Tm.v) (e,l)) w):=by
 have HN:Hid (n=l.length):=Lib.hid ht.out.wlen.symm
 have HU:=Lib.hid u
 clear u
 go_enter Tryz.func110,Tryz.ntmps110
 go_wp2
 obtain ⟨w0,hw0⟩ : ∃ w0,w0=(w.alloc (Obj.cells #[Value.int IntKind.u64 e,Value.slice A n c] 26)).alloc (Obj.cells #[Value.int IntKind.u64 0,Value.slice none 0 0] 26):=⟨_,rfl⟩
 have x0:Ext w w0:=hw0 ▸ ((Ext.refl w).alloc _).alloc _
 have b0:Bk w0 w.heap.size 26 #[Value.int IntKind.u64 e,Value.slice A n c]:=by subst hw0;exact (Bk.new _ _ _).alloc _
 have r0:Bk w0 (w.heap.size+1) 26 #[Value.int IntKind.u64 0,Value.slice none 0 0]:=by subst hw0;exact Bk.at (by simp)
 rw [← hw0]
 clear hw0
 have X0:=Lib.hid x0
 have B0:=Lib.hid b0
 have R0:=Lib.hid r0
 clear x0 b0 r0
 go_loopg [5,12] m (fun z v5 v12 wr => ∃ (k:Nat) (acc:Option TV),z=m - k∧k≤m∧v12 = .int .i64 k∧Hid (((L.map Tm.v).take k).foldl (advStep (e,l)) none=acc)∧Hid (Ext w0 wr)∧AdvV w0 wr v5 n acc)
 case atStart=>exact ⟨0,none,rfl,Nat.zero_le _,rfl,Lib.hid rfl,Lib.hid (Ext.refl _), .inl ⟨rfl,rfl⟩⟩
 case round =>
  obtain ⟨k,acc,rfl,hk,rfl,HF,HE,hacc⟩:=hrel
  have b0:wr.cell? ⟨w.heap.size,0,none⟩=some (.int .u64 e):=(B0.out.ext HE.out).cell 0
  have b1:wr.cell? ⟨w.heap.size,1,none⟩=some (.slice A n c):=(B0.out.ext HE.out).cell 1
  by_cases hlt:k<m
  ·have hkL:k<L.length:=by rw [← hm.out];exact hlt
   obtain ⟨ad,rfl,q0,q1⟩:=(hL.out.ext (X0.out.trans HE.out)).at (i:=k) hkL
   have HXS:Hid (Sl wr 1 (L.getD k Tm.zero).A (L.getD k Tm.zero).l.length (L.getD k Tm.zero).c (wds (L.getD k Tm.zero).l)):=Lib.hid ((hL.out.ext (X0.out.trans HE.out)).ls _ (getT_mem hkL))
   have hf:=fL.out _ (getT_mem hkL)
   have hkv:=map_at hkL
   obtain ⟨x,hx⟩ : ∃ x,L.getD k Tm.zero=x:=⟨_,rfl⟩
   rw [hx] at q0 q1 HXS hf hkv
   have HKV:=Lib.hid hkv
   have HG:=Lib.hid hf
   clear hx hkv hkL hf
   obtain ⟨f,Ax,cx,lx⟩:=x
   obtain ⟨nx,hnx⟩ : ∃ nx,lx.length=nx:=⟨_,rfl⟩
   have HNX:=Lib.hid hnx
   replace q0:wr.cell? (ad.add (k * 2))=some (.int .u64 f):=q0
   replace q1:wr.cell? ⟨(ad.add (k * 2)).block,(ad.add (k * 2)).off+1,none⟩=some (.slice Ax lx.length cx):=q1
   replace HXS:Hid (Sl wr 1 Ax lx.length cx (wds lx)):=HXS
   replace HG:Hid (U32 lx∧lx.length≤100000):=HG
   rw [hnx] at q1 HXS
   clear hnx
   have XY:Hid (Ext wr (wr.alloc (.cells #[.int .u64 f, .slice Ax nx cx] 26))):=Lib.hid ((Ext.refl _).alloc _)
   have c0:(wr.alloc (.cells #[.int .u64 f, .slice Ax nx cx] 26)).cell? ⟨w.heap.size,0,none⟩=some (.int .u64 e):=(B0.out.ext (HE.out.trans XY.out)).cell 0
   have c1:(wr.alloc (.cells #[.int .u64 f, .slice Ax nx cx] 26)).cell? ⟨w.heap.size,1,none⟩=some (.slice A n c):=(B0.out.ext (HE.out.trans XY.out)).cell 1
   by_cases hs:n=nx
   ·subst hs
    obtain ⟨mx,hmx⟩ : ∃ mx,max e f=mx:=⟨_,rfl⟩
    obtain ⟨zl,hzl⟩ : ∃ zl,List.zipWith max l lx=zl:=⟨_,rfl⟩
    have HMX:=Lib.hid hmx
    have HZL:=Lib.hid hzl
    clear hmx hzl
    have HZU:Hid (U32 zl):=Lib.hid (HZL.out ▸ u32_max HU.out HG.out.1)
    have HM:Hid (maxT (e,l) (f,lx)=(mx,zl)):=Lib.hid (by show (max e f,List.zipWith max l lx)=_;rw [HMX.out,HZL.out])
    have HSM:Hid (same (e,l) (f,lx)=true):=Lib.hid (decide_eq_true (by have a:=HNX.out;have b:=HN.out;show l.length=lx.length;omega))
    rcases hacc with ⟨rfl,rfl⟩ | ⟨g,A1,c1_,o,rfl,rfl,hI⟩
    ·go_wp2_with (first
      | (go_at_call 191;refine (join_ok e f A Ax n c cx l lx _ HMX HZL (ht.out.ext ((X0.out.trans HE.out).trans XY.out)) (HXS.out.ext XY.out) HU.out HG.out.1 hn).mono ?_;rintro r w3 ⟨A3,c3,rfl,o3,x3⟩;have HO3:=Lib.hid o3;have X3:=Lib.hid x3;clear o3 x3))
     go_roundg (m - (k+1))
     case measure=>omega
     case rel =>
      have hs3:=X3.out.size
      refine ⟨k+1,some (mx,zl),by omega,by omega,by go_num,Lib.hid ?_,Lib.hid ((((HE.out.trans XY.out).trans X3.out).alloc _).alloc _), .inr ⟨w3.heap.size+1,A3,c3,(mx,zl),rfl,rfl,⟨Bk.at (by simp),?_,HZU.out⟩⟩⟩
      ·obtain ⟨h1,h2⟩:=HKV.out
       rw [fold_take h1,HF.out,h2]
       show (if same (e,l) (f,lx)=true then some (maxT (e,l) (f,lx)) else none)=_
       rw [if_pos HSM.out,HM.out]
      ·exact ((HO3.out.mono (Nat.le_trans HE.out.size XY.out.size)).alloc _).alloc _
    ·have HI:=Lib.hid hI
     clear hI
     obtain ⟨mn,hmn⟩ : ∃ mn,min o.1 mx=mn:=⟨_,rfl⟩
     obtain ⟨zn,hzn⟩ : ∃ zn,List.zipWith min o.2 zl=zn:=⟨_,rfl⟩
     have HMN:=Lib.hid hmn
     have HZN:=Lib.hid hzn
     clear hmn hzn
     have HM2:Hid (minT o (mx,zl)=(mn,zn)):=Lib.hid (by show (min o.1 mx,List.zipWith min o.2 zl)=_;rw [HMN.out,HZN.out])
     go_wp2_with (first
      | (go_at_call 191;refine (join_ok e f A Ax n c cx l lx _ HMX HZL (ht.out.ext ((X0.out.trans HE.out).trans XY.out)) (HXS.out.ext XY.out) HU.out HG.out.1 hn).mono ?_;rintro r w3 ⟨A3,c3,rfl,o3,x3⟩;have HO3:=Lib.hid o3;have X3:=Lib.hid x3;clear o3 x3))
     obtain ⟨w8,hw8⟩ : ∃ w8,w8=w3.alloc (Obj.cells #[Value.int IntKind.u64 mx,Value.slice A3 n c3] 26):=⟨_,rfl⟩
     have x8:Ext w3 w8:=hw8 ▸ (Ext.refl w3).alloc _
     have j8:Bk w8 w3.heap.size 26 #[Value.int IntKind.u64 mx,Value.slice A3 n c3]:=by subst hw8;exact Bk.new _ _ _
     rw [← hw8]
     clear hw8 c0 c1 b0 b1 q0 q1
     have X:Ext w8 w8.drew:=(Ext.refl w8).drew
     have I8:AdvI w0 w8.drew g A1 c1_ n o:=HI.out.grow (((XY.out.trans X3.out).trans x8).trans X)
     have HI8:=Lib.hid I8
     have HJ8:=Lib.hid j8
     have HX8:=Lib.hid x8
     have y1 : ∀ y:Xt w8.drew,y.W.cell? ⟨g,0,none⟩=some (.int .u64 o.1):=fun y=>(HI8.out.bk.ext y.x).cell 0
     have y2 : ∀ y:Xt w8.drew,y.W.cell? ⟨g,1,none⟩=some (.slice A1 n c1_):=fun y=>(HI8.out.bk.ext y.x).cell 1
     have y3 : ∀ y:Xt w8.drew,y.W.cell? ⟨w3.heap.size,0,none⟩=some (.int .u64 mx):=fun y=>(HJ8.out.ext (X.trans y.x)).cell 0
     have y4 : ∀ y:Xt w8.drew,y.W.cell? ⟨w3.heap.size,1,none⟩=some (.slice A3 n c3):=fun y=>(HJ8.out.ext (X.trans y.x)).cell 1
     clear I8 j8 x8
     refine wp_region_ord [0,1,3,0,15,31,63,63,127] (.flo [0,1,2,3] (.one 4 (.flo [5,6] (.pur [7] (.one 8 (.fin)))))) (by kernel_rfl) (by kernel_rfl) (by intro _ _ d _ _ h;cases d<;>exact h) ?_
     (refine ord_flo (pick_cons rfl (pick_cons rfl (pick_cons rfl (pick_cons rfl pick_nil)))) ?_;(repeat (go_big_quiet_step (fail)));refine wpQuiet_nil ?_;show ordWalk _ _ _ _ _ _ _)
     refine ord_one (pick_cons rfl pick_nil) ?_;intro K_ hK_
     go_wp2_with (first
      | (go_at_call 192;refine (meet_ok o.1 mx A1 A3 n c1_ c3 o.2 zl _ HMN HZN HI8.out.own.sl ((HO3.out.sl.ext HX8.out).ext X) HI8.out.u HZU.out hn).mono ?_;rintro r w5 ⟨A5,c5,rfl,o5,x5⟩;have HO5:=Lib.hid o5;have X5:=Lib.hid x5;clear o5 x5))
     have J5:=(HJ8.out.ext X).ext X5.out
     have z0:=J5.cell 0
     have z1:=J5.cell 1
     have z2:=J5.free 0
     have z3:=J5.free 1
     have z4:=J5.set2 (.int .u64 mn) (.slice A5 n c5)
     have z5:=z4.1
     have z6:=z4.2
     clear z4
     have HJ5:=Lib.hid J5
     clear J5
     (refine ord_flo (pick_cons rfl (pick_cons rfl pick_nil)) ?_;(repeat (go_big_quiet_step (fail)));refine wpQuiet_nil ?_;show ordWalk _ _ _ _ _ _ _)
     (refine ord_pur (pick_cons rfl pick_nil) ?_;(repeat (go_big_quiet_step (fail)));refine wpQuiet_nil ?_;show ordWalk _ _ _ _ _ _ _)
     refine ord_one (pick_cons rfl pick_nil) ?_;intro K_ hK_
     go_wp2
     refine ord_fin ?_
     go_wp2
     go_roundg (m - (k+1))
     case measure=>omega
     case rel =>
      have hb5:w3.heap.size<w8.drew.heap.size:=HJ8.out.lt
      have s8:w3.heap.size≤w5.heap.size:=Nat.le_trans (Nat.le_of_lt hb5) X5.out.size
      have e3:Ext w0 w3:=(HE.out.trans XY.out).trans X3.out
      have e5:Ext w0 w5:=((e3.trans HX8.out).trans X).trans X5.out
      refine ⟨k+1,some (mn,zn),by omega,by omega,by go_num,Lib.hid ?_,Lib.hid (((e5.set e3.size _).set e3.size _).alloc _), .inr ⟨w5.heap.size,A5,c5,(mn,zn),rfl,rfl,⟨Bk.at (by simp),?_,HZN.out ▸ u32_min HI8.out.u HZU.out⟩⟩⟩
      ·obtain ⟨h1,h2⟩:=HKV.out
       rw [fold_take h1,HF.out,h2]
       show (if same (e,l) (f,lx)=true then some (minT o (maxT (e,l) (f,lx))) else _)=_
       rw [if_pos HSM.out,HM.out,HM2.out]
      ·exact ((((HO5.out.far (HO5.out.ne hb5) _).far (HO5.out.ne hb5) _).mono (Nat.le_trans e3.size (Nat.le_of_lt hb5))).alloc _)
   ·have hne:((n:Int) != (nx:Int))=true:=by simp;omega
    have HS:=Lib.hid hs
    clear hs
    go_wp2_with (first
     | (go_at_call 191;refine (join_diff e f A Ax n nx c cx _ hne).mono ?_;rintro r w3 ⟨rfl,x3⟩;have X3:=Lib.hid x3;clear x3))
    go_roundg (m - (k+1))
    case measure=>omega
    case rel =>
     have XX:=(XY.out.trans X3.out).alloc (.cells #[.int .u64 0, .slice none 0 0] 26)
     refine ⟨k+1,acc,by omega,by omega,by go_num,Lib.hid ?_,Lib.hid (HE.out.trans XX),?_⟩
     ·obtain ⟨h1,h2⟩:=HKV.out
      rw [fold_take h1,HF.out,h2]
      unfold advStep
      rw [if_neg (by have a:=HNX.out;have b:=HN.out;have cc:=HS.out;show ¬ same (e,l) (f,lx)=true;unfold same;rw [decide_eq_true_iff];show ¬ l.length=lx.length;omega)]
     ·rcases hacc with ⟨h1,h2⟩ | ⟨g,A1,c1_,o,h1,h2,hI⟩
      ·exact .inl ⟨h1,h2⟩
      ·exact .inr ⟨g,A1,c1_,o,h1,h2,hI.grow XX⟩
  ·obtain rfl:k=m:=by omega
   have HF2:Hid (advO (L.map Tm.v) (e,l)=acc):=Lib.hid (by have:=HF.out;rwa [show k=(L.map Tm.v).length by rw [List.length_map];exact hm.out,List.take_length] at this)
   have HR:=Lib.hid (R0.out.ext HE.out)
   rcases hacc with ⟨rfl,rfl⟩ | ⟨g,A1,c1_,o,rfl,rfl,hI⟩
   ·go_wp2_with (first
     | (go_at_call 142;refine (copied_any e A n c l _ (Lib.hid (ht.out.ext (X0.out.trans HE.out))) (by omega)).mono ?_;rintro r w4 ⟨A4,c4,rfl,o4,x4⟩;have HO4:=Lib.hid o4;have X4:=Lib.hid x4;clear o4 x4;have RB:=HR.out.ext X4.out;have z0:=RB.cell 0;have z1:=RB.cell 1;have z2:=RB.free 0;have z3:=RB.free 1;have HRB:=Lib.hid RB;clear RB))
    have bb:=HRB.out.set2 (.int .u64 e) (.slice A4 n c4)
    have hb:w.heap.size+1<wr.heap.size:=HR.out.lt
    refine bodyPost_ret (v := .agg #[.int .u64 e, .slice A4 n c4]) (by simp [results,Tryz.results110,go_sem,bb.1,bb.2]) rfl ⟨A4,n,c4,?_,?_,?_,?_⟩
    ·unfold advV;rw [HF2.out];rfl
    ·unfold advV;rw [HF2.out];exact HN.out
    ·have:(advV (L.map Tm.v) (e,l)).2=l:=by unfold advV;rw [HF2.out];rfl
     rw [this]
     exact (((HO4.out.far (HO4.out.ne hb) _).far (HO4.out.ne hb) _).mono (by omega))
    ·exact ((((X0.out.trans HE.out).trans X4.out).set (by simp) _).set (by simp) _)
   ·have I:=Lib.hid hI
    have z0:=I.out.bk.cell 0
    have z1:=I.out.bk.cell 1
    have z2:=HR.out.cell 0
    have z3:=HR.out.cell 1
    have z4:=HR.out.free 0
    have z5:=HR.out.free 1
    clear hI
    replace z0:wr.cell? ⟨g,0,none⟩=some (.int .u64 o.1):=z0
    replace z1:wr.cell? ⟨g,1,none⟩=some (.slice A1 n c1_):=z1
    go_wp2
    have bb:=HR.out.set2 (.int .u64 o.1) (.slice A1 n c1_)
    refine bodyPost_ret (v := .agg #[.int .u64 o.1, .slice A1 n c1_]) (by simp [results,Tryz.results110,go_sem,bb.1,bb.2]) rfl ⟨A1,n,c1_,?_,?_,?_,?_⟩
    ·unfold advV;rw [HF2.out];rfl
    ·have q:=advV_len (L.map Tm.v) (e,l)
     rw [q];exact HN.out
    ·have:(advV (L.map Tm.v) (e,l)).2=o.2:=by unfold advV;rw [HF2.out];rfl
     rw [this]
     exact ((I.out.own.far (I.out.own.ne R0.out.lt) _).far (I.out.own.ne R0.out.lt) _).mono X0.out.size
    ·exact (((X0.out.trans HE.out).set (by simp) _).set (by simp) _)
open Go.RowKit
theorem uadvance_at {v:TV} (AL:Option Addr) (cL m:Nat) (L:List Tm) (e:Int) (A:Option Addr) (n c:Nat) (l:List Int) (w:World) (hv:Hid (advV (L.map Tm.v) (e,l)=v)) (hm:Hid (m=L.length)) (hL:Hid (Tin w AL cL L)) (fL:Hid (Fine L)) (ht:Hid (Sl w 1 A n c (wds l))) (u:U32 l) (h9:m≤1000000) (hn:n≤100000) :
  Calls Tryz.prog 110 #[.slice AL m cL, .agg #[.int .u64 e, .slice A n c]] w (TimeR v w):=hv.out ▸ advance_any AL cL m L e A n c l w hm hL fL ht u h9 hn
def advK (S:List TV) (v:UV):UV:=((v.1.1,advV S v.1.2),v.2)
theorem udsC_set12 (K R:List Ud) (x:Ud) (f:Int) (A:Option Addr) (c:Nat) (l:List Int) {i:Nat} (hi:i=K.length):((udsC (K++x :: R)).set (i * 4+1) (.int .u64 f)).set (i * 4+2) (.slice A l.length c)=udsC (K++⟨x.A,x.c,x.l,⟨f,A,c,l⟩,x.d⟩ :: R):=by
 subst hi
 have e:udsC (K++x :: R)=udsC K++(udC x++udsC R):=by rw [udsC_append];rfl
 rw [e,List.set_append_right _ _ (by rw [udsC_len];omega),udsC_len,Nat.add_sub_cancel_left,List.set_append_right _ _ (by rw [udsC_len];omega),udsC_len,Nat.add_sub_cancel_left,udsC_append]
 rfl
/-- so far: K has the new times, the rest is as it was -/
structure UAdvI (w wr:World) (g c:Nat) (S:List TV) (L:List Ud) (i:Nat) (K:List Ud):Prop where
 own:Own wr w.heap.size 95 4 (some ⟨g,0,none⟩) L.length c (udsC (K++L.drop i))
 rws:UdS.Rws wr g (K++L.drop i)
 len:K.length=i
 vals:K.map Ud.uv=((L.take i).map Ud.uv).map (advK S)
 ext:Ext w wr
 gl:w.heap.size≤g∧g<wr.heap.size
theorem UAdvI.mono {w wr w2:World} {g c i:Nat} {S:List TV} {L K:List Ud} (h:UAdvI w wr g c S L i K) (x:Ext wr w2):UAdvI w w2 g c S L i K :=
 ⟨h.own.ext x,h.rws.ext x,h.len,h.vals,h.ext.trans x,⟨h.gl.1,Nat.lt_of_lt_of_le h.gl.2 x.size⟩⟩
theorem UAdvI.step {w wr w2:World} {g c i:Nat} {S:List TV} {L K:List Ud} {x:Ud} {v:TV} {A:Option Addr} {nn cc:Nat} (h:UAdvI w wr g c S L i K) (hi:i<L.length) (hx:L.getD i Ud.zero=x) (hv:advV S x.t.v=v) (q:Ext wr w2) (hn:nn=v.2.length) (o:Own w2 wr.heap.size 180 1 A nn cc (wds v.2)) :
  UAdvI w ((w2.setCell ⟨g,i * 4+1,none⟩ (.int .u64 v.1)).setCell ⟨g,i * 4+2,none⟩ (.slice A nn cc)) g c S L (i+1) (K++[⟨x.A,x.c,x.l,⟨v.1,A,cc,v.2⟩,x.d⟩]):=by
 subst hn
 have h2:=h.mono q
 have hd:L.drop i=x :: L.drop (i+1):=by rw [dropU hi,hx]
 have hup:w2.grownBy ((w2.setCell ⟨g,i * 4+1,none⟩ (.int .u64 v.1)).setCell ⟨g,i * 4+2,none⟩ (.slice A v.2.length cc)) (some g):=(upd_set w2 g _ _).trans (upd_set _ g _ _)
 have hxm:x∈K++L.drop i:=by rw [hd];simp
 refine ⟨?_,?_,by rw [List.length_append,h.len];rfl,?_,((h2.ext.set (p:=⟨g,_,none⟩) h.gl.1 _).set (p:=⟨g,_,none⟩) h.gl.1 _),⟨h.gl.1,by rw [World.size_setCell,World.size_setCell];exact h2.gl.2⟩⟩
 ·have:=(h2.own.put (i * 4+1) (.int .u64 v.1)).put (i * 4+2) (.slice A v.2.length cc)
  rw [hd,udsC_set12 K (L.drop (i+1)) x v.1 A cc v.2 h.len.symm] at this
  rwa [List.append_assoc]
 ·intro y hy
  rw [List.append_assoc] at hy
  rcases List.mem_append.1 hy with hy | hy
  ·exact (h2.rws.upd hup) y (List.mem_append_left _ hy)
  ·rcases List.mem_cons.1 hy with rfl | hy
   ·have hxx:=(h2.rws.upd hup) x hxm
    have ot:=o.kept hup (by
     cases hb:blk A cc with
     | none=>exact .inl rfl
     | some k=>exact .inr (fun e=>by injection e with e;have:=(o.lt k hb).1;have:=h.gl.2;omega))
    refine ⟨⟨hxx.1.r,ot.sl⟩,hxx.2.1,fun hn ad e=>?_⟩
    obtain ⟨k,e2,hb,hk,_⟩:=o.form hn
    replace e:A=some ad:=e
    rw [e2] at e
    injection e with e
    subst e
    show k≠g
    have:=h.gl.2
    omega
   ·exact (h2.rws.upd hup) y (List.mem_append_right _ (by rw [hd];exact List.mem_cons_of_mem _ hy))
 ·rw [takeU hi,hx,List.map_append,List.map_append,List.map_append,h.vals]
  congr 1
  show [(((x.l,(v.1,v.2)),x.d):UV)]=[advK S x.uv]
  unfold advK
  show _=[((x.l,advV S x.t.v),x.d)]
  rw [hv]
/-- what Advance hands back -/
def DAdvRes (w:World) (V:List UV) (e:Ending) (w':World):Prop := ∃ A m R,e = .returned (.slice A m m)∧m=R.length∧Uout w' w.heap.size A m R∧R.map Ud.uv=V∧Ext w w'
theorem DAdvRes.of {w w0 w':World} {L:List Ud} {V:List UV} {e:Ending} (h:UdS.DSumRes w0 L e w') (x:Ext w w0) (hv:UdS.sumV (L.map Ud.uv)=V):DAdvRes w V e w':=by
 obtain ⟨A,m,R,e1,e2,o,v,x2⟩:=h
 exact ⟨A,m,R,e1,e2,o.mono x.size,by rw [v,hv],x.trans x2⟩
theorem dsum_at {V:List UV} (A:Option Addr) (c n:Nat) (L:List Ud) (w:World) (hv:Hid (UdS.sumV (L.map Ud.uv)=V)) (hn:Hid (n=L.length)) (h:Hid (Uin w A c L)) (h9:n≤1000000) (hin:Hid (∀ x∈L,UdS.InN x.uv)) (hr:Hid (∀ x∈L,x.l.length≤1000000000∧x.t.l.length≤1000000000)) :
  Calls Tryz.prog 16 #[.slice A n c] w (DAdvRes w V):=(UdS.dsum_any A c n L w hn h h9 hin hr).mono fun e w' q=>DAdvRes.of q (Ext.refl _) hv.out
set_option maxRecDepth 100000 in
set_option maxHeartbeats 4000000 in
theorem dadv_none (A:Option Addr) (c:Nat) (S0:Value) (w:World) (h:Hid (Uin w A c [])) :
  Calls Tryz.prog 18 #[.slice A 0 c,S0] w (DAdvRes w []):=by
 have hn:Hid ((0:Nat)=([]:List Ud).length):=Lib.hid rfl
 have hin:Hid (∀ x∈([]:List Ud),UdS.InN x.uv):=Lib.hid (fun x hx=>nomatch hx)
 have hr:Hid (∀ x∈([]:List Ud),x.l.length≤1000000000∧x.t.l.length≤1000000000):=Lib.hid (fun x hx=>nomatch hx)
 go_enter Tryz.func18,Tryz.ntmps18
 go_wp2_with (first
  | (go_at_call 101;refine (clone_ups A 0 c [] _ hn h (by decide)).mono ?_;rintro r w1 ⟨A1,c1,rfl,o1,x1⟩;have X1:=Lib.hid x1;have HU:Hid (Uin w1 A1 c1 []):=Lib.hid ⟨o1.sl,fun x hx=>nomatch hx⟩;clear o1 x1)
  | fail)
 go_loop [12] (fun u=>u = .int .i64 0) (fun _=>0)
 case atStart=>rfl
 case round =>
  subst hrel
  go_wp2_with (first
   | (go_at_call 16;refine (UdS.dsum_any A1 c1 0 [] _ hn HU (by decide) hin hr).mono ?_;rintro r w2 hres;have HR:=Lib.hid (DAdvRes.of hres X1.out rfl);obtain ⟨A2,m2,R2,rfl,h2⟩:=hres;clear h2)
   | fail)
  go_ret
  exact HR.out
set_option maxRecDepth 100000 in
set_option maxHeartbeats 8000000 in
theorem dadv_some (A:Option Addr) (c n:Nat) (L:List Ud) (AS:Option Addr) (cS nS:Nat) (S:List Tm) (w:World) (h0:0<n) (hn:Hid (n=L.length)) (h:Hid (Uin w A c L)) (h9:n≤1000000) (hin:Hid (∀ x∈L,InU x)) (hnS:Hid (nS=S.length)) (hS:Hid (Tin w AS cS S)) (fS:Hid (Fine S)) (h9S:nS≤1000000) :
  Calls Tryz.prog 18 #[.slice A n c, .slice AS nS cS] w (DAdvRes w (UdS.sumV ((L.map Ud.uv).map (advK (S.map Tm.v))))):=by
 go_enter Tryz.func18,Tryz.ntmps18
 go_wp2_with (first
  | (go_at_call 101;refine (clone_ups A n c L _ hn h h9).mono ?_;rintro r w1 ⟨A1,c1,rfl,o1,x1⟩;have hf:=o1.form h0;obtain ⟨g,eA,hb,hg1,hg2,_,_⟩:=hf;subst eA;have HP0:Hid (UAdvI w w1 g c1 (S.map Tm.v) L 0 []):=Lib.hid ⟨by rw [← hn.out];exact o1,UdS.Rws.of h.out.ls x1 hg1,rfl,rfl,x1,⟨hg1,hg2⟩⟩;clear o1 x1 hb hg1 hg2)
  | fail)
 go_loopg [12] n (fun z v wr => ∃ (i:Nat) (K:List Ud),z=n - i∧i≤n∧v = .int .i64 i∧Hid (UAdvI w wr g c1 (S.map Tm.v) L i K))
 case atStart=>exact ⟨0,[],rfl,Nat.zero_le _,rfl,HP0⟩
 case round =>
  clear HP0
  obtain ⟨i,K,rfl,hi,rfl,HP⟩:=hrel
  by_cases hlt:i<n
  ·have hil:i<L.length:=by rw [← hn.out];exact hlt
   have hKl:(K++L.drop i).length=L.length:=by rw [List.length_append,HP.out.len,List.length_drop];omega
   have hU:Uin wr (some ⟨g,0,none⟩) c1 (K++L.drop i):=⟨by have:=HP.out.own.sl;rwa [← hKl] at this,fun y hy=>(HP.out.rws y hy).1⟩
   obtain ⟨ad,eA,p0,p1,p2,p3⟩:=hU.at (i:=i) (by rw [hKl];exact hil)
   cases eA
   rw [show (⟨g,0,none⟩:Addr).add (i * 4)=⟨g,i * 4,none⟩ from by unfold Addr.add;split<;>simp_all] at p0 p1 p2 p3
   have hm:=getU_mem hil
   obtain ⟨x,hx⟩ : ∃ x,L.getD i Ud.zero=x:=⟨_,rfl⟩
   have hgx:(K++L.drop i).getD i Ud.zero=x:=by
    rw [List.getD_eq_getElem?_getD,List.getElem?_append_right (by rw [HP.out.len];exact Nat.le_refl _),HP.out.len,Nat.sub_self,dropU hil,hx]
    rfl
   have hxm:x∈K++L.drop i:=by rw [dropU hil,hx];simp
   have hux:=(HP.out.rws x hxm).1
   rw [hgx] at p0 p1 p2 p3
   rw [hx] at hm
   obtain ⟨nx,hnx⟩ : ∃ nx,nx=x.l.length:=⟨_,rfl⟩
   obtain ⟨tx,htx⟩ : ∃ tx,tx=x.t.l.length:=⟨_,rfl⟩
   rw [← hnx] at p0
   rw [← htx] at p2
   have HX:=Lib.hid hx
   have HIL:=Lib.hid hil
   have HTX:Hid (∀ W,Ext wr W→Sl W 1 x.t.A tx x.t.c (wds x.t.l)):=Lib.hid (fun W q=>by rw [htx];exact hux.t.ext q)
   have htx9:tx≤100000:=by rw [htx];exact (hin.out x hm).tn
   have UX:=Lib.hid (hin.out x hm).tu
   obtain ⟨v,hv⟩ : ∃ v,advV (S.map Tm.v) (x.t.e,x.t.l)=v:=⟨_,rfl⟩
   have HV:=Lib.hid hv
   have XA:Ext wr (wr.alloc (.cells #[.slice x.A nx x.c, .int .u64 x.t.e, .slice x.t.A tx x.t.c, .int .i64 x.d] 95)):=(Ext.refl wr).alloc _
   have HST:Hid (∀ W,Ext wr W→Tin W AS cS S):=Lib.hid (fun W q=>(hS.out.ext HP.out.ext).ext q)
   have hgw:=HP.out.gl.2
   clear hil hm hx hnx htx hv hU hKl hgx hxm hux
   go_wp2_with (first
    | (go_at_call 110;refine (uadvance_at AS cS nS S x.t.e x.t.A tx x.t.c x.t.l _ HV hnS (Lib.hid (HST.out _ XA)) fS (Lib.hid (HTX.out _ XA)) UX.out h9S htx9).mono ?_;rintro r w3 ⟨A3,n3,c3,rfl,hn3,o3,x3⟩;have HN3:=Lib.hid hn3;have O3:Hid (Own w3 wr.heap.size 180 1 A3 n3 c3 (wds v.2)):=Lib.hid (o3.mono XA.size);have X3:=Lib.hid (XA.trans x3);have H3:=HP.out.mono X3.out;obtain ⟨u1,y1⟩:=Option.isSome_iff_exists.1 (show (w3.cell? ⟨g,i * 4+1,none⟩).isSome=true by rw [X3.out.cell p1];rfl);obtain ⟨u2,y2⟩:=Option.isSome_iff_exists.1 (show (w3.cell? ⟨g,i * 4+2,none⟩).isSome=true by rw [X3.out.cell p2];rfl);have hfz:=(H3.own.form (show 0<L.length by have:=HIL.out;omega));obtain ⟨g',eg,_,_,_,_,hf⟩:=hfz;cases eg;have f1:=hf (i * 4+1);have f2:=hf (i * 4+2);clear hf H3 hn3 o3 x3)
    | fail)
   go_roundg (n - (i+1))
   case measure=>omega
   case rel=>exact ⟨i+1,_,rfl,by omega,by go_num,Lib.hid (HP.out.step HIL.out HX.out HV.out X3.out HN3.out O3.out)⟩
  ·obtain rfl:i=n:=by omega
   have hd:L.drop i=[]:=List.drop_of_length_le (by rw [← hn.out];exact Nat.le_refl _)
   have hKl:K.length=L.length:=by rw [HP.out.len];exact hn.out
   have HU:Hid (Uin wr (some ⟨g,0,none⟩) c1 K):=Lib.hid ⟨by have:=HP.out.own.sl;rw [hd,List.append_nil] at this;rwa [hKl],fun y hy=>(HP.out.rws y (List.mem_append_left _ hy)).1⟩
   have hvals:K.map Ud.uv=(L.map Ud.uv).map (advK (S.map Tm.v)):=by have:=HP.out.vals;rwa [List.take_of_length_le (by rw [← hn.out];exact Nat.le_refl _)] at this
   have HN:Hid (i=K.length):=Lib.hid (by rw [hKl];exact hn.out)
   have hpick : ∀ y∈K, ∃ x∈L,y.uv=advK (S.map Tm.v) x.uv:=fun y hy=>by
    have:y.uv∈K.map Ud.uv:=List.mem_map.2 ⟨y,hy,rfl⟩
    rw [hvals,List.map_map] at this
    obtain ⟨x,hx,e⟩:=List.mem_map.1 this
    exact ⟨x,hx,e.symm⟩
   have HI:Hid (∀ y∈K,UdS.InN y.uv):=Lib.hid (fun y hy=>by
    obtain ⟨x,hx,e⟩:=hpick y hy
    rw [e]
    exact (hin.out x hx).num)
   have HL:Hid (∀ y∈K,y.l.length≤1000000000∧y.t.l.length≤1000000000):=Lib.hid (fun y hy=>by
    obtain ⟨x,hx,e⟩:=hpick y hy
    have e1:y.l=x.l:=congrArg (fun q:UV=>q.1.1) e
    have e2:y.t.l=(advV (S.map Tm.v) x.t.v).2:=congrArg (fun q:UV=>q.1.2.2) e
    rw [e1,e2]
    refine ⟨(hin.out x hx).lens.1,?_⟩
    rw [advV_len]
    exact (hin.out x hx).lens.2)
   have HX:=Lib.hid HP.out.ext
   have HV:=Lib.hid (congrArg UdS.sumV hvals)
   clear hd hKl hvals hpick HP
   go_wp2_with (first
    | (go_at_call 16;refine (UdS.dsum_any (some ⟨g,0,none⟩) c1 i K _ HN HU h9 HI HL).mono ?_;rintro r w2 hres;have HR:=Lib.hid (DAdvRes.of hres HX.out HV.out);obtain ⟨A2,m2,R2,rfl,h2⟩:=hres;clear h2)
    | fail)
   go_ret
   exact HR.out
theorem dadv_any {V:List UV} (A:Option Addr) (c n:Nat) (L:List Ud) (AS:Option Addr) (cS nS:Nat) (S:List Tm) (w:World) (hV:Hid (UdS.sumV ((L.map Ud.uv).map (advK (S.map Tm.v)))=V)) (hn:Hid (n=L.length)) (h:Hid (Uin w A c L)) (h9:n≤1000000) (hin:Hid (∀ x∈L,InU x)) (hnS:Hid (nS=S.length)) (hS:Hid (Tin w AS cS S)) (fS:Hid (Fine S)) (h9S:nS≤1000000) :
  Calls Tryz.prog 18 #[.slice A n c, .slice AS nS cS] w (DAdvRes w V):=by
 rw [← hV.out]
 rcases Nat.eq_zero_or_pos n with h0 | h0
 ·subst h0
  have e:L=[]:=List.eq_nil_of_length_eq_zero hn.out.symm
  subst e
  exact dadv_none A c _ w h
 ·exact dadv_some A c n L AS cS nS S w h0 hn h h9 hin hnS hS fS h9S
open Go.RowKit
theorem allB_v (l:List Bt):(allB l).map Ud.uv=(l.map Bt.v).flatten:=by
 induction l with
 | nil=>rfl
 | cons b l ih =>
  show (b.l++allB l).map Ud.uv=b.v++(l.map Bt.v).flatten
  rw [List.map_append,ih]
  rfl
/-- what may be asked of a spine -/
structure SpOk (m:SpM):Prop where
 nb:m.bs.length≤1000000
 na:(allB m.bs).length≤1000000
 ins : ∀ x∈allB m.bs,InU x
 fs:m.S.length≤1000000
 fu:m.U.length≤1000000
 ss:Fine m.S
 uu:Fine m.U
def atS (s:SV) (t:TV):Int × List (List Dat × Int):=if 0<t.2.length then (110,[]) else if beyondV s.S t=false then (111,[]) else if beyondV s.U t=true then (111,[]) else (0,sumV (atV s.bs.flatten t))
/-- what At leaves -/
def SpAtRes (w:World) (q:Int × List (List Dat × Int)) (e:Ending) (w':World):Prop := ∃ A n c,e = .returned (.tuple #[.slice A n c, .int .u16 q.1])∧DAtRes w q.2 (.returned (.slice A n c)) w'
theorem dat_nil {w w':World} (x:Ext w w'):DAtRes w [] (.returned (.slice none 0 0)) w':=⟨none,0,0,[],rfl,rfl,Own.nil _ _ _ _,fun y hy=>(nomatch hy),List.Pairwise.nil,rfl,x⟩
theorem dat_back {w w1 w':World} {U:List V} {e:Ending} (h:DAtRes w1 U e w') (x:Ext w w1):DAtRes w U e w':=by
 obtain ⟨A,m,c,R,e1,e2,o,r,a,v,x2⟩:=h
 exact ⟨A,m,c,R,e1,e2,o.mono x.size,fun y hy=>⟨(r y hy).1,fun ad q=>⟨Nat.le_trans x.size ((r y hy).2 ad q).1,((r y hy).2 ad q).2⟩⟩,a,v,x.trans x2⟩
set_option maxRecDepth 100000 in
set_option maxHeartbeats 2000000 in
theorem spAt_any {q:Int × List (List Dat × Int)} (gs:Nat) (m:SpM) (R:Nat→Prop) (e:Int) (A:Option Addr) (n c:Nat) (l:List Int) (w:World) (hq:Hid (atS m.v (e,l)=q)) (HM:Hid (SpR w R gs m)) (ok:Hid (SpOk m)) (hn:Hid (n=l.length)) (ht:Hid (Sl w 1 A n c (wds l))) (G:Good w) :
  Calls Tryz.prog 46 #[.pointer (some ⟨gs,0,none⟩), .agg #[.int .u64 e, .slice A n c]] w (SpAtRes w q):=by
 obtain ⟨nS,hnS⟩ : ∃ k,k=m.S.length:=⟨_,rfl⟩
 obtain ⟨nU,hnU⟩ : ∃ k,k=m.U.length:=⟨_,rfl⟩
 have HNS:=Lib.hid hnS
 have HNU:=Lib.hid hnU
 have HC:Hid (∀ W,Ext w W→W.cell? ⟨gs,2,none⟩=some (.slice m.sA nS m.sc)∧W.cell? ⟨gs,3,none⟩=some (.slice m.uA nU m.uc)):=Lib.hid (fun W x=>⟨by have:=(HM.out.bk.ext x).cell 2;rw [hnS];exact this,by have:=(HM.out.bk.ext x).cell 3;rw [hnU];exact this⟩)
 have HTS:Hid (Tin w m.sA m.sc m.S):=Lib.hid HM.out.b.sn.t.tin
 have HTU:Hid (Tin w m.uA m.uc m.U):=Lib.hid HM.out.b.up.t.tin
 have GG:=Lib.hid G
 clear hnS hnU G
 by_cases h0:0<n
 ·have h0z:(0:Int)<(n:Int):=by omega
  have hat:atS m.v (e,l)=(110,[]):=by unfold atS;rw [if_pos (by show 0<l.length;rw [← hn.out];exact h0)]
  have HA:Hid (q=(110,[])):=Lib.hid (hq.out.symm.trans hat)
  clear hat hq
  go_enter Tryz.func46,Tryz.ntmps46
  go_wp2
  go_returns
  rw [HA.out]
  exact ⟨_,_,_,rfl,dat_nil ((Ext.refl w).alloc _)⟩
 ·have h0z : ¬ (0:Int)<(n:Int):=by omega
  obtain ⟨b1,hb1⟩ : ∃ b,beyondV (m.S.map Tm.v) (e,l)=b:=⟨_,rfl⟩
  obtain ⟨b2,hb2⟩ : ∃ b,beyondV (m.U.map Tm.v) (e,l)=b:=⟨_,rfl⟩
  have HB1:=Lib.hid hb1
  have HB2:=Lib.hid hb2
  have hat:atS m.v (e,l)=if b1=false then (111,[]) else if b2=true then (111,[]) else (0,sumV (atV (m.v.bs.flatten) (e,l))):=by
   unfold atS
   rw [if_neg (by show ¬ 0<l.length;have:=hn.out;omega), ← hb1, ← hb2]
   rfl
  have HA:Hid (q=if b1=false then (111,[]) else if b2=true then (111,[]) else (0,sumV (atV (m.v.bs.flatten) (e,l)))):=Lib.hid (hq.out.symm.trans hat)
  clear hat hb1 hb2 hq
  go_enter Tryz.func46,Tryz.ntmps46
  go_upto_region 3 with fail
  obtain ⟨wb,hwb⟩ : ∃ wb,wb=w.alloc (.cells #[.int .u64 e, .slice A n c] 26):=⟨_,rfl⟩
  have XB:Hid (Ext w wb):=Lib.hid (by rw [hwb];exact (Ext.refl _).alloc _)
  have BT:Hid (Bk wb w.heap.size 26 #[.int .u64 e, .slice A n c]):=Lib.hid (by rw [hwb];exact Bk.new _ _ _)
  rw [← hwb]
  clear hwb
  obtain ⟨gt,hgt⟩ : ∃ k,k=w.heap.size:=⟨_,rfl⟩
  rw [← hgt] at BT ⊢
  clear hgt
  have X:Ext wb wb.drew:=(Ext.refl wb).drew
  have P2 : ∀ y:Xt wb.drew,y.W.cell? ⟨gs,2,none⟩=some (.slice m.sA nS m.sc):=fun y=>(HC.out _ ((XB.out.trans X).trans y.x)).1
  have P3 : ∀ y:Xt wb.drew,y.W.cell? ⟨gs,3,none⟩=some (.slice m.uA nU m.uc):=fun y=>(HC.out _ ((XB.out.trans X).trans y.x)).2
  have Q0 : ∀ y:Xt wb.drew,y.W.cell? ⟨gt,0,none⟩=some (.int .u64 e):=fun y=>(BT.out.ext (X.trans y.x)).cell 0
  have Q1 : ∀ y:Xt wb.drew,y.W.cell? ⟨gt,1,none⟩=some (.slice A n c):=fun y=>(BT.out.ext (X.trans y.x)).cell 1
  cases b1 with
  | false =>
   refine wp_region_ord [0,1,3,7,0,31,63,127,255,511,1023,2047,255,8191,16383,32767] (.flo [0,1,2,3,4] (.one 5 (.flo [6,7,8,9,10,11,12] (.one 13 (.flo [14,15] (.fin)))))) (by kernel_rfl) (by kernel_rfl) (by intro _ _ d _ _ h;cases d<;>exact h) ?_
   (refine ord_flo (pick_cons rfl (pick_cons rfl (pick_cons rfl (pick_cons rfl (pick_cons rfl pick_nil))))) ?_;(repeat (go_big_quiet_step (fail)));refine wpQuiet_nil ?_;show ordWalk _ _ _ _ _ _ _)
   refine ord_one (pick_cons rfl pick_nil) ?_;intro K_ hK_
   go_wp2_with (go_at_call 140;refine (beyond_at m.sA m.sc nS m.S e A n c l _ HB1 HNS (Lib.hid (HTS.out.ext (XB.out.trans X))) (Lib.hid (ht.out.ext (XB.out.trans X)))).mono ?_;rintro r w1 ⟨rfl,x1⟩;have X1:=Lib.hid (X.trans x1))
   clear P2 P3 Q0 Q1
   (refine ord_flo (pick_cons rfl (pick_cons rfl (pick_cons rfl (pick_cons rfl (pick_cons rfl (pick_cons rfl (pick_cons rfl pick_nil))))))) ?_;(repeat (go_big_quiet_step (fail)));refine wpQuiet_nil ?_;show ordWalk _ _ _ _ _ _ _)
   refine ord_one (pick_cons rfl pick_nil) ?_;intro K_ hK_
   go_wp2
   (refine ord_flo (pick_cons rfl (pick_cons rfl pick_nil)) ?_;(repeat (go_big_quiet_step (fail)));refine wpQuiet_nil ?_;show ordWalk _ _ _ _ _ _ _)
   refine ord_fin ?_
   go_wp2
   go_returns
   have hA:q=(111,[]):=by have:=HA.out;simpa using this
   rw [hA]
   exact ⟨_,_,_,rfl,dat_nil (XB.out.trans X1.out)⟩
  | true =>
   refine wp_region_ord [0,1,3,7,0,31,63,127,255,511,1023,2047,255,8191,16383,32767] (.flo [0,1,2,3,4] (.one 5 (.flo [6,7,8,9,10,11,12] (.one 13 (.flo [14,15] (.fin)))))) (by kernel_rfl) (by kernel_rfl) (by intro _ _ d _ _ h;cases d<;>exact h) ?_
   (refine ord_flo (pick_cons rfl (pick_cons rfl (pick_cons rfl (pick_cons rfl (pick_cons rfl pick_nil))))) ?_;(repeat (go_big_quiet_step (fail)));refine wpQuiet_nil ?_;show ordWalk _ _ _ _ _ _ _)
   refine ord_one (pick_cons rfl pick_nil) ?_;intro K_ hK_
   go_wp2_with (go_at_call 140;refine (beyond_at m.sA m.sc nS m.S e A n c l _ HB1 HNS (Lib.hid (HTS.out.ext (XB.out.trans X))) (Lib.hid (ht.out.ext (XB.out.trans X)))).mono ?_;rintro r w1 ⟨rfl,x1⟩;have X1:=Lib.hid (X.trans x1))
   have P3 : ∀ y:Xt w1,y.W.cell? ⟨gs,3,none⟩=some (.slice m.uA nU m.uc):=fun y=>(HC.out _ ((XB.out.trans X1.out).trans y.x)).2
   have Q0 : ∀ y:Xt w1,y.W.cell? ⟨gt,0,none⟩=some (.int .u64 e):=fun y=>(BT.out.ext (X1.out.trans y.x)).cell 0
   have Q1 : ∀ y:Xt w1,y.W.cell? ⟨gt,1,none⟩=some (.slice A n c):=fun y=>(BT.out.ext (X1.out.trans y.x)).cell 1
   (refine ord_flo (pick_cons rfl (pick_cons rfl (pick_cons rfl (pick_cons rfl (pick_cons rfl (pick_cons rfl (pick_cons rfl pick_nil))))))) ?_;(repeat (go_big_quiet_step (fail)));refine wpQuiet_nil ?_;show ordWalk _ _ _ _ _ _ _)
   refine ord_one (pick_cons rfl pick_nil) ?_;intro K_ hK_
   go_wp2_with (go_at_call 140;refine (beyond_at m.uA m.uc nU m.U e A n c l _ HB2 HNU (Lib.hid (HTU.out.ext (XB.out.trans X1.out))) (Lib.hid (ht.out.ext (XB.out.trans X1.out)))).mono ?_;rintro r w2 ⟨rfl,x2⟩;have X2:=Lib.hid (X1.out.trans x2))
   (refine ord_flo (pick_cons rfl (pick_cons rfl pick_nil)) ?_;(repeat (go_big_quiet_step (fail)));refine wpQuiet_nil ?_;show ordWalk _ _ _ _ _ _ _)
   refine ord_fin ?_
   clear P2 P3 Q0 Q1
   cases b2 with
   | true =>
    go_wp2
    go_returns
    have hA:q=(111,[]):=by have:=HA.out;simpa using this
    rw [hA]
    exact ⟨_,_,_,rfl,dat_nil (XB.out.trans X2.out)⟩
   | false =>
    go_wp2
    have X3:Ext wb w2.drew:=X2.out.drew
    have XX3:=Lib.hid X3
    have Q0 : ∀ y:Xt w2.drew,y.W.cell? ⟨gt,0,none⟩=some (.int .u64 e):=fun y=>(BT.out.ext (X3.trans y.x)).cell 0
    have Q1 : ∀ y:Xt w2.drew,y.W.cell? ⟨gt,1,none⟩=some (.slice A n c):=fun y=>(BT.out.ext (X3.trans y.x)).cell 1
    refine wp_region_ord [0,1,0,7,15,31] (.flo [0,2] (.ext 1 (.one 3 (.flo [4,5] (.fin))))) (by kernel_rfl) (by kernel_rfl) (by intro _ _ d _ _ h;cases d<;>exact h) ?_
    (refine ord_flo (pick_cons rfl (pick_cons rfl pick_nil)) ?_;(repeat (go_big_quiet_step (fail)));refine wpQuiet_nil ?_;show ordWalk _ _ _ _ _ _ _)
    refine ord_ext (pick_cons rfl pick_nil) ?_;intro K_ hK_
    go_wp2_with (go_at_call 159;refine (contents_any gs m R _ (Lib.hid (HM.out.ext (XB.out.trans XX3.out))) ok.out.nb ok.out.na).mono ?_;rintro r w4 ⟨A4,n4,c4,rfl,e4,o4,x4⟩;have HN4:=Lib.hid e4;have HO4:=Lib.hid o4;have X4:=Lib.hid x4;clear e4 o4 x4)
    refine ordNext.mk X4.out ?_
    have hU:Hid (Uin w4 A4 c4 (allB m.bs)):=Lib.hid ⟨HN4.out ▸ HO4.out.sl,fun x hx=>by
     obtain ⟨b,hb,hxb⟩:=List.mem_flatMap.1 hx
     exact (((HM.out.b.bt b hb).u.uin.ls x hxb).ext (XB.out.trans XX3.out)).ext X4.out⟩
    refine ord_one (pick_cons rfl pick_nil) ?_;intro K_ hK_
    go_wp2_with (go_at_call 17;refine (dat_any A4 c4 n4 (allB m.bs) e A n c l _ HN4 hU (by rw [HN4.out];exact ok.out.na) (Lib.hid ok.out.ins) (Lib.hid (ht.out.ext ((XB.out.trans XX3.out).trans X4.out))) (GG.out.ext ((XB.out.trans XX3.out).trans X4.out))).mono ?_;rintro r w5 hres;have HR:=Lib.hid hres;obtain ⟨A5,m5,c5,R5,rfl,h5⟩:=hres;clear h5)
    (refine ord_flo (pick_cons rfl (pick_cons rfl pick_nil)) ?_;(repeat (go_big_quiet_step (fail)));refine wpQuiet_nil ?_;show ordWalk _ _ _ _ _ _ _)
    refine ord_fin ?_
    go_wp2
    go_returns
    have hA:q=(0,sumV (atV (m.v.bs.flatten) (e,l))):=by have:=HA.out;simpa using this
    rw [hA]
    refine ⟨_,_,_,rfl,?_⟩
    have h:=dat_back HR.out ((XB.out.trans XX3.out).trans X4.out)
    rw [allB_v] at h
    exact h
end Go.Proofs.YtdgbkpoickbidaaGreatDoor
