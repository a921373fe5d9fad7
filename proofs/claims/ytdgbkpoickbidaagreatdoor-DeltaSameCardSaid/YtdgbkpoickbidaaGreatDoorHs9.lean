/- slices.insertionSortCmpFunc at updates: the walk. slices.SortStableFunc at fewer than 20 updates. slices.SortStableFunc at updates. delta.Sum: what it answers. Antichains: what is beyond both, with one more, the time that stands for another one. Plain. The form in which times are answered, with an error's number. stamp.Join, Meet with one answer. Lists of times that are fine; stamp.Join of times of one depth. chain.copied, slices.Clone at times; a list of times that grows by one. The value of a time in a list. chain.Advance: the time that stands for another one. Conditions: each theorem states its own. -/
import Derived.Test.YtdgbkpoickbidaaGreatDoorHs7
import Derived.Test.YtdgbkpoickbidaaGreatDoorHs8
import Derived.Deep.LoopGhost
import Derived.Test.YtdgbkpoickbidaaGreatDoorHs3
import Derived.Test.YtdgbkpoickbidaaGreatDoorHs1
namespace Go.Proofs.YtdgbkpoickbidaaGreatDoor.UdS
open Go.RowKit

theorem snoc_cases {α:Type} (s:List α):s=[] ∨ ∃ t y,s=t++[y]:=by
 rcases List.eq_nil_or_concat s with h | ⟨t,y,h⟩
 ·exact .inl h
 ·exact .inr ⟨t,y,by rw [h,List.concat_eq_append]⟩
theorem InsIn.ext {B g c a:Nat} {P S T Q D':List Ud} {x:Ud} {w wi wz:World} {j:Nat} {s1 s2:List Ud} (h:InsIn B g c a P S T Q D' x w wi j s1 s2) (hz:Ext wi wz):InsIn B g c a P S T Q D' x w wz j s1 s2 :=
 ⟨h.1,h.2.1,h.2.2.1,h.2.2.2.1.ext hz,h.2.2.2.2.1.trans (upd_ext hz g),h.2.2.2.2.2.ext hz⟩
theorem ins_step {B g c a q:Nat} {P S T Q D':List Ud} {x:Ud} {w wi:World} {j:Nat} {t s2:List Ud} {y:Ud} (h:InsIn B g c a P S T Q D' x w wi j (t++[y]) s2) (hv:cmpC x y<0) (ha:a=P.length) (hq:q=a+t.length) {nx ny tx ty:Nat} (hx:nx=x.l.length) (hy:ny=y.l.length) (hx2:tx=x.t.l.length) (hy2:ty=y.t.l.length) :
  InsIn B g c a P S T Q D' x w (put4 (put4 wi g (q+1) y ny ty) g q x nx tx) q t (y :: s2):=by
 subst hx hy hx2 hy2
 obtain ⟨h1,h2,h3,h4,h5,h6⟩:=h
 have e:P++(t++[y]++x :: (s2++(T++Q)))=(P++t)++y :: x :: (s2++(T++Q)):=by simp
 rw [e] at h4
 have h7:=h4.swap (q:=q) (by rw [List.length_append];omega)
 have hu:wi.grownBy (put4 (put4 wi g (q+1) y y.l.length y.t.l.length) g q x x.l.length x.t.l.length) (some g):=upd_swap
 refine ⟨hq,by rw [h2];simp,fun z hz=>?_,?_,h5.trans hu,h6.upd hu⟩
 ·rcases List.mem_cons.1 hz with rfl | hz
  ·exact hv
  ·exact h3 z hz
 ·have e2:P++(t++x :: (y :: s2++(T++Q)))=(P++t)++x :: y :: (s2++(T++Q)):=by simp
  rw [e2]
  exact h7
theorem ins_exit {B g c a:Nat} {P S T Q D D':List Ud} {x:Ud} {w wo wi:World} {i j:Nat} {s1 s2:List Ud} (ho:InsOut B g c a P S Q w wo i D D' (x :: T)) (h:InsIn B g c a P S T Q D' x wo wi j s1 s2) (hl : ∀ y,s1.getLast?=some y → ¬ cmpC x y<0) {wz:World} (hz:Ext wi wz) :
  InsOut B g c a P S Q w wz (i+1) (D++[x]) (s1++x :: s2) T:=by
 obtain ⟨o1,o2,o3,o4,o5,o6⟩:=ho
 obtain ⟨h1,h2,h3,h4,h5,h6⟩:=h
 subst h2
 refine ⟨by rw [o1];simp,by rw [List.length_append,List.length_singleton];omega,o3.insert cmpC_tot h3 hl,?_,(o5.trans h5).trans (upd_ext hz g),(h6.sub (fun z hz=>List.mem_cons_of_mem _ hz)).ext hz⟩
 have e:P++(s1++x :: s2++(T++Q))=P++(s1++x :: (s2++(T++Q))):=by simp
 rw [e]
 exact h4.ext hz
set_option maxRecDepth 100000 in
set_option maxHeartbeats 8000000 in
theorem insSort_some (B g c n a b:Nat) (P S0 Q:List Ud) (x0:Ud) (w:World) (ha:a=P.length) (hb:b=P.length+(S0.length+1)) (hn:n=(P++(x0 :: S0++Q)).length) (h:Arr w B g c (P++(x0 :: S0++Q))) (hr:Rws w g (x0 :: S0)) :
  Calls Tryz.prog 222 #[.slice (some ⟨g,0,none⟩) n c, .int .i64 a, .int .i64 b, .func (.func 103) #[] #[]] w fun e w'=>e = .returned (.tuple #[]) ∧ ∃ S',Stable cmpC (x0 :: S0) S'∧Arr w' B g c (P++(S'++Q))∧w.grownBy w' (some g):=by
 obtain ⟨S,hS⟩ : ∃ S,S=x0 :: S0:=⟨_,rfl⟩
 have hnm:=h.le
 rw [← hn] at hnm
 have hbn:b≤n:=by
  rw [hb,hn]
  simp only [List.length_append,List.length_cons]
  omega
 have HA:=Lib.hid ha
 have HB:=Lib.hid hb
 have HN:=Lib.hid hn
 have hab:a+1≤b:=by omega
 have HO:Hid (InsOut B g c a P S Q w w (a+1) [x0] [x0] S0):=Lib.hid ⟨hS,rfl,Stable.one x0,by rw [List.singleton_append, ← List.cons_append];exact h,World.grownBy.refl w _,by rw [hS];exact hr⟩
 have HSL:Hid (b=a+S.length):=Lib.hid (by rw [hS,List.length_cons];omega)
 rw [← hS]
 clear ha hb hn h hr hS
 go_enter Tryz.func222,Tryz.ntmps222
 go_wp2
 go_loopg [8] (b - (a+1)) (fun z v wo => ∃ (i:Nat) (D D' T:List Ud),z=b - i∧i≤b∧v = .int .i64 i∧Hid (InsOut B g c a P S Q w wo i D D' T))
 case atStart=>exact ⟨a+1,[x0],[x0],S0,rfl,hab,by simp,HO⟩
 case round =>
  obtain ⟨i,D,D',T,rfl,hi,rfl,HI⟩:=hrel
  clear HO
  obtain ⟨wo,hwo⟩ : ∃ wo:World,wo=wr:=⟨_,rfl⟩
  rw [← hwo] at HI ⊢
  clear hwo
  by_cases hlt:i<b
  ·obtain ⟨x,T,rfl⟩ : ∃ x T',T=x :: T':=by
    cases T with
    | nil =>
     obtain ⟨q1,q2,_⟩:=HI.out
     have:=HSL.out
     rw [q1,List.append_nil] at this
     omega
    | cons x T=>exact ⟨x,T,rfl⟩
   have HII:Hid (InsIn B g c a P S T Q D' x wo wo i D' []):=Lib.hid (by
    obtain ⟨q1,q2,q3,q4,q5,q6⟩:=HI.out
    refine ⟨by rw [stable_len q3];exact q2,(List.append_nil _).symm,fun y hy=>(nomatch hy),by rw [List.nil_append];exact q4,World.grownBy.refl wo _,fun z hz=>?_⟩
    rcases List.mem_cons.1 hz with rfl | hz
    ·exact q6 z (by rw [q1];simp)
    ·exact q6 z hz)
   go_wp2
   go_loopg [9] D'.length (fun z v wi => ∃ (j:Nat) (s1 s2:List Ud),z=s1.length∧v = .int .i64 j∧j≤i∧Hid (InsIn B g c a P S T Q D' x wo wi j s1 s2))
   case atStart=>exact ⟨i,D',[],rfl,rfl,Nat.le_refl _,HII⟩
   case round =>
    obtain ⟨j,s1,s2,rfl,rfl,hj,HJ⟩:=hrel
    clear HII
    obtain ⟨wi,hwi⟩ : ∃ wi:World,wi=wr:=⟨_,rfl⟩
    rw [← hwi] at HJ ⊢
    clear hwi
    rcases snoc_cases s1 with rfl | ⟨t,y,rfl⟩
    ·have hja:j=a:=by have:=HJ.out.1;simpa using this
     subst hja
     go_upto_region 4 with fail
     refine wp_region_ord [0,0,3,7,15,15,15,111,239,15,15,1039,3599,7695,16383,32767,65535] (.flo [0,1,2,3,4,5,6,7,8,9,10,11,12,13] (.one 14 (.flo [15,16] (.fin)))) (by kernel_rfl) (by kernel_rfl) (by intro _ _ d _ _ h;cases d<;>exact h) ?_
     (refine ord_flo (pick_cons rfl (pick_cons rfl (pick_cons rfl (pick_cons rfl (pick_cons rfl (pick_cons rfl (pick_cons rfl (pick_cons rfl (pick_cons rfl (pick_cons rfl (pick_cons rfl (pick_cons rfl (pick_cons rfl (pick_cons rfl pick_nil)))))))))))))) ?_;(repeat (go_big_quiet_step (fail)));refine wpQuiet_nil ?_;show ordWalk _ _ _ _ _ _ _)
     refine ord_one (pick_cons rfl pick_nil) ?_;intro K_ hK_
     go_wp2
     (refine ord_flo (pick_cons rfl (pick_cons rfl pick_nil)) ?_;(repeat (go_big_quiet_step (fail)));refine wpQuiet_nil ?_;show ordWalk _ _ _ _ _ _ _)
     refine ord_fin ?_
     go_wp2
     go_roundg (b - (i+1))
     case measure=>omega
     case rel=>exact ⟨i+1,D++[x],_,T,rfl,by omega,by go_num,Lib.hid (ins_exit HI.out HJ.out (fun y hy=>(nomatch hy)) ((Ext.refl wi).drew))⟩
    ·obtain ⟨q,hq⟩ : ∃ q,q=a+t.length:=⟨_,rfl⟩
     have hjq:j=q+1:=by have:=HJ.out.1;rw [List.length_append,List.length_singleton] at this;omega
     subst hjq
     have hqP:q=(P++t).length:=by rw [List.length_append, ← HA.out];exact hq
     have e:P++(t++[y]++x :: (s2++(T++Q)))=(P++t)++y :: x :: (s2++(T++Q)):=by simp
     have hArr:=HJ.out.2.2.2.1
     rw [e] at hArr
     obtain ⟨⟨py0,py1,py2,py3⟩,px0,px1,px2,px3⟩:=Arr.two (s2:=[]) hArr hqP
     have f0:=hArr.free ((q+1) * 4)
     have f0b:=hArr.free ((q+1) * 4+1)
     have f1:=hArr.free ((q+1) * 4+2)
     have f1b:=hArr.free ((q+1) * 4+3)
     have f2:=hArr.free (q * 4)
     have f2b:=hArr.free (q * 4+1)
     have f3:=hArr.free (q * 4+2)
     have f3b:=hArr.free (q * 4+3)
     have hrx:=HJ.out.2.2.2.2.2 x (List.mem_cons_self ..)
     have hry:=HJ.out.2.2.2.2.2 y (List.mem_cons_of_mem _ (by
      obtain ⟨o1,o2,o3,_⟩:=HI.out
      have hd:y∈D':=by rw [HJ.out.2.1];simp
      rw [o1]
      exact List.mem_append_left _ ((o3.mem cmpC_tot y).1 hd)))
     have za:decide ((a:Int)<(q:Int)+1)=true:=by simp;omega
     have hqa2:a≤q:=by omega
     have hqn:q+1<n:=by omega
     have hjb:q+1≤i:=hj
     obtain ⟨v,hv⟩ : ∃ v,cmpC x y=v:=⟨_,rfl⟩
     obtain ⟨nx,hnx⟩ : ∃ nx,nx=x.l.length:=⟨_,rfl⟩
     obtain ⟨tx,htx⟩ : ∃ tx,tx=x.t.l.length:=⟨_,rfl⟩
     obtain ⟨ny,hny⟩ : ∃ ny,ny=y.l.length:=⟨_,rfl⟩
     obtain ⟨ty,hty⟩ : ∃ ty,ty=y.t.l.length:=⟨_,rfl⟩
     rw [← hnx] at px0;rw [← htx] at px2
     rw [← hny] at py0;rw [← hty] at py2
     have X:Ext wi wi.drew:=(Ext.refl wi).drew
     have HRX:=Lib.hid hrx.1
     have HRY:=Lib.hid hry.1
     have HNX:=Lib.hid hnx
     have HTX:=Lib.hid htx
     have HNY:=Lib.hid hny
     have HTY:=Lib.hid hty
     have HQ:=Lib.hid hq
     have HQP:=Lib.hid hqP
     have hArr0:=Lib.hid hArr
     have HV:Hid (cmpC x y=v):=Lib.hid hv
     have PY0 : ∀ z:Xt wi.drew,z.W.cell? ⟨g,q * 4,none⟩=some (.slice y.A ny y.c):=fun z=>(X.trans z.x).cell py0
     have PY1 : ∀ z:Xt wi.drew,z.W.cell? ⟨g,q * 4+1,none⟩=some (.int .u64 y.t.e):=fun z=>(X.trans z.x).cell py1
     have PY2 : ∀ z:Xt wi.drew,z.W.cell? ⟨g,q * 4+2,none⟩=some (.slice y.t.A ty y.t.c):=fun z=>(X.trans z.x).cell py2
     have PY3 : ∀ z:Xt wi.drew,z.W.cell? ⟨g,q * 4+3,none⟩=some (.int .i64 y.d):=fun z=>(X.trans z.x).cell py3
     have PX0 : ∀ z:Xt wi.drew,z.W.cell? ⟨g,(q+1) * 4,none⟩=some (.slice x.A nx x.c):=fun z=>(X.trans z.x).cell px0
     have PX1 : ∀ z:Xt wi.drew,z.W.cell? ⟨g,(q+1) * 4+1,none⟩=some (.int .u64 x.t.e):=fun z=>(X.trans z.x).cell px1
     have PX2 : ∀ z:Xt wi.drew,z.W.cell? ⟨g,(q+1) * 4+2,none⟩=some (.slice x.t.A tx x.t.c):=fun z=>(X.trans z.x).cell px2
     have PX3 : ∀ z:Xt wi.drew,z.W.cell? ⟨g,(q+1) * 4+3,none⟩=some (.int .i64 x.d):=fun z=>(X.trans z.x).cell px3
     clear hrx hry hnx hny htx hty hv hArr e hqP py0 py1 px0 px1 hq hj
     by_cases hv0:v<0
     ·have zv:decide (v<0)=true:=by simpa using hv0
      have HV0:Hid (cmpC x y<0):=Lib.hid (by show cmpC x y<0;rw [HV.out];exact hv0)
      go_upto_region 4 with fail
      refine wp_region_ord [0,0,3,7,15,15,15,111,239,15,15,1039,3599,7695,16383,32767,65535] (.flo [0,1,2,3,4,5,6,7,8,9,10,11,12,13] (.one 14 (.flo [15,16] (.fin)))) (by kernel_rfl) (by kernel_rfl) (by intro _ _ d _ _ h;cases d<;>exact h) ?_
      (refine ord_flo (pick_cons rfl (pick_cons rfl (pick_cons rfl (pick_cons rfl (pick_cons rfl (pick_cons rfl (pick_cons rfl (pick_cons rfl (pick_cons rfl (pick_cons rfl (pick_cons rfl (pick_cons rfl (pick_cons rfl (pick_cons rfl pick_nil)))))))))))))) ?_;(repeat (go_big_quiet_step (fail)));refine wpQuiet_nil ?_;show ordWalk _ _ _ _ _ _ _)
      refine ord_one (pick_cons rfl pick_nil) ?_;intro K_ hK_
      go_wp2_with (go_at_call 103;refine (order_any x y nx ny tx ty v _ HV HNX HNY HTX HTY (Lib.hid (HRX.out.ext X)) (Lib.hid (HRY.out.ext X))).mono ?_;rintro e w1 ⟨rfl,x1⟩)
      (refine ord_flo (pick_cons rfl (pick_cons rfl pick_nil)) ?_;(repeat (go_big_quiet_step (fail)));refine wpQuiet_nil ?_;show ordWalk _ _ _ _ _ _ _)
      refine ord_fin ?_
      have HA1:=Lib.hid (hArr0.out.ext (X.trans x1))
      obtain ⟨⟨py0,py1,py2,py3⟩,px0,px1,px2,px3⟩:=Arr.two (s2:=[]) HA1.out HQP.out
      rw [← HNX.out] at px0;rw [← HTX.out] at px2
      rw [← HNY.out] at py0;rw [← HTY.out] at py2
      have f0:=HA1.out.free ((q+1) * 4)
      have f0b:=HA1.out.free ((q+1) * 4+1)
      have f1:=HA1.out.free ((q+1) * 4+2)
      have f1b:=HA1.out.free ((q+1) * 4+3)
      have f2:=HA1.out.free (q * 4)
      have f2b:=HA1.out.free (q * 4+1)
      have f3:=HA1.out.free (q * 4+2)
      have f3b:=HA1.out.free (q * 4+3)
      have X1:Ext w1 w1.drew:=(Ext.refl w1).drew
      have PY0 : ∀ z:Xt w1.drew,z.W.cell? ⟨g,q * 4,none⟩=some (.slice y.A ny y.c):=fun z=>(X1.trans z.x).cell py0
      have PY1 : ∀ z:Xt w1.drew,z.W.cell? ⟨g,q * 4+1,none⟩=some (.int .u64 y.t.e):=fun z=>(X1.trans z.x).cell py1
      have PY2 : ∀ z:Xt w1.drew,z.W.cell? ⟨g,q * 4+2,none⟩=some (.slice y.t.A ty y.t.c):=fun z=>(X1.trans z.x).cell py2
      have PY3 : ∀ z:Xt w1.drew,z.W.cell? ⟨g,q * 4+3,none⟩=some (.int .i64 y.d):=fun z=>(X1.trans z.x).cell py3
      have PX0 : ∀ z:Xt w1.drew,z.W.cell? ⟨g,(q+1) * 4,none⟩=some (.slice x.A nx x.c):=fun z=>(X1.trans z.x).cell px0
      have PX1 : ∀ z:Xt w1.drew,z.W.cell? ⟨g,(q+1) * 4+1,none⟩=some (.int .u64 x.t.e):=fun z=>(X1.trans z.x).cell px1
      have PX2 : ∀ z:Xt w1.drew,z.W.cell? ⟨g,(q+1) * 4+2,none⟩=some (.slice x.t.A tx x.t.c):=fun z=>(X1.trans z.x).cell px2
      have PX3 : ∀ z:Xt w1.drew,z.W.cell? ⟨g,(q+1) * 4+3,none⟩=some (.int .i64 x.d):=fun z=>(X1.trans z.x).cell px3
      go_upto_region 6 with fail
      refine wp_region_ord [0,0,0,0,8,0,0,64,224,480,0,0,3072,7168,16355,32739,65535,131071] (.flo [0,1,5,6,7,8,9,10,11,12,13,14] (.pur [2,3,4] (.one 15 (.flo [16] (.one 17 (.fin)))))) (by kernel_rfl) (by kernel_rfl) (by intro _ _ d _ _ h;cases d<;>exact h) ?_
      (refine ord_flo (pick_cons rfl (pick_cons rfl (pick_cons rfl (pick_cons rfl (pick_cons rfl (pick_cons rfl (pick_cons rfl (pick_cons rfl (pick_cons rfl (pick_cons rfl (pick_cons rfl (pick_cons rfl pick_nil)))))))))))) ?_;(repeat (go_big_quiet_step (fail)));refine wpQuiet_nil ?_;show ordWalk _ _ _ _ _ _ _)
      (refine ord_pur (pick_cons rfl (pick_cons rfl (pick_cons rfl pick_nil))) ?_;(repeat (go_big_quiet_step (fail)));refine wpQuiet_nil ?_;show ordWalk _ _ _ _ _ _ _)
      refine ord_one (pick_cons rfl pick_nil) ?_;intro K_ hK_
      go_wp2
      (refine ord_flo (pick_cons rfl pick_nil) ?_;(repeat (go_big_quiet_step (fail)));refine wpQuiet_nil ?_;show ordWalk _ _ _ _ _ _ _)
      refine ord_one (pick_cons rfl pick_nil) ?_;intro K_ hK_
      go_wp2
      refine ord_fin ?_
      go_wp2
      go_roundg t.length
      case measure=>simp
      case rel=>exact ⟨q,t,y :: s2,rfl,by go_num,by omega,Lib.hid ((ins_step (HJ.out.ext (X.trans x1)) HV0.out HA.out HQ.out HNX.out HNY.out HTX.out HTY.out).ext (Ext.refl _).drew)⟩
     ·have zv:decide (v<0)=false:=by simpa using hv0
      have HV0:Hid (¬ cmpC x y<0):=Lib.hid (by show ¬ cmpC x y<0;rw [HV.out];exact hv0)
      go_upto_region 4 with fail
      refine wp_region_ord [0,0,3,7,15,15,15,111,239,15,15,1039,3599,7695,16383,32767,65535] (.flo [0,1,2,3,4,5,6,7,8,9,10,11,12,13] (.one 14 (.flo [15,16] (.fin)))) (by kernel_rfl) (by kernel_rfl) (by intro _ _ d _ _ h;cases d<;>exact h) ?_
      (refine ord_flo (pick_cons rfl (pick_cons rfl (pick_cons rfl (pick_cons rfl (pick_cons rfl (pick_cons rfl (pick_cons rfl (pick_cons rfl (pick_cons rfl (pick_cons rfl (pick_cons rfl (pick_cons rfl (pick_cons rfl (pick_cons rfl pick_nil)))))))))))))) ?_;(repeat (go_big_quiet_step (fail)));refine wpQuiet_nil ?_;show ordWalk _ _ _ _ _ _ _)
      refine ord_one (pick_cons rfl pick_nil) ?_;intro K_ hK_
      go_wp2_with (go_at_call 103;refine (order_any x y nx ny tx ty v _ HV HNX HNY HTX HTY (Lib.hid (HRX.out.ext X)) (Lib.hid (HRY.out.ext X))).mono ?_;rintro e w1 ⟨rfl,x1⟩)
      (refine ord_flo (pick_cons rfl (pick_cons rfl pick_nil)) ?_;(repeat (go_big_quiet_step (fail)));refine wpQuiet_nil ?_;show ordWalk _ _ _ _ _ _ _)
      refine ord_fin ?_
      go_wp2
      go_roundg (b - (i+1))
      case measure=>omega
      case rel=>exact ⟨i+1,D++[x],_,T,rfl,by omega,by go_num,Lib.hid (ins_exit HI.out HJ.out (fun z hz=>by simp only [List.getLast?_append,List.getLast?_singleton,Option.some_or] at hz;injection hz with hz;rw [← hz];exact Int.not_lt.2 HV0.out) (X.trans x1))⟩
  ·obtain rfl:i=b:=by omega
   have HT:Hid (T=[]):=Lib.hid (by
    obtain ⟨q1,q2,_⟩:=HI.out
    have:=HSL.out
    rw [q1,List.length_append] at this
    exact List.eq_nil_of_length_eq_zero (by omega))
   go_wp2
   go_end0
   obtain ⟨q1,q2,q3,q4,q5,q6⟩:=HI.out
   rw [HT.out] at q1 q4
   rw [List.append_nil] at q1
   exact ⟨rfl,D',by rw [q1];exact q3,q4,q5⟩
open Go.RowKit
/-- what a sort leaves behind -/
def Sorted (B g c:Nat) (L:List Ud) (w:World) (e:Ending) (w':World):Prop:=e = .returned (.tuple #[]) ∧ ∃ L',Stable cmpC L L'∧Arr w' B g c L'∧w.grownBy w' (some g)
set_option maxRecDepth 100000 in
set_option maxHeartbeats 800000 in
theorem insSort_none (A:Option Addr) (n c a b:Nat) (w:World) (h:b≤a) (ha:a≤1000000000) :
  Calls Tryz.prog 222 #[.slice A n c, .int .i64 a, .int .i64 b, .func (.func 103) #[] #[]] w fun e w'=>e = .returned (.tuple #[])∧w=w':=by
 have h1 : ¬ (a:Int)+1<b:=by omega
 go_enter Tryz.func222,Tryz.ntmps222
 go_wp2
 go_loop [8] (fun v=>v = .int .i64 ((a:Int)+1)) (fun _=>0)
 case atStart=>rfl
 case round =>
  subst hrel
  go_wp2
  go_end0
  exact ⟨rfl,rfl⟩
open Go.RowKit
/-- blocks sorted up to a -/
def Pass1 (B g c:Nat) (L:List Ud) (w wr:World) (a:Nat) (S T:List Ud):Prop :=
 S.length=a∧a+T.length=L.length∧(∀ x∈T,x∈L)∧(∀ T',Bks cmpC 20 T T'→Bks cmpC 20 L (S++T'))∧Arr wr B g c (S++T)∧w.grownBy wr (some g)
theorem Pass1.step {B g c a:Nat} {L:List Ud} {w wr w1:World} {S T1 T2 Z:List Ud} (h:Pass1 B g c L w wr a S (T1++T2)) (h1:T1.length=20) (hz:Stable cmpC T1 Z) (ha:Arr w1 B g c (S++(Z++T2))) (hg:wr.grownBy w1 (some g)):Pass1 B g c L w w1 (a+20) (S++Z) T2:=by
 obtain ⟨q1,q2,q3,q4,q5,q6⟩:=h
 have lz:=stable_len hz
 rw [List.length_append] at q2
 refine ⟨by rw [List.length_append];omega,by omega,fun x hx=>q3 x (List.mem_append_right _ hx),fun T' hT=>?_,by rw [List.append_assoc];exact ha,q6.trans hg⟩
 rw [List.append_assoc]
 exact q4 (Z++T') (.more T1 Z T2 T' h1 hz hT)
theorem Pass1.last {B g c a:Nat} {L:List Ud} {w wr w1:World} {S T Z:List Ud} (h:Pass1 B g c L w wr a S T) (h1:T.length≤20) (hz:Stable cmpC T Z) (ha:Arr w1 B g c (S++Z)) (hg:wr.grownBy w1 (some g)):Bks cmpC 20 L (S++Z)∧Arr w1 B g c (S++Z)∧w.grownBy w1 (some g) :=
 ⟨h.2.2.2.1 Z (.last T Z h1 hz),ha,h.2.2.2.2.2.trans hg⟩
/-- blocks of so many, sorted -/
def Pass2 (B g c s:Nat) (L:List Ud) (w wr:World) (S:List Ud):Prop:=Bks cmpC s L S∧Arr wr B g c S∧w.grownBy wr (some g)
/-- two by two merged, up to a -/
def Pass3 (B g c s:Nat) (L:List Ud) (w wr:World) (a:Nat) (D O R:List Ud):Prop :=
 D.length=a∧a+R.length=L.length∧Bks cmpC s O R∧(∀ x∈R,x∈L)∧(∀ R',Bks cmpC (2 * s) O R'→Bks cmpC (2 * s) L (D++R'))∧Arr wr B g c (D++R)∧w.grownBy wr (some g)
theorem bks_len {s:Nat} {O S:List Ud} (h:Bks cmpC s O S):S.length=O.length:=h.len stable_len
theorem Pass2.start {B g c s:Nat} {L:List Ud} {w wr:World} {S:List Ud} (h:Pass2 B g c s L w wr S):Pass3 B g c s L w wr 0 [] L S :=
 ⟨rfl,by rw [bks_len h.1,Nat.zero_add],h.1,fun x hx=>(h.1.mem cmpC_tot x).1 hx,fun _ h=>h,h.2.1,h.2.2⟩
theorem Pass3.step {B g c s a:Nat} {L:List Ud} {w wr w1:World} {D O1 O2 O3 S1 S2 S3 Z:List Ud} (h:Pass3 B g c s L w wr a D (O1++(O2++O3)) (S1++(S2++S3))) (l1:O1.length=s) (l2:O2.length=s) (s1:Stable cmpC O1 S1) (s2:Stable cmpC O2 S2) (h3:Bks cmpC s O3 S3)
  (hz:Stable cmpC (S1++S2) Z) (ha:Arr w1 B g c (D++(Z++S3))) (hg:wr.grownBy w1 (some g)):Pass3 B g c s L w w1 (a+2 * s) (D++Z) O3 S3:=by
 obtain ⟨q1,q2,q3,q4,q5,q6,q7⟩:=h
 have e1:=stable_len s1
 have e2:=stable_len s2
 have lz:=stable_len hz
 rw [List.length_append] at lz
 simp only [List.length_append] at q2
 refine ⟨by rw [List.length_append];omega,by omega,h3,fun x hx=>q4 x (List.mem_append_right _ (List.mem_append_right _ hx)),fun R' hR=>?_,by rw [List.append_assoc];exact ha,q7.trans hg⟩
 have:=q5 (Z++R') (by
  rw [← List.append_assoc]
  exact .more (O1++O2) Z O3 R' (by rw [List.length_append];omega) (Stable.join s1 s2 hz) hR)
 rwa [List.append_assoc]
theorem Pass3.rest {B g c s a:Nat} {L:List Ud} {w wr w1:World} {D O1 O2 S1 S2 Z:List Ud} (h:Pass3 B g c s L w wr a D (O1++O2) (S1++S2)) (hl:(O1++O2).length≤2 * s) (s1:Stable cmpC O1 S1) (s2:Stable cmpC O2 S2)
  (hz:Stable cmpC (S1++S2) Z) (ha:Arr w1 B g c (D++(Z++[]))) (hg:wr.grownBy w1 (some g)):Pass2 B g c (2 * s) L w w1 (D++Z):=by
 obtain ⟨q1,q2,q3,q4,q5,q6,q7⟩:=h
 exact ⟨q5 Z (.last _ Z hl (Stable.join s1 s2 hz)),by rwa [List.append_nil] at ha,q7.trans hg⟩
theorem Pass3.none {B g c s a:Nat} {L:List Ud} {w wr:World} {D O R:List Ud} (h:Pass3 B g c s L w wr a D O R) (hs:0<s) (hl:O.length≤s):Pass2 B g c (2 * s) L w wr (D++R):=by
 obtain ⟨q1,q2,q3,q4,q5,q6,q7⟩:=h
 exact ⟨q5 R (.last O R (by omega) (q3.all cmpC_tot hs hl)),q6,q7⟩
set_option maxRecDepth 100000 in
set_option maxHeartbeats 16000000 in
theorem stable_any (B g c n:Nat) (L:List Ud) (w:World) (hn:n=L.length) (hbig:n≤1000000000) (h:Arr w B g c L) (hr:Rws w g L) :
  Calls Tryz.prog 181 #[.slice (some ⟨g,0,none⟩) n c, .int .i64 n, .func (.func 103) #[] #[]] w (Sorted B g c L w):=by
 have HR:=Lib.hid hr
 have HN:=Lib.hid hn
 have HP0:Hid (Pass1 B g c L w w 0 [] L):=Lib.hid ⟨rfl,Nat.zero_add _,fun _ h=>h,fun _ h=>h,h,World.grownBy.refl w _⟩
 clear h hr hn
 go_enter Tryz.func181,Tryz.ntmps181
 go_wp2
 go_loopg [7,8] n (fun z u v wr => ∃ (a:Nat) (S T:List Ud),z=n - a∧a≤n∧u = .int .i64 a∧v = .int .i64 ((a+20:Nat):Int)∧Hid (Pass1 B g c L w wr a S T))
 case atStart=>exact ⟨0,[],L,rfl,Nat.zero_le _,rfl,by go_num,HP0⟩
 case round =>
  obtain ⟨a,S,T,rfl,han,rfl,rfl,HJ⟩:=hrel
  clear HP0
  by_cases hlt:a+20≤n
  ·obtain ⟨T1,T2,rfl,ht⟩:=cut_at T 20 (by have:=HJ.out.2.1;have:=HN.out;omega)
   obtain ⟨x0,S0,rfl⟩:=cons_of (l:=T1) (by omega)
   have HT:=Lib.hid ht
   clear ht
   have zl:((a+20:Nat):Int)≤(n:Int):=by omega
   go_wp2_with (go_at_call 222;refine (insSort_some B g c n a (a+20) S S0 T2 x0 _ HJ.out.1.symm (by have:=HJ.out.1;have:=HT.out;rw [List.length_cons] at this;omega) (by have:=HJ.out;have e1:=this.1;have e2:=this.2.1;have e3:=HN.out;rw [List.length_append,e1];omega) HJ.out.2.2.2.2.1 ((HR.out.upd HJ.out.2.2.2.2.2).sub fun x hx=>HJ.out.2.2.1 x (List.mem_append_left _ hx))).mono ?_;rintro e w1 ⟨rfl,Z,s1,s2,s3⟩;have HJ1:=Lib.hid (HJ.out.step HT.out s1 s2 s3);clear s1 s2 s3)
   go_roundg (n - (a+20))
   case measure=>omega
   case rel=>exact ⟨a+20,S++Z,T2,rfl,hlt,by go_num,by go_num,HJ1⟩
  ·have zl : ¬ ((a+20:Nat):Int)≤(n:Int):=by omega
   have HX : ∃ P:World→Prop,(∀ w1,P w1 → ∃ S1,Pass2 B g c 20 L w w1 S1)∧Calls Tryz.prog 222 #[.slice (some ⟨g,0,none⟩) n c, .int .i64 a, .int .i64 n, .func (.func 103) #[] #[]] wr fun e w'=>e = .returned (.tuple #[])∧P w':=by
    refine ⟨fun w1 => ∃ S1,Pass2 B g c 20 L w w1 S1,fun _ h=>h,?_⟩
    have hl:=HJ.out.2.1
    rw [← HN.out] at hl
    by_cases ht:0<T.length
    ·obtain ⟨x0,S0,rfl⟩:=cons_of ht
     refine (insSort_some B g c n a n S S0 [] x0 wr HJ.out.1.symm (by have:=HJ.out.1;rw [List.length_cons] at hl;omega) (by rw [List.append_nil,List.length_append,HJ.out.1];exact hl.symm) (by rw [List.append_nil];exact HJ.out.2.2.2.2.1) ((HR.out.upd HJ.out.2.2.2.2.2).sub fun x hx=>HJ.out.2.2.1 x hx)).mono ?_
     rintro e w1 ⟨rfl,Z,s1,s2,s3⟩
     rw [List.append_nil] at s2
     exact ⟨rfl,_,HJ.out.last (by omega) s1 s2 s3⟩
    ·have e:T=[]:=nil_or ht
     subst e
     refine (insSort_none _ n c a n wr (by rw [List.length_nil] at hl;omega) (by omega)).mono ?_
     rintro e w1 ⟨rfl,rfl⟩
     exact ⟨rfl,_,HJ.out.last (Nat.zero_le _) Stable.nil HJ.out.2.2.2.2.1 (World.grownBy.refl _ _)⟩
   obtain ⟨PP,hp1,hp2⟩:=HX
   have HP1:=Lib.hid hp1
   have HP2:=Lib.hid hp2
   clear hp1 hp2
   go_wp2_with (go_at_call 222;refine HP2.out.mono ?_;rintro e w1 ⟨rfl,s1⟩;obtain ⟨S1,s2⟩:=HP1.out _ s1;have HS:=Lib.hid s2;clear s1 s2)
   clear HP1 HP2
   go_loopg [6,7,8] (n - 20) (fun z u v t wr => ∃ (s:Nat) (S:List Ud),z=n - s∧0<s∧s≤3000000000∧u = .int .i64 s∧Hid (Pass2 B g c s L w wr S))
   case atStart=>exact ⟨20,S1,rfl,by omega,by omega,rfl,HS⟩
   case round =>
    obtain ⟨s,S,rfl,hs0,hs9,rfl,HQ⟩:=hrel
    clear HS HJ
    obtain ⟨wo,hwo⟩ : ∃ wo:World,wo=wr:=⟨_,rfl⟩
    rw [← hwo] at HQ ⊢
    clear hwo
    by_cases hsn:s<n
    ·have HQ3:=Lib.hid HQ.out.start
     go_wp2
     go_loopg [7,8] n (fun z u v wr => ∃ (a:Nat) (D O R:List Ud),z=n - a∧a≤n∧u = .int .i64 a∧v = .int .i64 ((a+2 * s:Nat):Int)∧Hid (Pass3 B g c s L w wr a D O R))
     case atStart=>exact ⟨0,[],L,S,rfl,Nat.zero_le _,rfl,by go_num,HQ3⟩
     case round =>
      obtain ⟨a,D,O,R,rfl,han,rfl,rfl,HI⟩:=hrel
      clear HQ3
      have hOl:O.length=R.length:=(bks_len HI.out.2.2.1).symm
      have hRl:a+R.length=n:=by rw [HN.out];exact HI.out.2.1
      by_cases hlt:a+2 * s≤n
      ·obtain ⟨O1,S1,O2,S2,O3,S3,rfl,rfl,l1,l2,s1,s2,s3⟩:=HI.out.2.2.1.two hs0 (by omega)
       obtain ⟨ms,hms⟩ : ∃ q,q=a+s:=⟨_,rfl⟩
       have zm:(a:Int)+(s:Int)=(ms:Int):=by omega
       have e1:=stable_len s1
       have e2:=stable_len s2
       have HG:=Lib.hid (And.intro l1 (And.intro l2 (And.intro s1 (And.intro s2 s3))))
       have HE:=Lib.hid (And.intro e1 (And.intro e2 hms))
       have hmn:ms≤n:=by omega
       clear l1 l2 s1 s2 s3 e1 e2 hOl hRl hms
       have zl:((a+2 * s:Nat):Int)≤(n:Int):=by omega
       go_wp2_with (go_at_call 223;refine (symM_all (S1.length+S2.length) B g c n a ms (a+2 * s) D S1 S2 S3 _ (Nat.le_refl _) (by have:=HE.out;have:=HG.out;omega) (by have:=HE.out;have:=HG.out;omega) HI.out.1.symm (by have:=HE.out;have:=HG.out;omega) (by have:=HE.out;have:=HG.out;omega) (by have:=HI.out.2.1;have:=HI.out.1;have:=HN.out;rw [List.length_append];omega) HG.out.2.2.1.sorted HG.out.2.2.2.1.sorted HI.out.2.2.2.2.2.1 ((HR.out.upd HI.out.2.2.2.2.2.2).sub fun x hx=>HI.out.2.2.2.1 x (by rcases List.mem_append.1 hx with hx | hx<;>simp [hx])) hbig).mono ?_;rintro e w1 ⟨rfl,Z,z1,z2,z3⟩;have HI1:=Lib.hid (HI.out.step HG.out.1 HG.out.2.1 HG.out.2.2.1 HG.out.2.2.2.1 HG.out.2.2.2.2 z1 z2 z3);clear z1 z2 z3)
       go_roundg (n - (a+2 * s))
       case measure=>omega
       case rel=>exact ⟨a+2 * s,D++Z,O3,S3,rfl,hlt,by go_num,by go_num,HI1⟩
      ·have zl : ¬ ((a+2 * s:Nat):Int)≤(n:Int):=by omega
       obtain ⟨ms,hms⟩ : ∃ q,q=a+s:=⟨_,rfl⟩
       have zm:(a:Int)+(s:Int)=(ms:Int):=by omega
       by_cases hm:a+s<n
       ·obtain ⟨O1,S1,O2,S2,rfl,rfl,l1,s1,s2⟩:=HI.out.2.2.1.rest cmpC_tot hs0 (by omega) (by omega)
        have e1:=stable_len s1
        have e2:=stable_len s2
        have HO:Hid ((O1++O2).length≤2 * s):=Lib.hid (by omega)
        have HG:=Lib.hid (And.intro l1 (And.intro s1 s2))
        have HE:=Lib.hid (And.intro e1 (And.intro e2 (And.intro hRl hms)))
        have zn:(ms:Int)<(n:Int):=by omega
        clear l1 s1 s2 e1 e2 hOl hRl hms
        go_wp2_with (go_at_call 223;refine (symM_all (S1.length+S2.length) B g c n a ms n D S1 S2 [] _ (Nat.le_refl _) (by have:=HE.out;have:=HG.out;omega) (by have:=HE.out;have:=HG.out;simp only [List.length_append] at *;omega) HI.out.1.symm (by have:=HE.out;have:=HG.out;omega) (by have:=HE.out;have:=HG.out;simp only [List.length_append] at *;omega) (by have:=HI.out.2.1;have:=HI.out.1;have:=HN.out;rw [List.append_nil,List.length_append];omega) HG.out.2.1.sorted HG.out.2.2.sorted (by rw [List.append_nil];exact HI.out.2.2.2.2.2.1) ((HR.out.upd HI.out.2.2.2.2.2.2).sub fun x hx=>HI.out.2.2.2.1 x hx) hbig).mono ?_;rintro e w1 ⟨rfl,Z,z1,z2,z3⟩;have HI1:=Lib.hid (HI.out.rest HO.out HG.out.2.1 HG.out.2.2 z1 z2 z3);clear z1 z2 z3)
        go_roundg (n - 2 * s)
        case measure=>omega
        case rel=>exact ⟨2 * s,D++Z,rfl,by omega,by omega,by go_num,HI1⟩
       ·have zn : ¬ (ms:Int)<(n:Int):=by omega
        have HI1:=Lib.hid (HI.out.none hs0 (by omega))
        have hmb:ms≤2000000000:=by omega
        clear hOl hRl hms
        go_wp2
        go_roundg (n - 2 * s)
        case measure=>omega
        case rel=>exact ⟨2 * s,D++R,rfl,by omega,by omega,by go_num,HI1⟩
    ·have HE:Hid (Sorted B g c L w (.returned (.tuple #[])) wo):=Lib.hid ⟨rfl,S,HQ.out.1.all cmpC_tot hs0 (by rw [← HN.out];omega),HQ.out.2.1,HQ.out.2.2⟩
     go_wp2
     go_end0
     exact HE.out
set_option maxRecDepth 100000 in
set_option maxHeartbeats 800000 in
theorem sortStable_any (B g c n:Nat) (L:List Ud) (w:World) (hn:n=L.length) (hbig:n≤1000000000) (h:Arr w B g c L) (hr:Rws w g L) :
  Calls Tryz.prog 102 #[.slice (some ⟨g,0,none⟩) n c, .func (.func 103) #[] #[]] w (Sorted B g c L w):=by
 have H:=Lib.hid h
 have HR:=Lib.hid hr
 have HN:=Lib.hid hn
 clear h hr hn
 go_enter Tryz.func102,Tryz.ntmps102
 go_wp2_with (go_at_call 181;refine (stable_any B g c n L _ HN.out hbig H.out HR.out).mono ?_;rintro e w1 ⟨rfl,s1⟩;have S1:=Lib.hid s1;clear s1)
 go_end0
 exact ⟨rfl,S1.out⟩
end Go.Proofs.YtdgbkpoickbidaaGreatDoor.UdS
namespace Go.Proofs.YtdgbkpoickbidaaGreatDoor
open Go.RowKit

namespace UdS
set_option maxRecDepth 100000 in
set_option maxHeartbeats 400000 in
theorem clip_any (A:Option Addr) (n c:Nat) (w:World) (hn:n≤c) (hc:c≤9223372036854775807) :
  Calls Tryz.prog 105 #[.slice A n c] w fun e w'=>e = .returned (.slice A n n)∧w=w':=by
 go_enter Tryz.func105,Tryz.ntmps105
 cases A with
 | none =>
  go_wp2
  go_ret
  exact ⟨by simp,rfl⟩
 | some a =>
  go_wp2
  go_ret
  exact ⟨by simp,rfl⟩
set_option maxRecDepth 100000 in
set_option maxHeartbeats 400000 in
theorem sortNone_any (A:Option Addr) (c:Nat) (w:World) :
  Calls Tryz.prog 102 #[.slice A 0 c, .func (.func 103) #[] #[]] w fun e w'=>e = .returned (.tuple #[])∧w=w':=by
 have hs : ∀ W:World,Calls Tryz.prog 181 #[.slice A 0 c, .int .i64 0, .func (.func 103) #[] #[]] W fun e w'=>e = .returned (.tuple #[])∧W=w':=fun W=>by
  go_enter Tryz.func181,Tryz.ntmps181
  go_wp2
  go_loop [7,8] (fun u v=>u = .int .i64 0∧v = .int .i64 20) (fun _ _=>0)
  case atStart=>exact ⟨rfl,rfl⟩
  case round =>
   obtain ⟨rfl,rfl⟩:=hrel
   go_wp2_with (go_at_call 222;refine (insSort_none _ 0 c 0 0 _ (Nat.le_refl _) (by decide)).mono ?_;rintro e w1 ⟨rfl,rfl⟩)
   go_loop [6,7,8] (fun u v z=>u = .int .i64 20) (fun _ _ _=>0)
   case atStart=>rfl
   case round =>
    subst hrel
    go_wp2
    go_end0
    exact ⟨rfl,rfl⟩
 go_enter Tryz.func102,Tryz.ntmps102
 go_wp2_with (go_at_call 181;refine (hs _).mono ?_;rintro e w1 ⟨rfl,rfl⟩)
 go_end0
 exact ⟨rfl,rfl⟩
set_option maxRecDepth 100000 in
set_option maxHeartbeats 400000 in
theorem delNone_any (A:Option Addr) (c:Nat) (w:World) :
  Calls Tryz.prog 106 #[.slice A 0 c, .func (.func 107) #[] #[]] w fun e w'=>e = .returned (.slice A 0 c)∧w=w':=by
 have hs : ∀ W:World,Calls Tryz.prog 185 #[.slice A 0 c, .func (.func 107) #[] #[]] W fun e w'=>e = .returned (.int .i64 (-1))∧W=w':=fun W=>by
  go_enter Tryz.func185,Tryz.ntmps185
  go_wp2
  go_loop [8] (fun v=>v = .int .i64 0) (fun _=>0)
  case atStart=>rfl
  case round =>
   subst hrel
   go_wp2
   go_ret
   exact ⟨rfl,rfl⟩
 go_enter Tryz.func106,Tryz.ntmps106
 go_wp2_with (go_at_call 185;refine (hs _).mono ?_;rintro e w1 ⟨rfl,rfl⟩)
 go_ret
 exact ⟨rfl,rfl⟩
set_option maxRecDepth 100000 in
set_option maxHeartbeats 4000000 in
theorem dsum_none (A:Option Addr) (c:Nat) (w:World) (h:Hid (Uin w A c [])) :
  Calls Tryz.prog 16 #[.slice A 0 c] w (DSumRes w []):=by
 have hn:Hid ((0:Nat)=([]:List Ud).length):=Lib.hid rfl
 go_enter Tryz.func16,Tryz.ntmps16
 go_wp2_with (first
  | (go_at_call 101;refine (clone_ups A 0 c [] _ hn h (by decide)).mono ?_;rintro r w1 ⟨A1,c1,rfl,o1,x1⟩;have X1:=Lib.hid x1;clear o1 x1)
  | (go_at_call 102;refine (sortNone_any A1 c1 _).mono ?_;rintro e w2 ⟨rfl,rfl⟩)
  | fail)
 go_loop [4,13] (fun u v=>u = .slice none 0 0∧v = .int .i64 0) (fun _ _=>0)
 case atStart=>exact ⟨rfl,rfl⟩
 case round =>
  obtain ⟨rfl,rfl⟩:=hrel
  go_wp2_with (first
   | (go_at_call 106;refine (delNone_any none 0 _).mono ?_;rintro e w2 ⟨rfl,rfl⟩)
   | (go_at_call 105;refine (clip_any none 0 0 _ (Nat.le_refl _) (by decide)).mono ?_;rintro e w3 ⟨rfl,rfl⟩)
   | fail)
  go_ret
  exact ⟨none,0,[],by simp,rfl,Uout.nil _ _,rfl,X1.out⟩
set_option maxRecDepth 100000 in
set_option maxHeartbeats 16000000 in
theorem dsum_some (A:Option Addr) (c n:Nat) (L:List Ud) (w:World) (h0:0<n) (hn:Hid (n=L.length)) (h:Hid (Uin w A c L)) (h9:n≤1000000) (hin:Hid (∀ x∈L,InN x.uv)) (hr:Hid (∀ x∈L,x.l.length≤1000000000∧x.t.l.length≤1000000000)) :
  Calls Tryz.prog 16 #[.slice A n c] w (DSumRes w L):=by
 have m1:True:=trivial
 go_enter Tryz.func16,Tryz.ntmps16
 go_wp2_with (first
  | (go_at_call 101;have mk:=m1;clear m1 mk;refine (clone_ups A n c L _ hn h h9).mono ?_;rintro r w1 ⟨A1,c1,rfl,o1,x1⟩;have hf:=o1.form h0;obtain ⟨g,eA,hb,hg1,hg2,_,_⟩:=hf;subst eA;have HAr:Hid (Arr w1 w.heap.size g c1 L):=Lib.hid ⟨by rw [← hn.out];exact o1,by have:=o1.le.1;omega⟩;have HRw:Hid (Rws w1 g L):=Lib.hid (Rws.of h.out.ls x1 hg1);have X1:=Lib.hid x1;have HG:=Lib.hid hg1;clear o1 x1 hb hg1 hg2;have m2:True:=trivial)
  | (go_at_call 102;have mk:=m2;clear m2 mk;refine (sortStable_any w.heap.size g c1 n L _ hn.out (by omega) HAr.out HRw.out).mono ?_;rintro e w2 ⟨rfl,S,st,ar,up⟩;have HST:=Lib.hid st;have HSL:Hid (n=S.length):=Lib.hid (by rw [stable_len st];exact hn.out);have HMem:Hid (∀ x∈S,x∈L):=Lib.hid (fun x hx=>(st.mem cmpC_tot x).1 hx);have X2:Hid (Ext w w2):=Lib.hid (X1.out.grown up (fun k e=>by cases e;exact HG.out));have HS:Hid (Uin w2 (some ⟨g,0,none⟩) c1 S):=Lib.hid ⟨ar.1.sl,fun x hx=>((HRw.out.upd up) x (HMem.out x hx)).1⟩;have hgw:w.heap.size≤w2.heap.size:=X2.out.size;clear st ar up)
  | fail)
 have HSI:Hid (∀ x∈S,InN x.uv):=Lib.hid (fun x hx=>hin.out x (HMem.out x hx))
 have HSR:Hid (∀ x∈S,x.l.length≤1000000000∧x.t.l.length≤1000000000):=Lib.hid (fun x hx=>hr.out x (HMem.out x hx))
 have HP0:Hid (DSumAt w w2 S w2 0 none 0 []):=Lib.hid ⟨Uout.nil _ _,rfl,Nat.le_refl _,Ext.refl _,X2.out⟩
 clear h hr
 go_loopg [4,13] n (fun z u v wr => ∃ (i m:Nat) (A2:Option Addr) (c2:Nat) (O:List Ud),z=n - i∧i≤n∧m≤i∧u = .slice A2 m c2∧v = .int .i64 i∧Hid (m=O.length)∧Hid (∀ k,blk A2 c2=some k→w2.heap.size≤k)∧Hid (DSumAt w w2 S wr i A2 c2 O))
 case atStart=>exact ⟨0,0,none,0,[],rfl,Nat.zero_le _,Nat.le_refl _,rfl,rfl,Lib.hid rfl,Lib.hid (fun k hk=>nomatch hk),HP0⟩
 case round =>
  clear HP0
  obtain ⟨i,m,A2,c2,O,rfl,hi,hmi,rfl,rfl,HM,HLo,HP⟩:=hrel
  by_cases hlt:i<n
  ·have hil:i<S.length:=by rw [← HSL.out];exact hlt
   obtain ⟨ad,eA,p0,p1,p2,p3⟩:=(HS.out.ext HP.out.ext).at hil
   cases eA
   rw [show (⟨g,0,none⟩:Addr).add (i * 4)=⟨g,i * 4,none⟩ from by unfold Addr.add;split<;>simp_all] at p0 p1 p2 p3
   have hmm:=getU_mem hil
   obtain ⟨x,hx⟩ : ∃ x,S.getD i Ud.zero=x:=⟨_,rfl⟩
   rw [hx] at p0 p1 p2 p3 hmm
   obtain ⟨nx,hnx⟩ : ∃ nx,nx=x.l.length:=⟨_,rfl⟩
   obtain ⟨tx,htx⟩ : ∃ tx,tx=x.t.l.length:=⟨_,rfl⟩
   rw [← hnx] at p0
   rw [← htx] at p2
   have HNX:=Lib.hid hnx
   have HTX:=Lib.hid htx
   have HX:=Lib.hid hx
   have HIL:=Lib.hid hil
   have hnx9:nx≤1000000000:=by rw [hnx];exact (HSR.out x hmm).1
   have htx9:tx≤1000000000:=by rw [htx];exact (HSR.out x hmm).2
   have HUX:Hid (∀ W,Ext w2 W→UdR W x):=Lib.hid (fun W q=>(HS.out.ls x hmm).ext q)
   obtain ⟨wb,hwb⟩ : ∃ z,z=wr.alloc (.cells #[.slice x.A nx x.c, .int .u64 x.t.e, .slice x.t.A tx x.t.c, .int .i64 x.d] 95):=⟨_,rfl⟩
   have XB:Ext wr wb:=by rw [hwb];exact (Ext.refl wr).alloc _
   have BX:Hid (Bk wb wr.heap.size 95 #[.slice x.A nx x.c, .int .u64 x.t.e, .slice x.t.A tx x.t.c, .int .i64 x.d]):=Lib.hid (by rw [hwb];exact Bk.new _ _ _)
   have HB:Hid (DSumAt w w2 S wb i A2 c2 O):=Lib.hid (HP.out.mono XB)
   clear hil hmm hx hnx htx
   go_upto_region 7 with fail
   rw [← hwb]
   clear hwb p0 p1 p2 p3
   obtain ⟨gu,hgu⟩ : ∃ k,k=wr.heap.size:=⟨_,rfl⟩
   rw [← hgu] at BX ⊢
   clear hgu
   have X:Ext wb wb.drew:=(Ext.refl wb).drew
   have q0 : ∀ z:Xt wb.drew,z.W.cell? ⟨gu,0,none⟩=some (.slice x.A nx x.c):=fun z=>(BX.out.ext (X.trans z.x)).cell 0
   have q1 : ∀ z:Xt wb.drew,z.W.cell? ⟨gu,1,none⟩=some (.int .u64 x.t.e):=fun z=>(BX.out.ext (X.trans z.x)).cell 1
   have q2 : ∀ z:Xt wb.drew,z.W.cell? ⟨gu,2,none⟩=some (.slice x.t.A tx x.t.c):=fun z=>(BX.out.ext (X.trans z.x)).cell 2
   have q3 : ∀ z:Xt wb.drew,z.W.cell? ⟨gu,3,none⟩=some (.int .i64 x.d):=fun z=>(BX.out.ext (X.trans z.x)).cell 3
   cases i with
   | zero =>
    have HOn:Hid (O=[] ∨ ∃ M y,O=M++[y] ∧ ¬ kcmp y.k x.k=0):=Lib.hid (.inl (List.eq_nil_of_length_eq_zero (by rw [← HM.out];omega)))
    refine wp_region_ord [0,1,3,7,7,23,63,127,7,511,1023,2047] (.flo [0,1,2,3,4,5,6,7,8] (.one 9 (.flo [10,11] (.fin)))) (by kernel_rfl) (by kernel_rfl) (by intro _ _ d _ _ h;cases d<;>exact h) ?_
    (refine ord_flo (pick_cons rfl (pick_cons rfl (pick_cons rfl (pick_cons rfl (pick_cons rfl (pick_cons rfl (pick_cons rfl (pick_cons rfl (pick_cons rfl pick_nil))))))))) ?_;(repeat (go_big_quiet_step (fail)));refine wpQuiet_nil ?_;show ordWalk _ _ _ _ _ _ _)
    refine ord_one (pick_cons rfl pick_nil) ?_;intro K_ hK_
    go_wp2
    (refine ord_flo (pick_cons rfl (pick_cons rfl pick_nil)) ?_;(repeat (go_big_quiet_step (fail)));refine wpQuiet_nil ?_;show ordWalk _ _ _ _ _ _ _)
    refine ord_fin ?_
    have HB:=Lib.hid (HB.out.mono X)
    obtain ⟨w3,hw3⟩ : ∃ w3,w3=wb.drew:=⟨_,rfl⟩
    have BX:=Lib.hid (BX.out.ext X)
    rw [← hw3] at HB BX ⊢
    clear hw3 q0 q1 q2 q3 X
    have BX0:=BX.out.cell 0
    have BX1:=BX.out.cell 1
    have BX2:=BX.out.cell 2
    have BX3:=BX.out.cell 3
    have HUW:=Lib.hid (HUX.out _ HB.out.ext)
    have hw3:w.heap.size≤w3.heap.size:=Nat.le_trans hgw HB.out.ext.size
    have m5:True:=trivial
    go_wp2_with (first
     | (go_at_call 104;have mk:=m5;clear m5 mk;refine (ucopied_any x nx tx _ HNX HTX HUW hnx9 htx9).mono ?_;rintro e w4 ⟨A4,c4,B4,b4,rfl,o4,t4,x4⟩;have O4:=Lib.hid o4;have T4:=Lib.hid t4;have X4:=Lib.hid x4;have hw4:w.heap.size≤(w4.alloc (.cells (#[.slice A4 nx c4, .int .u64 x.t.e, .slice B4 tx b4, .int .i64 x.d]:Array Value) 95)).heap.size:=(by have:=x4.size;simp;omega);clear o4 t4 x4;have m6:True:=trivial)
     | (at_builtin;have mk:=m6;clear m6 mk;refine wpList_append_two _ elem_ud w.heap.size _ _ rfl rfl A2 m c2 (udsC O) rfl (by have:=(HB.out.out.ext X4.out).own.alloc (.cells (#[.slice A4 nx c4, .int .u64 x.t.e, .slice B4 tx b4, .int .i64 x.d]:Array Value) 95);rwa [← HM.out] at this) (some ⟨w4.heap.size,0,none⟩) 1 1 [.slice A4 nx c4, .int .u64 x.t.e, .slice B4 tx b4, .int .i64 x.d] rfl (Sl.one w4 #[.slice A4 nx c4, .int .u64 x.t.e, .slice B4 tx b4, .int .i64 x.d] 95 4 rfl) (by intro u hu;simp at hu;rcases hu with rfl | rfl | rfl | rfl<;>rfl) (by omega) (by decide) hw4 ?_;intro A6 c6 w6 o6 g6 h6;have HN6:Hid (DSumAt w w2 S w6 (0+1) A6 c6 (O++[⟨A4,c4,x.l,⟨x.t.e,B4,b4,x.t.l⟩,x.d⟩])):=Lib.hid ⟨Uout.push HB.out.out X4.out (x:=⟨A4,c4,x.l,⟨x.t.e,B4,b4,x.t.l⟩,x.d⟩) (by have:=O4.out;rwa [HNX.out] at this) (by have:=T4.out;rwa [HTX.out] at this) hw3 _ (by have:=o6;rw [HM.out,HNX.out,HTX.out] at this;exact this) g6,dkeep_is HB.out.is HIL.out HX.out HOn.out rfl,by rw [List.length_append, ← HM.out];show m+1≤_;omega,((HB.out.ext.trans X4.out).alloc _).grown g6 (fun k hk=>HLo.out k hk),X2.out⟩;have HL6:Hid (∀ k,blk A6 c6=some k→w2.heap.size≤k):=Lib.hid (fun k hk=>by rcases h6 with ⟨e1,e2⟩ | ⟨e1,_⟩;(subst e1 e2;exact HLo.out k hk);(rw [e1] at hk;injection hk with hk;have q1:=HB.out.ext.size;have q2:=X4.out.size;have q3:=((Ext.refl w4).alloc (.cells (#[.slice A4 nx c4, .int .u64 x.t.e, .slice B4 tx b4, .int .i64 x.d]:Array Value) 95)).size;omega));clear o6 g6 h6)
     | fail)
    go_roundg (n - (0+1))
    case measure=>omega
    case rel=>exact ⟨0+1,m+1,A6,c6,_,rfl,by omega,by omega,rfl,by go_num,Lib.hid (by rw [List.length_append,HM.out];rfl),HL6,HN6⟩
   | succ j =>
    have hjl:j<S.length:=by have:=HIL.out;omega
    obtain ⟨ad,eA,s0,s1,s2,s3⟩:=(HS.out.ext (HB.out.ext.trans X)).at hjl
    cases eA
    rw [show (⟨g,0,none⟩:Addr).add (j * 4)=⟨g,j * 4,none⟩ from by unfold Addr.add;split<;>simp_all] at s0 s1 s2 s3
    have hms:=getU_mem hjl
    obtain ⟨M,y,hOM,hkk⟩:=dlast HST.out.sorted HSI.out HB.out.is hjl
    obtain ⟨s,hs⟩ : ∃ s,S.getD j Ud.zero=s:=⟨_,rfl⟩
    rw [hs] at s0 s1 s2 s3 hms hkk
    obtain ⟨ns,hns⟩ : ∃ ns,ns=s.l.length:=⟨_,rfl⟩
    obtain ⟨ts,hts⟩ : ∃ ts,ts=s.t.l.length:=⟨_,rfl⟩
    rw [← hns] at s0
    rw [← hts] at s2
    have HNS:=Lib.hid hns
    have HTS:=Lib.hid hts
    have HUS:Hid (∀ W,Ext w2 W→UdR W s):=Lib.hid (fun W q=>(HS.out.ls s hms).ext q)
    have S0 : ∀ z:Xt wb.drew,z.W.cell? ⟨g,j * 4,none⟩=some (.slice s.A ns s.c):=fun z=>z.x.cell s0
    have S1 : ∀ z:Xt wb.drew,z.W.cell? ⟨g,j * 4+1,none⟩=some (.int .u64 s.t.e):=fun z=>z.x.cell s1
    have S2 : ∀ z:Xt wb.drew,z.W.cell? ⟨g,j * 4+2,none⟩=some (.slice s.t.A ts s.t.c):=fun z=>z.x.cell s2
    have S3 : ∀ z:Xt wb.drew,z.W.cell? ⟨g,j * 4+3,none⟩=some (.int .i64 s.d):=fun z=>z.x.cell s3
    obtain ⟨v,hv⟩ : ∃ v,cmpC s x=v:=⟨_,rfl⟩
    have HV:=Lib.hid hv
    have HKK:Hid (kcmp y.k x.k=0↔v=0):=Lib.hid (by rw [← hv];exact hkk x)
    have HOM:=Lib.hid hOM
    have HU1:=Lib.hid (HUS.out _ (HB.out.ext.trans X))
    have HU2:=Lib.hid (HUX.out _ (HB.out.ext.trans X))
    have za:decide ((0:Int)<(j:Int)+1)=true:=decide_eq_true (by omega)
    clear hs hms hns hts hv hOM hkk hjl s0 s1 s2 s3
    by_cases hv0:v=0
    ·have HC:Hid (kcmp y.k x.k=0):=Lib.hid (HKK.out.2 hv0)
     subst hv0
     clear HKK
     refine wp_region_ord [0,1,3,7,7,23,63,127,7,511,1023,2047] (.flo [0,1,2,3,4,5,6,7,8] (.one 9 (.flo [10,11] (.fin)))) (by kernel_rfl) (by kernel_rfl) (by intro _ _ d _ _ h;cases d<;>exact h) ?_
     (refine ord_flo (pick_cons rfl (pick_cons rfl (pick_cons rfl (pick_cons rfl (pick_cons rfl (pick_cons rfl (pick_cons rfl (pick_cons rfl (pick_cons rfl pick_nil))))))))) ?_;(repeat (go_big_quiet_step (fail)));refine wpQuiet_nil ?_;show ordWalk _ _ _ _ _ _ _)
     refine ord_one (pick_cons rfl pick_nil) ?_;intro K_ hK_
     go_wp2_with (go_at_call 103;refine (order_any s x ns nx ts tx 0 _ HV HNS HNX HTS HTX HU1 HU2).mono ?_;rintro e w3 ⟨rfl,x3⟩)
     (refine ord_flo (pick_cons rfl (pick_cons rfl pick_nil)) ?_;(repeat (go_big_quiet_step (fail)));refine wpQuiet_nil ?_;show ordWalk _ _ _ _ _ _ _)
     refine ord_fin ?_
     have HB:=Lib.hid (HB.out.mono (X.trans x3))
     have BX:=Lib.hid (BX.out.ext (X.trans x3))
     clear q0 q1 q2 q3 S0 S1 S2 S3 x3
     obtain ⟨p,hp⟩ : ∃ p,p=M.length:=⟨_,rfl⟩
     have hmp:m=p+1:=by rw [HM.out,HOM.out,List.length_append,hp];rfl
     subst hmp
     have HPL:=Lib.hid hp
     have hob:=HB.out.out.own
     have hof:=hob.form (by rw [← HM.out];omega)
     obtain ⟨g2,eA2,hb2,hg2,_,hc2,hf2⟩:=hof
     subst eA2
     have hg3:w2.heap.size≤g2:=HLo.out g2 hb2
     have hyy:(udsC O)[p * 4+3]?=some (.int .i64 y.d):=by
      rw [udsC_at O p 3 (by rw [← HM.out];omega) (by omega),HOM.out,List.getD_eq_getElem?_getD,List.getElem?_append_right (by rw [hp];exact Nat.le_refl _),hp,Nat.sub_self]
      rfl
     have y3:=hc2 _ _ hyy
     have f3:=hf2 (p * 4+3)
     have u3:=BX.out.cell 3
     obtain ⟨sm,hsm⟩ : ∃ sm,w64 (y.d+x.d)=sm:=⟨_,rfl⟩
     have hsm2:IntKind.i64.wrap (y.d+x.d)=sm:=hsm
     have HSM:=Lib.hid hsm
     have X3:Ext w3 w3.drew:=(Ext.refl w3).drew
     have Y3 : ∀ z:Xt w3.drew,z.W.cell? ⟨g2,p * 4+3,none⟩=some (.int .i64 y.d):=fun z=>(X3.trans z.x).cell y3
     have U3 : ∀ z:Xt w3.drew,z.W.cell? ⟨gu,3,none⟩=some (.int .i64 x.d):=fun z=>(X3.trans z.x).cell u3
     have HB3:Hid (DSumAt w w2 S (w3.setCell ⟨g2,p * 4+3,none⟩ (.int .i64 sm)) (j+1+1) (some ⟨g2,0,none⟩) c2 (M++[⟨y.A,y.c,y.l,y.t,sm⟩])):=Lib.hid (DSumAt.join (by have:=HB.out;rwa [HOM.out] at this) HIL.out HX.out HC.out HPL.out HSM.out hg3)
     clear hyy hp hsm hob hc2 hf2 hb2
     go_upto_region 8 with fail
     refine wp_region_ord [0,0,2,6,15,31,63,0,128,511,1023,2047,4095] (.flo [0,1,2,3,4,5,6,7,8,9,10,11] (.one 12 (.fin))) (by kernel_rfl) (by kernel_rfl) (by intro _ _ d _ _ h;cases d<;>exact h) ?_
     (refine ord_flo (pick_cons rfl (pick_cons rfl (pick_cons rfl (pick_cons rfl (pick_cons rfl (pick_cons rfl (pick_cons rfl (pick_cons rfl (pick_cons rfl (pick_cons rfl (pick_cons rfl (pick_cons rfl pick_nil)))))))))))) ?_;(repeat (go_big_quiet_step (fail)));refine wpQuiet_nil ?_;show ordWalk _ _ _ _ _ _ _)
     refine ord_one (pick_cons rfl pick_nil) ?_;intro K_ hK_
     go_wp2
     refine ord_fin ?_
     go_wp2
     go_roundg (n - (j+1+1))
     case measure=>omega
     case rel=>exact ⟨j+1+1,p+1,some ⟨g2,0,none⟩,c2,_,rfl,by omega,by omega,rfl,by go_num,Lib.hid (by rw [List.length_append,HPL.out];rfl),HLo,Lib.hid (HB3.out.mono (Ext.refl _).drew)⟩
    ·have zv:(v==0)=false:=by simpa using hv0
     have HOn:Hid (O=[] ∨ ∃ M y,O=M++[y] ∧ ¬ kcmp y.k x.k=0):=Lib.hid (.inr ⟨M,y,HOM.out,fun q=>hv0 (HKK.out.1 q)⟩)
     refine wp_region_ord [0,1,3,7,7,23,63,127,7,511,1023,2047] (.flo [0,1,2,3,4,5,6,7,8] (.one 9 (.flo [10,11] (.fin)))) (by kernel_rfl) (by kernel_rfl) (by intro _ _ d _ _ h;cases d<;>exact h) ?_
     (refine ord_flo (pick_cons rfl (pick_cons rfl (pick_cons rfl (pick_cons rfl (pick_cons rfl (pick_cons rfl (pick_cons rfl (pick_cons rfl (pick_cons rfl pick_nil))))))))) ?_;(repeat (go_big_quiet_step (fail)));refine wpQuiet_nil ?_;show ordWalk _ _ _ _ _ _ _)
     refine ord_one (pick_cons rfl pick_nil) ?_;intro K_ hK_
     go_wp2_with (go_at_call 103;refine (order_any s x ns nx ts tx v _ HV HNS HNX HTS HTX HU1 HU2).mono ?_;rintro e w3 ⟨rfl,x3⟩)
     (refine ord_flo (pick_cons rfl (pick_cons rfl pick_nil)) ?_;(repeat (go_big_quiet_step (fail)));refine wpQuiet_nil ?_;show ordWalk _ _ _ _ _ _ _)
     refine ord_fin ?_
     have HB:=Lib.hid (HB.out.mono (X.trans x3))
     have BX:=Lib.hid (BX.out.ext (X.trans x3))
     clear q0 q1 q2 q3 S0 S1 S2 S3 x3 X
     have BX0:=BX.out.cell 0
     have BX1:=BX.out.cell 1
     have BX2:=BX.out.cell 2
     have BX3:=BX.out.cell 3
     have HUW:=Lib.hid (HUX.out _ HB.out.ext)
     have hw3:w.heap.size≤w3.heap.size:=Nat.le_trans hgw HB.out.ext.size
     have m5:True:=trivial
     go_wp2_with (first
      | (go_at_call 104;have mk:=m5;clear m5 mk;refine (ucopied_any x nx tx _ HNX HTX HUW hnx9 htx9).mono ?_;rintro e w4 ⟨A4,c4,B4,b4,rfl,o4,t4,x4⟩;have O4:=Lib.hid o4;have T4:=Lib.hid t4;have X4:=Lib.hid x4;have hw4:w.heap.size≤(w4.alloc (.cells (#[.slice A4 nx c4, .int .u64 x.t.e, .slice B4 tx b4, .int .i64 x.d]:Array Value) 95)).heap.size:=(by have:=x4.size;simp;omega);clear o4 t4 x4;have m6:True:=trivial)
      | (at_builtin;have mk:=m6;clear m6 mk;refine wpList_append_two _ elem_ud w.heap.size _ _ rfl rfl A2 m c2 (udsC O) rfl (by have:=(HB.out.out.ext X4.out).own.alloc (.cells (#[.slice A4 nx c4, .int .u64 x.t.e, .slice B4 tx b4, .int .i64 x.d]:Array Value) 95);rwa [← HM.out] at this) (some ⟨w4.heap.size,0,none⟩) 1 1 [.slice A4 nx c4, .int .u64 x.t.e, .slice B4 tx b4, .int .i64 x.d] rfl (Sl.one w4 #[.slice A4 nx c4, .int .u64 x.t.e, .slice B4 tx b4, .int .i64 x.d] 95 4 rfl) (by intro u hu;simp at hu;rcases hu with rfl | rfl | rfl | rfl<;>rfl) (by omega) (by decide) hw4 ?_;intro A6 c6 w6 o6 g6 h6;have HN6:Hid (DSumAt w w2 S w6 ((j+1)+1) A6 c6 (O++[⟨A4,c4,x.l,⟨x.t.e,B4,b4,x.t.l⟩,x.d⟩])):=Lib.hid ⟨Uout.push HB.out.out X4.out (x:=⟨A4,c4,x.l,⟨x.t.e,B4,b4,x.t.l⟩,x.d⟩) (by have:=O4.out;rwa [HNX.out] at this) (by have:=T4.out;rwa [HTX.out] at this) hw3 _ (by have:=o6;rw [HM.out,HNX.out,HTX.out] at this;exact this) g6,dkeep_is HB.out.is HIL.out HX.out HOn.out rfl,by rw [List.length_append, ← HM.out];show m+1≤_;omega,((HB.out.ext.trans X4.out).alloc _).grown g6 (fun k hk=>HLo.out k hk),X2.out⟩;have HL6:Hid (∀ k,blk A6 c6=some k→w2.heap.size≤k):=Lib.hid (fun k hk=>by rcases h6 with ⟨e1,e2⟩ | ⟨e1,_⟩;(subst e1 e2;exact HLo.out k hk);(rw [e1] at hk;injection hk with hk;have q1:=HB.out.ext.size;have q2:=X4.out.size;have q3:=((Ext.refl w4).alloc (.cells (#[.slice A4 nx c4, .int .u64 x.t.e, .slice B4 tx b4, .int .i64 x.d]:Array Value) 95)).size;omega));clear o6 g6 h6)
      | fail)
     go_roundg (n - ((j+1)+1))
     case measure=>omega
     case rel=>exact ⟨(j+1)+1,m+1,A6,c6,_,rfl,by omega,by omega,rfl,by go_num,Lib.hid (by rw [List.length_append,HM.out];rfl),HL6,HN6⟩
  ·obtain rfl:i=n:=by omega
   obtain ⟨j,rfl⟩ : ∃ j,i=j+1:=⟨i - 1,by omega⟩
   obtain ⟨M,y,hOM,_⟩:=dlast HST.out.sorted HSI.out HP.out.is (show j<S.length by rw [← HSL.out];omega)
   have hm0:0<m:=by rw [HM.out,hOM];simp
   have hob:=HP.out.out.own
   have hof:=hob.form (by rw [← HM.out];exact hm0)
   obtain ⟨g2,eA2,hb2,hg2,_,_,_⟩:=hof
   subst eA2
   have hmc:m≤c2:=by have:=hob.le.1;rwa [← HM.out] at this
   have hc9:c2≤9223372036854775807:=hob.le.2
   have HArr:Hid (Arr wr w.heap.size g2 c2 O):=Lib.hid ⟨hob,by omega⟩
   have HV:Hid ((O.filter nzC).map Ud.uv=sumV (L.map Ud.uv)):=Lib.hid (dsum_val hin.out HST.out (by have:=HP.out.is;rwa [List.take_of_length_le (by rw [← HSL.out];exact Nat.le_refl _)] at this))
   have HXE:Hid (Ext w wr):=Lib.hid (X2.out.trans HP.out.ext)
   have HG2:=Lib.hid hg2
   clear hOM hob hb2 hg2
   have m3:True:=trivial
   go_wp2_with (first
    | (go_at_call 106;have mk:=m3;clear m3 mk;refine (deleteFunc_any w.heap.size g2 c2 m O _ HM.out HArr.out).mono ?_;rintro e w5 ⟨m5,rfl,hm5,ar5,up5⟩;have HD:Hid (Uout w5 w.heap.size (some ⟨g2,0,none⟩) c2 (O.filter nzC)):=Lib.hid (Uout.del HP.out.out nzC ar5 up5);have X5:Hid (Ext w w5):=Lib.hid (HXE.out.grown up5 (fun k e=>by cases e;exact HG2.out));have HM5:=Lib.hid hm5;have hm5c:m5≤c2:=(by rw [hm5];exact ar5.1.le.1);clear hm5 ar5 up5;have m4:True:=trivial)
    | (go_at_call 105;have mk:=m4;clear m4 mk;refine (clip_any (some ⟨g2,0,none⟩) m5 c2 _ hm5c hc9).mono ?_;rintro e w6 ⟨rfl,rfl⟩)
    | fail)
   go_ret
   exact ⟨some ⟨g2,0,none⟩,m5,O.filter nzC,by simp,HM5.out,by have:=HD.out.clip;rwa [← HM5.out] at this,HV.out,X5.out⟩
theorem dsum_any (A:Option Addr) (c n:Nat) (L:List Ud) (w:World) (hn:Hid (n=L.length)) (h:Hid (Uin w A c L)) (h9:n≤1000000) (hin:Hid (∀ x∈L,InN x.uv)) (hr:Hid (∀ x∈L,x.l.length≤1000000000∧x.t.l.length≤1000000000)) :
  Calls Tryz.prog 16 #[.slice A n c] w (DSumRes w L):=by
 rcases Nat.eq_zero_or_pos n with h0 | h0
 ·subst h0
  have e:L=[]:=List.eq_nil_of_length_eq_zero hn.out.symm
  subst e
  exact dsum_none A c w h
 ·exact dsum_some A c n L w h0 hn h h9 hin hr
end UdS
end Go.Proofs.YtdgbkpoickbidaaGreatDoor
namespace Go.Proofs.YtdgbkpoickbidaaGreatDoor

def same (x y:TV):Bool:=decide (x.2.length=y.2.length)
def maxT (x y:TV):TV:=(max x.1 y.1,List.zipWith max x.2 y.2)
def minT (x y:TV):TV:=(min x.1 y.1,List.zipWith min x.2 y.2)
theorem same_of_leq {x t:TV} (h:tleq x t=true):x.2.length=t.2.length:=((leq_iff _ _ _ _).1 h).1
theorem maxT_leq {x y t:TV} (h:same x y=true):tleq (maxT x y) t=(tleq x t&&tleq y t):=join_least (of_decide_eq_true h)
theorem minT_geq {x y t:TV} (h:same x y=true):tleq t (minT x y)=(tleq t x&&tleq t y):=meet_greatest (of_decide_eq_true h)
theorem leq_max1 {x y:TV} (h:same x y=true):tleq x (maxT x y)=true:=join_up1 (of_decide_eq_true h)
theorem min_leq1 {x y:TV} (h:same x y=true):tleq (minT x y) x=true:=meet_low1 (of_decide_eq_true h)
theorem min_leq2 {x y:TV} (h:same x y=true):tleq (minT x y) y=true:=meet_low2 (of_decide_eq_true h)
theorem maxT_len {x y:TV} (h:same x y=true):(maxT x y).2.length=x.2.length:=by
 have:=of_decide_eq_true h
 show (List.zipWith max x.2 y.2).length=_
 rw [List.length_zipWith]
 omega
theorem minT_len {x y:TV} (h:same x y=true):(minT x y).2.length=x.2.length:=by
 have:=of_decide_eq_true h
 show (List.zipWith min x.2 y.2).length=_
 rw [List.length_zipWith]
 omega
theorem beyond_append (a:List TV) (s t:TV):beyondV (a++[s]) t=(beyondV a t||tleq s t):=by unfold beyondV;simp
/-! ### the time that stands for another one -/
def advStep (t:TV) (acc:Option TV) (x:TV):Option TV:=if same t x then some (match acc with | none=>maxT t x | some o=>minT o (maxT t x)) else acc
def advO (a:List TV) (t:TV):Option TV:=a.foldl (advStep t) none
def advV (a:List TV) (t:TV):TV:=(advO a t).getD t
theorem advStep_len {t x:TV} {acc:Option TV} (h : ∀ o,acc=some o→o.2.length=t.2.length) : ∀ o,advStep t acc x=some o→o.2.length=t.2.length:=by
 intro o ho
 unfold advStep at ho
 split at ho
 ·rename_i hs
  cases acc with
  | none =>
   injection ho with ho
   rw [← ho,maxT_len hs]
  | some q =>
   injection ho with ho
   have hq:=h q rfl
   rw [← ho,minT_len (decide_eq_true (by rw [maxT_len hs];exact hq)),hq]
 ·exact h o ho
theorem advO_len {t:TV} : ∀ (a:List TV) (acc:Option TV),(∀ o,acc=some o→o.2.length=t.2.length) → ∀ o,a.foldl (advStep t) acc=some o→o.2.length=t.2.length
 | [],acc,h,o,ho=>h o ho
 | x :: a,acc,h,o,ho=>advO_len a _ (advStep_len h) o ho
theorem advV_len (a:List TV) (t:TV):(advV a t).2.length=t.2.length:=by
 unfold advV
 cases h:advO a t with
 | none=>rfl
 | some o=>exact advO_len a none (fun _ h=>nomatch h) o h
/-- s stays ahead of what stands for it; and that is ahead of each join -/
theorem adv_spec {s:TV} : ∀ (a:List TV) (acc:Option TV),(∀ o,acc=some o→o.2.length=s.2.length∧tleq s o=true) →
  ∀ o,a.foldl (advStep s) acc=some o→tleq s o=true∧(∀ q,acc=some q→tleq o q=true) ∧ ∀ x∈a,same s x=true→tleq o (maxT s x)=true
 | [],acc,h,o,ho=>⟨(h o ho).2,fun q hq=>by rw [show o=q from Option.some.inj (ho.symm.trans hq)];exact tleq_refl q,fun x hx=>(nomatch hx)⟩
 | x :: a,acc,h,o,ho=>by
  have hn : ∀ p,advStep s acc x=some p→p.2.length=s.2.length∧tleq s p=true:=fun p hp=>by
   refine ⟨advStep_len (fun q hq=>(h q hq).1) p hp,?_⟩
   unfold advStep at hp
   split at hp
   ·rename_i hs
    cases acc with
    | none=>injection hp with hp;rw [← hp];exact leq_max1 hs
    | some q =>
     injection hp with hp
     have hq:=h q rfl
     rw [← hp,minT_geq (decide_eq_true (by rw [maxT_len hs];exact hq.1)),hq.2,leq_max1 hs]
     rfl
   ·exact (h p hp).2
  obtain ⟨h1,h2,h3⟩:=adv_spec a (advStep s acc x) hn o ho
  refine ⟨h1,fun q hq=>?_,fun y hy hs=>?_⟩
  ·subst hq
   unfold advStep at h2
   split at h2
   ·rename_i hs
    have hq:=h q rfl
    exact tleq_trans (h2 _ rfl) (min_leq1 (decide_eq_true (by rw [maxT_len hs];exact hq.1)))
   ·exact h2 q rfl
  ·rcases List.mem_cons.1 hy with rfl | hy
   ·unfold advStep at h2
    rw [if_pos hs] at h2
    cases acc with
    | none=>exact h2 _ rfl
    | some q =>
     have hq:=h q rfl
     exact tleq_trans (h2 _ rfl) (min_leq2 (decide_eq_true (by rw [maxT_len hs];exact hq.1)))
   ·exact h3 y hy hs
theorem foldl_some {t:TV} : ∀ (a:List TV) (acc:Option TV),(∃ o,acc=some o) → ∃ o,a.foldl (advStep t) acc=some o
 | [],acc,h=>h
 | x :: a,acc,⟨q,hq⟩=>foldl_some a _ (by
  subst hq
  unfold advStep
  split
  ·exact ⟨_,rfl⟩
  ·exact ⟨_,rfl⟩)
theorem adv_some {t x:TV} (hs:same t x=true) : ∀ (a:List TV) (acc:Option TV),x∈a → ∃ o,a.foldl (advStep t) acc=some o
 | y :: a,acc,h=>by
  rcases List.mem_cons.1 h with rfl | h
  ·exact foldl_some a _ (by unfold advStep;rw [if_pos hs];exact ⟨_,rfl⟩)
  ·exact adv_some hs a _ h
theorem adv_law {a:List TV} {s t:TV} (hb:beyondV a t=true) (hl:s.2.length=t.2.length):tleq s t=tleq (advV a s) t:=by
 obtain ⟨x,hx,hxt⟩:=beyond_iff.1 hb
 have hs:same s x=true:=decide_eq_true (by have:=same_of_leq hxt;omega)
 obtain ⟨o,ho⟩:=adv_some hs a none hx
 have hv:advV a s=o:=by unfold advV advO;rw [ho];rfl
 rw [hv]
 obtain ⟨h1,_,h3⟩:=adv_spec a none (fun _ h=>nomatch h) o ho
 rw [Bool.eq_iff_iff]
 exact ⟨fun q=>tleq_trans (h3 x hx hs) (by rw [maxT_leq hs,q,hxt];rfl),fun q=>tleq_trans h1 q⟩
open Go.RowKit
/-- the form in which it is answered -/
def TimeOut (w:World) (r:(Int × List Int) × Int) (e:Ending) (w':World):Prop :=
 ∃ A c,e = .returned (.tuple #[.agg #[.int .u64 r.1.1, .slice A r.1.2.length c], .int .u16 r.2])∧Own w' w.heap.size 180 1 A r.1.2.length c (wds r.1.2)∧Ext w w'
open Go.RowKit
def joinT (e1:Int) (l1:List Int) (e2:Int) (l2:List Int):(Int × List Int) × Int:=if l1.length=l2.length then ((max e1 e2,List.zipWith max l1 l2),0) else ((0,[]),40)
theorem join_any (e1 e2:Int) (A1 A2:Option Addr) (n1 n2 c1 c2:Nat) (l1 l2:List Int) (w:World) (h1:Sl w 1 A1 n1 c1 (wds l1)) (h2:Sl w 1 A2 n2 c2 (wds l2)) (u1:U32 l1) (u2:U32 l2) (hn:n1≤1000000) :
  Calls Tryz.prog 191 #[.agg #[.int .u64 e1, .slice A1 n1 c1], .agg #[.int .u64 e2, .slice A2 n2 c2]] w (TimeOut w (joinT e1 l1 e2 l2)):=by
 have e3:=h1.wlen
 have e4:=h2.wlen
 unfold joinT
 by_cases h:n1=n2
 ·subst h
  rw [if_pos (by omega)]
  refine (join_same e1 e2 A1 A2 n1 c1 c2 l1 l2 w h1 h2 u1 u2 (by omega)).mono ?_
  rintro r w1 ⟨A,c,rfl,ho,x⟩
  have hz:(List.zipWith max l1 l2).length=n1:=by simp;omega
  exact ⟨A,c,by simp only [hz],by simp only [hz];exact ho,x⟩
 ·rw [if_neg (by omega)]
  refine (join_diff e1 e2 A1 A2 n1 n2 c1 c2 w (by simp;omega)).mono ?_
  rintro r w1 ⟨rfl,x⟩
  exact ⟨none,0,rfl,Own.nil _ _ _ _,x⟩
open Go.RowKit
/-- counters of 32 bits, not too many -/
def Fine (L:List Tm):Prop := ∀ x∈L,U32 x.l∧x.l.length≤100000
theorem join_ok {mx:Int} {zl:List Int} (e1 e2:Int) (A1 A2:Option Addr) (n c1 c2:Nat) (l1 l2:List Int) (w:World) (hm:Hid (max e1 e2=mx)) (hz:Hid (List.zipWith max l1 l2=zl)) (h1:Sl w 1 A1 n c1 (wds l1)) (h2:Sl w 1 A2 n c2 (wds l2)) (u1:U32 l1) (u2:U32 l2) (hn:n≤100000) :
  Calls Tryz.prog 191 #[.agg #[.int .u64 e1, .slice A1 n c1], .agg #[.int .u64 e2, .slice A2 n c2]] w fun e w' =>
   ∃ A c,e = .returned (.tuple #[.agg #[.int .u64 mx, .slice A n c], .int .u16 0])∧Own w' w.heap.size 180 1 A n c (wds zl)∧Ext w w':=by
 rw [← hm.out, ← hz.out]
 exact join_same e1 e2 A1 A2 n c1 c2 l1 l2 w h1 h2 u1 u2 (by omega)
open Go.RowKit
def CopyOut (e:Int) (n:Nat) (l:List Int) (w:World) (r:Ending) (w':World):Prop := ∃ A' c',r = .returned (.agg #[.int .u64 e, .slice A' n c'])∧Own w' w.heap.size 180 1 A' n c' (wds l)∧Ext w w'
set_option maxRecDepth 100000 in
set_option maxHeartbeats 800000 in
theorem copied_any (e:Int) (A:Option Addr) (n c:Nat) (l:List Int) (w:World) (h:Hid (Sl w 1 A n c (wds l))) (hn:n≤1000000) :
  Calls Tryz.prog 142 #[.agg #[.int .u64 e, .slice A n c]] w (CopyOut e n l w):=by
 go_enter Tryz.func142,Tryz.ntmps142
 go_wp2_with (go_at_call 184;refine (clone_words _ _ _ _ _ (h.out.ext (((Ext.refl w).alloc _).alloc _)) (wds_one l) (by omega)).mono ?_;rintro r w1 ⟨A',c',rfl,ho,x1⟩;have ba:Bk w1 w.heap.size 26 #[.int .u64 e, .slice A n c]:=((Bk.new w _ _).alloc _).ext x1;have bb:Bk w1 (w.heap.size+1) 26 #[.int .u64 0, .slice none 0 0]:=(Bk.at (by simp)).ext x1;have q0:w1.cell? ⟨w.heap.size,0,none⟩=some (.int .u64 e):=ba.cell 0;have q1:w1.cell? ⟨w.heap.size,1,none⟩=some (.slice A n c):=ba.cell 1;have f0:=ba.free 0;have f1:=ba.free 1;have q2:=bb.cell 0;have q3:=bb.cell 1;have f2:=bb.free 0;have f3:=bb.free 1;have HO:=Lib.hid ho;clear ho;have BA:=Lib.hid ba;clear ba;have BB:=Lib.hid bb;clear bb)
 have bb2:=(BB.out.far (p:=⟨w.heap.size,1,none⟩) (by simp) (.slice A' n c')).set2 (.int .u64 e) (.slice A' n c')
 refine bodyPost_ret (v := .agg #[.int .u64 e, .slice A' n c']) (by simp [results,Tryz.results142,go_sem,bb2.1,bb2.2]) rfl ⟨A',c',rfl,?_,?_⟩
 ·exact (((HO.out.mono (by simp;omega)).far (HO.out.ne (by simp;omega)) _).far (HO.out.ne (by simp)) _).far (HO.out.ne (by simp)) _
 ·have x2:=(((Ext.refl w).alloc _).alloc _).trans x1
  exact ((x2.set (by simp) _).set (by simp) _).set (by simp) _
/-- a time with counters of its own is put behind the others -/
theorem Tout.push {w w2 w3:World} {B:Nat} {A A3:Option Addr} {c c3:Nat} {M:List Tm} (h:Tout w B A c M) (e2:Ext w w2) {x:Tm} (ox:Own w2 w.heap.size 180 1 x.A x.l.length x.c (wds x.l)) (hB:B≤w.heap.size) (ob:Obj)
  (o3:Own w3 B 26 2 A3 (M.length+1) c3 (tmsC M++tmC x)) (g3:(w2.alloc ob).grownBy w3 (blk A c)) (x3:(A3=A∧c3=c)∨(blk A3 c3=some (w2.alloc ob).heap.size∧Ext (w2.alloc ob) w3)):Tout w3 B A3 c3 (M++[x]):=by
 have hsz:=((Ext.refl w2).alloc ob).size
 have hw:=e2.size
 have kept : ∀ {k0:Nat} {A':Option Addr} {n' c':Nat} {xs:List Value},Own w2 k0 180 1 A' n' c' xs→(∀ k,blk A' c'=some k→blk A c≠some k)→Own w3 k0 180 1 A' n' c' xs:=fun o hne=>(o.alloc ob).kept g3 (by
  rename_i A' n' c' xs
  cases hb:blk A' c' with
  | none=>exact .inl rfl
  | some k=>exact .inr (fun e=>hne k hb e.symm))
 have new3 : ∀ k,blk A3 c3=some k→blk A c=some k∨w2.heap.size≤k:=fun k hk=>by
  rcases x3 with ⟨rfl,rfl⟩ | ⟨h1,_⟩
  ·exact .inl hk
  ·rw [h1] at hk;injection hk with hk;exact .inr (by omega)
 have xne : ∀ k,blk x.A x.c=some k→blk A c≠some k:=fun k hk e=>by have:=(ox.lt k hk).1;have:=(h.own.lt k e).2;omega
 refine ⟨by rw [tmsC_append,List.length_append];show Own w3 B _ 2 A3 (M.length+1) c3 (tmsC M++tmsC [x]);rw [show tmsC [x]=tmC x by simp [tmsC]];exact o3,fun y hy=>?_,?_⟩
 ·rcases List.mem_append.1 hy with hy | hy
  ·obtain ⟨h1,h2⟩:=h.ls y hy
   refine ⟨kept (h1.ext e2) h2,fun k hk e=>?_⟩
   rcases new3 k e with q | q
   ·exact h2 k hk q
   ·have:=(h1.lt k hk).2;omega
  ·rw [List.mem_singleton] at hy
   subst hy
   refine ⟨(kept ox xne).mono hB,fun k hk e=>?_⟩
   rcases new3 k e with q | q
   ·exact xne k hk q
   ·have:=(ox.lt k hk).2;omega
 ·refine List.pairwise_append.2 ⟨h.apart,List.pairwise_singleton _ _,fun y hy z hz k h1 h2=>?_⟩
  rw [List.mem_singleton] at hz
  subst hz
  have:=((h.ls y hy).1.lt k h1).2
  have:=(ox.lt k h2).1
  omega
open Go.RowKit
theorem map_at {S:List Tm} {k:Nat} (h:k<S.length) : ∃ h2:k<(S.map Tm.v).length,(S.map Tm.v)[k]=(S.getD k Tm.zero).v:=⟨by rw [List.length_map];exact h,getT_v h⟩
open Go.RowKit
theorem u32_max {l m:List Int} (h:U32 l) (k:U32 m):U32 (List.zipWith max l m):=by
 intro x hx
 obtain ⟨i,hi,rfl⟩:=List.getElem_of_mem hx
 rw [List.getElem_zipWith]
 rw [List.length_zipWith] at hi
 have a:=h _ (List.getElem_mem (show i<l.length by omega))
 have b:=k _ (List.getElem_mem (show i<m.length by omega))
 omega
theorem u32_min {l m:List Int} (h:U32 l) (k:U32 m):U32 (List.zipWith min l m):=by
 intro x hx
 obtain ⟨i,hi,rfl⟩:=List.getElem_of_mem hx
 rw [List.getElem_zipWith]
 rw [List.length_zipWith] at hi
 have a:=h _ (List.getElem_mem (show i<l.length by omega))
 have b:=k _ (List.getElem_mem (show i<m.length by omega))
 omega
theorem meet_ok {mx:Int} {zl:List Int} (e1 e2:Int) (A1 A2:Option Addr) (n c1 c2:Nat) (l1 l2:List Int) (w:World) (hm:Hid (min e1 e2=mx)) (hz:Hid (List.zipWith min l1 l2=zl)) (h1:Sl w 1 A1 n c1 (wds l1)) (h2:Sl w 1 A2 n c2 (wds l2)) (u1:U32 l1) (u2:U32 l2) (hn:n≤100000) :
  Calls Tryz.prog 192 #[.agg #[.int .u64 e1, .slice A1 n c1], .agg #[.int .u64 e2, .slice A2 n c2]] w fun e w' =>
   ∃ A c,e = .returned (.tuple #[.agg #[.int .u64 mx, .slice A n c], .int .u16 0])∧Own w' w.heap.size 180 1 A n c (wds zl)∧Ext w w':=by
 rw [← hm.out, ← hz.out]
 exact meet_same e1 e2 A1 A2 n c1 c2 l1 l2 w h1 h2 u1 u2 (by omega)
/-- a time in memory of its own -/
def TimeR (v:TV) (w:World) (r:Ending) (w':World):Prop := ∃ A n c,r = .returned (.agg #[.int .u64 v.1, .slice A n c])∧n=v.2.length∧Own w' w.heap.size 180 1 A n c (wds v.2)∧Ext w w'
/-- what stands within the loop: the one time that has been found so far lies in a block of its own -/
structure AdvI (w wr:World) (g:Nat) (A:Option Addr) (c n:Nat) (o:TV):Prop where
 bk:Bk wr g 26 #[.int .u64 o.1, .slice A n c]
 own:Own wr w.heap.size 180 1 A n c (wds o.2)
 u:U32 o.2
theorem AdvI.grow {w wr w2:World} {g:Nat} {A:Option Addr} {c n:Nat} {o:TV} (h:AdvI w wr g A c n o) (x:Ext wr w2):AdvI w w2 g A c n o:=⟨h.bk.ext x,h.own.ext x,h.u⟩
theorem fold_take {V:List TV} {t:TV} {k:Nat} (h:k<V.length):(V.take (k+1)).foldl (advStep t) none=advStep t ((V.take k).foldl (advStep t) none) V[k]:=by
 rw [List.take_succ_eq_append_getElem h,List.foldl_append];rfl
/-- how the loop stands: nothing yet, or one -/
def AdvV (w wr:World) (v:Value) (n:Nat) (acc:Option TV):Prop:=(acc=none∧v = .slice none 0 0) ∨ ∃ g A c o,acc=some o∧v = .slice (some ⟨g,0,none⟩) 1 1∧AdvI w wr g A c n o
set_option maxRecDepth 100000 in
set_option maxHeartbeats 8000000 in
theorem advance_any (AL:Option Addr) (cL m:Nat) (L:List Tm) (e:Int) (A:Option Addr) (n c:Nat) (l:List Int) (w:World) (hm:Hid (m=L.length)) (hL:Hid (Tin w AL cL L)) (fL:Hid (Fine L)) (ht:Hid (Sl w 1 A n c (wds l))) (u:U32 l) (h9:m≤1000000) (hn:n≤100000) :
  Calls Tryz.prog 110 #[.slice AL m cL, .agg #[.int .u64 e, .slice A n c]] w (TimeR (advV (L.map Tm.v) (e,l)) w):=by
 have HN:Hid (n=l.length):=Lib.hid ht.out.wlen.symm
 have HU:=Lib.hid u
 clear u
 go_enter Tryz.func110,Tryz.ntmps110
 go_wp2
 obtain ⟨w0,hw0⟩ : ∃ w0,w0=(w.alloc (Obj.cells #[Value.int IntKind.u64 e,Value.slice A n c] 26)).alloc (Obj.cells #[Value.int IntKind.u64 0,Value.slice none 0 0] 26):=⟨_,rfl⟩
 have x0:Ext w w0:=hw0 ▸ ((Ext.refl w).alloc _).alloc _
 have b0:Bk w0 w.heap.size 26 #[Value.int IntKind.u64 e,Value.slice A n c]:=by subst hw0;exact (Bk.new _ _ _).alloc _
 have r0:Bk w0 (w.heap.size+1) 26 #[Value.int IntKind.u64 0,Value.slice none 0 0]:=by subst hw0;exact Bk.at (by simp)
 rw [← hw0]
 clear hw0
 have X0:=Lib.hid x0
 have B0:=Lib.hid b0
 have R0:=Lib.hid r0
 clear x0 b0 r0
 go_loopg [5,12] m (fun z v5 v12 wr => ∃ (k:Nat) (acc:Option TV),z=m - k∧k≤m∧v12 = .int .i64 k∧Hid (((L.map Tm.v).take k).foldl (advStep (e,l)) none=acc)∧Hid (Ext w0 wr)∧AdvV w0 wr v5 n acc)
 case atStart=>exact ⟨0,none,rfl,Nat.zero_le _,rfl,Lib.hid rfl,Lib.hid (Ext.refl _), .inl ⟨rfl,rfl⟩⟩
 case round =>
  obtain ⟨k,acc,rfl,hk,rfl,HF,HE,hacc⟩:=hrel
  have b0:wr.cell? ⟨w.heap.size,0,none⟩=some (.int .u64 e):=(B0.out.ext HE.out).cell 0
  have b1:wr.cell? ⟨w.heap.size,1,none⟩=some (.slice A n c):=(B0.out.ext HE.out).cell 1
  by_cases hlt:k<m
  ·have hkL:k<L.length:=by rw [← hm.out];exact hlt
   obtain ⟨ad,rfl,q0,q1⟩:=(hL.out.ext (X0.out.trans HE.out)).at (i:=k) hkL
   have HXS:Hid (Sl wr 1 (L.getD k Tm.zero).A (L.getD k Tm.zero).l.length (L.getD k Tm.zero).c (wds (L.getD k Tm.zero).l)):=Lib.hid ((hL.out.ext (X0.out.trans HE.out)).ls _ (getT_mem hkL))
   have hf:=fL.out _ (getT_mem hkL)
   have hkv:=map_at hkL
   obtain ⟨x,hx⟩ : ∃ x,L.getD k Tm.zero=x:=⟨_,rfl⟩
   rw [hx] at q0 q1 HXS hf hkv
   have HKV:=Lib.hid hkv
   have HG:=Lib.hid hf
   clear hx hkv hkL hf
   obtain ⟨f,Ax,cx,lx⟩:=x
   obtain ⟨nx,hnx⟩ : ∃ nx,lx.length=nx:=⟨_,rfl⟩
   have HNX:=Lib.hid hnx
   replace q0:wr.cell? (ad.add (k * 2))=some (.int .u64 f):=q0
   replace q1:wr.cell? ⟨(ad.add (k * 2)).block,(ad.add (k * 2)).off+1,none⟩=some (.slice Ax lx.length cx):=q1
   replace HXS:Hid (Sl wr 1 Ax lx.length cx (wds lx)):=HXS
   replace HG:Hid (U32 lx∧lx.length≤100000):=HG
   rw [hnx] at q1 HXS
   clear hnx
   have XY:Hid (Ext wr (wr.alloc (.cells #[.int .u64 f, .slice Ax nx cx] 26))):=Lib.hid ((Ext.refl _).alloc _)
   have c0:(wr.alloc (.cells #[.int .u64 f, .slice Ax nx cx] 26)).cell? ⟨w.heap.size,0,none⟩=some (.int .u64 e):=(B0.out.ext (HE.out.trans XY.out)).cell 0
   have c1:(wr.alloc (.cells #[.int .u64 f, .slice Ax nx cx] 26)).cell? ⟨w.heap.size,1,none⟩=some (.slice A n c):=(B0.out.ext (HE.out.trans XY.out)).cell 1
   by_cases hs:n=nx
   ·subst hs
    obtain ⟨mx,hmx⟩ : ∃ mx,max e f=mx:=⟨_,rfl⟩
    obtain ⟨zl,hzl⟩ : ∃ zl,List.zipWith max l lx=zl:=⟨_,rfl⟩
    have HMX:=Lib.hid hmx
    have HZL:=Lib.hid hzl
    clear hmx hzl
    have HZU:Hid (U32 zl):=Lib.hid (HZL.out ▸ u32_max HU.out HG.out.1)
    have HM:Hid (maxT (e,l) (f,lx)=(mx,zl)):=Lib.hid (by show (max e f,List.zipWith max l lx)=_;rw [HMX.out,HZL.out])
    have HSM:Hid (same (e,l) (f,lx)=true):=Lib.hid (decide_eq_true (by have a:=HNX.out;have b:=HN.out;show l.length=lx.length;omega))
    rcases hacc with ⟨rfl,rfl⟩ | ⟨g,A1,c1_,o,rfl,rfl,hI⟩
    ·go_wp2_with (first
      | (go_at_call 191;refine (join_ok e f A Ax n c cx l lx _ HMX HZL (ht.out.ext ((X0.out.trans HE.out).trans XY.out)) (HXS.out.ext XY.out) HU.out HG.out.1 hn).mono ?_;rintro r w3 ⟨A3,c3,rfl,o3,x3⟩;have HO3:=Lib.hid o3;have X3:=Lib.hid x3;clear o3 x3))
     go_roundg (m - (k+1))
     case measure=>omega
     case rel =>
      have hs3:=X3.out.size
      refine ⟨k+1,some (mx,zl),by omega,by omega,by go_num,Lib.hid ?_,Lib.hid ((((HE.out.trans XY.out).trans X3.out).alloc _).alloc _), .inr ⟨w3.heap.size+1,A3,c3,(mx,zl),rfl,rfl,⟨Bk.at (by simp),?_,HZU.out⟩⟩⟩
      ·obtain ⟨h1,h2⟩:=HKV.out
       rw [fold_take h1,HF.out,h2]
       show (if same (e,l) (f,lx)=true then some (maxT (e,l) (f,lx)) else none)=_
       rw [if_pos HSM.out,HM.out]
      ·exact ((HO3.out.mono (Nat.le_trans HE.out.size XY.out.size)).alloc _).alloc _
    ·have HI:=Lib.hid hI
     clear hI
     obtain ⟨mn,hmn⟩ : ∃ mn,min o.1 mx=mn:=⟨_,rfl⟩
     obtain ⟨zn,hzn⟩ : ∃ zn,List.zipWith min o.2 zl=zn:=⟨_,rfl⟩
     have HMN:=Lib.hid hmn
     have HZN:=Lib.hid hzn
     clear hmn hzn
     have HM2:Hid (minT o (mx,zl)=(mn,zn)):=Lib.hid (by show (min o.1 mx,List.zipWith min o.2 zl)=_;rw [HMN.out,HZN.out])
     go_wp2_with (first
      | (go_at_call 191;refine (join_ok e f A Ax n c cx l lx _ HMX HZL (ht.out.ext ((X0.out.trans HE.out).trans XY.out)) (HXS.out.ext XY.out) HU.out HG.out.1 hn).mono ?_;rintro r w3 ⟨A3,c3,rfl,o3,x3⟩;have HO3:=Lib.hid o3;have X3:=Lib.hid x3;clear o3 x3))
     obtain ⟨w8,hw8⟩ : ∃ w8,w8=w3.alloc (Obj.cells #[Value.int IntKind.u64 mx,Value.slice A3 n c3] 26):=⟨_,rfl⟩
     have x8:Ext w3 w8:=hw8 ▸ (Ext.refl w3).alloc _
     have j8:Bk w8 w3.heap.size 26 #[Value.int IntKind.u64 mx,Value.slice A3 n c3]:=by subst hw8;exact Bk.new _ _ _
     rw [← hw8]
     clear hw8 c0 c1 b0 b1 q0 q1
     have X:Ext w8 w8.drew:=(Ext.refl w8).drew
     have I8:AdvI w0 w8.drew g A1 c1_ n o:=HI.out.grow (((XY.out.trans X3.out).trans x8).trans X)
     have HI8:=Lib.hid I8
     have HJ8:=Lib.hid j8
     have HX8:=Lib.hid x8
     have y1 : ∀ y:Xt w8.drew,y.W.cell? ⟨g,0,none⟩=some (.int .u64 o.1):=fun y=>(HI8.out.bk.ext y.x).cell 0
     have y2 : ∀ y:Xt w8.drew,y.W.cell? ⟨g,1,none⟩=some (.slice A1 n c1_):=fun y=>(HI8.out.bk.ext y.x).cell 1
     have y3 : ∀ y:Xt w8.drew,y.W.cell? ⟨w3.heap.size,0,none⟩=some (.int .u64 mx):=fun y=>(HJ8.out.ext (X.trans y.x)).cell 0
     have y4 : ∀ y:Xt w8.drew,y.W.cell? ⟨w3.heap.size,1,none⟩=some (.slice A3 n c3):=fun y=>(HJ8.out.ext (X.trans y.x)).cell 1
     clear I8 j8 x8
     refine wp_region_ord [0,1,3,0,15,31,63,63,127] (.flo [0,1,2,3] (.one 4 (.flo [5,6] (.pur [7] (.one 8 (.fin)))))) (by kernel_rfl) (by kernel_rfl) (by intro _ _ d _ _ h;cases d<;>exact h) ?_
     (refine ord_flo (pick_cons rfl (pick_cons rfl (pick_cons rfl (pick_cons rfl pick_nil)))) ?_;(repeat (go_big_quiet_step (fail)));refine wpQuiet_nil ?_;show ordWalk _ _ _ _ _ _ _)
     refine ord_one (pick_cons rfl pick_nil) ?_;intro K_ hK_
     go_wp2_with (first
      | (go_at_call 192;refine (meet_ok o.1 mx A1 A3 n c1_ c3 o.2 zl _ HMN HZN HI8.out.own.sl ((HO3.out.sl.ext HX8.out).ext X) HI8.out.u HZU.out hn).mono ?_;rintro r w5 ⟨A5,c5,rfl,o5,x5⟩;have HO5:=Lib.hid o5;have X5:=Lib.hid x5;clear o5 x5))
     have J5:=(HJ8.out.ext X).ext X5.out
     have z0:=J5.cell 0
     have z1:=J5.cell 1
     have z2:=J5.free 0
     have z3:=J5.free 1
     have z4:=J5.set2 (.int .u64 mn) (.slice A5 n c5)
     have z5:=z4.1
     have z6:=z4.2
     clear z4
     have HJ5:=Lib.hid J5
     clear J5
     (refine ord_flo (pick_cons rfl (pick_cons rfl pick_nil)) ?_;(repeat (go_big_quiet_step (fail)));refine wpQuiet_nil ?_;show ordWalk _ _ _ _ _ _ _)
     (refine ord_pur (pick_cons rfl pick_nil) ?_;(repeat (go_big_quiet_step (fail)));refine wpQuiet_nil ?_;show ordWalk _ _ _ _ _ _ _)
     refine ord_one (pick_cons rfl pick_nil) ?_;intro K_ hK_
     go_wp2
     refine ord_fin ?_
     go_wp2
     go_roundg (m - (k+1))
     case measure=>omega
     case rel =>
      have hb5:w3.heap.size<w8.drew.heap.size:=HJ8.out.lt
      have s8:w3.heap.size≤w5.heap.size:=Nat.le_trans (Nat.le_of_lt hb5) X5.out.size
      have e3:Ext w0 w3:=(HE.out.trans XY.out).trans X3.out
      have e5:Ext w0 w5:=((e3.trans HX8.out).trans X).trans X5.out
      refine ⟨k+1,some (mn,zn),by omega,by omega,by go_num,Lib.hid ?_,Lib.hid (((e5.set e3.size _).set e3.size _).alloc _), .inr ⟨w5.heap.size,A5,c5,(mn,zn),rfl,rfl,⟨Bk.at (by simp),?_,HZN.out ▸ u32_min HI8.out.u HZU.out⟩⟩⟩
      ·obtain ⟨h1,h2⟩:=HKV.out
       rw [fold_take h1,HF.out,h2]
       show (if same (e,l) (f,lx)=true then some (minT o (maxT (e,l) (f,lx))) else _)=_
       rw [if_pos HSM.out,HM.out,HM2.out]
      ·exact ((((HO5.out.far (HO5.out.ne hb5) _).far (HO5.out.ne hb5) _).mono (Nat.le_trans e3.size (Nat.le_of_lt hb5))).alloc _)
   ·have hne:((n:Int) != (nx:Int))=true:=by simp;omega
    have HS:=Lib.hid hs
    clear hs
    go_wp2_with (first
     | (go_at_call 191;refine (join_diff e f A Ax n nx c cx _ hne).mono ?_;rintro r w3 ⟨rfl,x3⟩;have X3:=Lib.hid x3;clear x3))
    go_roundg (m - (k+1))
    case measure=>omega
    case rel =>
     have XX:=(XY.out.trans X3.out).alloc (.cells #[.int .u64 0, .slice none 0 0] 26)
     refine ⟨k+1,acc,by omega,by omega,by go_num,Lib.hid ?_,Lib.hid (HE.out.trans XX),?_⟩
     ·obtain ⟨h1,h2⟩:=HKV.out
      rw [fold_take h1,HF.out,h2]
      unfold advStep
      rw [if_neg (by have a:=HNX.out;have b:=HN.out;have cc:=HS.out;show ¬ same (e,l) (f,lx)=true;unfold same;rw [decide_eq_true_iff];show ¬ l.length=lx.length;omega)]
     ·rcases hacc with ⟨h1,h2⟩ | ⟨g,A1,c1_,o,h1,h2,hI⟩
      ·exact .inl ⟨h1,h2⟩
      ·exact .inr ⟨g,A1,c1_,o,h1,h2,hI.grow XX⟩
  ·obtain rfl:k=m:=by omega
   have HF2:Hid (advO (L.map Tm.v) (e,l)=acc):=Lib.hid (by have:=HF.out;rwa [show k=(L.map Tm.v).length by rw [List.length_map];exact hm.out,List.take_length] at this)
   have HR:=Lib.hid (R0.out.ext HE.out)
   rcases hacc with ⟨rfl,rfl⟩ | ⟨g,A1,c1_,o,rfl,rfl,hI⟩
   ·go_wp2_with (first
     | (go_at_call 142;refine (copied_any e A n c l _ (Lib.hid (ht.out.ext (X0.out.trans HE.out))) (by omega)).mono ?_;rintro r w4 ⟨A4,c4,rfl,o4,x4⟩;have HO4:=Lib.hid o4;have X4:=Lib.hid x4;clear o4 x4;have RB:=HR.out.ext X4.out;have z0:=RB.cell 0;have z1:=RB.cell 1;have z2:=RB.free 0;have z3:=RB.free 1;have HRB:=Lib.hid RB;clear RB))
    have bb:=HRB.out.set2 (.int .u64 e) (.slice A4 n c4)
    have hb:w.heap.size+1<wr.heap.size:=HR.out.lt
    refine bodyPost_ret (v := .agg #[.int .u64 e, .slice A4 n c4]) (by simp [results,Tryz.results110,go_sem,bb.1,bb.2]) rfl ⟨A4,n,c4,?_,?_,?_,?_⟩
    ·unfold advV;rw [HF2.out];rfl
    ·unfold advV;rw [HF2.out];exact HN.out
    ·have:(advV (L.map Tm.v) (e,l)).2=l:=by unfold advV;rw [HF2.out];rfl
     rw [this]
     exact (((HO4.out.far (HO4.out.ne hb) _).far (HO4.out.ne hb) _).mono (by omega))
    ·exact ((((X0.out.trans HE.out).trans X4.out).set (by simp) _).set (by simp) _)
   ·have I:=Lib.hid hI
    have z0:=I.out.bk.cell 0
    have z1:=I.out.bk.cell 1
    have z2:=HR.out.cell 0
    have z3:=HR.out.cell 1
    have z4:=HR.out.free 0
    have z5:=HR.out.free 1
    clear hI
    replace z0:wr.cell? ⟨g,0,none⟩=some (.int .u64 o.1):=z0
    replace z1:wr.cell? ⟨g,1,none⟩=some (.slice A1 n c1_):=z1
    go_wp2
    have bb:=HR.out.set2 (.int .u64 o.1) (.slice A1 n c1_)
    refine bodyPost_ret (v := .agg #[.int .u64 o.1, .slice A1 n c1_]) (by simp [results,Tryz.results110,go_sem,bb.1,bb.2]) rfl ⟨A1,n,c1_,?_,?_,?_,?_⟩
    ·unfold advV;rw [HF2.out];rfl
    ·have q:=advV_len (L.map Tm.v) (e,l)
     rw [q];exact HN.out
    ·have:(advV (L.map Tm.v) (e,l)).2=o.2:=by unfold advV;rw [HF2.out];rfl
     rw [this]
     exact ((I.out.own.far (I.out.own.ne R0.out.lt) _).far (I.out.own.ne R0.out.lt) _).mono X0.out.size
    ·exact (((X0.out.trans HE.out).set (by simp) _).set (by simp) _)
end Go.Proofs.YtdgbkpoickbidaaGreatDoor
