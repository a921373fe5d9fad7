/- slices.symMergeCmpFunc at rows with counts: one element, merged with a sorted list behind it. slices.symMergeCmpFunc at rows with counts: a sorted list, merged with one element behind it. slices.symMergeCmpFunc at rows with counts: what its parts do. slices.symMergeCmpFunc at rows with counts: two sorted lists, side by side, are merged; those that are alike stay in their order. slices.insertionSortCmpFunc at rows with counts: the walk. slices.SortStableFunc at fewer than 20 rows with counts. slices.SortStableFunc at rows with counts. Conditions: each theorem states its own. -/
import Derived.Test.YtdgbkpoickbidaaGreatDoorHs4
namespace Go.Proofs.YtdgbkpoickbidaaGreatDoor
open Go.RowKit

/-- what a merge leaves behind -/
def SymRes (B g c:Nat) (P S Q:List Ct) (w:World) (e:Ending) (w':World):Prop:=e = .returned (.tuple #[]) ∧ ∃ Z,Stable cmpC S Z∧Arr w' B g c (P++(Z++Q))∧w.grownBy w' (some g)
def OneIn (L:List Ct) (x:Ct) (m b i j:Nat):Prop:=(m<i→cmpC (L.getD (i - 1) Ct.zero) x<0)∧(j<b → ¬ cmpC (L.getD j Ct.zero) x<0)
/-- the element on its way -/
def WayIn (B g c a:Nat) (P Y1 R:List Ct) (x:Ct) (w wi:World) (k:Nat) (Ya Yb:List Ct):Prop :=
 Y1=Ya++Yb∧k=a+Ya.length∧Arr wi B g c (P++(Ya++x :: (Yb++R)))∧w.grownBy wi (some g)
theorem WayIn.step {B g c a:Nat} {P Y1 R:List Ct} {x y:Ct} {w wi wj:World} {k k1:Nat} {Ya Yb:List Ct} (h:WayIn B g c a P Y1 R x w wi k Ya (y :: Yb)) (ha:a=P.length) (hk:k1=k+1) {nx ny:Nat} (hx:nx=x.l.length) (hy:ny=y.l.length) (hz:Ext wi wj) :
  WayIn B g c a P Y1 R x w ((((wj.setCell ⟨g,k * 2,none⟩ (.slice y.A ny y.c)).setCell ⟨g,k * 2+1,none⟩ (.int .i64 y.k)).setCell ⟨g,k1 * 2,none⟩ (.slice x.A nx x.c)).setCell ⟨g,k1 * 2+1,none⟩ (.int .i64 x.k)) (k+1) (Ya++[y]) Yb:=by
 obtain ⟨h1,h2,h3,h4⟩:=h
 have e:P++(Ya++x :: (y :: Yb++R))=(P++Ya)++x :: ([]++y :: (Yb++R)):=by simp
 have hf:=h3.ext hz
 rw [e] at hf
 have h7:=hf.swapA (p:=k) (q:=k1) (by rw [List.length_append];omega) (by rw [List.length_append,List.length_nil];omega) hx hy
 refine ⟨by rw [h1];simp,by rw [List.length_append,List.length_singleton];omega,?_,(h4.trans (upd_ext hz g)).trans (upd_swap wj g _ _ _ _ _ _ _ _)⟩
 have e2:P++(Ya++[y]++x :: (Yb++R))=(P++Ya)++y :: ([]++x :: (Yb++R)):=by simp
 rw [e2]
 exact h7
set_option maxRecDepth 100000 in
set_option maxHeartbeats 8000000 in
theorem symOne_any (B g c n a m b:Nat) (P Y Q:List Ct) (x:Ct) (w:World) (ha:a=P.length) (hm:m=a+1) (hb:b=m+Y.length) (hn:n=(P++([x]++(Y++Q))).length) (hY:SortedC Y) (h:Arr w B g c (P++([x]++(Y++Q)))) (hr:Rws w g ([x]++Y)) (hbig:n≤1000000000) :
  Calls Tryz.prog 257 #[.slice (some ⟨g,0,none⟩) n c, .int .i64 a, .int .i64 m, .int .i64 b, .func (.func 188) #[] #[]] w (SymRes B g c P ([x]++Y) Q w):=by
 have hnm:=h.le
 rw [← hn] at hnm
 obtain ⟨L,hL⟩ : ∃ L,L=P++([x]++(Y++Q)):=⟨_,rfl⟩
 have hbn:b≤n:=by rw [hb,hm,ha,hn];simp only [List.length_append,List.length_singleton];omega
 have HA:=Lib.hid ha
 have HB:=Lib.hid hb
 have HM:=Lib.hid hm
 have HL:=Lib.hid hL
 have HY:=Lib.hid hY
 have HR:=Lib.hid hr
 have HN:Hid (n=L.length):=Lib.hid (by rw [hL];exact hn)
 have H:Hid (Arr w B g c L):=Lib.hid (by rw [hL];exact h)
 have e1:(m:Int) - (a:Int)=1:=by omega
 have hmb:m≤b:=by omega
 have ham:a<m:=by omega
 clear ha hm hb hn hY h hr hL
 go_enter Tryz.func257,Tryz.ntmps257
 go_wp2
 go_loopg [10,11] (b - m) (fun z u v wr => ∃ i j:Nat,z=j - i∧u = .int .i64 i∧v = .int .i64 j∧m≤i∧i≤j∧j≤b∧Hid (OneIn L x m b i j)∧Ext w wr)
 case atStart=>exact ⟨m,b,rfl,rfl,rfl,Nat.le_refl _,hmb,Nat.le_refl _,Lib.hid ⟨fun h=>absurd h (Nat.lt_irrefl _),fun h=>absurd h (Nat.lt_irrefl _)⟩,Ext.refl _⟩
 case round =>
  obtain ⟨i,j,rfl,rfl,rfl,h1,h2,h3,HO,er⟩:=hrel
  by_cases hlt:i<j
  ·obtain ⟨q,hq⟩ : ∃ q,q=(i+j) / 2:=⟨_,rfl⟩
   have hqi:i≤q:=by omega
   have hqj:q<j:=by omega
   have hqq:((i:Int)+(j:Int)) / 2=(q:Int):=by omega
   have hA:=H.out.ext er
   have hqL:q<L.length:=by rw [← HN.out];omega
   obtain ⟨py0,py1⟩:=hA.at hqL
   have hx:=hA
   rw [HL.out] at hx
   obtain ⟨px0,px1⟩:=Arr.here (Q:=Y++Q) hx HA.out
   have hmem:L.getD q Ct.zero∈[x]++Y:=List.mem_append_right _ (by
    rw [HL.out]
    have:=mem_mid (P:=P++[x]) (X:=Y) (R:=Q) (i:=q) (by rw [List.length_append,List.length_singleton, ← HA.out, ← HM.out];omega) (by rw [List.length_append,List.length_singleton, ← HA.out, ← HM.out, ← HB.out];omega)
    rwa [List.append_assoc] at this)
   have HMY:=Lib.hid hmem
   obtain ⟨y,hy⟩ : ∃ y,y=L.getD q Ct.zero:=⟨_,rfl⟩
   rw [← hy] at py0 py1 HMY
   have HYQ:=Lib.hid hy
   obtain ⟨nx,hnx⟩ : ∃ nx,nx=x.l.length:=⟨_,rfl⟩
   obtain ⟨ny,hny⟩ : ∃ ny,ny=y.l.length:=⟨_,rfl⟩
   rw [← hnx] at px0
   rw [← hny] at py0
   have HNX:=Lib.hid hnx
   have HNY:=Lib.hid hny
   have XE:Ext wr wr.drew:=(Ext.refl wr).drew
   have HRX:=Lib.hid (((HR.out x (by simp)).1.ext er).ext XE)
   have HRY:=Lib.hid (((HR.out y HMY.out).1.ext er).ext XE)
   obtain ⟨v,hv⟩ : ∃ v,cmpR y.l x.l=v:=⟨_,rfl⟩
   have HV:=Lib.hid hv
   have PY0 : ∀ z:Xt wr.drew,z.W.cell? ⟨g,q * 2,none⟩=some (.slice y.A ny y.c):=fun z=>(XE.trans z.x).cell py0
   have PY1 : ∀ z:Xt wr.drew,z.W.cell? ⟨g,q * 2+1,none⟩=some (.int .i64 y.k):=fun z=>(XE.trans z.x).cell py1
   have PX0 : ∀ z:Xt wr.drew,z.W.cell? ⟨g,a * 2,none⟩=some (.slice x.A nx x.c):=fun z=>(XE.trans z.x).cell px0
   have PX1 : ∀ z:Xt wr.drew,z.W.cell? ⟨g,a * 2+1,none⟩=some (.int .i64 x.k):=fun z=>(XE.trans z.x).cell px1
   clear hA hqL hx hmem hnx hny hv hy hq
   by_cases hv0:v<0
   ·have zv:decide (v<0)=true:=by simpa using hv0
    go_upto_region 5 with fail
    refine wp_region_ord [0,0,0,6,14,0,0,96,224,511,1023] (.flo [0,1,2,3,4,5,6,7,8] (.one 9 (.flo [10] (.fin)))) (by kernel_rfl) (by kernel_rfl) (by intro _ _ d _ _ h;cases d<;>exact h) ?_
    (refine ord_flo (pick_cons rfl (pick_cons rfl (pick_cons rfl (pick_cons rfl (pick_cons rfl (pick_cons rfl (pick_cons rfl (pick_cons rfl (pick_cons rfl pick_nil))))))))) ?_;(repeat (go_big_quiet_step (fail)));refine wpQuiet_nil ?_;show ordWalk _ _ _ _ _ _ _)
    refine ord_one (pick_cons rfl pick_nil) ?_;intro K_ hK_
    go_wp2_with (go_at_call 188;refine (sum1_any y.A x.A y.c x.c ny nx y.k x.k v y.l x.l _ HV HNY HNX HRY HRX).mono ?_;rintro e w1 ⟨rfl,x1⟩)
    (refine ord_flo (pick_cons rfl pick_nil) ?_;(repeat (go_big_quiet_step (fail)));refine wpQuiet_nil ?_;show ordWalk _ _ _ _ _ _ _)
    refine ord_fin ?_
    go_wp2
    go_roundg (j - (q+1))
    case measure=>omega
    case rel=>exact ⟨q+1,j,rfl,by go_num,rfl,by omega,by omega,h3,Lib.hid ⟨fun _=>by rw [Nat.add_sub_cancel, ← HYQ.out];show cmpR y.l x.l<0;rw [HV.out];exact hv0,HO.out.2⟩,er.trans (XE.trans x1)⟩
   ·have zv:decide (v<0)=false:=by simpa using hv0
    go_upto_region 5 with fail
    refine wp_region_ord [0,0,0,6,14,0,0,96,224,511,1023] (.flo [0,1,2,3,4,5,6,7,8] (.one 9 (.flo [10] (.fin)))) (by kernel_rfl) (by kernel_rfl) (by intro _ _ d _ _ h;cases d<;>exact h) ?_
    (refine ord_flo (pick_cons rfl (pick_cons rfl (pick_cons rfl (pick_cons rfl (pick_cons rfl (pick_cons rfl (pick_cons rfl (pick_cons rfl (pick_cons rfl pick_nil))))))))) ?_;(repeat (go_big_quiet_step (fail)));refine wpQuiet_nil ?_;show ordWalk _ _ _ _ _ _ _)
    refine ord_one (pick_cons rfl pick_nil) ?_;intro K_ hK_
    go_wp2_with (go_at_call 188;refine (sum1_any y.A x.A y.c x.c ny nx y.k x.k v y.l x.l _ HV HNY HNX HRY HRX).mono ?_;rintro e w1 ⟨rfl,x1⟩)
    (refine ord_flo (pick_cons rfl pick_nil) ?_;(repeat (go_big_quiet_step (fail)));refine wpQuiet_nil ?_;show ordWalk _ _ _ _ _ _ _)
    refine ord_fin ?_
    go_wp2
    go_roundg (q - i)
    case measure=>omega
    case rel=>exact ⟨i,q,rfl,rfl,rfl,h1,hqi,by omega,Lib.hid ⟨HO.out.1,fun _=>by rw [← HYQ.out];show ¬ cmpR y.l x.l<0;rw [HV.out];omega⟩,er.trans (XE.trans x1)⟩
  ·obtain rfl:i=j:=by omega
   obtain ⟨Y1,Y2,k1,k2,k3⟩:=one_split HL.out HA.out HM.out HB.out h1 h3 HY.out HO.out.1 HO.out.2
   have HK:=Lib.hid k3
   have HY1:=Lib.hid k1
   have HI2:=Lib.hid k2
   have HW:Hid (WayIn B g c a P Y1 (Y2++Q) x w wr a [] Y1):=Lib.hid ⟨rfl,rfl,by
    have:=H.out.ext er
    rw [HL.out,k1] at this
    simpa using this,upd_ext er g⟩
   have hi1:(i:Int) - 1=((i - 1:Nat):Int):=by omega
   have hi2:i - 1=a+Y1.length:=by have:=HM.out;omega
   have HI3:=Lib.hid hi2
   clear k1 k2 k3 hi2 HO
   obtain ⟨wo,hwo⟩ : ∃ wo:World,wo=wr:=⟨_,rfl⟩
   rw [← hwo] at HW er ⊢
   clear hwo
   go_wp2
   go_loopg [13] (i - 1 - a) (fun z u wr => ∃ (k:Nat) (Ya Yb:List Ct),z=i - 1 - k∧u = .int .i64 k∧a≤k∧k≤i - 1∧Hid (WayIn B g c a P Y1 (Y2++Q) x w wr k Ya Yb))
   case atStart=>exact ⟨a,[],Y1,rfl,rfl,Nat.le_refl _,by omega,HW⟩
   case round =>
    obtain ⟨k,Ya,Yb,rfl,rfl,hk1,hk2,HJ⟩:=hrel
    clear HW
    by_cases hkl:k<i - 1
    ·obtain ⟨y,Yb,rfl⟩:=cons_of (l:=Yb) (by
      obtain ⟨q1,q2,_⟩:=HJ.out
      have:=HI3.out
      rw [q1,List.length_append] at this
      omega)
     have hf:=HJ.out.2.2.1
     have e2:P++(Ya++x :: (y :: Yb++(Y2++Q)))=(P++Ya)++x :: (y :: (Yb++(Y2++Q))):=by simp
     rw [e2] at hf
     have hkP:k=(P++Ya).length:=by rw [List.length_append, ← HA.out];exact HJ.out.2.1
     obtain ⟨px0,px1⟩:=hf.here hkP
     have e3:(P++Ya)++x :: (y :: (Yb++(Y2++Q)))=(P++Ya++[x])++y :: (Yb++(Y2++Q)):=by simp
     have hf2:=hf
     rw [e3] at hf2
     obtain ⟨py0,py1⟩:=hf2.here (p:=k+1) (by rw [List.length_append, ← hkP,List.length_singleton])
     have f0:=hf.free (k * 2)
     have f1:=hf.free (k * 2+1)
     have f2:=hf.free ((k+1) * 2)
     have f3:=hf.free ((k+1) * 2+1)
     obtain ⟨nx,hnx⟩ : ∃ nx,nx=x.l.length:=⟨_,rfl⟩
     obtain ⟨ny,hny⟩ : ∃ ny,ny=y.l.length:=⟨_,rfl⟩
     rw [← hnx] at px0
     rw [← hny] at py0
     have HNX:=Lib.hid hnx
     have HNY:=Lib.hid hny
     have XE:Ext wr wr.drew:=(Ext.refl wr).drew
     have PY0 : ∀ z:Xt wr.drew,z.W.cell? ⟨g,(k+1) * 2,none⟩=some (.slice y.A ny y.c):=fun z=>(XE.trans z.x).cell py0
     have PY1 : ∀ z:Xt wr.drew,z.W.cell? ⟨g,(k+1) * 2+1,none⟩=some (.int .i64 y.k):=fun z=>(XE.trans z.x).cell py1
     have PX0 : ∀ z:Xt wr.drew,z.W.cell? ⟨g,k * 2,none⟩=some (.slice x.A nx x.c):=fun z=>(XE.trans z.x).cell px0
     have PX1 : ∀ z:Xt wr.drew,z.W.cell? ⟨g,k * 2+1,none⟩=some (.int .i64 x.k):=fun z=>(XE.trans z.x).cell px1
     clear hf hf2 e2 e3 hkP hnx hny
     go_upto_region 11 with fail
     refine wp_region_ord [0,0,0,0,8,0,0,64,224,480,0,0,3072,7168,16355,32739,65535,131071] (.flo [0,1,5,6,7,8,9,10,11,12,13,14] (.pur [2,3,4] (.one 15 (.flo [16] (.one 17 (.fin)))))) (by kernel_rfl) (by kernel_rfl) (by intro _ _ d _ _ h;cases d<;>exact h) ?_
     (refine ord_flo (pick_cons rfl (pick_cons rfl (pick_cons rfl (pick_cons rfl (pick_cons rfl (pick_cons rfl (pick_cons rfl (pick_cons rfl (pick_cons rfl (pick_cons rfl (pick_cons rfl (pick_cons rfl pick_nil)))))))))))) ?_;(repeat (go_big_quiet_step (fail)));refine wpQuiet_nil ?_;show ordWalk _ _ _ _ _ _ _)
     (refine ord_pur (pick_cons rfl (pick_cons rfl (pick_cons rfl pick_nil))) ?_;(repeat (go_big_quiet_step (fail)));refine wpQuiet_nil ?_;show ordWalk _ _ _ _ _ _ _)
     refine ord_one (pick_cons rfl pick_nil) ?_;intro K_ hK_
     go_wp2
     (refine ord_flo (pick_cons rfl pick_nil) ?_;(repeat (go_big_quiet_step (fail)));refine wpQuiet_nil ?_;show ordWalk _ _ _ _ _ _ _)
     refine ord_one (pick_cons rfl pick_nil) ?_;intro K_ hK_
     go_wp2
     refine ord_fin ?_
     go_wp2
     go_roundg (i - 1 - (k+1))
     case measure=>omega
     case rel=>exact ⟨k+1,Ya++[y],Yb,rfl,by go_num,by omega,by omega,Lib.hid (HJ.out.step HA.out rfl HNX.out HNY.out XE)⟩
    ·obtain rfl:k=i - 1:=by omega
     have HE:Hid (Yb=[]):=Lib.hid (by
      obtain ⟨q1,q2,_⟩:=HJ.out
      have:=HI3.out
      rw [q1,List.length_append] at this
      exact List.eq_nil_of_length_eq_zero (by omega))
     go_wp2
     refine bodyPost_ret (v := .tuple #[]) (by simp only [results,Tryz.results257];go_simp) rfl ?_
     obtain ⟨q1,q2,q3,q4⟩:=HJ.out
     rw [HE.out] at q1 q3
     rw [List.append_nil] at q1
     refine ⟨rfl,Y1++x :: Y2,HK.out,?_,q4⟩
     rw [q1]
     simpa using q3
open Go.RowKit
def LastIn (L:List Ct) (y:Ct) (a m i j:Nat):Prop:=(a<i → ¬ cmpC y (L.getD (i - 1) Ct.zero)<0)∧(j<m→cmpC y (L.getD j Ct.zero)<0)
/-- the element on its way -/
def BackIn (B g c a:Nat) (P X2 R:List Ct) (y:Ct) (w wi:World) (k:Nat) (Xa Xb:List Ct):Prop :=
 X2=Xa++Xb∧k=a+Xa.length∧Arr wi B g c (P++(Xa++y :: (Xb++R)))∧w.grownBy wi (some g)
theorem BackIn.step {B g c a:Nat} {P X2 R:List Ct} {x y:Ct} {w wi wj:World} {k k1:Nat} {Xa Xb:List Ct} (h:BackIn B g c a P X2 R y w wi k (Xa++[x]) Xb) (ha:a=P.length) (hk:k=k1+1) {nx ny:Nat} (hx:nx=x.l.length) (hy:ny=y.l.length) (hz:Ext wi wj) :
  BackIn B g c a P X2 R y w ((((wj.setCell ⟨g,k * 2,none⟩ (.slice x.A nx x.c)).setCell ⟨g,k * 2+1,none⟩ (.int .i64 x.k)).setCell ⟨g,k1 * 2,none⟩ (.slice y.A ny y.c)).setCell ⟨g,k1 * 2+1,none⟩ (.int .i64 y.k)) k1 Xa (x :: Xb):=by
 obtain ⟨h1,h2,h3,h4⟩:=h
 rw [List.length_append,List.length_singleton] at h2
 have e:P++(Xa++[x]++y :: (Xb++R))=(P++Xa)++x :: ([]++y :: (Xb++R)):=by simp
 have hf:=h3.ext hz
 rw [e] at hf
 have h7:=hf.swapB (p:=k1) (q:=k) (by rw [List.length_append];omega) (by rw [List.length_append,List.length_nil];omega) hx hy
 refine ⟨by rw [h1];simp,by omega,?_,(h4.trans (upd_ext hz g)).trans (upd_swap wj g _ _ _ _ _ _ _ _)⟩
 have e2:P++(Xa++y :: (x :: Xb++R))=(P++Xa)++y :: ([]++x :: (Xb++R)):=by simp
 rw [e2]
 exact h7
set_option maxRecDepth 100000 in
set_option maxHeartbeats 8000000 in
theorem symLast_any (B g c n a m b:Nat) (P X Q:List Ct) (y:Ct) (w:World) (ha:a=P.length) (hm:m=a+X.length) (hb:b=m+1) (hn:n=(P++(X++([y]++Q))).length) (hX:SortedC X) (h2:2≤X.length) (h:Arr w B g c (P++(X++([y]++Q)))) (hr:Rws w g (X++[y])) (hbig:n≤1000000000) :
  Calls Tryz.prog 257 #[.slice (some ⟨g,0,none⟩) n c, .int .i64 a, .int .i64 m, .int .i64 b, .func (.func 188) #[] #[]] w (SymRes B g c P (X++[y]) Q w):=by
 have hnm:=h.le
 rw [← hn] at hnm
 obtain ⟨L,hL⟩ : ∃ L,L=P++(X++([y]++Q)):=⟨_,rfl⟩
 have hbn:b≤n:=by rw [hb,hm,ha,hn];simp only [List.length_append,List.length_singleton];omega
 have HA:=Lib.hid ha
 have HB:=Lib.hid hb
 have HM:=Lib.hid hm
 have HL:=Lib.hid hL
 have HX:=Lib.hid hX
 have HR:=Lib.hid hr
 have HN:Hid (n=L.length):=Lib.hid (by rw [hL];exact hn)
 have H:Hid (Arr w B g c L):=Lib.hid (by rw [hL];exact h)
 have e1:((m:Int) - (a:Int)==1)=false:=by rw [beq_eq_false_iff_ne];omega
 have e2:(b:Int) - (m:Int)=1:=by omega
 have hmb:m<b:=by omega
 have ham:a≤m:=by omega
 clear ha hm hb hn hX h hr hL h2
 go_enter Tryz.func257,Tryz.ntmps257
 go_wp2
 go_loopg [14,15] (m - a) (fun z u v wr => ∃ i j:Nat,z=j - i∧u = .int .i64 i∧v = .int .i64 j∧a≤i∧i≤j∧j≤m∧Hid (LastIn L y a m i j)∧Ext w wr)
 case atStart=>exact ⟨a,m,rfl,rfl,rfl,Nat.le_refl _,ham,Nat.le_refl _,Lib.hid ⟨fun h=>absurd h (Nat.lt_irrefl _),fun h=>absurd h (Nat.lt_irrefl _)⟩,Ext.refl _⟩
 case round =>
  obtain ⟨i,j,rfl,rfl,rfl,h1,h2,h3,HO,er⟩:=hrel
  by_cases hlt:i<j
  ·obtain ⟨q,hq⟩ : ∃ q,q=(i+j) / 2:=⟨_,rfl⟩
   have hqi:i≤q:=by omega
   have hqj:q<j:=by omega
   have hqq:((i:Int)+(j:Int)) / 2=(q:Int):=by omega
   have hA:=H.out.ext er
   have hqL:q<L.length:=by rw [← HN.out];omega
   obtain ⟨py0,py1⟩:=hA.at hqL
   have hx:=hA
   rw [HL.out] at hx
   have ex:P++(X++([y]++Q))=(P++X)++y :: Q:=by simp
   rw [ex] at hx
   obtain ⟨px0,px1⟩:=hx.here (p:=m) (by rw [List.length_append, ← HA.out];exact HM.out)
   have hmem:L.getD q Ct.zero∈X++[y]:=List.mem_append_left _ (by
    rw [HL.out]
    exact mem_mid (by rw [← HA.out];omega) (by rw [← HA.out, ← HM.out];omega))
   have HMY:=Lib.hid hmem
   obtain ⟨x,hy⟩ : ∃ x,x=L.getD q Ct.zero:=⟨_,rfl⟩
   rw [← hy] at py0 py1 HMY
   have HYQ:=Lib.hid hy
   obtain ⟨nx,hnx⟩ : ∃ nx,nx=x.l.length:=⟨_,rfl⟩
   obtain ⟨ny,hny⟩ : ∃ ny,ny=y.l.length:=⟨_,rfl⟩
   rw [← hny] at px0
   rw [← hnx] at py0
   have HNX:=Lib.hid hnx
   have HNY:=Lib.hid hny
   have XE:Ext wr wr.drew:=(Ext.refl wr).drew
   have HRY:=Lib.hid (((HR.out y (by simp)).1.ext er).ext XE)
   have HRX:=Lib.hid (((HR.out x HMY.out).1.ext er).ext XE)
   obtain ⟨v,hv⟩ : ∃ v,cmpR y.l x.l=v:=⟨_,rfl⟩
   have HV:=Lib.hid hv
   have PY0 : ∀ z:Xt wr.drew,z.W.cell? ⟨g,q * 2,none⟩=some (.slice x.A nx x.c):=fun z=>(XE.trans z.x).cell py0
   have PY1 : ∀ z:Xt wr.drew,z.W.cell? ⟨g,q * 2+1,none⟩=some (.int .i64 x.k):=fun z=>(XE.trans z.x).cell py1
   have PX0 : ∀ z:Xt wr.drew,z.W.cell? ⟨g,m * 2,none⟩=some (.slice y.A ny y.c):=fun z=>(XE.trans z.x).cell px0
   have PX1 : ∀ z:Xt wr.drew,z.W.cell? ⟨g,m * 2+1,none⟩=some (.int .i64 y.k):=fun z=>(XE.trans z.x).cell px1
   clear hA hqL hx hmem hnx hny hv hy hq ex
   by_cases hv0:v<0
   ·have zv:decide (v<0)=true:=by simpa using hv0
    go_upto_region 17 with fail
    refine wp_region_ord [0,0,0,6,14,0,0,96,224,511,1023,2047] (.flo [0,1,2,3,4,5,6,7,8] (.one 9 (.flo [10,11] (.fin)))) (by kernel_rfl) (by kernel_rfl) (by intro _ _ d _ _ h;cases d<;>exact h) ?_
    (refine ord_flo (pick_cons rfl (pick_cons rfl (pick_cons rfl (pick_cons rfl (pick_cons rfl (pick_cons rfl (pick_cons rfl (pick_cons rfl (pick_cons rfl pick_nil))))))))) ?_;(repeat (go_big_quiet_step (fail)));refine wpQuiet_nil ?_;show ordWalk _ _ _ _ _ _ _)
    refine ord_one (pick_cons rfl pick_nil) ?_;intro K_ hK_
    go_wp2_with (go_at_call 188;refine (sum1_any y.A x.A y.c x.c ny nx y.k x.k v y.l x.l _ HV HNY HNX HRY HRX).mono ?_;rintro e w1 ⟨rfl,x1⟩)
    (refine ord_flo (pick_cons rfl (pick_cons rfl pick_nil)) ?_;(repeat (go_big_quiet_step (fail)));refine wpQuiet_nil ?_;show ordWalk _ _ _ _ _ _ _)
    refine ord_fin ?_
    go_wp2
    go_roundg (q - i)
    case measure=>omega
    case rel=>exact ⟨i,q,rfl,rfl,rfl,h1,hqi,by omega,Lib.hid ⟨HO.out.1,fun _=>by rw [← HYQ.out];show cmpR y.l x.l<0;rw [HV.out];exact hv0⟩,er.trans (XE.trans x1)⟩
   ·have zv:decide (v<0)=false:=by simpa using hv0
    go_upto_region 17 with fail
    refine wp_region_ord [0,0,0,6,14,0,0,96,224,511,1023,2047] (.flo [0,1,2,3,4,5,6,7,8] (.one 9 (.flo [10,11] (.fin)))) (by kernel_rfl) (by kernel_rfl) (by intro _ _ d _ _ h;cases d<;>exact h) ?_
    (refine ord_flo (pick_cons rfl (pick_cons rfl (pick_cons rfl (pick_cons rfl (pick_cons rfl (pick_cons rfl (pick_cons rfl (pick_cons rfl (pick_cons rfl pick_nil))))))))) ?_;(repeat (go_big_quiet_step (fail)));refine wpQuiet_nil ?_;show ordWalk _ _ _ _ _ _ _)
    refine ord_one (pick_cons rfl pick_nil) ?_;intro K_ hK_
    go_wp2_with (go_at_call 188;refine (sum1_any y.A x.A y.c x.c ny nx y.k x.k v y.l x.l _ HV HNY HNX HRY HRX).mono ?_;rintro e w1 ⟨rfl,x1⟩)
    (refine ord_flo (pick_cons rfl (pick_cons rfl pick_nil)) ?_;(repeat (go_big_quiet_step (fail)));refine wpQuiet_nil ?_;show ordWalk _ _ _ _ _ _ _)
    refine ord_fin ?_
    go_wp2
    go_roundg (j - (q+1))
    case measure=>omega
    case rel=>exact ⟨q+1,j,rfl,by go_num,rfl,by omega,by omega,h3,Lib.hid ⟨fun _=>by rw [Nat.add_sub_cancel, ← HYQ.out];show ¬ cmpR y.l x.l<0;rw [HV.out];omega,HO.out.2⟩,er.trans (XE.trans x1)⟩
  ·obtain rfl:i=j:=by omega
   obtain ⟨X1,X2,k1,k2,k3⟩:=last_split HL.out HA.out HM.out h1 h3 HX.out HO.out.1 HO.out.2
   have HK:=Lib.hid k3
   have HX1:=Lib.hid k1
   have HI2:Hid (i=(P++X1).length):=Lib.hid (by rw [List.length_append, ← HA.out];exact k2)
   have HW:Hid (BackIn B g c i (P++X1) X2 Q y w wr m X2 []):=Lib.hid ⟨(List.append_nil _).symm,by
    have:=HM.out
    rw [k1,List.length_append] at this
    omega,by
    have:=H.out.ext er
    rw [HL.out,k1] at this
    simpa using this,upd_ext er g⟩
   clear k1 k2 k3 HO
   obtain ⟨wo,hwo⟩ : ∃ wo:World,wo=wr:=⟨_,rfl⟩
   rw [← hwo] at HW er ⊢
   clear hwo
   go_wp2
   go_loopg [17] (m - i) (fun z u wr => ∃ (k:Nat) (Xa Xb:List Ct),z=k - i∧u = .int .i64 k∧i≤k∧k≤m∧Hid (BackIn B g c i (P++X1) X2 Q y w wr k Xa Xb))
   case atStart=>exact ⟨m,X2,[],rfl,rfl,h3,Nat.le_refl _,HW⟩
   case round =>
    obtain ⟨k,Xa,Xb,rfl,rfl,hk1,hk2,HJ⟩:=hrel
    clear HW
    rcases last_cases Xa with rfl | ⟨Xa,x,rfl⟩
    ·obtain rfl:k=i:=by have:=HJ.out.2.1;simpa using this
     go_wp2
     refine bodyPost_ret (v := .tuple #[]) (by simp only [results,Tryz.results257];go_simp) rfl ?_
     obtain ⟨q1,q2,q3,q4⟩:=HJ.out
     refine ⟨rfl,X1++y :: X2,HK.out,?_,q4⟩
     rw [q1]
     simpa using q3
    ·obtain ⟨k1,hk⟩ : ∃ k1,k=k1+1:=⟨k - 1,by have:=HJ.out.2.1;rw [List.length_append,List.length_singleton] at this;omega⟩
     subst hk
     have hik:i≤k1:=by have:=HJ.out.2.1;rw [List.length_append,List.length_singleton] at this;omega
     have hkk:((k1+1:Nat):Int) - 1=(k1:Int):=by omega
     have hf:=HJ.out.2.2.1
     have e2:P++X1++(Xa++[x]++y :: (Xb++Q))=(P++X1++Xa)++x :: (y :: (Xb++Q)):=by simp
     rw [e2] at hf
     have hkP:k1=(P++X1++Xa).length:=by rw [List.length_append, ← HI2.out];have:=HJ.out.2.1;rw [List.length_append,List.length_singleton] at this;omega
     obtain ⟨px0,px1⟩:=hf.here hkP
     have e3:(P++X1++Xa)++x :: (y :: (Xb++Q))=(P++X1++Xa++[x])++y :: (Xb++Q):=by simp
     have hf2:=hf
     rw [e3] at hf2
     obtain ⟨py0,py1⟩:=hf2.here (p:=k1+1) (by rw [List.length_append, ← hkP,List.length_singleton])
     have f0:=hf.free (k1 * 2)
     have f1:=hf.free (k1 * 2+1)
     have f2:=hf.free ((k1+1) * 2)
     have f3:=hf.free ((k1+1) * 2+1)
     obtain ⟨nx,hnx⟩ : ∃ nx,nx=x.l.length:=⟨_,rfl⟩
     obtain ⟨ny,hny⟩ : ∃ ny,ny=y.l.length:=⟨_,rfl⟩
     rw [← hnx] at px0
     rw [← hny] at py0
     have HNX:=Lib.hid hnx
     have HNY:=Lib.hid hny
     have XE:Ext wr wr.drew:=(Ext.refl wr).drew
     have PY0 : ∀ z:Xt wr.drew,z.W.cell? ⟨g,(k1+1) * 2,none⟩=some (.slice y.A ny y.c):=fun z=>(XE.trans z.x).cell py0
     have PY1 : ∀ z:Xt wr.drew,z.W.cell? ⟨g,(k1+1) * 2+1,none⟩=some (.int .i64 y.k):=fun z=>(XE.trans z.x).cell py1
     have PX0 : ∀ z:Xt wr.drew,z.W.cell? ⟨g,k1 * 2,none⟩=some (.slice x.A nx x.c):=fun z=>(XE.trans z.x).cell px0
     have PX1 : ∀ z:Xt wr.drew,z.W.cell? ⟨g,k1 * 2+1,none⟩=some (.int .i64 x.k):=fun z=>(XE.trans z.x).cell px1
     clear hf hf2 e2 e3 hkP hnx hny
     go_upto_region 23 with fail
     refine wp_region_ord [0,0,0,0,8,0,0,64,224,480,0,0,3072,7168,16355,32739,65535,131071] (.flo [0,1,5,6,7,8,9,10,11,12,13,14] (.pur [2,3,4] (.one 15 (.flo [16] (.one 17 (.fin)))))) (by kernel_rfl) (by kernel_rfl) (by intro _ _ d _ _ h;cases d<;>exact h) ?_
     (refine ord_flo (pick_cons rfl (pick_cons rfl (pick_cons rfl (pick_cons rfl (pick_cons rfl (pick_cons rfl (pick_cons rfl (pick_cons rfl (pick_cons rfl (pick_cons rfl (pick_cons rfl (pick_cons rfl pick_nil)))))))))))) ?_;(repeat (go_big_quiet_step (fail)));refine wpQuiet_nil ?_;show ordWalk _ _ _ _ _ _ _)
     (refine ord_pur (pick_cons rfl (pick_cons rfl (pick_cons rfl pick_nil))) ?_;(repeat (go_big_quiet_step (fail)));refine wpQuiet_nil ?_;show ordWalk _ _ _ _ _ _ _)
     refine ord_one (pick_cons rfl pick_nil) ?_;intro K_ hK_
     go_wp2
     (refine ord_flo (pick_cons rfl pick_nil) ?_;(repeat (go_big_quiet_step (fail)));refine wpQuiet_nil ?_;show ordWalk _ _ _ _ _ _ _)
     refine ord_one (pick_cons rfl pick_nil) ?_;intro K_ hK_
     go_wp2
     refine ord_fin ?_
     go_wp2
     go_roundg (k1 - i)
     case measure=>omega
     case rel=>exact ⟨k1,Xa,x :: Xb,rfl,by go_num,hik,by omega,Lib.hid (HJ.out.step HI2.out rfl HNX.out HNY.out XE)⟩
open Go.RowKit
/-- the merge, of so many rows at most -/
def SymIH (N:Nat):Prop := ∀ (B g c n a m b:Nat) (P X Y Q:List Ct) (w:World),X.length+Y.length≤N→0<X.length→0<Y.length→a=P.length→m=a+X.length→b=m+Y.length→n=(P++(X++(Y++Q))).length→SortedC X→SortedC Y →
 Arr w B g c (P++(X++(Y++Q)))→Rws w g (X++Y)→n≤1000000000 →
 Calls Tryz.prog 257 #[.slice (some ⟨g,0,none⟩) n c, .int .i64 a, .int .i64 m, .int .i64 b, .func (.func 188) #[] #[]] w (SymRes B g c P (X++Y) Q w)
/-- how the lists are cut -/
structure SymF (N g n a m b mid en s:Nat) (P X X1 X2 Y Y1 Y2 Q:List Ct) (w:World):Prop where
 hX:X=X1++X2
 hY:Y=Y1++Y2
 ha:a=P.length
 hs:s=a+X1.length
 hm:m=a+X.length
 hb:b=m+Y.length
 hen:en=m+Y1.length
 hmid:mid=a+(X1.length+Y1.length)
 half:mid=(a+b) / 2
 hn:n=(P++(X++(Y++Q))).length
 sX:SortedC X
 sY:SortedC Y
 rows:Rws w g (X++Y)
 cut1 : ∀ t x y u,X1=t++[x]→Y2=y :: u→cmpC x y≤0
 cut2 : ∀ t y x u,Y1=t++[y]→X2=x :: u→cmpC y x<0
 big:n≤1000000000
 len:X.length+Y.length≤N+1
 two:2≤X.length+Y.length
def SymAt (B g c:Nat) (P X1 Y1 X2 Y2 Q:List Ct) (w w2:World):Prop:=Arr w2 B g c (P++(X1++(Y1++(X2++(Y2++Q)))))∧w.grownBy w2 (some g)
def SymMid (B g c:Nat) (P X1 Y1 X2 Y2 Q:List Ct) (w w3:World):Prop := ∃ Z1,Stable cmpC (X1++Y1) Z1∧Arr w3 B g c (P++(Z1++(X2++(Y2++Q))))∧w.grownBy w3 (some g)
section
variable {N B g c n a m b mid en s:Nat} {P X X1 X2 Y Y1 Y2 Q:List Ct} {w w1 w2 w3:World}
theorem nil_or {α:Type} {l:List α} (h : ¬ 0<l.length):l=[]:=List.eq_nil_of_length_eq_zero (by omega)
theorem SymF.lens (F:SymF N g n a m b mid en s P X X1 X2 Y Y1 Y2 Q w):X.length=X1.length+X2.length∧Y.length=Y1.length+Y2.length∧n=P.length+(X.length+(Y.length+Q.length)) :=
 ⟨by rw [F.hX,List.length_append],by rw [F.hY,List.length_append],by rw [F.hn];simp only [List.length_append]⟩
theorem SymF.flags (F:SymF N g n a m b mid en s P X X1 X2 Y Y1 Y2 Q w):(s<m↔0<X2.length)∧(m<en↔0<Y1.length)∧(a<s↔0<X1.length)∧(s<mid↔0<Y1.length)∧(mid<en↔0<X2.length)∧(en<b↔0<Y2.length):=by
 obtain ⟨l1,l2,l3⟩:=F.lens
 have hs:=F.hs
 have hm:=F.hm
 have hb:=F.hb
 have hmid:=F.hmid
 have hen:=F.hen
 refine ⟨⟨fun _=>?_,fun _=>?_⟩,⟨fun _=>?_,fun _=>?_⟩,⟨fun _=>?_,fun _=>?_⟩,⟨fun _=>?_,fun _=>?_⟩,⟨fun _=>?_,fun _=>?_⟩,⟨fun _=>?_,fun _=>?_⟩⟩<;>omega
/-- where nothing is to be turned -/
theorem SymF.still (F:SymF N g n a m b mid en s P X X1 X2 Y Y1 Y2 Q w) (h:Arr w1 B g c (P++(X++(Y++Q)))) (up:w.grownBy w1 (some g)) (hz : ¬ 0<X2.length ∨ ¬ 0<Y1.length):SymAt B g c P X1 Y1 X2 Y2 Q w w1:=by
 refine ⟨?_,up⟩
 rw [F.hX,F.hY] at h
 rcases hz with q | q
 ·rw [nil_or q] at h ⊢
  simpa using h
 ·rw [nil_or q] at h ⊢
  simpa using h
theorem SymF.rot (F:SymF N g n a m b mid en s P X X1 X2 Y Y1 Y2 Q w) (h:Arr w1 B g c (P++(X++(Y++Q)))) (up:w.grownBy w1 (some g)) (h1:0<X2.length) (h2:0<Y1.length) :
  Calls Tryz.prog 284 #[.slice (some ⟨g,0,none⟩) n c, .int .i64 s, .int .i64 m, .int .i64 en, .func (.func 188) #[] #[]] w1 fun e w'=>e = .returned (.tuple #[])∧SymAt B g c P X1 Y1 X2 Y2 Q w w':=by
 obtain ⟨l1,l2,l3⟩:=F.lens
 have e:P++(X++(Y++Q))=(P++X1)++(X2++(Y1++(Y2++Q))):=by rw [F.hX,F.hY];simp
 rw [e] at h
 have ha:=F.ha
 have hs:=F.hs
 have hm:=F.hm
 refine (rot_any B g c n s m en (P++X1) X2 Y1 (Y2++Q) w1 (by rw [List.length_append];omega) (by omega) F.hen h1 h2 (by rw [F.hn,e]) h).mono ?_
 rintro e w2 ⟨rfl,a2,g2⟩
 refine ⟨rfl,?_,up.trans g2⟩
 rwa [List.append_assoc] at a2
theorem SymF.left (F:SymF N g n a m b mid en s P X X1 X2 Y Y1 Y2 Q w) (IH:SymIH N) (h:SymAt B g c P X1 Y1 X2 Y2 Q w w2) (h1:0<X1.length) (h2:0<Y1.length) :
  Calls Tryz.prog 257 #[.slice (some ⟨g,0,none⟩) n c, .int .i64 a, .int .i64 s, .int .i64 mid, .func (.func 188) #[] #[]] w2 fun e w'=>e = .returned (.tuple #[])∧SymMid B g c P X1 Y1 X2 Y2 Q w w':=by
 obtain ⟨l1,l2,l3⟩:=F.lens
 obtain ⟨q1,q2⟩:=h
 have ha:=F.ha
 have hs:=F.hs
 have hm:=F.hm
 have hb:=F.hb
 have hh:=F.half
 have hmid:=F.hmid
 have hl:=F.len
 have h2':=F.two
 refine (IH B g c n a s mid P X1 Y1 (X2++(Y2++Q)) w2 (by omega) h1 h2 ha hs (by omega) (by simp only [List.length_append];omega) (SortedC.left (F.hX ▸ F.sX)) (SortedC.left (F.hY ▸ F.sY)) q1 ((F.rows.upd q2).sub fun x hx=>?_) F.big).mono ?_
 ·rw [F.hX,F.hY]
  rcases List.mem_append.1 hx with hx | hx<;>simp [hx]
 ·rintro e w3 ⟨rfl,Z,z1,z2,z3⟩
  exact ⟨rfl,Z,z1,z2,q2.trans z3⟩
theorem SymF.left0 (F:SymF N g n a m b mid en s P X X1 X2 Y Y1 Y2 Q w) (h:SymAt B g c P X1 Y1 X2 Y2 Q w w2) (hz : ¬ 0<X1.length ∨ ¬ 0<Y1.length):SymMid B g c P X1 Y1 X2 Y2 Q w w2:=by
 obtain ⟨q1,q2⟩:=h
 refine ⟨X1++Y1,?_,by rw [List.append_assoc];exact q1,q2⟩
 rcases hz with q | q
 ·rw [nil_or q,List.nil_append]
  exact Stable.self (SortedC.left (F.hY ▸ F.sY))
 ·rw [nil_or q,List.append_nil]
  exact Stable.self (SortedC.left (F.hX ▸ F.sX))
theorem SymF.all (F:SymF N g n a m b mid en s P X X1 X2 Y Y1 Y2 Q w) {Z1 Z2:List Ct} (h1:Stable cmpC (X1++Y1) Z1) (h2:Stable cmpC (X2++Y2) Z2):Stable cmpC (X++Y) (Z1++Z2):=by
 have:=Stable.merge cmpC_tot (F.hX ▸ F.sX) (F.hY ▸ F.sY) F.cut1 F.cut2 h1 h2
 rwa [← F.hX, ← F.hY] at this
theorem SymF.right (F:SymF N g n a m b mid en s P X X1 X2 Y Y1 Y2 Q w) (IH:SymIH N) (h:SymMid B g c P X1 Y1 X2 Y2 Q w w3) (h1:0<X2.length) (h2:0<Y2.length) :
  Calls Tryz.prog 257 #[.slice (some ⟨g,0,none⟩) n c, .int .i64 mid, .int .i64 en, .int .i64 b, .func (.func 188) #[] #[]] w3 (SymRes B g c P (X++Y) Q w):=by
 obtain ⟨l1,l2,l3⟩:=F.lens
 obtain ⟨Z1,q0,q1,q2⟩:=h
 have lz:=stable_len q0
 rw [List.length_append] at lz
 have ha:=F.ha
 have hs:=F.hs
 have hm:=F.hm
 have hb:=F.hb
 have hh:=F.half
 have hmid:=F.hmid
 have hen:=F.hen
 have hl:=F.len
 have h2':=F.two
 rw [← List.append_assoc] at q1
 refine (IH B g c n mid en b (P++Z1) X2 Y2 Q w3 (by omega) h1 h2 (by rw [List.length_append];omega) (by omega) (by omega) (by simp only [List.length_append];omega) (SortedC.right (F.hX ▸ F.sX)) (SortedC.right (F.hY ▸ F.sY)) q1 ((F.rows.upd q2).sub fun x hx=>?_) F.big).mono ?_
 ·rw [F.hX,F.hY]
  rcases List.mem_append.1 hx with hx | hx<;>simp [hx]
 ·rintro e w4 ⟨rfl,Z,z1,z2,z3⟩
  exact ⟨rfl,Z1++Z,F.all q0 z1,by simpa using z2,q2.trans z3⟩
theorem SymF.right0 (F:SymF N g n a m b mid en s P X X1 X2 Y Y1 Y2 Q w) (h:SymMid B g c P X1 Y1 X2 Y2 Q w w3) (hz : ¬ 0<X2.length ∨ ¬ 0<Y2.length):SymRes B g c P (X++Y) Q w (.returned (.tuple #[])) w3:=by
 obtain ⟨Z1,q0,q1,q2⟩:=h
 refine ⟨rfl,Z1++(X2++Y2),F.all q0 ?_,by simpa using q1,q2⟩
 rcases hz with q | q
 ·rw [nil_or q,List.nil_append]
  exact Stable.self (SortedC.right (F.hY ▸ F.sY))
 ·rw [nil_or q,List.append_nil]
  exact Stable.self (SortedC.right (F.hX ▸ F.sX))
end
open Go.RowKit
def GenIn (L:List Ct) (nn p lo hi s r:Nat):Prop:=(lo<s → ¬ cmpC (L.getD (nn - s) Ct.zero) (L.getD (s - 1) Ct.zero)<0)∧(r<hi→cmpC (L.getD (p - r) Ct.zero) (L.getD r Ct.zero)<0)
set_option maxRecDepth 100000 in
set_option maxHeartbeats 16000000 in
theorem symGen_any (N:Nat) (IH:Hid (SymIH N)) (B g c n a m b:Nat) (P X Y Q:List Ct) (w:World) (hlen:X.length+Y.length≤N+1) (h2X:2≤X.length) (h2Y:2≤Y.length) (ha:a=P.length) (hm:m=a+X.length) (hb:b=m+Y.length) (hn:n=(P++(X++(Y++Q))).length) (hX:SortedC X) (hY:SortedC Y)
  (h:Arr w B g c (P++(X++(Y++Q)))) (hr:Rws w g (X++Y)) (hbig:n≤1000000000) :
  Calls Tryz.prog 257 #[.slice (some ⟨g,0,none⟩) n c, .int .i64 a, .int .i64 m, .int .i64 b, .func (.func 188) #[] #[]] w (SymRes B g c P (X++Y) Q w):=by
 obtain ⟨L,hL⟩ : ∃ L,L=P++(X++(Y++Q)):=⟨_,rfl⟩
 have hbn:b≤n:=by rw [hb,hm,ha,hn];simp only [List.length_append];omega
 obtain ⟨mid,hmid⟩ : ∃ q,q=(a+b) / 2:=⟨_,rfl⟩
 obtain ⟨nn,hnn⟩ : ∃ q,q=mid+m:=⟨_,rfl⟩
 obtain ⟨p,hp⟩ : ∃ p,nn=p+1:=⟨nn - 1,by omega⟩
 have HA:=Lib.hid ha
 have HB:=Lib.hid hb
 have HM:=Lib.hid hm
 have HL:=Lib.hid hL
 have HX:=Lib.hid hX
 have HY:=Lib.hid hY
 have HR:=Lib.hid hr
 have HMID:=Lib.hid hmid
 have HNN:=Lib.hid hnn
 have HPP:=Lib.hid hp
 have HLEN:=Lib.hid hlen
 have HN0:=Lib.hid hn
 have HN:Hid (n=L.length):=Lib.hid (by rw [hL];exact hn)
 have H:Hid (Arr w B g c L):=Lib.hid (by rw [hL];exact h)
 have e1:((m:Int) - (a:Int)==1)=false:=by rw [beq_eq_false_iff_ne];omega
 have e2:((b:Int) - (m:Int)==1)=false:=by rw [beq_eq_false_iff_ne];omega
 have e3:((a:Int)+(b:Int)) / 2=(mid:Int):=by omega
 have e4:(mid:Int)+(m:Int)=(nn:Int):=by omega
 have e5:(nn:Int) - 1=(p:Int):=by omega
 have ham:a+2≤m:=by omega
 have hmb:m+2≤b:=by omega
 have ha1:2 * mid≤a+b:=by omega
 have ha2:a+b≤2 * mid+1:=by omega
 have hp1:mid+m≤p+1:=by omega
 have hp2:p+1≤mid+m:=by omega
 have hnp:nn≤p+1:=by omega
 have hpn:p+1≤nn:=by omega
 clear hlen h2X h2Y ha hm hb hn hX hY h hr hL hmid hnn hp
 go_enter Tryz.func257,Tryz.ntmps257
 by_cases hc:mid<m
 ·obtain ⟨lo,hlo⟩ : ∃ lo,lo=nn - b:=⟨_,rfl⟩
  have e6:(nn:Int) - (b:Int)=(lo:Int):=by omega
  have HC:Hid (mid<m∧lo=nn - b):=Lib.hid ⟨hc,hlo⟩
  have hl1:nn≤lo+b:=by omega
  have hl2:lo+b≤nn:=by omega
  clear hlo
  go_wp2
  go_loopg [20,21] (mid - lo) (fun z u v wr => ∃ s r:Nat,z=r - s∧u = .int .i64 s∧v = .int .i64 r∧lo≤s∧s≤r∧r≤mid∧Hid (GenIn L nn p lo mid s r)∧Ext w wr)
  case atStart=>exact ⟨lo,mid,rfl,rfl,rfl,Nat.le_refl _,by omega,Nat.le_refl _,Lib.hid ⟨fun h=>absurd h (Nat.lt_irrefl _),fun h=>absurd h (Nat.lt_irrefl _)⟩,Ext.refl _⟩
  case round =>
   obtain ⟨s,r,rfl,rfl,rfl,h1,h2,h3,HO,er⟩:=hrel
   by_cases hlt:s<r
   ·obtain ⟨q,hq⟩ : ∃ q,q=(s+r) / 2:=⟨_,rfl⟩
    have hqi:s≤q:=by omega
    have hqj:q<r:=by omega
    have hqq:((s:Int)+(r:Int)) / 2=(q:Int):=by omega
    obtain ⟨t,ht⟩ : ∃ t,t=p - q:=⟨_,rfl⟩
    have hpq:(p:Int) - (q:Int)=(t:Int):=by omega
    have hqm:a≤q∧q<m:=by omega
    have htm:m≤t∧t<b:=by omega
    have hqn:q<n:=by omega
    have htn:t<n:=by omega
    have hA:=H.out.ext er
    obtain ⟨px0,px1⟩:=hA.at (i:=q) (by rw [← HN.out];exact hqn)
    obtain ⟨py0,py1⟩:=hA.at (i:=t) (by rw [← HN.out];exact htn)
    have hmx:L.getD q Ct.zero∈X++Y:=List.mem_append_left _ (by
     rw [HL.out]
     exact mem_mid (by rw [← HA.out];exact hqm.1) (by rw [← HA.out, ← HM.out];exact hqm.2))
    have hmy:L.getD t Ct.zero∈X++Y:=List.mem_append_right _ (by
     rw [HL.out]
     have:=mem_mid (P:=P++X) (X:=Y) (R:=Q) (i:=t) (by rw [List.length_append, ← HA.out, ← HM.out];exact htm.1) (by rw [List.length_append, ← HA.out, ← HM.out, ← HB.out];exact htm.2)
     rwa [List.append_assoc] at this)
    obtain ⟨x,hx⟩ : ∃ x,x=L.getD q Ct.zero:=⟨_,rfl⟩
    obtain ⟨y,hy⟩ : ∃ y,y=L.getD t Ct.zero:=⟨_,rfl⟩
    rw [← hx] at px0 px1 hmx
    rw [← hy] at py0 py1 hmy
    have HXQ:=Lib.hid hx
    have HYQ:=Lib.hid hy
    have HT:=Lib.hid ht
    obtain ⟨nx,hnx⟩ : ∃ nx,nx=x.l.length:=⟨_,rfl⟩
    obtain ⟨ny,hny⟩ : ∃ ny,ny=y.l.length:=⟨_,rfl⟩
    rw [← hnx] at px0
    rw [← hny] at py0
    have HNX:=Lib.hid hnx
    have HNY:=Lib.hid hny
    have XE:Ext wr wr.drew:=(Ext.refl wr).drew
    have HRX:=Lib.hid (((HR.out x hmx).1.ext er).ext XE)
    have HRY:=Lib.hid (((HR.out y hmy).1.ext er).ext XE)
    obtain ⟨v,hv⟩ : ∃ v,cmpR y.l x.l=v:=⟨_,rfl⟩
    have HV:=Lib.hid hv
    have PY0 : ∀ z:Xt wr.drew,z.W.cell? ⟨g,t * 2,none⟩=some (.slice y.A ny y.c):=fun z=>(XE.trans z.x).cell py0
    have PY1 : ∀ z:Xt wr.drew,z.W.cell? ⟨g,t * 2+1,none⟩=some (.int .i64 y.k):=fun z=>(XE.trans z.x).cell py1
    have PX0 : ∀ z:Xt wr.drew,z.W.cell? ⟨g,q * 2,none⟩=some (.slice x.A nx x.c):=fun z=>(XE.trans z.x).cell px0
    have PX1 : ∀ z:Xt wr.drew,z.W.cell? ⟨g,q * 2+1,none⟩=some (.int .i64 x.k):=fun z=>(XE.trans z.x).cell px1
    clear hA hx hy hmx hmy hnx hny hv hq ht
    by_cases hv0:v<0
    ·have zv:decide (v<0)=true:=by simpa using hv0
     go_upto_region 35 with fail
     refine wp_region_ord [0,0,0,0,12,30,62,0,0,384,896,2047,4095,8191] (.flo [0,1,2,3,4,5,6,7,8,9,10] (.one 11 (.flo [12,13] (.fin)))) (by kernel_rfl) (by kernel_rfl) (by intro _ _ d _ _ h;cases d<;>exact h) ?_
     (refine ord_flo (pick_cons rfl (pick_cons rfl (pick_cons rfl (pick_cons rfl (pick_cons rfl (pick_cons rfl (pick_cons rfl (pick_cons rfl (pick_cons rfl (pick_cons rfl (pick_cons rfl pick_nil))))))))))) ?_;(repeat (go_big_quiet_step (fail)));refine wpQuiet_nil ?_;show ordWalk _ _ _ _ _ _ _)
     refine ord_one (pick_cons rfl pick_nil) ?_;intro K_ hK_
     go_wp2_with (go_at_call 188;refine (sum1_any y.A x.A y.c x.c ny nx y.k x.k v y.l x.l _ HV HNY HNX HRY HRX).mono ?_;rintro e w1 ⟨rfl,x1⟩)
     (refine ord_flo (pick_cons rfl (pick_cons rfl pick_nil)) ?_;(repeat (go_big_quiet_step (fail)));refine wpQuiet_nil ?_;show ordWalk _ _ _ _ _ _ _)
     refine ord_fin ?_
     go_wp2
     go_roundg (q - s)
     case measure=>omega
     case rel=>exact ⟨s,q,rfl,rfl,rfl,h1,hqi,by omega,Lib.hid ⟨HO.out.1,fun _=>by rw [← HT.out, ← HYQ.out, ← HXQ.out];show cmpR y.l x.l<0;rw [HV.out];exact hv0⟩,er.trans (XE.trans x1)⟩
    ·have zv:decide (v<0)=false:=by simpa using hv0
     go_upto_region 35 with fail
     refine wp_region_ord [0,0,0,0,12,30,62,0,0,384,896,2047,4095,8191] (.flo [0,1,2,3,4,5,6,7,8,9,10] (.one 11 (.flo [12,13] (.fin)))) (by kernel_rfl) (by kernel_rfl) (by intro _ _ d _ _ h;cases d<;>exact h) ?_
     (refine ord_flo (pick_cons rfl (pick_cons rfl (pick_cons rfl (pick_cons rfl (pick_cons rfl (pick_cons rfl (pick_cons rfl (pick_cons rfl (pick_cons rfl (pick_cons rfl (pick_cons rfl pick_nil))))))))))) ?_;(repeat (go_big_quiet_step (fail)));refine wpQuiet_nil ?_;show ordWalk _ _ _ _ _ _ _)
     refine ord_one (pick_cons rfl pick_nil) ?_;intro K_ hK_
     go_wp2_with (go_at_call 188;refine (sum1_any y.A x.A y.c x.c ny nx y.k x.k v y.l x.l _ HV HNY HNX HRY HRX).mono ?_;rintro e w1 ⟨rfl,x1⟩)
     (refine ord_flo (pick_cons rfl (pick_cons rfl pick_nil)) ?_;(repeat (go_big_quiet_step (fail)));refine wpQuiet_nil ?_;show ordWalk _ _ _ _ _ _ _)
     refine ord_fin ?_
     go_wp2
     go_roundg (r - (q+1))
     case measure=>omega
     case rel=>exact ⟨q+1,r,rfl,by go_num,rfl,by omega,by omega,h3,Lib.hid ⟨fun _=>by rw [show nn - (q+1)=t by have:=HT.out;omega,Nat.add_sub_cancel, ← HYQ.out, ← HXQ.out];show ¬ cmpR y.l x.l<0;rw [HV.out];omega,HO.out.2⟩,er.trans (XE.trans x1)⟩
   ·obtain rfl:s=r:=by omega
    obtain ⟨X1,X2,Y1,Y2,k1,k2,k3,k4,k5,k6,k7⟩:=sym_split HL.out HA.out HM.out HB.out HMID.out HNN.out HPP.out (.inl ⟨HC.out.1,HC.out.2,rfl⟩) h1 h3 HO.out.1 HO.out.2
    obtain ⟨en,hen⟩ : ∃ en,en=nn - s:=⟨_,rfl⟩
    have e7:(nn:Int) - (s:Int)=(en:Int):=by omega
    have hsb:s≤b:=by omega
    have henb:en≤b:=by omega
    have HF:Hid (SymF N g n a m b mid en s P X X1 X2 Y Y1 Y2 Q w):=Lib.hid ⟨k1,k2,HA.out,k3,HM.out,HB.out,by rw [hen];exact k4,k5,HMID.out,HN0.out,HX.out,HY.out,HR.out,k6,k7,hbig,HLEN.out,by have:=HM.out;have:=HB.out;omega⟩
    have HA1:Hid (Arr wr B g c (P++(X++(Y++Q)))):=Lib.hid (by have:=H.out.ext er;rwa [HL.out] at this)
    have HUP:Hid (w.grownBy wr (some g)):=Lib.hid (upd_ext er g)
    clear k1 k2 k3 k4 k5 k6 k7 hen HO
    obtain ⟨f1,f2,f3,f4,f5,f6⟩:=HF.out.flags
    rw [show (0<X2.length)=(0<X2.length∧True) by simp] at f1 f5
    rw [show (0<Y1.length)=(0<Y1.length∧True) by simp] at f2 f4
    rw [show (0<X1.length)=(0<X1.length∧True) by simp] at f3
    rw [show (0<Y2.length)=(0<Y2.length∧True) by simp] at f6
    by_cases b1:0<X1.length∧True
    ·have B1:=Lib.hid b1
     clear b1
     by_cases b2:0<X2.length∧True
     ·have B2:=Lib.hid b2
      clear b2
      by_cases b3:0<Y1.length∧True
      ·have B3:=Lib.hid b3
       clear b3
       by_cases b4:0<Y2.length∧True
       ·have B4:=Lib.hid b4
        clear b4
        have s1:=f1.2 B2.out
        have s2:=f2.2 B3.out
        have s3:=f3.2 B1.out
        have s4:=f4.2 B3.out
        have s5:=f5.2 B2.out
        have s6:=f6.2 B4.out
        clear f1 f2 f3 f4 f5 f6
        go_wp2_with (first | (go_at_call 284;refine (HF.out.rot HA1.out HUP.out B2.out.1 B3.out.1).mono ?_;rintro e w2 ⟨rfl,q2⟩;have HS:=Lib.hid q2;clear q2) | (go_at_call 257;refine (HF.out.right IH.out HMD.out B2.out.1 B4.out.1).mono ?_;rintro e w4 ⟨rfl,q4⟩;have HE:=Lib.hid q4;clear q4) | (go_at_call 257;refine (HF.out.left IH.out HS.out B1.out.1 B3.out.1).mono ?_;rintro e w3 ⟨rfl,q3⟩;have HMD:=Lib.hid q3;clear q3))
        all_goals go_end0
        all_goals exact ⟨rfl,HE.out⟩
       ·have B4:=Lib.hid b4
        clear b4
        have s1:=f1.2 B2.out
        have s2:=f2.2 B3.out
        have s3:=f3.2 B1.out
        have s4:=f4.2 B3.out
        have s5:=f5.2 B2.out
        have s6:=fun q=>B4.out (f6.1 q)
        clear f1 f2 f3 f4 f5 f6
        go_wp2_with (first | (go_at_call 284;refine (HF.out.rot HA1.out HUP.out B2.out.1 B3.out.1).mono ?_;rintro e w2 ⟨rfl,q2⟩;have HS:=Lib.hid q2;clear q2) | (go_at_call 257;refine (HF.out.left IH.out HS.out B1.out.1 B3.out.1).mono ?_;rintro e w3 ⟨rfl,q3⟩;have HMD:=Lib.hid q3;clear q3))
        all_goals go_end0
        all_goals exact HF.out.right0 HMD.out (.inr fun q=>B4.out ⟨q,trivial⟩)
      ·have B3:=Lib.hid b3
       clear b3
       by_cases b4:0<Y2.length∧True
       ·have B4:=Lib.hid b4
        clear b4
        have s1:=f1.2 B2.out
        have s2:=fun q=>B3.out (f2.1 q)
        have s3:=f3.2 B1.out
        have s4:=fun q=>B3.out (f4.1 q)
        have s5:=f5.2 B2.out
        have s6:=f6.2 B4.out
        clear f1 f2 f3 f4 f5 f6
        have HS:Hid (SymAt B g c P X1 Y1 X2 Y2 Q w wr):=Lib.hid (HF.out.still HA1.out HUP.out (.inr fun q=>B3.out ⟨q,trivial⟩))
        go_wp2_with (go_at_call 257;refine (HF.out.right IH.out (HF.out.left0 HS.out (.inr fun q=>B3.out ⟨q,trivial⟩)) B2.out.1 B4.out.1).mono ?_;rintro e w4 ⟨rfl,q4⟩;have HE:=Lib.hid q4;clear q4)
        all_goals go_end0
        all_goals exact ⟨rfl,HE.out⟩
       ·have B4:=Lib.hid b4
        clear b4
        exfalso
        have h1 : ¬ 0<Y1.length:=fun q=>B3.out ⟨q,trivial⟩
        have h2 : ¬ 0<Y2.length:=fun q=>B4.out ⟨q,trivial⟩
        have h3:=HF.out.lens
        have h4:=HM.out
        have h5:=HB.out
        omega
     ·have B2:=Lib.hid b2
      clear b2
      by_cases b3:0<Y1.length∧True
      ·have B3:=Lib.hid b3
       clear b3
       by_cases b4:0<Y2.length∧True
       ·have B4:=Lib.hid b4
        clear b4
        have s1:=fun q=>B2.out (f1.1 q)
        have s2:=f2.2 B3.out
        have s3:=f3.2 B1.out
        have s4:=f4.2 B3.out
        have s5:=fun q=>B2.out (f5.1 q)
        have s6:=f6.2 B4.out
        clear f1 f2 f3 f4 f5 f6
        have HS:Hid (SymAt B g c P X1 Y1 X2 Y2 Q w wr):=Lib.hid (HF.out.still HA1.out HUP.out (.inl fun q=>B2.out ⟨q,trivial⟩))
        go_wp2_with (go_at_call 257;refine (HF.out.left IH.out HS.out B1.out.1 B3.out.1).mono ?_;rintro e w3 ⟨rfl,q3⟩;have HMD:=Lib.hid q3;clear q3)
        all_goals go_end0
        all_goals exact HF.out.right0 HMD.out (.inl fun q=>B2.out ⟨q,trivial⟩)
       ·have B4:=Lib.hid b4
        clear b4
        have s1:=fun q=>B2.out (f1.1 q)
        have s2:=f2.2 B3.out
        have s3:=f3.2 B1.out
        have s4:=f4.2 B3.out
        have s5:=fun q=>B2.out (f5.1 q)
        have s6:=fun q=>B4.out (f6.1 q)
        clear f1 f2 f3 f4 f5 f6
        have HS:Hid (SymAt B g c P X1 Y1 X2 Y2 Q w wr):=Lib.hid (HF.out.still HA1.out HUP.out (.inl fun q=>B2.out ⟨q,trivial⟩))
        go_wp2_with (go_at_call 257;refine (HF.out.left IH.out HS.out B1.out.1 B3.out.1).mono ?_;rintro e w3 ⟨rfl,q3⟩;have HMD:=Lib.hid q3;clear q3)
        all_goals go_end0
        all_goals exact HF.out.right0 HMD.out (.inl fun q=>B2.out ⟨q,trivial⟩)
      ·have B3:=Lib.hid b3
       clear b3
       by_cases b4:0<Y2.length∧True
       ·have B4:=Lib.hid b4
        clear b4
        have s1:=fun q=>B2.out (f1.1 q)
        have s2:=fun q=>B3.out (f2.1 q)
        have s3:=f3.2 B1.out
        have s4:=fun q=>B3.out (f4.1 q)
        have s5:=fun q=>B2.out (f5.1 q)
        have s6:=f6.2 B4.out
        clear f1 f2 f3 f4 f5 f6
        have HS:Hid (SymAt B g c P X1 Y1 X2 Y2 Q w wr):=Lib.hid (HF.out.still HA1.out HUP.out (.inl fun q=>B2.out ⟨q,trivial⟩))
        go_wp2
        all_goals go_end0
        all_goals exact HF.out.right0 (HF.out.left0 HS.out (.inr fun q=>B3.out ⟨q,trivial⟩)) (.inl fun q=>B2.out ⟨q,trivial⟩)
       ·have B4:=Lib.hid b4
        clear b4
        exfalso
        have h1 : ¬ 0<Y1.length:=fun q=>B3.out ⟨q,trivial⟩
        have h2 : ¬ 0<Y2.length:=fun q=>B4.out ⟨q,trivial⟩
        have h3:=HF.out.lens
        have h4:=HM.out
        have h5:=HB.out
        omega
    ·have B1:=Lib.hid b1
     clear b1
     by_cases b2:0<X2.length∧True
     ·have B2:=Lib.hid b2
      clear b2
      by_cases b3:0<Y1.length∧True
      ·have B3:=Lib.hid b3
       clear b3
       by_cases b4:0<Y2.length∧True
       ·have B4:=Lib.hid b4
        clear b4
        have s1:=f1.2 B2.out
        have s2:=f2.2 B3.out
        have s3:=fun q=>B1.out (f3.1 q)
        have s4:=f4.2 B3.out
        have s5:=f5.2 B2.out
        have s6:=f6.2 B4.out
        clear f1 f2 f3 f4 f5 f6
        go_wp2_with (first | (go_at_call 284;refine (HF.out.rot HA1.out HUP.out B2.out.1 B3.out.1).mono ?_;rintro e w2 ⟨rfl,q2⟩;have HS:=Lib.hid q2;clear q2) | (go_at_call 257;refine (HF.out.right IH.out (HF.out.left0 HS.out (.inl fun q=>B1.out ⟨q,trivial⟩)) B2.out.1 B4.out.1).mono ?_;rintro e w4 ⟨rfl,q4⟩;have HE:=Lib.hid q4;clear q4))
        all_goals go_end0
        all_goals exact ⟨rfl,HE.out⟩
       ·have B4:=Lib.hid b4
        clear b4
        have s1:=f1.2 B2.out
        have s2:=f2.2 B3.out
        have s3:=fun q=>B1.out (f3.1 q)
        have s4:=f4.2 B3.out
        have s5:=f5.2 B2.out
        have s6:=fun q=>B4.out (f6.1 q)
        clear f1 f2 f3 f4 f5 f6
        go_wp2_with (go_at_call 284;refine (HF.out.rot HA1.out HUP.out B2.out.1 B3.out.1).mono ?_;rintro e w2 ⟨rfl,q2⟩;have HS:=Lib.hid q2;clear q2)
        all_goals go_end0
        all_goals exact HF.out.right0 (HF.out.left0 HS.out (.inl fun q=>B1.out ⟨q,trivial⟩)) (.inr fun q=>B4.out ⟨q,trivial⟩)
      ·have B3:=Lib.hid b3
       clear b3
       by_cases b4:0<Y2.length∧True
       ·have B4:=Lib.hid b4
        clear b4
        have s1:=f1.2 B2.out
        have s2:=fun q=>B3.out (f2.1 q)
        have s3:=fun q=>B1.out (f3.1 q)
        have s4:=fun q=>B3.out (f4.1 q)
        have s5:=f5.2 B2.out
        have s6:=f6.2 B4.out
        clear f1 f2 f3 f4 f5 f6
        have HS:Hid (SymAt B g c P X1 Y1 X2 Y2 Q w wr):=Lib.hid (HF.out.still HA1.out HUP.out (.inr fun q=>B3.out ⟨q,trivial⟩))
        go_wp2_with (go_at_call 257;refine (HF.out.right IH.out (HF.out.left0 HS.out (.inl fun q=>B1.out ⟨q,trivial⟩)) B2.out.1 B4.out.1).mono ?_;rintro e w4 ⟨rfl,q4⟩;have HE:=Lib.hid q4;clear q4)
        all_goals go_end0
        all_goals exact ⟨rfl,HE.out⟩
       ·have B4:=Lib.hid b4
        clear b4
        exfalso
        have h1 : ¬ 0<Y1.length:=fun q=>B3.out ⟨q,trivial⟩
        have h2 : ¬ 0<Y2.length:=fun q=>B4.out ⟨q,trivial⟩
        have h3:=HF.out.lens
        have h4:=HM.out
        have h5:=HB.out
        omega
     ·have B2:=Lib.hid b2
      clear b2
      by_cases b3:0<Y1.length∧True
      ·have B3:=Lib.hid b3
       clear b3
       by_cases b4:0<Y2.length∧True
       ·have B4:=Lib.hid b4
        clear b4
        exfalso
        have h1 : ¬ 0<X1.length:=fun q=>B1.out ⟨q,trivial⟩
        have h2 : ¬ 0<X2.length:=fun q=>B2.out ⟨q,trivial⟩
        have h3:=HF.out.lens
        have h4:=HM.out
        have h5:=HB.out
        omega
       ·have B4:=Lib.hid b4
        clear b4
        exfalso
        have h1 : ¬ 0<X1.length:=fun q=>B1.out ⟨q,trivial⟩
        have h2 : ¬ 0<X2.length:=fun q=>B2.out ⟨q,trivial⟩
        have h3:=HF.out.lens
        have h4:=HM.out
        have h5:=HB.out
        omega
      ·have B3:=Lib.hid b3
       clear b3
       by_cases b4:0<Y2.length∧True
       ·have B4:=Lib.hid b4
        clear b4
        exfalso
        have h1 : ¬ 0<X1.length:=fun q=>B1.out ⟨q,trivial⟩
        have h2 : ¬ 0<X2.length:=fun q=>B2.out ⟨q,trivial⟩
        have h3:=HF.out.lens
        have h4:=HM.out
        have h5:=HB.out
        omega
       ·have B4:=Lib.hid b4
        clear b4
        exfalso
        have h1 : ¬ 0<X1.length:=fun q=>B1.out ⟨q,trivial⟩
        have h2 : ¬ 0<X2.length:=fun q=>B2.out ⟨q,trivial⟩
        have h3:=HF.out.lens
        have h4:=HM.out
        have h5:=HB.out
        omega
 ·have HC:Hid (m≤mid):=Lib.hid (by omega)
  go_wp2
  go_loopg [20,21] (m - a) (fun z u v wr => ∃ s r:Nat,z=r - s∧u = .int .i64 s∧v = .int .i64 r∧a≤s∧s≤r∧r≤m∧Hid (GenIn L nn p a m s r)∧Ext w wr)
  case atStart=>exact ⟨a,m,rfl,rfl,rfl,Nat.le_refl _,by omega,Nat.le_refl _,Lib.hid ⟨fun h=>absurd h (Nat.lt_irrefl _),fun h=>absurd h (Nat.lt_irrefl _)⟩,Ext.refl _⟩
  case round =>
   obtain ⟨s,r,rfl,rfl,rfl,h1,h2,h3,HO,er⟩:=hrel
   by_cases hlt:s<r
   ·obtain ⟨q,hq⟩ : ∃ q,q=(s+r) / 2:=⟨_,rfl⟩
    have hqi:s≤q:=by omega
    have hqj:q<r:=by omega
    have hqq:((s:Int)+(r:Int)) / 2=(q:Int):=by omega
    obtain ⟨t,ht⟩ : ∃ t,t=p - q:=⟨_,rfl⟩
    have hpq:(p:Int) - (q:Int)=(t:Int):=by omega
    have hqm:a≤q∧q<m:=by omega
    have htm:m≤t∧t<b:=by omega
    have hqn:q<n:=by omega
    have htn:t<n:=by omega
    have hA:=H.out.ext er
    obtain ⟨px0,px1⟩:=hA.at (i:=q) (by rw [← HN.out];exact hqn)
    obtain ⟨py0,py1⟩:=hA.at (i:=t) (by rw [← HN.out];exact htn)
    have hmx:L.getD q Ct.zero∈X++Y:=List.mem_append_left _ (by
     rw [HL.out]
     exact mem_mid (by rw [← HA.out];exact hqm.1) (by rw [← HA.out, ← HM.out];exact hqm.2))
    have hmy:L.getD t Ct.zero∈X++Y:=List.mem_append_right _ (by
     rw [HL.out]
     have:=mem_mid (P:=P++X) (X:=Y) (R:=Q) (i:=t) (by rw [List.length_append, ← HA.out, ← HM.out];exact htm.1) (by rw [List.length_append, ← HA.out, ← HM.out, ← HB.out];exact htm.2)
     rwa [List.append_assoc] at this)
    obtain ⟨x,hx⟩ : ∃ x,x=L.getD q Ct.zero:=⟨_,rfl⟩
    obtain ⟨y,hy⟩ : ∃ y,y=L.getD t Ct.zero:=⟨_,rfl⟩
    rw [← hx] at px0 px1 hmx
    rw [← hy] at py0 py1 hmy
    have HXQ:=Lib.hid hx
    have HYQ:=Lib.hid hy
    have HT:=Lib.hid ht
    obtain ⟨nx,hnx⟩ : ∃ nx,nx=x.l.length:=⟨_,rfl⟩
    obtain ⟨ny,hny⟩ : ∃ ny,ny=y.l.length:=⟨_,rfl⟩
    rw [← hnx] at px0
    rw [← hny] at py0
    have HNX:=Lib.hid hnx
    have HNY:=Lib.hid hny
    have XE:Ext wr wr.drew:=(Ext.refl wr).drew
    have HRX:=Lib.hid (((HR.out x hmx).1.ext er).ext XE)
    have HRY:=Lib.hid (((HR.out y hmy).1.ext er).ext XE)
    obtain ⟨v,hv⟩ : ∃ v,cmpR y.l x.l=v:=⟨_,rfl⟩
    have HV:=Lib.hid hv
    have PY0 : ∀ z:Xt wr.drew,z.W.cell? ⟨g,t * 2,none⟩=some (.slice y.A ny y.c):=fun z=>(XE.trans z.x).cell py0
    have PY1 : ∀ z:Xt wr.drew,z.W.cell? ⟨g,t * 2+1,none⟩=some (.int .i64 y.k):=fun z=>(XE.trans z.x).cell py1
    have PX0 : ∀ z:Xt wr.drew,z.W.cell? ⟨g,q * 2,none⟩=some (.slice x.A nx x.c):=fun z=>(XE.trans z.x).cell px0
    have PX1 : ∀ z:Xt wr.drew,z.W.cell? ⟨g,q * 2+1,none⟩=some (.int .i64 x.k):=fun z=>(XE.trans z.x).cell px1
    clear hA hx hy hmx hmy hnx hny hv hq ht
    by_cases hv0:v<0
    ·have zv:decide (v<0)=true:=by simpa using hv0
     go_upto_region 35 with fail
     refine wp_region_ord [0,0,0,0,12,30,62,0,0,384,896,2047,4095,8191] (.flo [0,1,2,3,4,5,6,7,8,9,10] (.one 11 (.flo [12,13] (.fin)))) (by kernel_rfl) (by kernel_rfl) (by intro _ _ d _ _ h;cases d<;>exact h) ?_
     (refine ord_flo (pick_cons rfl (pick_cons rfl (pick_cons rfl (pick_cons rfl (pick_cons rfl (pick_cons rfl (pick_cons rfl (pick_cons rfl (pick_cons rfl (pick_cons rfl (pick_cons rfl pick_nil))))))))))) ?_;(repeat (go_big_quiet_step (fail)));refine wpQuiet_nil ?_;show ordWalk _ _ _ _ _ _ _)
     refine ord_one (pick_cons rfl pick_nil) ?_;intro K_ hK_
     go_wp2_with (go_at_call 188;refine (sum1_any y.A x.A y.c x.c ny nx y.k x.k v y.l x.l _ HV HNY HNX HRY HRX).mono ?_;rintro e w1 ⟨rfl,x1⟩)
     (refine ord_flo (pick_cons rfl (pick_cons rfl pick_nil)) ?_;(repeat (go_big_quiet_step (fail)));refine wpQuiet_nil ?_;show ordWalk _ _ _ _ _ _ _)
     refine ord_fin ?_
     go_wp2
     go_roundg (q - s)
     case measure=>omega
     case rel=>exact ⟨s,q,rfl,rfl,rfl,h1,hqi,by omega,Lib.hid ⟨HO.out.1,fun _=>by rw [← HT.out, ← HYQ.out, ← HXQ.out];show cmpR y.l x.l<0;rw [HV.out];exact hv0⟩,er.trans (XE.trans x1)⟩
    ·have zv:decide (v<0)=false:=by simpa using hv0
     go_upto_region 35 with fail
     refine wp_region_ord [0,0,0,0,12,30,62,0,0,384,896,2047,4095,8191] (.flo [0,1,2,3,4,5,6,7,8,9,10] (.one 11 (.flo [12,13] (.fin)))) (by kernel_rfl) (by kernel_rfl) (by intro _ _ d _ _ h;cases d<;>exact h) ?_
     (refine ord_flo (pick_cons rfl (pick_cons rfl (pick_cons rfl (pick_cons rfl (pick_cons rfl (pick_cons rfl (pick_cons rfl (pick_cons rfl (pick_cons rfl (pick_cons rfl (pick_cons rfl pick_nil))))))))))) ?_;(repeat (go_big_quiet_step (fail)));refine wpQuiet_nil ?_;show ordWalk _ _ _ _ _ _ _)
     refine ord_one (pick_cons rfl pick_nil) ?_;intro K_ hK_
     go_wp2_with (go_at_call 188;refine (sum1_any y.A x.A y.c x.c ny nx y.k x.k v y.l x.l _ HV HNY HNX HRY HRX).mono ?_;rintro e w1 ⟨rfl,x1⟩)
     (refine ord_flo (pick_cons rfl (pick_cons rfl pick_nil)) ?_;(repeat (go_big_quiet_step (fail)));refine wpQuiet_nil ?_;show ordWalk _ _ _ _ _ _ _)
     refine ord_fin ?_
     go_wp2
     go_roundg (r - (q+1))
     case measure=>omega
     case rel=>exact ⟨q+1,r,rfl,by go_num,rfl,by omega,by omega,h3,Lib.hid ⟨fun _=>by rw [show nn - (q+1)=t by have:=HT.out;omega,Nat.add_sub_cancel, ← HYQ.out, ← HXQ.out];show ¬ cmpR y.l x.l<0;rw [HV.out];omega,HO.out.2⟩,er.trans (XE.trans x1)⟩
   ·obtain rfl:s=r:=by omega
    obtain ⟨X1,X2,Y1,Y2,k1,k2,k3,k4,k5,k6,k7⟩:=sym_split HL.out HA.out HM.out HB.out HMID.out HNN.out HPP.out (.inr ⟨HC.out,rfl,rfl⟩) h1 h3 HO.out.1 HO.out.2
    obtain ⟨en,hen⟩ : ∃ en,en=nn - s:=⟨_,rfl⟩
    have e7:(nn:Int) - (s:Int)=(en:Int):=by omega
    have hsb:s≤b:=by omega
    have henb:en≤b:=by omega
    have HF:Hid (SymF N g n a m b mid en s P X X1 X2 Y Y1 Y2 Q w):=Lib.hid ⟨k1,k2,HA.out,k3,HM.out,HB.out,by rw [hen];exact k4,k5,HMID.out,HN0.out,HX.out,HY.out,HR.out,k6,k7,hbig,HLEN.out,by have:=HM.out;have:=HB.out;omega⟩
    have HA1:Hid (Arr wr B g c (P++(X++(Y++Q)))):=Lib.hid (by have:=H.out.ext er;rwa [HL.out] at this)
    have HUP:Hid (w.grownBy wr (some g)):=Lib.hid (upd_ext er g)
    clear k1 k2 k3 k4 k5 k6 k7 hen HO
    obtain ⟨f1,f2,f3,f4,f5,f6⟩:=HF.out.flags
    rw [show (0<X2.length)=(0<X2.length∧True) by simp] at f1 f5
    rw [show (0<Y1.length)=(0<Y1.length∧True) by simp] at f2 f4
    rw [show (0<X1.length)=(0<X1.length∧True) by simp] at f3
    rw [show (0<Y2.length)=(0<Y2.length∧True) by simp] at f6
    by_cases b1:0<X1.length∧True
    ·have B1:=Lib.hid b1
     clear b1
     by_cases b2:0<X2.length∧True
     ·have B2:=Lib.hid b2
      clear b2
      by_cases b3:0<Y1.length∧True
      ·have B3:=Lib.hid b3
       clear b3
       by_cases b4:0<Y2.length∧True
       ·have B4:=Lib.hid b4
        clear b4
        have s1:=f1.2 B2.out
        have s2:=f2.2 B3.out
        have s3:=f3.2 B1.out
        have s4:=f4.2 B3.out
        have s5:=f5.2 B2.out
        have s6:=f6.2 B4.out
        clear f1 f2 f3 f4 f5 f6
        go_wp2_with (first | (go_at_call 284;refine (HF.out.rot HA1.out HUP.out B2.out.1 B3.out.1).mono ?_;rintro e w2 ⟨rfl,q2⟩;have HS:=Lib.hid q2;clear q2) | (go_at_call 257;refine (HF.out.right IH.out HMD.out B2.out.1 B4.out.1).mono ?_;rintro e w4 ⟨rfl,q4⟩;have HE:=Lib.hid q4;clear q4) | (go_at_call 257;refine (HF.out.left IH.out HS.out B1.out.1 B3.out.1).mono ?_;rintro e w3 ⟨rfl,q3⟩;have HMD:=Lib.hid q3;clear q3))
        all_goals go_end0
        all_goals exact ⟨rfl,HE.out⟩
       ·have B4:=Lib.hid b4
        clear b4
        have s1:=f1.2 B2.out
        have s2:=f2.2 B3.out
        have s3:=f3.2 B1.out
        have s4:=f4.2 B3.out
        have s5:=f5.2 B2.out
        have s6:=fun q=>B4.out (f6.1 q)
        clear f1 f2 f3 f4 f5 f6
        go_wp2_with (first | (go_at_call 284;refine (HF.out.rot HA1.out HUP.out B2.out.1 B3.out.1).mono ?_;rintro e w2 ⟨rfl,q2⟩;have HS:=Lib.hid q2;clear q2) | (go_at_call 257;refine (HF.out.left IH.out HS.out B1.out.1 B3.out.1).mono ?_;rintro e w3 ⟨rfl,q3⟩;have HMD:=Lib.hid q3;clear q3))
        all_goals go_end0
        all_goals exact HF.out.right0 HMD.out (.inr fun q=>B4.out ⟨q,trivial⟩)
      ·have B3:=Lib.hid b3
       clear b3
       by_cases b4:0<Y2.length∧True
       ·have B4:=Lib.hid b4
        clear b4
        have s1:=f1.2 B2.out
        have s2:=fun q=>B3.out (f2.1 q)
        have s3:=f3.2 B1.out
        have s4:=fun q=>B3.out (f4.1 q)
        have s5:=f5.2 B2.out
        have s6:=f6.2 B4.out
        clear f1 f2 f3 f4 f5 f6
        have HS:Hid (SymAt B g c P X1 Y1 X2 Y2 Q w wr):=Lib.hid (HF.out.still HA1.out HUP.out (.inr fun q=>B3.out ⟨q,trivial⟩))
        go_wp2_with (go_at_call 257;refine (HF.out.right IH.out (HF.out.left0 HS.out (.inr fun q=>B3.out ⟨q,trivial⟩)) B2.out.1 B4.out.1).mono ?_;rintro e w4 ⟨rfl,q4⟩;have HE:=Lib.hid q4;clear q4)
        all_goals go_end0
        all_goals exact ⟨rfl,HE.out⟩
       ·have B4:=Lib.hid b4
        clear b4
        exfalso
        have h1 : ¬ 0<Y1.length:=fun q=>B3.out ⟨q,trivial⟩
        have h2 : ¬ 0<Y2.length:=fun q=>B4.out ⟨q,trivial⟩
        have h3:=HF.out.lens
        have h4:=HM.out
        have h5:=HB.out
        omega
     ·have B2:=Lib.hid b2
      clear b2
      by_cases b3:0<Y1.length∧True
      ·have B3:=Lib.hid b3
       clear b3
       by_cases b4:0<Y2.length∧True
       ·have B4:=Lib.hid b4
        clear b4
        have s1:=fun q=>B2.out (f1.1 q)
        have s2:=f2.2 B3.out
        have s3:=f3.2 B1.out
        have s4:=f4.2 B3.out
        have s5:=fun q=>B2.out (f5.1 q)
        have s6:=f6.2 B4.out
        clear f1 f2 f3 f4 f5 f6
        have HS:Hid (SymAt B g c P X1 Y1 X2 Y2 Q w wr):=Lib.hid (HF.out.still HA1.out HUP.out (.inl fun q=>B2.out ⟨q,trivial⟩))
        go_wp2_with (go_at_call 257;refine (HF.out.left IH.out HS.out B1.out.1 B3.out.1).mono ?_;rintro e w3 ⟨rfl,q3⟩;have HMD:=Lib.hid q3;clear q3)
        all_goals go_end0
        all_goals exact HF.out.right0 HMD.out (.inl fun q=>B2.out ⟨q,trivial⟩)
       ·have B4:=Lib.hid b4
        clear b4
        have s1:=fun q=>B2.out (f1.1 q)
        have s2:=f2.2 B3.out
        have s3:=f3.2 B1.out
        have s4:=f4.2 B3.out
        have s5:=fun q=>B2.out (f5.1 q)
        have s6:=fun q=>B4.out (f6.1 q)
        clear f1 f2 f3 f4 f5 f6
        have HS:Hid (SymAt B g c P X1 Y1 X2 Y2 Q w wr):=Lib.hid (HF.out.still HA1.out HUP.out (.inl fun q=>B2.out ⟨q,trivial⟩))
        go_wp2_with (go_at_call 257;refine (HF.out.left IH.out HS.out B1.out.1 B3.out.1).mono ?_;rintro e w3 ⟨rfl,q3⟩;have HMD:=Lib.hid q3;clear q3)
        all_goals go_end0
        all_goals exact HF.out.right0 HMD.out (.inl fun q=>B2.out ⟨q,trivial⟩)
      ·have B3:=Lib.hid b3
       clear b3
       by_cases b4:0<Y2.length∧True
       ·have B4:=Lib.hid b4
        clear b4
        have s1:=fun q=>B2.out (f1.1 q)
        have s2:=fun q=>B3.out (f2.1 q)
        have s3:=f3.2 B1.out
        have s4:=fun q=>B3.out (f4.1 q)
        have s5:=fun q=>B2.out (f5.1 q)
        have s6:=f6.2 B4.out
        clear f1 f2 f3 f4 f5 f6
        have HS:Hid (SymAt B g c P X1 Y1 X2 Y2 Q w wr):=Lib.hid (HF.out.still HA1.out HUP.out (.inl fun q=>B2.out ⟨q,trivial⟩))
        go_wp2
        all_goals go_end0
        all_goals exact HF.out.right0 (HF.out.left0 HS.out (.inr fun q=>B3.out ⟨q,trivial⟩)) (.inl fun q=>B2.out ⟨q,trivial⟩)
       ·have B4:=Lib.hid b4
        clear b4
        exfalso
        have h1 : ¬ 0<Y1.length:=fun q=>B3.out ⟨q,trivial⟩
        have h2 : ¬ 0<Y2.length:=fun q=>B4.out ⟨q,trivial⟩
        have h3:=HF.out.lens
        have h4:=HM.out
        have h5:=HB.out
        omega
    ·have B1:=Lib.hid b1
     clear b1
     by_cases b2:0<X2.length∧True
     ·have B2:=Lib.hid b2
      clear b2
      by_cases b3:0<Y1.length∧True
      ·have B3:=Lib.hid b3
       clear b3
       by_cases b4:0<Y2.length∧True
       ·have B4:=Lib.hid b4
        clear b4
        have s1:=f1.2 B2.out
        have s2:=f2.2 B3.out
        have s3:=fun q=>B1.out (f3.1 q)
        have s4:=f4.2 B3.out
        have s5:=f5.2 B2.out
        have s6:=f6.2 B4.out
        clear f1 f2 f3 f4 f5 f6
        go_wp2_with (first | (go_at_call 284;refine (HF.out.rot HA1.out HUP.out B2.out.1 B3.out.1).mono ?_;rintro e w2 ⟨rfl,q2⟩;have HS:=Lib.hid q2;clear q2) | (go_at_call 257;refine (HF.out.right IH.out (HF.out.left0 HS.out (.inl fun q=>B1.out ⟨q,trivial⟩)) B2.out.1 B4.out.1).mono ?_;rintro e w4 ⟨rfl,q4⟩;have HE:=Lib.hid q4;clear q4))
        all_goals go_end0
        all_goals exact ⟨rfl,HE.out⟩
       ·have B4:=Lib.hid b4
        clear b4
        have s1:=f1.2 B2.out
        have s2:=f2.2 B3.out
        have s3:=fun q=>B1.out (f3.1 q)
        have s4:=f4.2 B3.out
        have s5:=f5.2 B2.out
        have s6:=fun q=>B4.out (f6.1 q)
        clear f1 f2 f3 f4 f5 f6
        go_wp2_with (go_at_call 284;refine (HF.out.rot HA1.out HUP.out B2.out.1 B3.out.1).mono ?_;rintro e w2 ⟨rfl,q2⟩;have HS:=Lib.hid q2;clear q2)
        all_goals go_end0
        all_goals exact HF.out.right0 (HF.out.left0 HS.out (.inl fun q=>B1.out ⟨q,trivial⟩)) (.inr fun q=>B4.out ⟨q,trivial⟩)
      ·have B3:=Lib.hid b3
       clear b3
       by_cases b4:0<Y2.length∧True
       ·have B4:=Lib.hid b4
        clear b4
        have s1:=f1.2 B2.out
        have s2:=fun q=>B3.out (f2.1 q)
        have s3:=fun q=>B1.out (f3.1 q)
        have s4:=fun q=>B3.out (f4.1 q)
        have s5:=f5.2 B2.out
        have s6:=f6.2 B4.out
        clear f1 f2 f3 f4 f5 f6
        have HS:Hid (SymAt B g c P X1 Y1 X2 Y2 Q w wr):=Lib.hid (HF.out.still HA1.out HUP.out (.inr fun q=>B3.out ⟨q,trivial⟩))
        go_wp2_with (go_at_call 257;refine (HF.out.right IH.out (HF.out.left0 HS.out (.inl fun q=>B1.out ⟨q,trivial⟩)) B2.out.1 B4.out.1).mono ?_;rintro e w4 ⟨rfl,q4⟩;have HE:=Lib.hid q4;clear q4)
        all_goals go_end0
        all_goals exact ⟨rfl,HE.out⟩
       ·have B4:=Lib.hid b4
        clear b4
        exfalso
        have h1 : ¬ 0<Y1.length:=fun q=>B3.out ⟨q,trivial⟩
        have h2 : ¬ 0<Y2.length:=fun q=>B4.out ⟨q,trivial⟩
        have h3:=HF.out.lens
        have h4:=HM.out
        have h5:=HB.out
        omega
     ·have B2:=Lib.hid b2
      clear b2
      by_cases b3:0<Y1.length∧True
      ·have B3:=Lib.hid b3
       clear b3
       by_cases b4:0<Y2.length∧True
       ·have B4:=Lib.hid b4
        clear b4
        exfalso
        have h1 : ¬ 0<X1.length:=fun q=>B1.out ⟨q,trivial⟩
        have h2 : ¬ 0<X2.length:=fun q=>B2.out ⟨q,trivial⟩
        have h3:=HF.out.lens
        have h4:=HM.out
        have h5:=HB.out
        omega
       ·have B4:=Lib.hid b4
        clear b4
        exfalso
        have h1 : ¬ 0<X1.length:=fun q=>B1.out ⟨q,trivial⟩
        have h2 : ¬ 0<X2.length:=fun q=>B2.out ⟨q,trivial⟩
        have h3:=HF.out.lens
        have h4:=HM.out
        have h5:=HB.out
        omega
      ·have B3:=Lib.hid b3
       clear b3
       by_cases b4:0<Y2.length∧True
       ·have B4:=Lib.hid b4
        clear b4
        exfalso
        have h1 : ¬ 0<X1.length:=fun q=>B1.out ⟨q,trivial⟩
        have h2 : ¬ 0<X2.length:=fun q=>B2.out ⟨q,trivial⟩
        have h3:=HF.out.lens
        have h4:=HM.out
        have h5:=HB.out
        omega
       ·have B4:=Lib.hid b4
        clear b4
        exfalso
        have h1 : ¬ 0<X1.length:=fun q=>B1.out ⟨q,trivial⟩
        have h2 : ¬ 0<X2.length:=fun q=>B2.out ⟨q,trivial⟩
        have h3:=HF.out.lens
        have h4:=HM.out
        have h5:=HB.out
        omega
theorem symM_all (N:Nat):SymIH N:=by
 induction N with
 | zero=>exact fun B g c n a m b P X Y Q w h hx hy=>absurd h (by omega)
 | succ N ih =>
  intro B g c n a m b P X Y Q w hl hx hy ha hm hb hn sX sY h hr hbig
  by_cases h1:X.length=1
  ·obtain ⟨x,t,rfl⟩:=cons_of hx
   have ht:t=[]:=List.eq_nil_of_length_eq_zero (by rw [List.length_cons] at h1;omega)
   subst ht
   exact symOne_any B g c n a m b P Y Q x w ha (by rw [hm];rfl) hb hn sY h hr hbig
  ·by_cases h2:Y.length=1
   ·obtain ⟨y,t,rfl⟩:=cons_of hy
    have ht:t=[]:=List.eq_nil_of_length_eq_zero (by rw [List.length_cons] at h2;omega)
    subst ht
    exact symLast_any B g c n a m b P X Q y w ha hm (by rw [hb];rfl) hn sX (by omega) h hr hbig
   ·exact symGen_any N (Lib.hid ih) B g c n a m b P X Y Q w hl (by omega) (by omega) ha hm hb hn sX sY h hr hbig
open Go.RowKit
theorem snoc_cases {α:Type} (s:List α):s=[] ∨ ∃ t y,s=t++[y]:=by
 rcases List.eq_nil_or_concat s with h | ⟨t,y,h⟩
 ·exact .inl h
 ·exact .inr ⟨t,y,by rw [h,List.concat_eq_append]⟩
theorem InsIn.ext {B g c a:Nat} {P S T Q D':List Ct} {x:Ct} {w wi wz:World} {j:Nat} {s1 s2:List Ct} (h:InsIn B g c a P S T Q D' x w wi j s1 s2) (hz:Ext wi wz):InsIn B g c a P S T Q D' x w wz j s1 s2 :=
 ⟨h.1,h.2.1,h.2.2.1,h.2.2.2.1.ext hz,h.2.2.2.2.1.trans (upd_ext hz g),h.2.2.2.2.2.ext hz⟩
theorem ins_step {B g c a q:Nat} {P S T Q D':List Ct} {x:Ct} {w wi:World} {j:Nat} {t s2:List Ct} {y:Ct} (h:InsIn B g c a P S T Q D' x w wi j (t++[y]) s2) (hv:cmpC x y<0) (ha:a=P.length) (hq:q=a+t.length) {nx ny:Nat} (hx:nx=x.l.length) (hy:ny=y.l.length) :
  InsIn B g c a P S T Q D' x w ((((wi.setCell ⟨g,(q+1) * 2,none⟩ (.slice y.A ny y.c)).setCell ⟨g,(q+1) * 2+1,none⟩ (.int .i64 y.k)).setCell ⟨g,q * 2,none⟩ (.slice x.A nx x.c)).setCell ⟨g,q * 2+1,none⟩ (.int .i64 x.k)) q t (y :: s2):=by
 subst hx hy
 obtain ⟨h1,h2,h3,h4,h5,h6⟩:=h
 have e:P++(t++[y]++x :: (s2++(T++Q)))=(P++t)++y :: x :: (s2++(T++Q)):=by simp
 rw [e] at h4
 have h7:=h4.swap (q:=q) (by rw [List.length_append];omega)
 have hu:=upd_swap wi g ((q+1) * 2) ((q+1) * 2+1) (q * 2) (q * 2+1) (.slice y.A y.l.length y.c) (.int .i64 y.k) (.slice x.A x.l.length x.c) (.int .i64 x.k)
 refine ⟨hq,by rw [h2];simp,fun z hz=>?_,?_,h5.trans hu,h6.upd hu⟩
 ·rcases List.mem_cons.1 hz with rfl | hz
  ·exact hv
  ·exact h3 z hz
 ·have e2:P++(t++x :: (y :: s2++(T++Q)))=(P++t)++x :: y :: (s2++(T++Q)):=by simp
  rw [e2]
  exact h7
theorem ins_exit {B g c a:Nat} {P S T Q D D':List Ct} {x:Ct} {w wo wi:World} {i j:Nat} {s1 s2:List Ct} (ho:InsOut B g c a P S Q w wo i D D' (x :: T)) (h:InsIn B g c a P S T Q D' x wo wi j s1 s2) (hl : ∀ y,s1.getLast?=some y → ¬ cmpC x y<0) {wz:World} (hz:Ext wi wz) :
  InsOut B g c a P S Q w wz (i+1) (D++[x]) (s1++x :: s2) T:=by
 obtain ⟨o1,o2,o3,o4,o5,o6⟩:=ho
 obtain ⟨h1,h2,h3,h4,h5,h6⟩:=h
 subst h2
 refine ⟨by rw [o1];simp,by rw [List.length_append,List.length_singleton];omega,o3.insert cmpC_tot h3 hl,?_,(o5.trans h5).trans (upd_ext hz g),(h6.sub (fun z hz=>List.mem_cons_of_mem _ hz)).ext hz⟩
 have e:P++(s1++x :: s2++(T++Q))=P++(s1++x :: (s2++(T++Q))):=by simp
 rw [e]
 exact h4.ext hz
set_option maxRecDepth 100000 in
set_option maxHeartbeats 8000000 in
theorem insSort_some (B g c n a b:Nat) (P S0 Q:List Ct) (x0:Ct) (w:World) (ha:a=P.length) (hb:b=P.length+(S0.length+1)) (hn:n=(P++(x0 :: S0++Q)).length) (h:Arr w B g c (P++(x0 :: S0++Q))) (hr:Rws w g (x0 :: S0)) :
  Calls Tryz.prog 256 #[.slice (some ⟨g,0,none⟩) n c, .int .i64 a, .int .i64 b, .func (.func 188) #[] #[]] w fun e w'=>e = .returned (.tuple #[]) ∧ ∃ S',Stable cmpC (x0 :: S0) S'∧Arr w' B g c (P++(S'++Q))∧w.grownBy w' (some g):=by
 obtain ⟨S,hS⟩ : ∃ S,S=x0 :: S0:=⟨_,rfl⟩
 have hnm:=h.le
 rw [← hn] at hnm
 have hbn:b≤n:=by
  rw [hb,hn]
  simp only [List.length_append,List.length_cons]
  omega
 have HA:=Lib.hid ha
 have HB:=Lib.hid hb
 have HN:=Lib.hid hn
 have hab:a+1≤b:=by omega
 have HO:Hid (InsOut B g c a P S Q w w (a+1) [x0] [x0] S0):=Lib.hid ⟨hS,rfl,Stable.one x0,by rw [List.singleton_append, ← List.cons_append];exact h,World.grownBy.refl w _,by rw [hS];exact hr⟩
 have HSL:Hid (b=a+S.length):=Lib.hid (by rw [hS,List.length_cons];omega)
 rw [← hS]
 clear ha hb hn h hr hS
 go_enter Tryz.func256,Tryz.ntmps256
 go_wp2
 go_loopg [8] (b - (a+1)) (fun z v wo => ∃ (i:Nat) (D D' T:List Ct),z=b - i∧i≤b∧v = .int .i64 i∧Hid (InsOut B g c a P S Q w wo i D D' T))
 case atStart=>exact ⟨a+1,[x0],[x0],S0,rfl,hab,by simp,HO⟩
 case round =>
  obtain ⟨i,D,D',T,rfl,hi,rfl,HI⟩:=hrel
  clear HO
  obtain ⟨wo,hwo⟩ : ∃ wo:World,wo=wr:=⟨_,rfl⟩
  rw [← hwo] at HI ⊢
  clear hwo
  by_cases hlt:i<b
  ·obtain ⟨x,T,rfl⟩ : ∃ x T',T=x :: T':=by
    cases T with
    | nil =>
     obtain ⟨q1,q2,_⟩:=HI.out
     have:=HSL.out
     rw [q1,List.append_nil] at this
     omega
    | cons x T=>exact ⟨x,T,rfl⟩
   have HII:Hid (InsIn B g c a P S T Q D' x wo wo i D' []):=Lib.hid (by
    obtain ⟨q1,q2,q3,q4,q5,q6⟩:=HI.out
    refine ⟨by rw [stable_len q3];exact q2,(List.append_nil _).symm,fun y hy=>(nomatch hy),by rw [List.nil_append];exact q4,World.grownBy.refl wo _,fun z hz=>?_⟩
    rcases List.mem_cons.1 hz with rfl | hz
    ·exact q6 z (by rw [q1];simp)
    ·exact q6 z hz)
   go_wp2
   go_loopg [9] D'.length (fun z v wi => ∃ (j:Nat) (s1 s2:List Ct),z=s1.length∧v = .int .i64 j∧j≤i∧Hid (InsIn B g c a P S T Q D' x wo wi j s1 s2))
   case atStart=>exact ⟨i,D',[],rfl,rfl,Nat.le_refl _,HII⟩
   case round =>
    obtain ⟨j,s1,s2,rfl,rfl,hj,HJ⟩:=hrel
    clear HII
    obtain ⟨wi,hwi⟩ : ∃ wi:World,wi=wr:=⟨_,rfl⟩
    rw [← hwi] at HJ ⊢
    clear hwi
    rcases snoc_cases s1 with rfl | ⟨t,y,rfl⟩
    ·have hja:j=a:=by have:=HJ.out.1;simpa using this
     subst hja
     go_upto_region 4 with fail
     refine wp_region_ord [0,0,3,7,15,15,15,111,239,15,15,1039,3599,7695,16383,32767,65535] (.flo [0,1,2,3,4,5,6,7,8,9,10,11,12,13] (.one 14 (.flo [15,16] (.fin)))) (by kernel_rfl) (by kernel_rfl) (by intro _ _ d _ _ h;cases d<;>exact h) ?_
     (refine ord_flo (pick_cons rfl (pick_cons rfl (pick_cons rfl (pick_cons rfl (pick_cons rfl (pick_cons rfl (pick_cons rfl (pick_cons rfl (pick_cons rfl (pick_cons rfl (pick_cons rfl (pick_cons rfl (pick_cons rfl (pick_cons rfl pick_nil)))))))))))))) ?_;(repeat (go_big_quiet_step (fail)));refine wpQuiet_nil ?_;show ordWalk _ _ _ _ _ _ _)
     refine ord_one (pick_cons rfl pick_nil) ?_;intro K_ hK_
     go_wp2
     (refine ord_flo (pick_cons rfl (pick_cons rfl pick_nil)) ?_;(repeat (go_big_quiet_step (fail)));refine wpQuiet_nil ?_;show ordWalk _ _ _ _ _ _ _)
     refine ord_fin ?_
     go_wp2
     go_roundg (b - (i+1))
     case measure=>omega
     case rel=>exact ⟨i+1,D++[x],_,T,rfl,by omega,by go_num,Lib.hid (ins_exit HI.out HJ.out (fun y hy=>(nomatch hy)) ((Ext.refl wi).drew))⟩
    ·obtain ⟨q,hq⟩ : ∃ q,q=a+t.length:=⟨_,rfl⟩
     have hjq:j=q+1:=by have:=HJ.out.1;rw [List.length_append,List.length_singleton] at this;omega
     subst hjq
     have hqP:q=(P++t).length:=by rw [List.length_append, ← HA.out];exact hq
     have e:P++(t++[y]++x :: (s2++(T++Q)))=(P++t)++y :: x :: (s2++(T++Q)):=by simp
     have hArr:=HJ.out.2.2.2.1
     rw [e] at hArr
     obtain ⟨⟨py0,py1⟩,px0,px1⟩:=Arr.two (s2:=[]) hArr hqP
     have f0:=hArr.free ((q+1) * 2)
     have f1:=hArr.free ((q+1) * 2+1)
     have f2:=hArr.free (q * 2)
     have f3:=hArr.free (q * 2+1)
     have hrx:=HJ.out.2.2.2.2.2 x (List.mem_cons_self ..)
     have hry:=HJ.out.2.2.2.2.2 y (List.mem_cons_of_mem _ (by
      obtain ⟨o1,o2,o3,_⟩:=HI.out
      have hd:y∈D':=by rw [HJ.out.2.1];simp
      rw [o1]
      exact List.mem_append_left _ ((o3.mem cmpC_tot y).1 hd)))
     have za:decide ((a:Int)<(q:Int)+1)=true:=by simp;omega
     have hqa2:a≤q:=by omega
     have hqn:q+1<n:=by omega
     have hjb:q+1≤i:=hj
     obtain ⟨v,hv⟩ : ∃ v,cmpC x y=v:=⟨_,rfl⟩
     obtain ⟨nx,hnx⟩ : ∃ nx,nx=x.l.length:=⟨_,rfl⟩
     obtain ⟨ny,hny⟩ : ∃ ny,ny=y.l.length:=⟨_,rfl⟩
     rw [← hnx] at px0
     rw [← hny] at py0
     have X:Ext wi wi.drew:=(Ext.refl wi).drew
     have HRX:=Lib.hid hrx.1
     have HRY:=Lib.hid hry.1
     have HNX:=Lib.hid hnx
     have HNY:=Lib.hid hny
     have HQ:=Lib.hid hq
     have HQP:=Lib.hid hqP
     have hArr0:=Lib.hid hArr
     have HV:Hid (cmpR x.l y.l=v):=Lib.hid hv
     have PY0 : ∀ z:Xt wi.drew,z.W.cell? ⟨g,q * 2,none⟩=some (.slice y.A ny y.c):=fun z=>(X.trans z.x).cell py0
     have PY1 : ∀ z:Xt wi.drew,z.W.cell? ⟨g,q * 2+1,none⟩=some (.int .i64 y.k):=fun z=>(X.trans z.x).cell py1
     have PX0 : ∀ z:Xt wi.drew,z.W.cell? ⟨g,(q+1) * 2,none⟩=some (.slice x.A nx x.c):=fun z=>(X.trans z.x).cell px0
     have PX1 : ∀ z:Xt wi.drew,z.W.cell? ⟨g,(q+1) * 2+1,none⟩=some (.int .i64 x.k):=fun z=>(X.trans z.x).cell px1
     clear hrx hry hnx hny hv hArr e hqP py0 py1 px0 px1 hq hj
     by_cases hv0:v<0
     ·have zv:decide (v<0)=true:=by simpa using hv0
      have HV0:Hid (cmpC x y<0):=Lib.hid (by show cmpR x.l y.l<0;rw [HV.out];exact hv0)
      go_upto_region 4 with fail
      refine wp_region_ord [0,0,3,7,15,15,15,111,239,15,15,1039,3599,7695,16383,32767,65535] (.flo [0,1,2,3,4,5,6,7,8,9,10,11,12,13] (.one 14 (.flo [15,16] (.fin)))) (by kernel_rfl) (by kernel_rfl) (by intro _ _ d _ _ h;cases d<;>exact h) ?_
      (refine ord_flo (pick_cons rfl (pick_cons rfl (pick_cons rfl (pick_cons rfl (pick_cons rfl (pick_cons rfl (pick_cons rfl (pick_cons rfl (pick_cons rfl (pick_cons rfl (pick_cons rfl (pick_cons rfl (pick_cons rfl (pick_cons rfl pick_nil)))))))))))))) ?_;(repeat (go_big_quiet_step (fail)));refine wpQuiet_nil ?_;show ordWalk _ _ _ _ _ _ _)
      refine ord_one (pick_cons rfl pick_nil) ?_;intro K_ hK_
      go_wp2_with (go_at_call 188;refine (sum1_any x.A y.A x.c y.c nx ny x.k y.k v x.l y.l _ HV HNX HNY (Lib.hid (HRX.out.ext X)) (Lib.hid (HRY.out.ext X))).mono ?_;rintro e w1 ⟨rfl,x1⟩)
      (refine ord_flo (pick_cons rfl (pick_cons rfl pick_nil)) ?_;(repeat (go_big_quiet_step (fail)));refine wpQuiet_nil ?_;show ordWalk _ _ _ _ _ _ _)
      refine ord_fin ?_
      have HA1:=Lib.hid (hArr0.out.ext (X.trans x1))
      obtain ⟨⟨py0,py1⟩,px0,px1⟩:=Arr.two (s2:=[]) HA1.out HQP.out
      rw [← HNX.out] at px0
      rw [← HNY.out] at py0
      have f0:=HA1.out.free ((q+1) * 2)
      have f1:=HA1.out.free ((q+1) * 2+1)
      have f2:=HA1.out.free (q * 2)
      have f3:=HA1.out.free (q * 2+1)
      have X1:Ext w1 w1.drew:=(Ext.refl w1).drew
      have PY0 : ∀ z:Xt w1.drew,z.W.cell? ⟨g,q * 2,none⟩=some (.slice y.A ny y.c):=fun z=>(X1.trans z.x).cell py0
      have PY1 : ∀ z:Xt w1.drew,z.W.cell? ⟨g,q * 2+1,none⟩=some (.int .i64 y.k):=fun z=>(X1.trans z.x).cell py1
      have PX0 : ∀ z:Xt w1.drew,z.W.cell? ⟨g,(q+1) * 2,none⟩=some (.slice x.A nx x.c):=fun z=>(X1.trans z.x).cell px0
      have PX1 : ∀ z:Xt w1.drew,z.W.cell? ⟨g,(q+1) * 2+1,none⟩=some (.int .i64 x.k):=fun z=>(X1.trans z.x).cell px1
      go_upto_region 6 with fail
      refine wp_region_ord [0,0,0,0,8,0,0,64,224,480,0,0,3072,7168,16355,32739,65535,131071] (.flo [0,1,5,6,7,8,9,10,11,12,13,14] (.pur [2,3,4] (.one 15 (.flo [16] (.one 17 (.fin)))))) (by kernel_rfl) (by kernel_rfl) (by intro _ _ d _ _ h;cases d<;>exact h) ?_
      (refine ord_flo (pick_cons rfl (pick_cons rfl (pick_cons rfl (pick_cons rfl (pick_cons rfl (pick_cons rfl (pick_cons rfl (pick_cons rfl (pick_cons rfl (pick_cons rfl (pick_cons rfl (pick_cons rfl pick_nil)))))))))))) ?_;(repeat (go_big_quiet_step (fail)));refine wpQuiet_nil ?_;show ordWalk _ _ _ _ _ _ _)
      (refine ord_pur (pick_cons rfl (pick_cons rfl (pick_cons rfl pick_nil))) ?_;(repeat (go_big_quiet_step (fail)));refine wpQuiet_nil ?_;show ordWalk _ _ _ _ _ _ _)
      refine ord_one (pick_cons rfl pick_nil) ?_;intro K_ hK_
      go_wp2
      (refine ord_flo (pick_cons rfl pick_nil) ?_;(repeat (go_big_quiet_step (fail)));refine wpQuiet_nil ?_;show ordWalk _ _ _ _ _ _ _)
      refine ord_one (pick_cons rfl pick_nil) ?_;intro K_ hK_
      go_wp2
      refine ord_fin ?_
      go_wp2
      go_roundg t.length
      case measure=>simp
      case rel=>exact ⟨q,t,y :: s2,rfl,by go_num,by omega,Lib.hid (ins_step ((HJ.out.ext (X.trans x1)).ext X1) HV0.out HA.out HQ.out HNX.out HNY.out)⟩
     ·have zv:decide (v<0)=false:=by simpa using hv0
      have HV0:Hid (¬ cmpC x y<0):=Lib.hid (by show ¬ cmpR x.l y.l<0;rw [HV.out];exact hv0)
      go_upto_region 4 with fail
      refine wp_region_ord [0,0,3,7,15,15,15,111,239,15,15,1039,3599,7695,16383,32767,65535] (.flo [0,1,2,3,4,5,6,7,8,9,10,11,12,13] (.one 14 (.flo [15,16] (.fin)))) (by kernel_rfl) (by kernel_rfl) (by intro _ _ d _ _ h;cases d<;>exact h) ?_
      (refine ord_flo (pick_cons rfl (pick_cons rfl (pick_cons rfl (pick_cons rfl (pick_cons rfl (pick_cons rfl (pick_cons rfl (pick_cons rfl (pick_cons rfl (pick_cons rfl (pick_cons rfl (pick_cons rfl (pick_cons rfl (pick_cons rfl pick_nil)))))))))))))) ?_;(repeat (go_big_quiet_step (fail)));refine wpQuiet_nil ?_;show ordWalk _ _ _ _ _ _ _)
      refine ord_one (pick_cons rfl pick_nil) ?_;intro K_ hK_
      go_wp2_with (go_at_call 188;refine (sum1_any x.A y.A x.c y.c nx ny x.k y.k v x.l y.l _ HV HNX HNY (Lib.hid (HRX.out.ext X)) (Lib.hid (HRY.out.ext X))).mono ?_;rintro e w1 ⟨rfl,x1⟩)
      (refine ord_flo (pick_cons rfl (pick_cons rfl pick_nil)) ?_;(repeat (go_big_quiet_step (fail)));refine wpQuiet_nil ?_;show ordWalk _ _ _ _ _ _ _)
      refine ord_fin ?_
      go_wp2
      go_roundg (b - (i+1))
      case measure=>omega
      case rel=>exact ⟨i+1,D++[x],_,T,rfl,by omega,by go_num,Lib.hid (ins_exit HI.out HJ.out (fun z hz=>by simp only [List.getLast?_append,List.getLast?_singleton,Option.some_or] at hz;injection hz with hz;rw [← hz];exact Int.not_lt.2 HV0.out) (X.trans x1))⟩
  ·obtain rfl:i=b:=by omega
   have HT:Hid (T=[]):=Lib.hid (by
    obtain ⟨q1,q2,_⟩:=HI.out
    have:=HSL.out
    rw [q1,List.length_append] at this
    exact List.eq_nil_of_length_eq_zero (by omega))
   go_wp2
   go_end0
   obtain ⟨q1,q2,q3,q4,q5,q6⟩:=HI.out
   rw [HT.out] at q1 q4
   rw [List.append_nil] at q1
   exact ⟨rfl,D',by rw [q1];exact q3,q4,q5⟩
open Go.RowKit
/-- what a sort leaves behind -/
def Sorted (B g c:Nat) (L:List Ct) (w:World) (e:Ending) (w':World):Prop:=e = .returned (.tuple #[]) ∧ ∃ L',Stable cmpC L L'∧Arr w' B g c L'∧w.grownBy w' (some g)
set_option maxRecDepth 100000 in
set_option maxHeartbeats 800000 in
theorem insSort_none (A:Option Addr) (n c a b:Nat) (w:World) (h:b≤a) (ha:a≤1000000000) :
  Calls Tryz.prog 256 #[.slice A n c, .int .i64 a, .int .i64 b, .func (.func 188) #[] #[]] w fun e w'=>e = .returned (.tuple #[])∧w=w':=by
 have h1 : ¬ (a:Int)+1<b:=by omega
 go_enter Tryz.func256,Tryz.ntmps256
 go_wp2
 go_loop [8] (fun v=>v = .int .i64 ((a:Int)+1)) (fun _=>0)
 case atStart=>rfl
 case round =>
  subst hrel
  go_wp2
  go_end0
  exact ⟨rfl,rfl⟩
open Go.RowKit
/-- blocks sorted up to a -/
def Pass1 (B g c:Nat) (L:List Ct) (w wr:World) (a:Nat) (S T:List Ct):Prop :=
 S.length=a∧a+T.length=L.length∧(∀ x∈T,x∈L)∧(∀ T',Bks cmpC 20 T T'→Bks cmpC 20 L (S++T'))∧Arr wr B g c (S++T)∧w.grownBy wr (some g)
theorem Pass1.step {B g c a:Nat} {L:List Ct} {w wr w1:World} {S T1 T2 Z:List Ct} (h:Pass1 B g c L w wr a S (T1++T2)) (h1:T1.length=20) (hz:Stable cmpC T1 Z) (ha:Arr w1 B g c (S++(Z++T2))) (hg:wr.grownBy w1 (some g)):Pass1 B g c L w w1 (a+20) (S++Z) T2:=by
 obtain ⟨q1,q2,q3,q4,q5,q6⟩:=h
 have lz:=stable_len hz
 rw [List.length_append] at q2
 refine ⟨by rw [List.length_append];omega,by omega,fun x hx=>q3 x (List.mem_append_right _ hx),fun T' hT=>?_,by rw [List.append_assoc];exact ha,q6.trans hg⟩
 rw [List.append_assoc]
 exact q4 (Z++T') (.more T1 Z T2 T' h1 hz hT)
theorem Pass1.last {B g c a:Nat} {L:List Ct} {w wr w1:World} {S T Z:List Ct} (h:Pass1 B g c L w wr a S T) (h1:T.length≤20) (hz:Stable cmpC T Z) (ha:Arr w1 B g c (S++Z)) (hg:wr.grownBy w1 (some g)):Bks cmpC 20 L (S++Z)∧Arr w1 B g c (S++Z)∧w.grownBy w1 (some g) :=
 ⟨h.2.2.2.1 Z (.last T Z h1 hz),ha,h.2.2.2.2.2.trans hg⟩
/-- blocks of so many, sorted -/
def Pass2 (B g c s:Nat) (L:List Ct) (w wr:World) (S:List Ct):Prop:=Bks cmpC s L S∧Arr wr B g c S∧w.grownBy wr (some g)
/-- two by two merged, up to a -/
def Pass3 (B g c s:Nat) (L:List Ct) (w wr:World) (a:Nat) (D O R:List Ct):Prop :=
 D.length=a∧a+R.length=L.length∧Bks cmpC s O R∧(∀ x∈R,x∈L)∧(∀ R',Bks cmpC (2 * s) O R'→Bks cmpC (2 * s) L (D++R'))∧Arr wr B g c (D++R)∧w.grownBy wr (some g)
theorem bks_len {s:Nat} {O S:List Ct} (h:Bks cmpC s O S):S.length=O.length:=h.len stable_len
theorem Pass2.start {B g c s:Nat} {L:List Ct} {w wr:World} {S:List Ct} (h:Pass2 B g c s L w wr S):Pass3 B g c s L w wr 0 [] L S :=
 ⟨rfl,by rw [bks_len h.1,Nat.zero_add],h.1,fun x hx=>(h.1.mem cmpC_tot x).1 hx,fun _ h=>h,h.2.1,h.2.2⟩
theorem Pass3.step {B g c s a:Nat} {L:List Ct} {w wr w1:World} {D O1 O2 O3 S1 S2 S3 Z:List Ct} (h:Pass3 B g c s L w wr a D (O1++(O2++O3)) (S1++(S2++S3))) (l1:O1.length=s) (l2:O2.length=s) (s1:Stable cmpC O1 S1) (s2:Stable cmpC O2 S2) (h3:Bks cmpC s O3 S3)
  (hz:Stable cmpC (S1++S2) Z) (ha:Arr w1 B g c (D++(Z++S3))) (hg:wr.grownBy w1 (some g)):Pass3 B g c s L w w1 (a+2 * s) (D++Z) O3 S3:=by
 obtain ⟨q1,q2,q3,q4,q5,q6,q7⟩:=h
 have e1:=stable_len s1
 have e2:=stable_len s2
 have lz:=stable_len hz
 rw [List.length_append] at lz
 simp only [List.length_append] at q2
 refine ⟨by rw [List.length_append];omega,by omega,h3,fun x hx=>q4 x (List.mem_append_right _ (List.mem_append_right _ hx)),fun R' hR=>?_,by rw [List.append_assoc];exact ha,q7.trans hg⟩
 have:=q5 (Z++R') (by
  rw [← List.append_assoc]
  exact .more (O1++O2) Z O3 R' (by rw [List.length_append];omega) (Stable.join s1 s2 hz) hR)
 rwa [List.append_assoc]
theorem Pass3.rest {B g c s a:Nat} {L:List Ct} {w wr w1:World} {D O1 O2 S1 S2 Z:List Ct} (h:Pass3 B g c s L w wr a D (O1++O2) (S1++S2)) (hl:(O1++O2).length≤2 * s) (s1:Stable cmpC O1 S1) (s2:Stable cmpC O2 S2)
  (hz:Stable cmpC (S1++S2) Z) (ha:Arr w1 B g c (D++(Z++[]))) (hg:wr.grownBy w1 (some g)):Pass2 B g c (2 * s) L w w1 (D++Z):=by
 obtain ⟨q1,q2,q3,q4,q5,q6,q7⟩:=h
 exact ⟨q5 Z (.last _ Z hl (Stable.join s1 s2 hz)),by rwa [List.append_nil] at ha,q7.trans hg⟩
theorem Pass3.none {B g c s a:Nat} {L:List Ct} {w wr:World} {D O R:List Ct} (h:Pass3 B g c s L w wr a D O R) (hs:0<s) (hl:O.length≤s):Pass2 B g c (2 * s) L w wr (D++R):=by
 obtain ⟨q1,q2,q3,q4,q5,q6,q7⟩:=h
 exact ⟨q5 R (.last O R (by omega) (q3.all cmpC_tot hs hl)),q6,q7⟩
set_option maxRecDepth 100000 in
set_option maxHeartbeats 16000000 in
theorem stable_any (B g c n:Nat) (L:List Ct) (w:World) (hn:n=L.length) (hbig:n≤1000000000) (h:Arr w B g c L) (hr:Rws w g L) :
  Calls Tryz.prog 225 #[.slice (some ⟨g,0,none⟩) n c, .int .i64 n, .func (.func 188) #[] #[]] w (Sorted B g c L w):=by
 have HR:=Lib.hid hr
 have HN:=Lib.hid hn
 have HP0:Hid (Pass1 B g c L w w 0 [] L):=Lib.hid ⟨rfl,Nat.zero_add _,fun _ h=>h,fun _ h=>h,h,World.grownBy.refl w _⟩
 clear h hr hn
 go_enter Tryz.func225,Tryz.ntmps225
 go_wp2
 go_loopg [7,8] n (fun z u v wr => ∃ (a:Nat) (S T:List Ct),z=n - a∧a≤n∧u = .int .i64 a∧v = .int .i64 ((a+20:Nat):Int)∧Hid (Pass1 B g c L w wr a S T))
 case atStart=>exact ⟨0,[],L,rfl,Nat.zero_le _,rfl,by go_num,HP0⟩
 case round =>
  obtain ⟨a,S,T,rfl,han,rfl,rfl,HJ⟩:=hrel
  clear HP0
  by_cases hlt:a+20≤n
  ·obtain ⟨T1,T2,rfl,ht⟩:=cut_at T 20 (by have:=HJ.out.2.1;have:=HN.out;omega)
   obtain ⟨x0,S0,rfl⟩:=cons_of (l:=T1) (by omega)
   have HT:=Lib.hid ht
   clear ht
   have zl:((a+20:Nat):Int)≤(n:Int):=by omega
   go_wp2_with (go_at_call 256;refine (insSort_some B g c n a (a+20) S S0 T2 x0 _ HJ.out.1.symm (by have:=HJ.out.1;have:=HT.out;rw [List.length_cons] at this;omega) (by have:=HJ.out;have e1:=this.1;have e2:=this.2.1;have e3:=HN.out;rw [List.length_append,e1];omega) HJ.out.2.2.2.2.1 ((HR.out.upd HJ.out.2.2.2.2.2).sub fun x hx=>HJ.out.2.2.1 x (List.mem_append_left _ hx))).mono ?_;rintro e w1 ⟨rfl,Z,s1,s2,s3⟩;have HJ1:=Lib.hid (HJ.out.step HT.out s1 s2 s3);clear s1 s2 s3)
   go_roundg (n - (a+20))
   case measure=>omega
   case rel=>exact ⟨a+20,S++Z,T2,rfl,hlt,by go_num,by go_num,HJ1⟩
  ·have zl : ¬ ((a+20:Nat):Int)≤(n:Int):=by omega
   have HX : ∃ P:World→Prop,(∀ w1,P w1 → ∃ S1,Pass2 B g c 20 L w w1 S1)∧Calls Tryz.prog 256 #[.slice (some ⟨g,0,none⟩) n c, .int .i64 a, .int .i64 n, .func (.func 188) #[] #[]] wr fun e w'=>e = .returned (.tuple #[])∧P w':=by
    refine ⟨fun w1 => ∃ S1,Pass2 B g c 20 L w w1 S1,fun _ h=>h,?_⟩
    have hl:=HJ.out.2.1
    rw [← HN.out] at hl
    by_cases ht:0<T.length
    ·obtain ⟨x0,S0,rfl⟩:=cons_of ht
     refine (insSort_some B g c n a n S S0 [] x0 wr HJ.out.1.symm (by have:=HJ.out.1;rw [List.length_cons] at hl;omega) (by rw [List.append_nil,List.length_append,HJ.out.1];exact hl.symm) (by rw [List.append_nil];exact HJ.out.2.2.2.2.1) ((HR.out.upd HJ.out.2.2.2.2.2).sub fun x hx=>HJ.out.2.2.1 x hx)).mono ?_
     rintro e w1 ⟨rfl,Z,s1,s2,s3⟩
     rw [List.append_nil] at s2
     exact ⟨rfl,_,HJ.out.last (by omega) s1 s2 s3⟩
    ·have e:T=[]:=nil_or ht
     subst e
     refine (insSort_none _ n c a n wr (by rw [List.length_nil] at hl;omega) (by omega)).mono ?_
     rintro e w1 ⟨rfl,rfl⟩
     exact ⟨rfl,_,HJ.out.last (Nat.zero_le _) Stable.nil HJ.out.2.2.2.2.1 (World.grownBy.refl _ _)⟩
   obtain ⟨PP,hp1,hp2⟩:=HX
   have HP1:=Lib.hid hp1
   have HP2:=Lib.hid hp2
   clear hp1 hp2
   go_wp2_with (go_at_call 256;refine HP2.out.mono ?_;rintro e w1 ⟨rfl,s1⟩;obtain ⟨S1,s2⟩:=HP1.out _ s1;have HS:=Lib.hid s2;clear s1 s2)
   clear HP1 HP2
   go_loopg [6,7,8] (n - 20) (fun z u v t wr => ∃ (s:Nat) (S:List Ct),z=n - s∧0<s∧s≤3000000000∧u = .int .i64 s∧Hid (Pass2 B g c s L w wr S))
   case atStart=>exact ⟨20,S1,rfl,by omega,by omega,rfl,HS⟩
   case round =>
    obtain ⟨s,S,rfl,hs0,hs9,rfl,HQ⟩:=hrel
    clear HS HJ
    obtain ⟨wo,hwo⟩ : ∃ wo:World,wo=wr:=⟨_,rfl⟩
    rw [← hwo] at HQ ⊢
    clear hwo
    by_cases hsn:s<n
    ·have HQ3:=Lib.hid HQ.out.start
     go_wp2
     go_loopg [7,8] n (fun z u v wr => ∃ (a:Nat) (D O R:List Ct),z=n - a∧a≤n∧u = .int .i64 a∧v = .int .i64 ((a+2 * s:Nat):Int)∧Hid (Pass3 B g c s L w wr a D O R))
     case atStart=>exact ⟨0,[],L,S,rfl,Nat.zero_le _,rfl,by go_num,HQ3⟩
     case round =>
      obtain ⟨a,D,O,R,rfl,han,rfl,rfl,HI⟩:=hrel
      clear HQ3
      have hOl:O.length=R.length:=(bks_len HI.out.2.2.1).symm
      have hRl:a+R.length=n:=by rw [HN.out];exact HI.out.2.1
      by_cases hlt:a+2 * s≤n
      ·obtain ⟨O1,S1,O2,S2,O3,S3,rfl,rfl,l1,l2,s1,s2,s3⟩:=HI.out.2.2.1.two hs0 (by omega)
       obtain ⟨ms,hms⟩ : ∃ q,q=a+s:=⟨_,rfl⟩
       have zm:(a:Int)+(s:Int)=(ms:Int):=by omega
       have e1:=stable_len s1
       have e2:=stable_len s2
       have HG:=Lib.hid (And.intro l1 (And.intro l2 (And.intro s1 (And.intro s2 s3))))
       have HE:=Lib.hid (And.intro e1 (And.intro e2 hms))
       have hmn:ms≤n:=by omega
       clear l1 l2 s1 s2 s3 e1 e2 hOl hRl hms
       have zl:((a+2 * s:Nat):Int)≤(n:Int):=by omega
       go_wp2_with (go_at_call 257;refine (symM_all (S1.length+S2.length) B g c n a ms (a+2 * s) D S1 S2 S3 _ (Nat.le_refl _) (by have:=HE.out;have:=HG.out;omega) (by have:=HE.out;have:=HG.out;omega) HI.out.1.symm (by have:=HE.out;have:=HG.out;omega) (by have:=HE.out;have:=HG.out;omega) (by have:=HI.out.2.1;have:=HI.out.1;have:=HN.out;rw [List.length_append];omega) HG.out.2.2.1.sorted HG.out.2.2.2.1.sorted HI.out.2.2.2.2.2.1 ((HR.out.upd HI.out.2.2.2.2.2.2).sub fun x hx=>HI.out.2.2.2.1 x (by rcases List.mem_append.1 hx with hx | hx<;>simp [hx])) hbig).mono ?_;rintro e w1 ⟨rfl,Z,z1,z2,z3⟩;have HI1:=Lib.hid (HI.out.step HG.out.1 HG.out.2.1 HG.out.2.2.1 HG.out.2.2.2.1 HG.out.2.2.2.2 z1 z2 z3);clear z1 z2 z3)
       go_roundg (n - (a+2 * s))
       case measure=>omega
       case rel=>exact ⟨a+2 * s,D++Z,O3,S3,rfl,hlt,by go_num,by go_num,HI1⟩
      ·have zl : ¬ ((a+2 * s:Nat):Int)≤(n:Int):=by omega
       obtain ⟨ms,hms⟩ : ∃ q,q=a+s:=⟨_,rfl⟩
       have zm:(a:Int)+(s:Int)=(ms:Int):=by omega
       by_cases hm:a+s<n
       ·obtain ⟨O1,S1,O2,S2,rfl,rfl,l1,s1,s2⟩:=HI.out.2.2.1.rest cmpC_tot hs0 (by omega) (by omega)
        have e1:=stable_len s1
        have e2:=stable_len s2
        have HO:Hid ((O1++O2).length≤2 * s):=Lib.hid (by omega)
        have HG:=Lib.hid (And.intro l1 (And.intro s1 s2))
        have HE:=Lib.hid (And.intro e1 (And.intro e2 (And.intro hRl hms)))
        have zn:(ms:Int)<(n:Int):=by omega
        clear l1 s1 s2 e1 e2 hOl hRl hms
        go_wp2_with (go_at_call 257;refine (symM_all (S1.length+S2.length) B g c n a ms n D S1 S2 [] _ (Nat.le_refl _) (by have:=HE.out;have:=HG.out;omega) (by have:=HE.out;have:=HG.out;simp only [List.length_append] at *;omega) HI.out.1.symm (by have:=HE.out;have:=HG.out;omega) (by have:=HE.out;have:=HG.out;simp only [List.length_append] at *;omega) (by have:=HI.out.2.1;have:=HI.out.1;have:=HN.out;rw [List.append_nil,List.length_append];omega) HG.out.2.1.sorted HG.out.2.2.sorted (by rw [List.append_nil];exact HI.out.2.2.2.2.2.1) ((HR.out.upd HI.out.2.2.2.2.2.2).sub fun x hx=>HI.out.2.2.2.1 x hx) hbig).mono ?_;rintro e w1 ⟨rfl,Z,z1,z2,z3⟩;have HI1:=Lib.hid (HI.out.rest HO.out HG.out.2.1 HG.out.2.2 z1 z2 z3);clear z1 z2 z3)
        go_roundg (n - 2 * s)
        case measure=>omega
        case rel=>exact ⟨2 * s,D++Z,rfl,by omega,by omega,by go_num,HI1⟩
       ·have zn : ¬ (ms:Int)<(n:Int):=by omega
        have HI1:=Lib.hid (HI.out.none hs0 (by omega))
        have hmb:ms≤2000000000:=by omega
        clear hOl hRl hms
        go_wp2
        go_roundg (n - 2 * s)
        case measure=>omega
        case rel=>exact ⟨2 * s,D++R,rfl,by omega,by omega,by go_num,HI1⟩
    ·have HE:Hid (Sorted B g c L w (.returned (.tuple #[])) wo):=Lib.hid ⟨rfl,S,HQ.out.1.all cmpC_tot hs0 (by rw [← HN.out];omega),HQ.out.2.1,HQ.out.2.2⟩
     go_wp2
     go_end0
     exact HE.out
set_option maxRecDepth 100000 in
set_option maxHeartbeats 800000 in
theorem sortStable_any (B g c n:Nat) (L:List Ct) (w:World) (hn:n=L.length) (hbig:n≤1000000000) (h:Arr w B g c L) (hr:Rws w g L) :
  Calls Tryz.prog 187 #[.slice (some ⟨g,0,none⟩) n c, .func (.func 188) #[] #[]] w (Sorted B g c L w):=by
 have H:=Lib.hid h
 have HR:=Lib.hid hr
 have HN:=Lib.hid hn
 clear h hr hn
 go_enter Tryz.func187,Tryz.ntmps187
 go_wp2_with (go_at_call 225;refine (stable_any B g c n L _ HN.out hbig H.out HR.out).mono ?_;rintro e w1 ⟨rfl,s1⟩;have S1:=Lib.hid s1;clear s1)
 go_end0
 exact ⟨rfl,S1.out⟩
end Go.Proofs.YtdgbkpoickbidaaGreatDoor
