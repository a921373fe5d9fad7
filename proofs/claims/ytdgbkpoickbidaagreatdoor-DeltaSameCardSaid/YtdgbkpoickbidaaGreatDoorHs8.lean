/- slices.rotateCmpFunc at updates: two parts, side by side, change places. The plain law of a symmetric merge: where two sorted lists are cut. slices.symMergeCmpFunc at updates: one element, merged with a sorted list behind it. slices.symMergeCmpFunc at updates: a sorted list, merged with one element behind it. slices.symMergeCmpFunc at updates: what its parts do. slices.symMergeCmpFunc at updates: two sorted lists, side by side, are merged; those that are alike stay in their order. Conditions: each theorem states its own. -/
import Derived.Test.YtdgbkpoickbidaaGreatDoorHs7
namespace Go.Proofs.YtdgbkpoickbidaaGreatDoor.UdS
open Go.RowKit

/-- the loop's relation: D is what shall be -/
def RotIn (B g c m:Nat) (D:List Ud) (w wi:World) (i j p:Nat) (P U V Q:List Ud):Prop :=
 D=P++(V++(U++Q))∧U.length=i∧V.length=j∧P.length=p∧m=p+i∧0<i∧0<j∧Arr wi B g c (P++(U++(V++Q)))∧w.grownBy wi (some g)
theorem RotIn.left {B g c m:Nat} {D:List Ud} {w wi wj:World} {i j p:Nat} {P U1 U2 V Q:List Ud} (h:RotIn B g c m D w wi i j p P (U1++U2) V Q) (h1:U1.length=j) (h2:0<i - j)
  (ha:Arr wj B g c (P++(V++(U2++(U1++Q))))) (hg:wi.grownBy wj (some g)):RotIn B g c m D w wj (i - j) j (p+j) (P++V) U2 U1 Q:=by
 obtain ⟨q1,q2,q3,q4,q5,q6,q7,q8,q9⟩:=h
 rw [List.length_append] at q2
 refine ⟨by rw [q1];simp,by omega,h1,by rw [List.length_append];omega,by omega,h2,q7,?_,q9.trans hg⟩
 rw [List.append_assoc]
 exact ha
theorem RotIn.right {B g c m:Nat} {D:List Ud} {w wi wj:World} {i j p:Nat} {P U V1 V2 Q:List Ud} (h:RotIn B g c m D w wi i j p P U (V1++V2) Q) (h1:V2.length=i) (h2:0<j - i)
  (ha:Arr wj B g c (P++(V2++(V1++(U++Q))))) (hg:wi.grownBy wj (some g)):RotIn B g c m D w wj i (j - i) p P V2 V1 (U++Q):=by
 obtain ⟨q1,q2,q3,q4,q5,q6,q7,q8,q9⟩:=h
 rw [List.length_append] at q3
 exact ⟨by rw [q1];simp,h1,by omega,q4,q5,q6,h2,ha,q9.trans hg⟩
theorem cut_at {α:Type} (l:List α) (k:Nat) (h:k≤l.length) : ∃ l1 l2,l=l1++l2∧l1.length=k:=⟨l.take k,l.drop k,(List.take_append_drop k l).symm,by rw [List.length_take];omega⟩
set_option maxRecDepth 100000 in
set_option maxHeartbeats 4000000 in
theorem rot_any (B g c n a m b:Nat) (P U V Q:List Ud) (w:World) (ha:a=P.length) (hm:m=a+U.length) (hb:b=m+V.length) (hu:0<U.length) (hv:0<V.length) (hn:n=(P++(U++(V++Q))).length) (h:Arr w B g c (P++(U++(V++Q)))) :
  Calls Tryz.prog 255 #[.slice (some ⟨g,0,none⟩) n c, .int .i64 a, .int .i64 m, .int .i64 b, .func (.func 103) #[] #[]] w fun e w'=>e = .returned (.tuple #[])∧Arr w' B g c (P++(V++(U++Q)))∧w.grownBy w' (some g):=by
 have hnm:=h.le
 rw [← hn] at hnm
 have hbn:b≤n:=by rw [hb,hm,ha,hn];simp only [List.length_append];omega
 obtain ⟨i0,hi0⟩ : ∃ i,i=U.length:=⟨_,rfl⟩
 obtain ⟨j0,hj0⟩ : ∃ j,j=V.length:=⟨_,rfl⟩
 obtain ⟨D,hD⟩ : ∃ D,D=P++(V++(U++Q)):=⟨_,rfl⟩
 have HN:Hid (n=D.length):=Lib.hid (by rw [hn,hD];simp only [List.length_append];omega)
 have HI:Hid (RotIn B g c m D w w i0 j0 a P U V Q):=Lib.hid ⟨hD,hi0.symm,hj0.symm,ha.symm,by omega,by omega,by omega,h,World.grownBy.refl w _⟩
 have e1:(m:Int) - (a:Int)=(i0:Int):=by omega
 have e2:(b:Int) - (m:Int)=(j0:Int):=by omega
 have hij:i0+j0≤n:=by omega
 rw [← hD]
 clear ha hm hb hu hv hn h hi0 hj0 hD
 go_enter Tryz.func255,Tryz.ntmps255
 go_wp2
 go_loopg [10,11] (i0+j0) (fun z u v wr => ∃ (i j p:Nat) (P U V Q:List Ud),z=i+j∧i+j≤n∧u = .int .i64 i∧v = .int .i64 j∧Hid (RotIn B g c m D w wr i j p P U V Q))
 case atStart=>exact ⟨i0,j0,a,P,U,V,Q,rfl,hij,rfl,rfl,HI⟩
 case round =>
  obtain ⟨i,j,p,P,U,V,Q,rfl,hs,rfl,rfl,HJ⟩:=hrel
  clear HI e1 e2
  have hmi:(m:Int) - (i:Int)=(p:Int):=by have:=HJ.out.2.2.2.2.1;omega
  have hmn:m+j≤n:=by
   obtain ⟨q1,q2,q3,q4,q5,_⟩:=HJ.out
   have:=HN.out
   rw [q1] at this
   simp only [List.length_append] at this
   omega
  have him:i≤m:=by have:=HJ.out.2.2.2.2.1;omega
  rcases Nat.lt_trichotomy i j with hlt | heq | hgt
  ·obtain ⟨V1,V2,rfl,hv1⟩:=cut_at V (j - i) (by have:=HJ.out.2.2.1;omega)
   have z1:((i:Int)==(j:Int))=false:=by rw [beq_eq_false_iff_ne];omega
   have z2 : ¬ (j:Int)<i:=by omega
   have hmj:(m:Int)+(j:Int) - (i:Int)=((p+j:Nat):Int):=by omega
   have hji:(j:Int) - (i:Int)=((j - i:Nat):Int):=by omega
   have HV1:=Lib.hid hv1
   clear hv1
   go_wp2_with (go_at_call 283;refine (swapR_any B g c n p (p+j) i P U V1 V2 Q _ HJ.out.2.2.2.1.symm (by have:=HV1.out;have:=HJ.out;have:=this.2.1;have:=HJ.out.2.2.2.1;omega) HJ.out.2.1.symm (by have:=HJ.out.2.2.1;rw [List.length_append] at this;have:=HV1.out;omega) (by rw [HN.out,HJ.out.1];simp only [List.length_append];omega) (by have:=HJ.out.2.2.2.2.2.2.2.1;rwa [List.append_assoc] at this)).mono ?_;rintro e w1 ⟨rfl,a1,g1⟩;have HJ1:=Lib.hid (HJ.out.right (by have:=HJ.out.2.2.1;rw [List.length_append] at this;have:=HV1.out;omega) (by omega) a1 g1);clear a1 g1)
   go_roundg (i+(j - i))
   case measure=>have:=HJ.out.2.2.2.2.2.1;omega
   case rel=>exact ⟨i,j - i,p,P,V2,V1,U++Q,rfl,by omega,rfl,by go_num,HJ1⟩
  ·subst heq
   have z1:((i:Int)==(i:Int))=true:=by simp
   go_wp2_with (go_at_call 283;refine (swapR_any B g c n p m i P U [] V Q _ HJ.out.2.2.2.1.symm (by have:=HJ.out.2.1;have:=HJ.out.2.2.2.1;have:=HJ.out.2.2.2.2.1;simp only [List.length_nil];omega) HJ.out.2.1.symm HJ.out.2.2.1.symm (by rw [HN.out,HJ.out.1];simp only [List.length_append,List.length_nil];omega) HJ.out.2.2.2.2.2.2.2.1).mono ?_;rintro e w1 ⟨rfl,a1,g1⟩;have HA1:Hid (Arr w1 B g c D):=Lib.hid (by rw [HJ.out.1];exact a1);have HG1:=Lib.hid (HJ.out.2.2.2.2.2.2.2.2.trans g1);clear a1 g1)
   go_end0
   exact ⟨rfl,HA1.out,HG1.out⟩
  ·obtain ⟨U1,U2,rfl,hu1⟩:=cut_at U j (by have:=HJ.out.2.1;omega)
   have z1:((i:Int)==(j:Int))=false:=by rw [beq_eq_false_iff_ne];omega
   have z2:(j:Int)<i:=by omega
   have hji:(i:Int) - (j:Int)=((i - j:Nat):Int):=by omega
   have HU1:=Lib.hid hu1
   clear hu1
   go_wp2_with (go_at_call 283;refine (swapR_any B g c n p m j P U1 U2 V Q _ HJ.out.2.2.2.1.symm (by have:=HJ.out.2.1;rw [List.length_append] at this;have:=HJ.out.2.2.2.1;have:=HJ.out.2.2.2.2.1;omega) HU1.out.symm HJ.out.2.2.1.symm (by rw [HN.out,HJ.out.1];simp only [List.length_append];omega) (by have:=HJ.out.2.2.2.2.2.2.2.1;rwa [List.append_assoc] at this)).mono ?_;rintro e w1 ⟨rfl,a1,g1⟩;have HJ1:=Lib.hid (HJ.out.left HU1.out (by omega) a1 g1);clear a1 g1)
   go_roundg (i - j+j)
   case measure=>have:=HJ.out.2.2.2.2.2.2.1;omega
   case rel=>exact ⟨i - j,j,p+j,P++V,U2,U1,Q,rfl,by omega,by go_num,rfl,HJ1⟩
open Go.RowKit
def SortedC (l:List Ud):Prop:=l.Pairwise fun x y=>cmpC x y≤0
theorem SortedC.left {l m:List Ud} (h:SortedC (l++m)):SortedC l:=(List.pairwise_append.1 h).1
theorem SortedC.right {l m:List Ud} (h:SortedC (l++m)):SortedC m:=(List.pairwise_append.1 h).2.1
theorem getD_left {l m:List Ud} {i:Nat} (h:i<l.length):(l++m).getD i Ud.zero=l.getD i Ud.zero:=by
 rw [List.getD_eq_getElem?_getD,List.getElem?_append_left h,List.getD_eq_getElem?_getD]
theorem getD_right {l m:List Ud} {i:Nat} (h:l.length≤i):(l++m).getD i Ud.zero=m.getD (i - l.length) Ud.zero:=by
 rw [List.getD_eq_getElem?_getD,List.getElem?_append_right h,List.getD_eq_getElem?_getD]
theorem mem_getD {l:List Ud} {i:Nat} (h:i<l.length):l.getD i Ud.zero∈l:=by
 rw [List.getD_eq_getElem?_getD,List.getElem?_eq_getElem h]
 exact List.getElem_mem h
theorem mem_mid {P X R:List Ud} {i:Nat} (h1:P.length≤i) (h2:i<P.length+X.length):(P++(X++R)).getD i Ud.zero∈X:=by
 rw [getD_right h1,getD_left (by omega)]
 exact mem_getD (by omega)
/-- an element behind what is ahead of it -/
theorem getD_of {L P Q:List Ud} {x:Ud} {i:Nat} (h:L=P++x :: Q) (hi:i=P.length):L.getD i Ud.zero=x:=by
 rw [h];exact getD_here hi
/-- where the general search ends -/
theorem sym_split {P X Y Q L:List Ud} {a m b mid n p s lo hi:Nat} (hL:L=P++(X++(Y++Q))) (ha:a=P.length) (hm:m=a+X.length) (hb:b=m+Y.length) (hmid:mid=(a+b) / 2) (hn:n=mid+m) (hp:n=p+1)
  (hc:(mid<m∧lo=n - b∧hi=mid)∨(m≤mid∧lo=a∧hi=m)) (h1:lo≤s) (h2:s≤hi) (hA:lo<s → ¬ cmpC (L.getD (n - s) Ud.zero) (L.getD (s - 1) Ud.zero)<0) (hB:s<hi→cmpC (L.getD (p - s) Ud.zero) (L.getD s Ud.zero)<0) :
  ∃ X1 X2 Y1 Y2,X=X1++X2∧Y=Y1++Y2∧s=a+X1.length∧n - s=m+Y1.length∧mid=a+(X1.length+Y1.length) ∧
   (∀ t x y u,X1=t++[x]→Y2=y :: u→cmpC x y≤0)∧(∀ t y x u,Y1=t++[y]→X2=x :: u→cmpC y x<0):=by
 have hs1:a≤s∧s≤m:=by omega
 have hs2:m≤n - s∧n - s≤b:=by omega
 obtain ⟨X1,X2,hX,hX1⟩:=cut_at X (s - a) (by omega)
 obtain ⟨Y1,Y2,hY,hY1⟩:=cut_at Y (n - s - m) (by omega)
 have lX:X.length=X1.length+X2.length:=by rw [hX,List.length_append]
 have lY:Y.length=Y1.length+Y2.length:=by rw [hY,List.length_append]
 refine ⟨X1,X2,Y1,Y2,hX,hY,by omega,by omega,by omega,fun t x y u e1 e2=>?_,fun t y x u e1 e2=>?_⟩
 ·have l1:X1.length=t.length+1:=by rw [e1,List.length_append,List.length_singleton]
  have l2:Y2.length=u.length+1:=by rw [e2,List.length_cons]
  have:=hA (by omega)
  rw [getD_of (L:=L) (P:=P++X++Y1) (Q:=u++Q) (x:=y) (by rw [hL,hY,e2];simp) (by simp only [List.length_append];omega),getD_of (L:=L) (P:=P++t) (Q:=X2++(Y++Q)) (x:=x) (by rw [hL,hX,e1];simp) (by simp only [List.length_append];omega)] at this
  rw [cmpC_tot.neg]
  omega
 ·have l1:Y1.length=t.length+1:=by rw [e1,List.length_append,List.length_singleton]
  have l2:X2.length=u.length+1:=by rw [e2,List.length_cons]
  have:=hB (by omega)
  rw [getD_of (L:=L) (P:=P++X++t) (Q:=Y2++Q) (x:=y) (by rw [hL,hY,e1];simp) (by simp only [List.length_append];omega),getD_of (L:=L) (P:=P++X1) (Q:=u++(Y++Q)) (x:=x) (by rw [hL,hX,e2];simp) (by simp only [List.length_append];omega)] at this
  exact this
/-- one element, behind it a sorted list: where it goes -/
theorem one_split {P Y Q L:List Ud} {x:Ud} {a m b i:Nat} (hL:L=P++([x]++(Y++Q))) (ha:a=P.length) (hm:m=a+1) (hb:b=m+Y.length) (h1:m≤i) (h2:i≤b) (hY:SortedC Y)
  (hA:m<i→cmpC (L.getD (i - 1) Ud.zero) x<0) (hB:i<b → ¬ cmpC (L.getD i Ud.zero) x<0) :
  ∃ Y1 Y2,Y=Y1++Y2∧i=m+Y1.length∧Stable cmpC ([x]++Y) (Y1++x :: Y2):=by
 obtain ⟨Y1,Y2,hS,hY1⟩:=cut_at Y (i - m) (by omega)
 have lY:Y.length=Y1.length+Y2.length:=by rw [hS,List.length_append]
 have hf : ∀ y u,Y2=y :: u→cmpC x y≤0:=fun y u e=>by
  have l2:Y2.length=u.length+1:=by rw [e,List.length_cons]
  have:=hB (by omega)
  rw [getD_of (L:=L) (P:=P++([x]++Y1)) (Q:=u++Q) (x:=y) (by rw [hL,hS,e];simp) (by simp only [List.length_append,List.length_singleton];omega)] at this
  rw [cmpC_tot.neg]
  omega
 refine ⟨Y1,Y2,hS,by omega,?_⟩
 rw [hS] at hY
 have hx2:SortedC (x :: Y2):=List.pairwise_cons.2 ⟨fun z hz=>by
  cases h:Y2 with
  | nil=>rw [h] at hz;cases hz
  | cons y u=>exact cmpC_tot.trans _ _ _ (hf y u h) (head_le cmpC_tot (h ▸ hY.right) z (h ▸ hz)),hY.right⟩
 have:=Stable.merge cmpC_tot (X1:=[]) (X2:=[x]) (Y1:=Y1) (Y2:=Y2) (Z1:=Y1) (Z2:=x :: Y2) (by rw [List.nil_append];exact List.pairwise_singleton _ _) hY (fun t z y s e=>by cases t<;>cases e) (fun t y z s e1 e2=>by
  injection e2 with e2 _
  subst e2
  have l1:Y1.length=t.length+1:=by rw [e1,List.length_append,List.length_singleton]
  have:=hA (by omega)
  rwa [getD_of (L:=L) (P:=P++([x]++t)) (Q:=Y2++Q) (x:=y) (by rw [hL,hS,e1];simp) (by simp only [List.length_append,List.length_singleton];omega)] at this) (by rw [List.nil_append];exact Stable.self hY.left) (Stable.self hx2)
 rw [hS]
 exact this
/-- a sorted list, behind it one element: where that goes -/
theorem last_split {P X Q L:List Ud} {y:Ud} {a m i:Nat} (hL:L=P++(X++([y]++Q))) (ha:a=P.length) (hm:m=a+X.length) (h1:a≤i) (h2:i≤m) (hX:SortedC X)
  (hA:a<i → ¬ cmpC y (L.getD (i - 1) Ud.zero)<0) (hB:i<m→cmpC y (L.getD i Ud.zero)<0) :
  ∃ X1 X2,X=X1++X2∧i=a+X1.length∧Stable cmpC (X++[y]) (X1++y :: X2):=by
 obtain ⟨X1,X2,hS,hX1⟩:=cut_at X (i - a) (by omega)
 have lX:X.length=X1.length+X2.length:=by rw [hS,List.length_append]
 refine ⟨X1,X2,hS,by omega,?_⟩
 refine Stable.insert cmpC_tot (Stable.self (hS ▸ hX) |> fun h=>(hS ▸ h:Stable cmpC X (X1++X2))) (fun z hz=>?_) (fun z hz=>?_)
 ·cases h:X2 with
  | nil=>rw [h] at hz;cases hz
  | cons x u =>
   have l2:X2.length=u.length+1:=by rw [h,List.length_cons]
   have:=hB (by omega)
   rw [getD_of (L:=L) (P:=P++X1) (Q:=u++([y]++Q)) (x:=x) (by rw [hL,hS,h];simp) (by simp only [List.length_append];omega)] at this
   rw [hS] at hX
   exact cmpC_tot.lt_of_lt_le this (head_le cmpC_tot (h ▸ hX.right) z (h ▸ hz))
 ·rcases last_cases X1 with e | ⟨t,x,e⟩
  ·rw [e] at hz;cases hz
  ·rw [e,List.getLast?_append,List.getLast?_singleton] at hz
   have hz:x=z:=by simpa using hz
   subst hz
   have l1:X1.length=t.length+1:=by rw [e,List.length_append,List.length_singleton]
   have:=hA (by omega)
   rwa [getD_of (L:=L) (P:=P++t) (Q:=X2++([y]++Q)) (x:=x) (by rw [hL,hS,e];simp) (by simp only [List.length_append];omega)] at this
open Go.RowKit
/-- what a merge leaves behind -/
def SymRes (B g c:Nat) (P S Q:List Ud) (w:World) (e:Ending) (w':World):Prop:=e = .returned (.tuple #[]) ∧ ∃ Z,Stable cmpC S Z∧Arr w' B g c (P++(Z++Q))∧w.grownBy w' (some g)
def OneIn (L:List Ud) (x:Ud) (m b i j:Nat):Prop:=(m<i→cmpC (L.getD (i - 1) Ud.zero) x<0)∧(j<b → ¬ cmpC (L.getD j Ud.zero) x<0)
/-- the element on its way -/
def WayIn (B g c a:Nat) (P Y1 R:List Ud) (x:Ud) (w wi:World) (k:Nat) (Ya Yb:List Ud):Prop :=
 Y1=Ya++Yb∧k=a+Ya.length∧Arr wi B g c (P++(Ya++x :: (Yb++R)))∧w.grownBy wi (some g)
theorem WayIn.ext {B g c a:Nat} {P Y1 R:List Ud} {x:Ud} {w wi wz:World} {k:Nat} {Ya Yb:List Ud} (h:WayIn B g c a P Y1 R x w wi k Ya Yb) (z:Ext wi wz):WayIn B g c a P Y1 R x w wz k Ya Yb:=⟨h.1,h.2.1,h.2.2.1.ext z,h.2.2.2.trans (upd_ext z g)⟩
theorem WayIn.step {B g c a:Nat} {P Y1 R:List Ud} {x y:Ud} {w wi wj:World} {k k1:Nat} {Ya Yb:List Ud} (h:WayIn B g c a P Y1 R x w wi k Ya (y :: Yb)) (ha:a=P.length) (hk:k1=k+1) {nx ny tx ty:Nat} (hx:nx=x.l.length) (hy:ny=y.l.length) (hx2:tx=x.t.l.length) (hy2:ty=y.t.l.length) (hz:Ext wi wj) :
  WayIn B g c a P Y1 R x w (put4 (put4 wj g k y ny ty) g k1 x nx tx) (k+1) (Ya++[y]) Yb:=by
 obtain ⟨h1,h2,h3,h4⟩:=h
 have e:P++(Ya++x :: (y :: Yb++R))=(P++Ya)++x :: ([]++y :: (Yb++R)):=by simp
 have hf:=h3.ext hz
 rw [e] at hf
 have h7:=hf.swapA (p:=k) (q:=k1) (by rw [List.length_append];omega) (by rw [List.length_append,List.length_nil];omega) hx hy hx2 hy2
 refine ⟨by rw [h1];simp,by rw [List.length_append,List.length_singleton];omega,?_,(h4.trans (upd_ext hz g)).trans upd_swap⟩
 have e2:P++(Ya++[y]++x :: (Yb++R))=(P++Ya)++y :: ([]++x :: (Yb++R)):=by simp
 rw [e2]
 exact h7
set_option maxRecDepth 100000 in
set_option maxHeartbeats 8000000 in
theorem symOne_any (B g c n a m b:Nat) (P Y Q:List Ud) (x:Ud) (w:World) (ha:a=P.length) (hm:m=a+1) (hb:b=m+Y.length) (hn:n=(P++([x]++(Y++Q))).length) (hY:SortedC Y) (h:Arr w B g c (P++([x]++(Y++Q)))) (hr:Rws w g ([x]++Y)) (hbig:n≤1000000000) :
  Calls Tryz.prog 223 #[.slice (some ⟨g,0,none⟩) n c, .int .i64 a, .int .i64 m, .int .i64 b, .func (.func 103) #[] #[]] w (SymRes B g c P ([x]++Y) Q w):=by
 have hnm:=h.le
 rw [← hn] at hnm
 obtain ⟨L,hL⟩ : ∃ L,L=P++([x]++(Y++Q)):=⟨_,rfl⟩
 have hbn:b≤n:=by rw [hb,hm,ha,hn];simp only [List.length_append,List.length_singleton];omega
 have HA:=Lib.hid ha
 have HB:=Lib.hid hb
 have HM:=Lib.hid hm
 have HL:=Lib.hid hL
 have HY:=Lib.hid hY
 have HR:=Lib.hid hr
 have HN:Hid (n=L.length):=Lib.hid (by rw [hL];exact hn)
 have H:Hid (Arr w B g c L):=Lib.hid (by rw [hL];exact h)
 have e1:(m:Int) - (a:Int)=1:=by omega
 have hmb:m≤b:=by omega
 have ham:a<m:=by omega
 clear ha hm hb hn hY h hr hL
 go_enter Tryz.func223,Tryz.ntmps223
 go_wp2
 go_loopg [10,11] (b - m) (fun z u v wr => ∃ i j:Nat,z=j - i∧u = .int .i64 i∧v = .int .i64 j∧m≤i∧i≤j∧j≤b∧Hid (OneIn L x m b i j)∧Ext w wr)
 case atStart=>exact ⟨m,b,rfl,rfl,rfl,Nat.le_refl _,hmb,Nat.le_refl _,Lib.hid ⟨fun h=>absurd h (Nat.lt_irrefl _),fun h=>absurd h (Nat.lt_irrefl _)⟩,Ext.refl _⟩
 case round =>
  obtain ⟨i,j,rfl,rfl,rfl,h1,h2,h3,HO,er⟩:=hrel
  by_cases hlt:i<j
  ·obtain ⟨q,hq⟩ : ∃ q,q=(i+j) / 2:=⟨_,rfl⟩
   have hqi:i≤q:=by omega
   have hqj:q<j:=by omega
   have hqq:((i:Int)+(j:Int)) / 2=(q:Int):=by omega
   have hA:=H.out.ext er
   have hqL:q<L.length:=by rw [← HN.out];omega
   obtain ⟨py0,py1,py2,py3⟩:=hA.at hqL
   have hx:=hA
   rw [HL.out] at hx
   obtain ⟨px0,px1,px2,px3⟩:=Arr.here (Q:=Y++Q) hx HA.out
   have hmem:L.getD q Ud.zero∈[x]++Y:=List.mem_append_right _ (by
    rw [HL.out]
    have:=mem_mid (P:=P++[x]) (X:=Y) (R:=Q) (i:=q) (by rw [List.length_append,List.length_singleton, ← HA.out, ← HM.out];omega) (by rw [List.length_append,List.length_singleton, ← HA.out, ← HM.out, ← HB.out];omega)
    rwa [List.append_assoc] at this)
   have HMY:=Lib.hid hmem
   obtain ⟨y,hy⟩ : ∃ y,y=L.getD q Ud.zero:=⟨_,rfl⟩
   rw [← hy] at py0 py1 py2 py3 HMY
   have HYQ:=Lib.hid hy
   obtain ⟨nx,hnx⟩ : ∃ nx,nx=x.l.length:=⟨_,rfl⟩
   obtain ⟨tx,htx⟩ : ∃ tx,tx=x.t.l.length:=⟨_,rfl⟩
   obtain ⟨ny,hny⟩ : ∃ ny,ny=y.l.length:=⟨_,rfl⟩
   obtain ⟨ty,hty⟩ : ∃ ty,ty=y.t.l.length:=⟨_,rfl⟩
   rw [← hnx] at px0;rw [← htx] at px2
   rw [← hny] at py0;rw [← hty] at py2
   have HNX:=Lib.hid hnx
   have HTX:=Lib.hid htx
   have HNY:=Lib.hid hny
   have HTY:=Lib.hid hty
   have XE:Ext wr wr.drew:=(Ext.refl wr).drew
   have HRX:=Lib.hid (((HR.out x (by simp)).1.ext er).ext XE)
   have HRY:=Lib.hid (((HR.out y HMY.out).1.ext er).ext XE)
   obtain ⟨v,hv⟩ : ∃ v,cmpC y x=v:=⟨_,rfl⟩
   have HV:=Lib.hid hv
   have PY0 : ∀ z:Xt wr.drew,z.W.cell? ⟨g,q * 4,none⟩=some (.slice y.A ny y.c):=fun z=>(XE.trans z.x).cell py0
   have PY1 : ∀ z:Xt wr.drew,z.W.cell? ⟨g,q * 4+1,none⟩=some (.int .u64 y.t.e):=fun z=>(XE.trans z.x).cell py1
   have PY2 : ∀ z:Xt wr.drew,z.W.cell? ⟨g,q * 4+2,none⟩=some (.slice y.t.A ty y.t.c):=fun z=>(XE.trans z.x).cell py2
   have PY3 : ∀ z:Xt wr.drew,z.W.cell? ⟨g,q * 4+3,none⟩=some (.int .i64 y.d):=fun z=>(XE.trans z.x).cell py3
   have PX0 : ∀ z:Xt wr.drew,z.W.cell? ⟨g,a * 4,none⟩=some (.slice x.A nx x.c):=fun z=>(XE.trans z.x).cell px0
   have PX1 : ∀ z:Xt wr.drew,z.W.cell? ⟨g,a * 4+1,none⟩=some (.int .u64 x.t.e):=fun z=>(XE.trans z.x).cell px1
   have PX2 : ∀ z:Xt wr.drew,z.W.cell? ⟨g,a * 4+2,none⟩=some (.slice x.t.A tx x.t.c):=fun z=>(XE.trans z.x).cell px2
   have PX3 : ∀ z:Xt wr.drew,z.W.cell? ⟨g,a * 4+3,none⟩=some (.int .i64 x.d):=fun z=>(XE.trans z.x).cell px3
   clear hA hqL hx hmem hnx hny htx hty hv hy hq
   by_cases hv0:v<0
   ·have zv:decide (v<0)=true:=by simpa using hv0
    go_upto_region 5 with fail
    refine wp_region_ord [0,0,0,6,14,0,0,96,224,511,1023] (.flo [0,1,2,3,4,5,6,7,8] (.one 9 (.flo [10] (.fin)))) (by kernel_rfl) (by kernel_rfl) (by intro _ _ d _ _ h;cases d<;>exact h) ?_
    (refine ord_flo (pick_cons rfl (pick_cons rfl (pick_cons rfl (pick_cons rfl (pick_cons rfl (pick_cons rfl (pick_cons rfl (pick_cons rfl (pick_cons rfl pick_nil))))))))) ?_;(repeat (go_big_quiet_step (fail)));refine wpQuiet_nil ?_;show ordWalk _ _ _ _ _ _ _)
    refine ord_one (pick_cons rfl pick_nil) ?_;intro K_ hK_
    go_wp2_with (go_at_call 103;refine (order_any y x ny nx ty tx v _ HV HNY HNX HTY HTX HRY HRX).mono ?_;rintro e w1 ⟨rfl,x1⟩)
    (refine ord_flo (pick_cons rfl pick_nil) ?_;(repeat (go_big_quiet_step (fail)));refine wpQuiet_nil ?_;show ordWalk _ _ _ _ _ _ _)
    refine ord_fin ?_
    go_wp2
    go_roundg (j - (q+1))
    case measure=>omega
    case rel=>exact ⟨q+1,j,rfl,by go_num,rfl,by omega,by omega,h3,Lib.hid ⟨fun _=>by rw [Nat.add_sub_cancel, ← HYQ.out];show cmpC y x<0;rw [HV.out];exact hv0,HO.out.2⟩,er.trans (XE.trans x1)⟩
   ·have zv:decide (v<0)=false:=by simpa using hv0
    go_upto_region 5 with fail
    refine wp_region_ord [0,0,0,6,14,0,0,96,224,511,1023] (.flo [0,1,2,3,4,5,6,7,8] (.one 9 (.flo [10] (.fin)))) (by kernel_rfl) (by kernel_rfl) (by intro _ _ d _ _ h;cases d<;>exact h) ?_
    (refine ord_flo (pick_cons rfl (pick_cons rfl (pick_cons rfl (pick_cons rfl (pick_cons rfl (pick_cons rfl (pick_cons rfl (pick_cons rfl (pick_cons rfl pick_nil))))))))) ?_;(repeat (go_big_quiet_step (fail)));refine wpQuiet_nil ?_;show ordWalk _ _ _ _ _ _ _)
    refine ord_one (pick_cons rfl pick_nil) ?_;intro K_ hK_
    go_wp2_with (go_at_call 103;refine (order_any y x ny nx ty tx v _ HV HNY HNX HTY HTX HRY HRX).mono ?_;rintro e w1 ⟨rfl,x1⟩)
    (refine ord_flo (pick_cons rfl pick_nil) ?_;(repeat (go_big_quiet_step (fail)));refine wpQuiet_nil ?_;show ordWalk _ _ _ _ _ _ _)
    refine ord_fin ?_
    go_wp2
    go_roundg (q - i)
    case measure=>omega
    case rel=>exact ⟨i,q,rfl,rfl,rfl,h1,hqi,by omega,Lib.hid ⟨HO.out.1,fun _=>by rw [← HYQ.out];show ¬ cmpC y x<0;rw [HV.out];omega⟩,er.trans (XE.trans x1)⟩
  ·obtain rfl:i=j:=by omega
   obtain ⟨Y1,Y2,k1,k2,k3⟩:=one_split HL.out HA.out HM.out HB.out h1 h3 HY.out HO.out.1 HO.out.2
   have HK:=Lib.hid k3
   have HY1:=Lib.hid k1
   have HI2:=Lib.hid k2
   have HW:Hid (WayIn B g c a P Y1 (Y2++Q) x w wr a [] Y1):=Lib.hid ⟨rfl,rfl,by
    have:=H.out.ext er
    rw [HL.out,k1] at this
    simpa using this,upd_ext er g⟩
   have hi1:(i:Int) - 1=((i - 1:Nat):Int):=by omega
   have hi2:i - 1=a+Y1.length:=by have:=HM.out;omega
   have HI3:=Lib.hid hi2
   clear k1 k2 k3 hi2 HO
   obtain ⟨wo,hwo⟩ : ∃ wo:World,wo=wr:=⟨_,rfl⟩
   rw [← hwo] at HW er ⊢
   clear hwo
   go_wp2
   go_loopg [13] (i - 1 - a) (fun z u wr => ∃ (k:Nat) (Ya Yb:List Ud),z=i - 1 - k∧u = .int .i64 k∧a≤k∧k≤i - 1∧Hid (WayIn B g c a P Y1 (Y2++Q) x w wr k Ya Yb))
   case atStart=>exact ⟨a,[],Y1,rfl,rfl,Nat.le_refl _,by omega,HW⟩
   case round =>
    obtain ⟨k,Ya,Yb,rfl,rfl,hk1,hk2,HJ⟩:=hrel
    clear HW
    by_cases hkl:k<i - 1
    ·obtain ⟨y,Yb,rfl⟩:=cons_of (l:=Yb) (by
      obtain ⟨q1,q2,_⟩:=HJ.out
      have:=HI3.out
      rw [q1,List.length_append] at this
      omega)
     have hf:=HJ.out.2.2.1
     have e2:P++(Ya++x :: (y :: Yb++(Y2++Q)))=(P++Ya)++x :: (y :: (Yb++(Y2++Q))):=by simp
     rw [e2] at hf
     have hkP:k=(P++Ya).length:=by rw [List.length_append, ← HA.out];exact HJ.out.2.1
     obtain ⟨px0,px1,px2,px3⟩:=hf.here hkP
     have e3:(P++Ya)++x :: (y :: (Yb++(Y2++Q)))=(P++Ya++[x])++y :: (Yb++(Y2++Q)):=by simp
     have hf2:=hf
     rw [e3] at hf2
     obtain ⟨py0,py1,py2,py3⟩:=hf2.here (p:=k+1) (by rw [List.length_append, ← hkP,List.length_singleton])
     have f0:=hf.free (k * 4)
     have f0b:=hf.free (k * 4+1)
     have f1:=hf.free (k * 4+2)
     have f1b:=hf.free (k * 4+3)
     have f2:=hf.free ((k+1) * 4)
     have f2b:=hf.free ((k+1) * 4+1)
     have f3:=hf.free ((k+1) * 4+2)
     have f3b:=hf.free ((k+1) * 4+3)
     obtain ⟨nx,hnx⟩ : ∃ nx,nx=x.l.length:=⟨_,rfl⟩
     obtain ⟨tx,htx⟩ : ∃ tx,tx=x.t.l.length:=⟨_,rfl⟩
     obtain ⟨ny,hny⟩ : ∃ ny,ny=y.l.length:=⟨_,rfl⟩
     obtain ⟨ty,hty⟩ : ∃ ty,ty=y.t.l.length:=⟨_,rfl⟩
     rw [← hnx] at px0;rw [← htx] at px2
     rw [← hny] at py0;rw [← hty] at py2
     have HNX:=Lib.hid hnx
     have HTX:=Lib.hid htx
     have HNY:=Lib.hid hny
     have HTY:=Lib.hid hty
     have XE:Ext wr wr.drew:=(Ext.refl wr).drew
     have PY0 : ∀ z:Xt wr.drew,z.W.cell? ⟨g,(k+1) * 4,none⟩=some (.slice y.A ny y.c):=fun z=>(XE.trans z.x).cell py0
     have PY1 : ∀ z:Xt wr.drew,z.W.cell? ⟨g,(k+1) * 4+1,none⟩=some (.int .u64 y.t.e):=fun z=>(XE.trans z.x).cell py1
     have PY2 : ∀ z:Xt wr.drew,z.W.cell? ⟨g,(k+1) * 4+2,none⟩=some (.slice y.t.A ty y.t.c):=fun z=>(XE.trans z.x).cell py2
     have PY3 : ∀ z:Xt wr.drew,z.W.cell? ⟨g,(k+1) * 4+3,none⟩=some (.int .i64 y.d):=fun z=>(XE.trans z.x).cell py3
     have PX0 : ∀ z:Xt wr.drew,z.W.cell? ⟨g,k * 4,none⟩=some (.slice x.A nx x.c):=fun z=>(XE.trans z.x).cell px0
     have PX1 : ∀ z:Xt wr.drew,z.W.cell? ⟨g,k * 4+1,none⟩=some (.int .u64 x.t.e):=fun z=>(XE.trans z.x).cell px1
     have PX2 : ∀ z:Xt wr.drew,z.W.cell? ⟨g,k * 4+2,none⟩=some (.slice x.t.A tx x.t.c):=fun z=>(XE.trans z.x).cell px2
     have PX3 : ∀ z:Xt wr.drew,z.W.cell? ⟨g,k * 4+3,none⟩=some (.int .i64 x.d):=fun z=>(XE.trans z.x).cell px3
     clear hf hf2 e2 e3 hkP hnx hny htx hty
     go_upto_region 11 with fail
     refine wp_region_ord [0,0,0,0,8,0,0,64,224,480,0,0,3072,7168,16355,32739,65535,131071] (.flo [0,1,5,6,7,8,9,10,11,12,13,14] (.pur [2,3,4] (.one 15 (.flo [16] (.one 17 (.fin)))))) (by kernel_rfl) (by kernel_rfl) (by intro _ _ d _ _ h;cases d<;>exact h) ?_
     (refine ord_flo (pick_cons rfl (pick_cons rfl (pick_cons rfl (pick_cons rfl (pick_cons rfl (pick_cons rfl (pick_cons rfl (pick_cons rfl (pick_cons rfl (pick_cons rfl (pick_cons rfl (pick_cons rfl pick_nil)))))))))))) ?_;(repeat (go_big_quiet_step (fail)));refine wpQuiet_nil ?_;show ordWalk _ _ _ _ _ _ _)
     (refine ord_pur (pick_cons rfl (pick_cons rfl (pick_cons rfl pick_nil))) ?_;(repeat (go_big_quiet_step (fail)));refine wpQuiet_nil ?_;show ordWalk _ _ _ _ _ _ _)
     refine ord_one (pick_cons rfl pick_nil) ?_;intro K_ hK_
     go_wp2
     (refine ord_flo (pick_cons rfl pick_nil) ?_;(repeat (go_big_quiet_step (fail)));refine wpQuiet_nil ?_;show ordWalk _ _ _ _ _ _ _)
     refine ord_one (pick_cons rfl pick_nil) ?_;intro K_ hK_
     go_wp2
     refine ord_fin ?_
     go_wp2
     go_roundg (i - 1 - (k+1))
     case measure=>omega
     case rel=>exact ⟨k+1,Ya++[y],Yb,rfl,by go_num,by omega,by omega,Lib.hid ((HJ.out.step HA.out rfl HNX.out HNY.out HTX.out HTY.out (Ext.refl _)).ext (Ext.refl _).drew)⟩
    ·obtain rfl:k=i - 1:=by omega
     have HE:Hid (Yb=[]):=Lib.hid (by
      obtain ⟨q1,q2,_⟩:=HJ.out
      have:=HI3.out
      rw [q1,List.length_append] at this
      exact List.eq_nil_of_length_eq_zero (by omega))
     go_wp2
     refine bodyPost_ret (v := .tuple #[]) (by simp only [results,Tryz.results223];go_simp) rfl ?_
     obtain ⟨q1,q2,q3,q4⟩:=HJ.out
     rw [HE.out] at q1 q3
     rw [List.append_nil] at q1
     refine ⟨rfl,Y1++x :: Y2,HK.out,?_,q4⟩
     rw [q1]
     simpa using q3
open Go.RowKit
def LastIn (L:List Ud) (y:Ud) (a m i j:Nat):Prop:=(a<i → ¬ cmpC y (L.getD (i - 1) Ud.zero)<0)∧(j<m→cmpC y (L.getD j Ud.zero)<0)
/-- the element on its way -/
def BackIn (B g c a:Nat) (P X2 R:List Ud) (y:Ud) (w wi:World) (k:Nat) (Xa Xb:List Ud):Prop :=
 X2=Xa++Xb∧k=a+Xa.length∧Arr wi B g c (P++(Xa++y :: (Xb++R)))∧w.grownBy wi (some g)
theorem BackIn.ext {B g c a:Nat} {P X2 R:List Ud} {y:Ud} {w wi wz:World} {k:Nat} {Xa Xb:List Ud} (h:BackIn B g c a P X2 R y w wi k Xa Xb) (z:Ext wi wz):BackIn B g c a P X2 R y w wz k Xa Xb:=⟨h.1,h.2.1,h.2.2.1.ext z,h.2.2.2.trans (upd_ext z g)⟩
theorem BackIn.step {B g c a:Nat} {P X2 R:List Ud} {x y:Ud} {w wi wj:World} {k k1:Nat} {Xa Xb:List Ud} (h:BackIn B g c a P X2 R y w wi k (Xa++[x]) Xb) (ha:a=P.length) (hk:k=k1+1) {nx ny tx ty:Nat} (hx:nx=x.l.length) (hy:ny=y.l.length) (hx2:tx=x.t.l.length) (hy2:ty=y.t.l.length) (hz:Ext wi wj) :
  BackIn B g c a P X2 R y w (put4 (put4 wj g k x nx tx) g k1 y ny ty) k1 Xa (x :: Xb):=by
 obtain ⟨h1,h2,h3,h4⟩:=h
 rw [List.length_append,List.length_singleton] at h2
 have e:P++(Xa++[x]++y :: (Xb++R))=(P++Xa)++x :: ([]++y :: (Xb++R)):=by simp
 have hf:=h3.ext hz
 rw [e] at hf
 have h7:=hf.swapB (p:=k1) (q:=k) (by rw [List.length_append];omega) (by rw [List.length_append,List.length_nil];omega) hx hy hx2 hy2
 refine ⟨by rw [h1];simp,by omega,?_,(h4.trans (upd_ext hz g)).trans upd_swap⟩
 have e2:P++(Xa++y :: (x :: Xb++R))=(P++Xa)++y :: ([]++x :: (Xb++R)):=by simp
 rw [e2]
 exact h7
set_option maxRecDepth 100000 in
set_option maxHeartbeats 8000000 in
theorem symLast_any (B g c n a m b:Nat) (P X Q:List Ud) (y:Ud) (w:World) (ha:a=P.length) (hm:m=a+X.length) (hb:b=m+1) (hn:n=(P++(X++([y]++Q))).length) (hX:SortedC X) (h2:2≤X.length) (h:Arr w B g c (P++(X++([y]++Q)))) (hr:Rws w g (X++[y])) (hbig:n≤1000000000) :
  Calls Tryz.prog 223 #[.slice (some ⟨g,0,none⟩) n c, .int .i64 a, .int .i64 m, .int .i64 b, .func (.func 103) #[] #[]] w (SymRes B g c P (X++[y]) Q w):=by
 have hnm:=h.le
 rw [← hn] at hnm
 obtain ⟨L,hL⟩ : ∃ L,L=P++(X++([y]++Q)):=⟨_,rfl⟩
 have hbn:b≤n:=by rw [hb,hm,ha,hn];simp only [List.length_append,List.length_singleton];omega
 have HA:=Lib.hid ha
 have HB:=Lib.hid hb
 have HM:=Lib.hid hm
 have HL:=Lib.hid hL
 have HX:=Lib.hid hX
 have HR:=Lib.hid hr
 have HN:Hid (n=L.length):=Lib.hid (by rw [hL];exact hn)
 have H:Hid (Arr w B g c L):=Lib.hid (by rw [hL];exact h)
 have e1:((m:Int) - (a:Int)==1)=false:=by rw [beq_eq_false_iff_ne];omega
 have e2:(b:Int) - (m:Int)=1:=by omega
 have hmb:m<b:=by omega
 have ham:a≤m:=by omega
 clear ha hm hb hn hX h hr hL h2
 go_enter Tryz.func223,Tryz.ntmps223
 go_wp2
 go_loopg [14,15] (m - a) (fun z u v wr => ∃ i j:Nat,z=j - i∧u = .int .i64 i∧v = .int .i64 j∧a≤i∧i≤j∧j≤m∧Hid (LastIn L y a m i j)∧Ext w wr)
 case atStart=>exact ⟨a,m,rfl,rfl,rfl,Nat.le_refl _,ham,Nat.le_refl _,Lib.hid ⟨fun h=>absurd h (Nat.lt_irrefl _),fun h=>absurd h (Nat.lt_irrefl _)⟩,Ext.refl _⟩
 case round =>
  obtain ⟨i,j,rfl,rfl,rfl,h1,h2,h3,HO,er⟩:=hrel
  by_cases hlt:i<j
  ·obtain ⟨q,hq⟩ : ∃ q,q=(i+j) / 2:=⟨_,rfl⟩
   have hqi:i≤q:=by omega
   have hqj:q<j:=by omega
   have hqq:((i:Int)+(j:Int)) / 2=(q:Int):=by omega
   have hA:=H.out.ext er
   have hqL:q<L.length:=by rw [← HN.out];omega
   obtain ⟨py0,py1,py2,py3⟩:=hA.at hqL
   have hx:=hA
   rw [HL.out] at hx
   have ex:P++(X++([y]++Q))=(P++X)++y :: Q:=by simp
   rw [ex] at hx
   obtain ⟨px0,px1,px2,px3⟩:=hx.here (p:=m) (by rw [List.length_append, ← HA.out];exact HM.out)
   have hmem:L.getD q Ud.zero∈X++[y]:=List.mem_append_left _ (by
    rw [HL.out]
    exact mem_mid (by rw [← HA.out];omega) (by rw [← HA.out, ← HM.out];omega))
   have HMY:=Lib.hid hmem
   obtain ⟨x,hy⟩ : ∃ x,x=L.getD q Ud.zero:=⟨_,rfl⟩
   rw [← hy] at py0 py1 py2 py3 HMY
   have HYQ:=Lib.hid hy
   obtain ⟨nx,hnx⟩ : ∃ nx,nx=x.l.length:=⟨_,rfl⟩
   obtain ⟨tx,htx⟩ : ∃ tx,tx=x.t.l.length:=⟨_,rfl⟩
   obtain ⟨ny,hny⟩ : ∃ ny,ny=y.l.length:=⟨_,rfl⟩
   obtain ⟨ty,hty⟩ : ∃ ty,ty=y.t.l.length:=⟨_,rfl⟩
   rw [← hny] at px0;rw [← hty] at px2
   rw [← hnx] at py0;rw [← htx] at py2
   have HNX:=Lib.hid hnx
   have HTX:=Lib.hid htx
   have HNY:=Lib.hid hny
   have HTY:=Lib.hid hty
   have XE:Ext wr wr.drew:=(Ext.refl wr).drew
   have HRY:=Lib.hid (((HR.out y (by simp)).1.ext er).ext XE)
   have HRX:=Lib.hid (((HR.out x HMY.out).1.ext er).ext XE)
   obtain ⟨v,hv⟩ : ∃ v,cmpC y x=v:=⟨_,rfl⟩
   have HV:=Lib.hid hv
   have PY0 : ∀ z:Xt wr.drew,z.W.cell? ⟨g,q * 4,none⟩=some (.slice x.A nx x.c):=fun z=>(XE.trans z.x).cell py0
   have PY1 : ∀ z:Xt wr.drew,z.W.cell? ⟨g,q * 4+1,none⟩=some (.int .u64 x.t.e):=fun z=>(XE.trans z.x).cell py1
   have PY2 : ∀ z:Xt wr.drew,z.W.cell? ⟨g,q * 4+2,none⟩=some (.slice x.t.A tx x.t.c):=fun z=>(XE.trans z.x).cell py2
   have PY3 : ∀ z:Xt wr.drew,z.W.cell? ⟨g,q * 4+3,none⟩=some (.int .i64 x.d):=fun z=>(XE.trans z.x).cell py3
   have PX0 : ∀ z:Xt wr.drew,z.W.cell? ⟨g,m * 4,none⟩=some (.slice y.A ny y.c):=fun z=>(XE.trans z.x).cell px0
   have PX1 : ∀ z:Xt wr.drew,z.W.cell? ⟨g,m * 4+1,none⟩=some (.int .u64 y.t.e):=fun z=>(XE.trans z.x).cell px1
   have PX2 : ∀ z:Xt wr.drew,z.W.cell? ⟨g,m * 4+2,none⟩=some (.slice y.t.A ty y.t.c):=fun z=>(XE.trans z.x).cell px2
   have PX3 : ∀ z:Xt wr.drew,z.W.cell? ⟨g,m * 4+3,none⟩=some (.int .i64 y.d):=fun z=>(XE.trans z.x).cell px3
   clear hA hqL hx hmem hnx hny htx hty hv hy hq ex
   by_cases hv0:v<0
   ·have zv:decide (v<0)=true:=by simpa using hv0
    go_upto_region 17 with fail
    refine wp_region_ord [0,0,0,6,14,0,0,96,224,511,1023,2047] (.flo [0,1,2,3,4,5,6,7,8] (.one 9 (.flo [10,11] (.fin)))) (by kernel_rfl) (by kernel_rfl) (by intro _ _ d _ _ h;cases d<;>exact h) ?_
    (refine ord_flo (pick_cons rfl (pick_cons rfl (pick_cons rfl (pick_cons rfl (pick_cons rfl (pick_cons rfl (pick_cons rfl (pick_cons rfl (pick_cons rfl pick_nil))))))))) ?_;(repeat (go_big_quiet_step (fail)));refine wpQuiet_nil ?_;show ordWalk _ _ _ _ _ _ _)
    refine ord_one (pick_cons rfl pick_nil) ?_;intro K_ hK_
    go_wp2_with (go_at_call 103;refine (order_any y x ny nx ty tx v _ HV HNY HNX HTY HTX HRY HRX).mono ?_;rintro e w1 ⟨rfl,x1⟩)
    (refine ord_flo (pick_cons rfl (pick_cons rfl pick_nil)) ?_;(repeat (go_big_quiet_step (fail)));refine wpQuiet_nil ?_;show ordWalk _ _ _ _ _ _ _)
    refine ord_fin ?_
    go_wp2
    go_roundg (q - i)
    case measure=>omega
    case rel=>exact ⟨i,q,rfl,rfl,rfl,h1,hqi,by omega,Lib.hid ⟨HO.out.1,fun _=>by rw [← HYQ.out];show cmpC y x<0;rw [HV.out];exact hv0⟩,er.trans (XE.trans x1)⟩
   ·have zv:decide (v<0)=false:=by simpa using hv0
    go_upto_region 17 with fail
    refine wp_region_ord [0,0,0,6,14,0,0,96,224,511,1023,2047] (.flo [0,1,2,3,4,5,6,7,8] (.one 9 (.flo [10,11] (.fin)))) (by kernel_rfl) (by kernel_rfl) (by intro _ _ d _ _ h;cases d<;>exact h) ?_
    (refine ord_flo (pick_cons rfl (pick_cons rfl (pick_cons rfl (pick_cons rfl (pick_cons rfl (pick_cons rfl (pick_cons rfl (pick_cons rfl (pick_cons rfl pick_nil))))))))) ?_;(repeat (go_big_quiet_step (fail)));refine wpQuiet_nil ?_;show ordWalk _ _ _ _ _ _ _)
    refine ord_one (pick_cons rfl pick_nil) ?_;intro K_ hK_
    go_wp2_with (go_at_call 103;refine (order_any y x ny nx ty tx v _ HV HNY HNX HTY HTX HRY HRX).mono ?_;rintro e w1 ⟨rfl,x1⟩)
    (refine ord_flo (pick_cons rfl (pick_cons rfl pick_nil)) ?_;(repeat (go_big_quiet_step (fail)));refine wpQuiet_nil ?_;show ordWalk _ _ _ _ _ _ _)
    refine ord_fin ?_
    go_wp2
    go_roundg (j - (q+1))
    case measure=>omega
    case rel=>exact ⟨q+1,j,rfl,by go_num,rfl,by omega,by omega,h3,Lib.hid ⟨fun _=>by rw [Nat.add_sub_cancel, ← HYQ.out];show ¬ cmpC y x<0;rw [HV.out];omega,HO.out.2⟩,er.trans (XE.trans x1)⟩
  ·obtain rfl:i=j:=by omega
   obtain ⟨X1,X2,k1,k2,k3⟩:=last_split HL.out HA.out HM.out h1 h3 HX.out HO.out.1 HO.out.2
   have HK:=Lib.hid k3
   have HX1:=Lib.hid k1
   have HI2:Hid (i=(P++X1).length):=Lib.hid (by rw [List.length_append, ← HA.out];exact k2)
   have HW:Hid (BackIn B g c i (P++X1) X2 Q y w wr m X2 []):=Lib.hid ⟨(List.append_nil _).symm,by
    have:=HM.out
    rw [k1,List.length_append] at this
    omega,by
    have:=H.out.ext er
    rw [HL.out,k1] at this
    simpa using this,upd_ext er g⟩
   clear k1 k2 k3 HO
   obtain ⟨wo,hwo⟩ : ∃ wo:World,wo=wr:=⟨_,rfl⟩
   rw [← hwo] at HW er ⊢
   clear hwo
   go_wp2
   go_loopg [17] (m - i) (fun z u wr => ∃ (k:Nat) (Xa Xb:List Ud),z=k - i∧u = .int .i64 k∧i≤k∧k≤m∧Hid (BackIn B g c i (P++X1) X2 Q y w wr k Xa Xb))
   case atStart=>exact ⟨m,X2,[],rfl,rfl,h3,Nat.le_refl _,HW⟩
   case round =>
    obtain ⟨k,Xa,Xb,rfl,rfl,hk1,hk2,HJ⟩:=hrel
    clear HW
    rcases last_cases Xa with rfl | ⟨Xa,x,rfl⟩
    ·obtain rfl:k=i:=by have:=HJ.out.2.1;simpa using this
     go_wp2
     refine bodyPost_ret (v := .tuple #[]) (by simp only [results,Tryz.results223];go_simp) rfl ?_
     obtain ⟨q1,q2,q3,q4⟩:=HJ.out
     refine ⟨rfl,X1++y :: X2,HK.out,?_,q4⟩
     rw [q1]
     simpa using q3
    ·obtain ⟨k1,hk⟩ : ∃ k1,k=k1+1:=⟨k - 1,by have:=HJ.out.2.1;rw [List.length_append,List.length_singleton] at this;omega⟩
     subst hk
     have hik:i≤k1:=by have:=HJ.out.2.1;rw [List.length_append,List.length_singleton] at this;omega
     have hkk:((k1+1:Nat):Int) - 1=(k1:Int):=by omega
     have hf:=HJ.out.2.2.1
     have e2:P++X1++(Xa++[x]++y :: (Xb++Q))=(P++X1++Xa)++x :: (y :: (Xb++Q)):=by simp
     rw [e2] at hf
     have hkP:k1=(P++X1++Xa).length:=by rw [List.length_append, ← HI2.out];have:=HJ.out.2.1;rw [List.length_append,List.length_singleton] at this;omega
     obtain ⟨px0,px1,px2,px3⟩:=hf.here hkP
     have e3:(P++X1++Xa)++x :: (y :: (Xb++Q))=(P++X1++Xa++[x])++y :: (Xb++Q):=by simp
     have hf2:=hf
     rw [e3] at hf2
     obtain ⟨py0,py1,py2,py3⟩:=hf2.here (p:=k1+1) (by rw [List.length_append, ← hkP,List.length_singleton])
     have f0:=hf.free (k1 * 4)
     have f0b:=hf.free (k1 * 4+1)
     have f1:=hf.free (k1 * 4+2)
     have f1b:=hf.free (k1 * 4+3)
     have f2:=hf.free ((k1+1) * 4)
     have f2b:=hf.free ((k1+1) * 4+1)
     have f3:=hf.free ((k1+1) * 4+2)
     have f3b:=hf.free ((k1+1) * 4+3)
     obtain ⟨nx,hnx⟩ : ∃ nx,nx=x.l.length:=⟨_,rfl⟩
     obtain ⟨tx,htx⟩ : ∃ tx,tx=x.t.l.length:=⟨_,rfl⟩
     obtain ⟨ny,hny⟩ : ∃ ny,ny=y.l.length:=⟨_,rfl⟩
     obtain ⟨ty,hty⟩ : ∃ ty,ty=y.t.l.length:=⟨_,rfl⟩
     rw [← hnx] at px0;rw [← htx] at px2
     rw [← hny] at py0;rw [← hty] at py2
     have HNX:=Lib.hid hnx
     have HTX:=Lib.hid htx
     have HNY:=Lib.hid hny
     have HTY:=Lib.hid hty
     have XE:Ext wr wr.drew:=(Ext.refl wr).drew
     have PY0 : ∀ z:Xt wr.drew,z.W.cell? ⟨g,(k1+1) * 4,none⟩=some (.slice y.A ny y.c):=fun z=>(XE.trans z.x).cell py0
     have PY1 : ∀ z:Xt wr.drew,z.W.cell? ⟨g,(k1+1) * 4+1,none⟩=some (.int .u64 y.t.e):=fun z=>(XE.trans z.x).cell py1
     have PY2 : ∀ z:Xt wr.drew,z.W.cell? ⟨g,(k1+1) * 4+2,none⟩=some (.slice y.t.A ty y.t.c):=fun z=>(XE.trans z.x).cell py2
     have PY3 : ∀ z:Xt wr.drew,z.W.cell? ⟨g,(k1+1) * 4+3,none⟩=some (.int .i64 y.d):=fun z=>(XE.trans z.x).cell py3
     have PX0 : ∀ z:Xt wr.drew,z.W.cell? ⟨g,k1 * 4,none⟩=some (.slice x.A nx x.c):=fun z=>(XE.trans z.x).cell px0
     have PX1 : ∀ z:Xt wr.drew,z.W.cell? ⟨g,k1 * 4+1,none⟩=some (.int .u64 x.t.e):=fun z=>(XE.trans z.x).cell px1
     have PX2 : ∀ z:Xt wr.drew,z.W.cell? ⟨g,k1 * 4+2,none⟩=some (.slice x.t.A tx x.t.c):=fun z=>(XE.trans z.x).cell px2
     have PX3 : ∀ z:Xt wr.drew,z.W.cell? ⟨g,k1 * 4+3,none⟩=some (.int .i64 x.d):=fun z=>(XE.trans z.x).cell px3
     clear hf hf2 e2 e3 hkP hnx hny htx hty
     go_upto_region 23 with fail
     refine wp_region_ord [0,0,0,0,8,0,0,64,224,480,0,0,3072,7168,16355,32739,65535,131071] (.flo [0,1,5,6,7,8,9,10,11,12,13,14] (.pur [2,3,4] (.one 15 (.flo [16] (.one 17 (.fin)))))) (by kernel_rfl) (by kernel_rfl) (by intro _ _ d _ _ h;cases d<;>exact h) ?_
     (refine ord_flo (pick_cons rfl (pick_cons rfl (pick_cons rfl (pick_cons rfl (pick_cons rfl (pick_cons rfl (pick_cons rfl (pick_cons rfl (pick_cons rfl (pick_cons rfl (pick_cons rfl (pick_cons rfl pick_nil)))))))))))) ?_;(repeat (go_big_quiet_step (fail)));refine wpQuiet_nil ?_;show ordWalk _ _ _ _ _ _ _)
     (refine ord_pur (pick_cons rfl (pick_cons rfl (pick_cons rfl pick_nil))) ?_;(repeat (go_big_quiet_step (fail)));refine wpQuiet_nil ?_;show ordWalk _ _ _ _ _ _ _)
     refine ord_one (pick_cons rfl pick_nil) ?_;intro K_ hK_
     go_wp2
     (refine ord_flo (pick_cons rfl pick_nil) ?_;(repeat (go_big_quiet_step (fail)));refine wpQuiet_nil ?_;show ordWalk _ _ _ _ _ _ _)
     refine ord_one (pick_cons rfl pick_nil) ?_;intro K_ hK_
     go_wp2
     refine ord_fin ?_
     go_wp2
     go_roundg (k1 - i)
     case measure=>omega
     case rel=>exact ⟨k1,Xa,x :: Xb,rfl,by go_num,hik,by omega,Lib.hid ((HJ.out.step HI2.out rfl HNX.out HNY.out HTX.out HTY.out (Ext.refl _)).ext (Ext.refl _).drew)⟩
open Go.RowKit
/-- the merge, of so many rows at most -/
def SymIH (N:Nat):Prop := ∀ (B g c n a m b:Nat) (P X Y Q:List Ud) (w:World),X.length+Y.length≤N→0<X.length→0<Y.length→a=P.length→m=a+X.length→b=m+Y.length→n=(P++(X++(Y++Q))).length→SortedC X→SortedC Y →
 Arr w B g c (P++(X++(Y++Q)))→Rws w g (X++Y)→n≤1000000000 →
 Calls Tryz.prog 223 #[.slice (some ⟨g,0,none⟩) n c, .int .i64 a, .int .i64 m, .int .i64 b, .func (.func 103) #[] #[]] w (SymRes B g c P (X++Y) Q w)
/-- how the lists are cut -/
structure SymF (N g n a m b mid en s:Nat) (P X X1 X2 Y Y1 Y2 Q:List Ud) (w:World):Prop where
 hX:X=X1++X2
 hY:Y=Y1++Y2
 ha:a=P.length
 hs:s=a+X1.length
 hm:m=a+X.length
 hb:b=m+Y.length
 hen:en=m+Y1.length
 hmid:mid=a+(X1.length+Y1.length)
 half:mid=(a+b) / 2
 hn:n=(P++(X++(Y++Q))).length
 sX:SortedC X
 sY:SortedC Y
 rows:Rws w g (X++Y)
 cut1 : ∀ t x y u,X1=t++[x]→Y2=y :: u→cmpC x y≤0
 cut2 : ∀ t y x u,Y1=t++[y]→X2=x :: u→cmpC y x<0
 big:n≤1000000000
 len:X.length+Y.length≤N+1
 two:2≤X.length+Y.length
def SymAt (B g c:Nat) (P X1 Y1 X2 Y2 Q:List Ud) (w w2:World):Prop:=Arr w2 B g c (P++(X1++(Y1++(X2++(Y2++Q)))))∧w.grownBy w2 (some g)
def SymMid (B g c:Nat) (P X1 Y1 X2 Y2 Q:List Ud) (w w3:World):Prop := ∃ Z1,Stable cmpC (X1++Y1) Z1∧Arr w3 B g c (P++(Z1++(X2++(Y2++Q))))∧w.grownBy w3 (some g)
section
variable {N B g c n a m b mid en s:Nat} {P X X1 X2 Y Y1 Y2 Q:List Ud} {w w1 w2 w3:World}
theorem nil_or {α:Type} {l:List α} (h : ¬ 0<l.length):l=[]:=List.eq_nil_of_length_eq_zero (by omega)
theorem SymF.lens (F:SymF N g n a m b mid en s P X X1 X2 Y Y1 Y2 Q w):X.length=X1.length+X2.length∧Y.length=Y1.length+Y2.length∧n=P.length+(X.length+(Y.length+Q.length)) :=
 ⟨by rw [F.hX,List.length_append],by rw [F.hY,List.length_append],by rw [F.hn];simp only [List.length_append]⟩
theorem SymF.flags (F:SymF N g n a m b mid en s P X X1 X2 Y Y1 Y2 Q w):(s<m↔0<X2.length)∧(m<en↔0<Y1.length)∧(a<s↔0<X1.length)∧(s<mid↔0<Y1.length)∧(mid<en↔0<X2.length)∧(en<b↔0<Y2.length):=by
 obtain ⟨l1,l2,l3⟩:=F.lens
 have hs:=F.hs
 have hm:=F.hm
 have hb:=F.hb
 have hmid:=F.hmid
 have hen:=F.hen
 refine ⟨⟨fun _=>?_,fun _=>?_⟩,⟨fun _=>?_,fun _=>?_⟩,⟨fun _=>?_,fun _=>?_⟩,⟨fun _=>?_,fun _=>?_⟩,⟨fun _=>?_,fun _=>?_⟩,⟨fun _=>?_,fun _=>?_⟩⟩<;>omega
/-- where nothing is to be turned -/
theorem SymF.still (F:SymF N g n a m b mid en s P X X1 X2 Y Y1 Y2 Q w) (h:Arr w1 B g c (P++(X++(Y++Q)))) (up:w.grownBy w1 (some g)) (hz : ¬ 0<X2.length ∨ ¬ 0<Y1.length):SymAt B g c P X1 Y1 X2 Y2 Q w w1:=by
 refine ⟨?_,up⟩
 rw [F.hX,F.hY] at h
 rcases hz with q | q
 ·rw [nil_or q] at h ⊢
  simpa using h
 ·rw [nil_or q] at h ⊢
  simpa using h
theorem SymF.rot (F:SymF N g n a m b mid en s P X X1 X2 Y Y1 Y2 Q w) (h:Arr w1 B g c (P++(X++(Y++Q)))) (up:w.grownBy w1 (some g)) (h1:0<X2.length) (h2:0<Y1.length) :
  Calls Tryz.prog 255 #[.slice (some ⟨g,0,none⟩) n c, .int .i64 s, .int .i64 m, .int .i64 en, .func (.func 103) #[] #[]] w1 fun e w'=>e = .returned (.tuple #[])∧SymAt B g c P X1 Y1 X2 Y2 Q w w':=by
 obtain ⟨l1,l2,l3⟩:=F.lens
 have e:P++(X++(Y++Q))=(P++X1)++(X2++(Y1++(Y2++Q))):=by rw [F.hX,F.hY];simp
 rw [e] at h
 have ha:=F.ha
 have hs:=F.hs
 have hm:=F.hm
 refine (rot_any B g c n s m en (P++X1) X2 Y1 (Y2++Q) w1 (by rw [List.length_append];omega) (by omega) F.hen h1 h2 (by rw [F.hn,e]) h).mono ?_
 rintro e w2 ⟨rfl,a2,g2⟩
 refine ⟨rfl,?_,up.trans g2⟩
 rwa [List.append_assoc] at a2
theorem SymF.left (F:SymF N g n a m b mid en s P X X1 X2 Y Y1 Y2 Q w) (IH:SymIH N) (h:SymAt B g c P X1 Y1 X2 Y2 Q w w2) (h1:0<X1.length) (h2:0<Y1.length) :
  Calls Tryz.prog 223 #[.slice (some ⟨g,0,none⟩) n c, .int .i64 a, .int .i64 s, .int .i64 mid, .func (.func 103) #[] #[]] w2 fun e w'=>e = .returned (.tuple #[])∧SymMid B g c P X1 Y1 X2 Y2 Q w w':=by
 obtain ⟨l1,l2,l3⟩:=F.lens
 obtain ⟨q1,q2⟩:=h
 have ha:=F.ha
 have hs:=F.hs
 have hm:=F.hm
 have hb:=F.hb
 have hh:=F.half
 have hmid:=F.hmid
 have hl:=F.len
 have h2':=F.two
 refine (IH B g c n a s mid P X1 Y1 (X2++(Y2++Q)) w2 (by omega) h1 h2 ha hs (by omega) (by simp only [List.length_append];omega) (SortedC.left (F.hX ▸ F.sX)) (SortedC.left (F.hY ▸ F.sY)) q1 ((F.rows.upd q2).sub fun x hx=>?_) F.big).mono ?_
 ·rw [F.hX,F.hY]
  rcases List.mem_append.1 hx with hx | hx<;>simp [hx]
 ·rintro e w3 ⟨rfl,Z,z1,z2,z3⟩
  exact ⟨rfl,Z,z1,z2,q2.trans z3⟩
theorem SymF.left0 (F:SymF N g n a m b mid en s P X X1 X2 Y Y1 Y2 Q w) (h:SymAt B g c P X1 Y1 X2 Y2 Q w w2) (hz : ¬ 0<X1.length ∨ ¬ 0<Y1.length):SymMid B g c P X1 Y1 X2 Y2 Q w w2:=by
 obtain ⟨q1,q2⟩:=h
 refine ⟨X1++Y1,?_,by rw [List.append_assoc];exact q1,q2⟩
 rcases hz with q | q
 ·rw [nil_or q,List.nil_append]
  exact Stable.self (SortedC.left (F.hY ▸ F.sY))
 ·rw [nil_or q,List.append_nil]
  exact Stable.self (SortedC.left (F.hX ▸ F.sX))
theorem SymF.all (F:SymF N g n a m b mid en s P X X1 X2 Y Y1 Y2 Q w) {Z1 Z2:List Ud} (h1:Stable cmpC (X1++Y1) Z1) (h2:Stable cmpC (X2++Y2) Z2):Stable cmpC (X++Y) (Z1++Z2):=by
 have:=Stable.merge cmpC_tot (F.hX ▸ F.sX) (F.hY ▸ F.sY) F.cut1 F.cut2 h1 h2
 rwa [← F.hX, ← F.hY] at this
theorem SymF.right (F:SymF N g n a m b mid en s P X X1 X2 Y Y1 Y2 Q w) (IH:SymIH N) (h:SymMid B g c P X1 Y1 X2 Y2 Q w w3) (h1:0<X2.length) (h2:0<Y2.length) :
  Calls Tryz.prog 223 #[.slice (some ⟨g,0,none⟩) n c, .int .i64 mid, .int .i64 en, .int .i64 b, .func (.func 103) #[] #[]] w3 (SymRes B g c P (X++Y) Q w):=by
 obtain ⟨l1,l2,l3⟩:=F.lens
 obtain ⟨Z1,q0,q1,q2⟩:=h
 have lz:=stable_len q0
 rw [List.length_append] at lz
 have ha:=F.ha
 have hs:=F.hs
 have hm:=F.hm
 have hb:=F.hb
 have hh:=F.half
 have hmid:=F.hmid
 have hen:=F.hen
 have hl:=F.len
 have h2':=F.two
 rw [← List.append_assoc] at q1
 refine (IH B g c n mid en b (P++Z1) X2 Y2 Q w3 (by omega) h1 h2 (by rw [List.length_append];omega) (by omega) (by omega) (by simp only [List.length_append];omega) (SortedC.right (F.hX ▸ F.sX)) (SortedC.right (F.hY ▸ F.sY)) q1 ((F.rows.upd q2).sub fun x hx=>?_) F.big).mono ?_
 ·rw [F.hX,F.hY]
  rcases List.mem_append.1 hx with hx | hx<;>simp [hx]
 ·rintro e w4 ⟨rfl,Z,z1,z2,z3⟩
  exact ⟨rfl,Z1++Z,F.all q0 z1,by simpa using z2,q2.trans z3⟩
theorem SymF.right0 (F:SymF N g n a m b mid en s P X X1 X2 Y Y1 Y2 Q w) (h:SymMid B g c P X1 Y1 X2 Y2 Q w w3) (hz : ¬ 0<X2.length ∨ ¬ 0<Y2.length):SymRes B g c P (X++Y) Q w (.returned (.tuple #[])) w3:=by
 obtain ⟨Z1,q0,q1,q2⟩:=h
 refine ⟨rfl,Z1++(X2++Y2),F.all q0 ?_,by simpa using q1,q2⟩
 rcases hz with q | q
 ·rw [nil_or q,List.nil_append]
  exact Stable.self (SortedC.right (F.hY ▸ F.sY))
 ·rw [nil_or q,List.append_nil]
  exact Stable.self (SortedC.right (F.hX ▸ F.sX))
end
open Go.RowKit
def GenIn (L:List Ud) (nn p lo hi s r:Nat):Prop:=(lo<s → ¬ cmpC (L.getD (nn - s) Ud.zero) (L.getD (s - 1) Ud.zero)<0)∧(r<hi→cmpC (L.getD (p - r) Ud.zero) (L.getD r Ud.zero)<0)
set_option maxRecDepth 100000 in
set_option maxHeartbeats 16000000 in
theorem symGen_any (N:Nat) (IH:Hid (SymIH N)) (B g c n a m b:Nat) (P X Y Q:List Ud) (w:World) (hlen:X.length+Y.length≤N+1) (h2X:2≤X.length) (h2Y:2≤Y.length) (ha:a=P.length) (hm:m=a+X.length) (hb:b=m+Y.length) (hn:n=(P++(X++(Y++Q))).length) (hX:SortedC X) (hY:SortedC Y)
  (h:Arr w B g c (P++(X++(Y++Q)))) (hr:Rws w g (X++Y)) (hbig:n≤1000000000) :
  Calls Tryz.prog 223 #[.slice (some ⟨g,0,none⟩) n c, .int .i64 a, .int .i64 m, .int .i64 b, .func (.func 103) #[] #[]] w (SymRes B g c P (X++Y) Q w):=by
 obtain ⟨L,hL⟩ : ∃ L,L=P++(X++(Y++Q)):=⟨_,rfl⟩
 have hbn:b≤n:=by rw [hb,hm,ha,hn];simp only [List.length_append];omega
 obtain ⟨mid,hmid⟩ : ∃ q,q=(a+b) / 2:=⟨_,rfl⟩
 obtain ⟨nn,hnn⟩ : ∃ q,q=mid+m:=⟨_,rfl⟩
 obtain ⟨p,hp⟩ : ∃ p,nn=p+1:=⟨nn - 1,by omega⟩
 have HA:=Lib.hid ha
 have HB:=Lib.hid hb
 have HM:=Lib.hid hm
 have HL:=Lib.hid hL
 have HX:=Lib.hid hX
 have HY:=Lib.hid hY
 have HR:=Lib.hid hr
 have HMID:=Lib.hid hmid
 have HNN:=Lib.hid hnn
 have HPP:=Lib.hid hp
 have HLEN:=Lib.hid hlen
 have HN0:=Lib.hid hn
 have HN:Hid (n=L.length):=Lib.hid (by rw [hL];exact hn)
 have H:Hid (Arr w B g c L):=Lib.hid (by rw [hL];exact h)
 have e1:((m:Int) - (a:Int)==1)=false:=by rw [beq_eq_false_iff_ne];omega
 have e2:((b:Int) - (m:Int)==1)=false:=by rw [beq_eq_false_iff_ne];omega
 have e3:((a:Int)+(b:Int)) / 2=(mid:Int):=by omega
 have e4:(mid:Int)+(m:Int)=(nn:Int):=by omega
 have e5:(nn:Int) - 1=(p:Int):=by omega
 have ham:a+2≤m:=by omega
 have hmb:m+2≤b:=by omega
 have ha1:2 * mid≤a+b:=by omega
 have ha2:a+b≤2 * mid+1:=by omega
 have hp1:mid+m≤p+1:=by omega
 have hp2:p+1≤mid+m:=by omega
 have hnp:nn≤p+1:=by omega
 have hpn:p+1≤nn:=by omega
 clear hlen h2X h2Y ha hm hb hn hX hY h hr hL hmid hnn hp
 go_enter Tryz.func223,Tryz.ntmps223
 by_cases hc:mid<m
 ·obtain ⟨lo,hlo⟩ : ∃ lo,lo=nn - b:=⟨_,rfl⟩
  have e6:(nn:Int) - (b:Int)=(lo:Int):=by omega
  have HC:Hid (mid<m∧lo=nn - b):=Lib.hid ⟨hc,hlo⟩
  have hl1:nn≤lo+b:=by omega
  have hl2:lo+b≤nn:=by omega
  clear hlo
  go_wp2
  go_loopg [20,21] (mid - lo) (fun z u v wr => ∃ s r:Nat,z=r - s∧u = .int .i64 s∧v = .int .i64 r∧lo≤s∧s≤r∧r≤mid∧Hid (GenIn L nn p lo mid s r)∧Ext w wr)
  case atStart=>exact ⟨lo,mid,rfl,rfl,rfl,Nat.le_refl _,by omega,Nat.le_refl _,Lib.hid ⟨fun h=>absurd h (Nat.lt_irrefl _),fun h=>absurd h (Nat.lt_irrefl _)⟩,Ext.refl _⟩
  case round =>
   obtain ⟨s,r,rfl,rfl,rfl,h1,h2,h3,HO,er⟩:=hrel
   by_cases hlt:s<r
   ·obtain ⟨q,hq⟩ : ∃ q,q=(s+r) / 2:=⟨_,rfl⟩
    have hqi:s≤q:=by omega
    have hqj:q<r:=by omega
    have hqq:((s:Int)+(r:Int)) / 2=(q:Int):=by omega
    obtain ⟨t,ht⟩ : ∃ t,t=p - q:=⟨_,rfl⟩
    have hpq:(p:Int) - (q:Int)=(t:Int):=by omega
    have hqm:a≤q∧q<m:=by omega
    have htm:m≤t∧t<b:=by omega
    have hqn:q<n:=by omega
    have htn:t<n:=by omega
    have hA:=H.out.ext er
    obtain ⟨px0,px1,px2,px3⟩:=hA.at (i:=q) (by rw [← HN.out];exact hqn)
    obtain ⟨py0,py1,py2,py3⟩:=hA.at (i:=t) (by rw [← HN.out];exact htn)
    have hmx:L.getD q Ud.zero∈X++Y:=List.mem_append_left _ (by
     rw [HL.out]
     exact mem_mid (by rw [← HA.out];exact hqm.1) (by rw [← HA.out, ← HM.out];exact hqm.2))
    have hmy:L.getD t Ud.zero∈X++Y:=List.mem_append_right _ (by
     rw [HL.out]
     have:=mem_mid (P:=P++X) (X:=Y) (R:=Q) (i:=t) (by rw [List.length_append, ← HA.out, ← HM.out];exact htm.1) (by rw [List.length_append, ← HA.out, ← HM.out, ← HB.out];exact htm.2)
     rwa [List.append_assoc] at this)
    obtain ⟨x,hx⟩ : ∃ x,x=L.getD q Ud.zero:=⟨_,rfl⟩
    obtain ⟨y,hy⟩ : ∃ y,y=L.getD t Ud.zero:=⟨_,rfl⟩
    rw [← hx] at px0 px1 px2 px3 hmx
    rw [← hy] at py0 py1 py2 py3 hmy
    have HXQ:=Lib.hid hx
    have HYQ:=Lib.hid hy
    have HT:=Lib.hid ht
    obtain ⟨nx,hnx⟩ : ∃ nx,nx=x.l.length:=⟨_,rfl⟩
    obtain ⟨tx,htx⟩ : ∃ tx,tx=x.t.l.length:=⟨_,rfl⟩
    obtain ⟨ny,hny⟩ : ∃ ny,ny=y.l.length:=⟨_,rfl⟩
    obtain ⟨ty,hty⟩ : ∃ ty,ty=y.t.l.length:=⟨_,rfl⟩
    rw [← hnx] at px0;rw [← htx] at px2
    rw [← hny] at py0;rw [← hty] at py2
    have HNX:=Lib.hid hnx
    have HTX:=Lib.hid htx
    have HNY:=Lib.hid hny
    have HTY:=Lib.hid hty
    have XE:Ext wr wr.drew:=(Ext.refl wr).drew
    have HRX:=Lib.hid (((HR.out x hmx).1.ext er).ext XE)
    have HRY:=Lib.hid (((HR.out y hmy).1.ext er).ext XE)
    obtain ⟨v,hv⟩ : ∃ v,cmpC y x=v:=⟨_,rfl⟩
    have HV:=Lib.hid hv
    have PY0 : ∀ z:Xt wr.drew,z.W.cell? ⟨g,t * 4,none⟩=some (.slice y.A ny y.c):=fun z=>(XE.trans z.x).cell py0
    have PY1 : ∀ z:Xt wr.drew,z.W.cell? ⟨g,t * 4+1,none⟩=some (.int .u64 y.t.e):=fun z=>(XE.trans z.x).cell py1
    have PY2 : ∀ z:Xt wr.drew,z.W.cell? ⟨g,t * 4+2,none⟩=some (.slice y.t.A ty y.t.c):=fun z=>(XE.trans z.x).cell py2
    have PY3 : ∀ z:Xt wr.drew,z.W.cell? ⟨g,t * 4+3,none⟩=some (.int .i64 y.d):=fun z=>(XE.trans z.x).cell py3
    have PX0 : ∀ z:Xt wr.drew,z.W.cell? ⟨g,q * 4,none⟩=some (.slice x.A nx x.c):=fun z=>(XE.trans z.x).cell px0
    have PX1 : ∀ z:Xt wr.drew,z.W.cell? ⟨g,q * 4+1,none⟩=some (.int .u64 x.t.e):=fun z=>(XE.trans z.x).cell px1
    have PX2 : ∀ z:Xt wr.drew,z.W.cell? ⟨g,q * 4+2,none⟩=some (.slice x.t.A tx x.t.c):=fun z=>(XE.trans z.x).cell px2
    have PX3 : ∀ z:Xt wr.drew,z.W.cell? ⟨g,q * 4+3,none⟩=some (.int .i64 x.d):=fun z=>(XE.trans z.x).cell px3
    clear hA hx hy hmx hmy hnx hny htx hty hv hq ht
    by_cases hv0:v<0
    ·have zv:decide (v<0)=true:=by simpa using hv0
     go_upto_region 35 with fail
     refine wp_region_ord [0,0,0,0,12,30,62,0,0,384,896,2047,4095,8191] (.flo [0,1,2,3,4,5,6,7,8,9,10] (.one 11 (.flo [12,13] (.fin)))) (by kernel_rfl) (by kernel_rfl) (by intro _ _ d _ _ h;cases d<;>exact h) ?_
     (refine ord_flo (pick_cons rfl (pick_cons rfl (pick_cons rfl (pick_cons rfl (pick_cons rfl (pick_cons rfl (pick_cons rfl (pick_cons rfl (pick_cons rfl (pick_cons rfl (pick_cons rfl pick_nil))))))))))) ?_;(repeat (go_big_quiet_step (fail)));refine wpQuiet_nil ?_;show ordWalk _ _ _ _ _ _ _)
     refine ord_one (pick_cons rfl pick_nil) ?_;intro K_ hK_
     go_wp2_with (go_at_call 103;refine (order_any y x ny nx ty tx v _ HV HNY HNX HTY HTX HRY HRX).mono ?_;rintro e w1 ⟨rfl,x1⟩)
     (refine ord_flo (pick_cons rfl (pick_cons rfl pick_nil)) ?_;(repeat (go_big_quiet_step (fail)));refine wpQuiet_nil ?_;show ordWalk _ _ _ _ _ _ _)
     refine ord_fin ?_
     go_wp2
     go_roundg (q - s)
     case measure=>omega
     case rel=>exact ⟨s,q,rfl,rfl,rfl,h1,hqi,by omega,Lib.hid ⟨HO.out.1,fun _=>by rw [← HT.out, ← HYQ.out, ← HXQ.out];show cmpC y x<0;rw [HV.out];exact hv0⟩,er.trans (XE.trans x1)⟩
    ·have zv:decide (v<0)=false:=by simpa using hv0
     go_upto_region 35 with fail
     refine wp_region_ord [0,0,0,0,12,30,62,0,0,384,896,2047,4095,8191] (.flo [0,1,2,3,4,5,6,7,8,9,10] (.one 11 (.flo [12,13] (.fin)))) (by kernel_rfl) (by kernel_rfl) (by intro _ _ d _ _ h;cases d<;>exact h) ?_
     (refine ord_flo (pick_cons rfl (pick_cons rfl (pick_cons rfl (pick_cons rfl (pick_cons rfl (pick_cons rfl (pick_cons rfl (pick_cons rfl (pick_cons rfl (pick_cons rfl (pick_cons rfl pick_nil))))))))))) ?_;(repeat (go_big_quiet_step (fail)));refine wpQuiet_nil ?_;show ordWalk _ _ _ _ _ _ _)
     refine ord_one (pick_cons rfl pick_nil) ?_;intro K_ hK_
     go_wp2_with (go_at_call 103;refine (order_any y x ny nx ty tx v _ HV HNY HNX HTY HTX HRY HRX).mono ?_;rintro e w1 ⟨rfl,x1⟩)
     (refine ord_flo (pick_cons rfl (pick_cons rfl pick_nil)) ?_;(repeat (go_big_quiet_step (fail)));refine wpQuiet_nil ?_;show ordWalk _ _ _ _ _ _ _)
     refine ord_fin ?_
     go_wp2
     go_roundg (r - (q+1))
     case measure=>omega
     case rel=>exact ⟨q+1,r,rfl,by go_num,rfl,by omega,by omega,h3,Lib.hid ⟨fun _=>by rw [show nn - (q+1)=t by have:=HT.out;omega,Nat.add_sub_cancel, ← HYQ.out, ← HXQ.out];show ¬ cmpC y x<0;rw [HV.out];omega,HO.out.2⟩,er.trans (XE.trans x1)⟩
   ·obtain rfl:s=r:=by omega
    obtain ⟨X1,X2,Y1,Y2,k1,k2,k3,k4,k5,k6,k7⟩:=sym_split HL.out HA.out HM.out HB.out HMID.out HNN.out HPP.out (.inl ⟨HC.out.1,HC.out.2,rfl⟩) h1 h3 HO.out.1 HO.out.2
    obtain ⟨en,hen⟩ : ∃ en,en=nn - s:=⟨_,rfl⟩
    have e7:(nn:Int) - (s:Int)=(en:Int):=by omega
    have hsb:s≤b:=by omega
    have henb:en≤b:=by omega
    have HF:Hid (SymF N g n a m b mid en s P X X1 X2 Y Y1 Y2 Q w):=Lib.hid ⟨k1,k2,HA.out,k3,HM.out,HB.out,by rw [hen];exact k4,k5,HMID.out,HN0.out,HX.out,HY.out,HR.out,k6,k7,hbig,HLEN.out,by have:=HM.out;have:=HB.out;omega⟩
    have HA1:Hid (Arr wr B g c (P++(X++(Y++Q)))):=Lib.hid (by have:=H.out.ext er;rwa [HL.out] at this)
    have HUP:Hid (w.grownBy wr (some g)):=Lib.hid (upd_ext er g)
    clear k1 k2 k3 k4 k5 k6 k7 hen HO
    obtain ⟨f1,f2,f3,f4,f5,f6⟩:=HF.out.flags
    rw [show (0<X2.length)=(0<X2.length∧True) by simp] at f1 f5
    rw [show (0<Y1.length)=(0<Y1.length∧True) by simp] at f2 f4
    rw [show (0<X1.length)=(0<X1.length∧True) by simp] at f3
    rw [show (0<Y2.length)=(0<Y2.length∧True) by simp] at f6
    by_cases b1:0<X1.length∧True
    ·have B1:=Lib.hid b1
     clear b1
     by_cases b2:0<X2.length∧True
     ·have B2:=Lib.hid b2
      clear b2
      by_cases b3:0<Y1.length∧True
      ·have B3:=Lib.hid b3
       clear b3
       by_cases b4:0<Y2.length∧True
       ·have B4:=Lib.hid b4
        clear b4
        have s1:=f1.2 B2.out
        have s2:=f2.2 B3.out
        have s3:=f3.2 B1.out
        have s4:=f4.2 B3.out
        have s5:=f5.2 B2.out
        have s6:=f6.2 B4.out
        clear f1 f2 f3 f4 f5 f6
        go_wp2_with (first | (go_at_call 255;refine (HF.out.rot HA1.out HUP.out B2.out.1 B3.out.1).mono ?_;rintro e w2 ⟨rfl,q2⟩;have HS:=Lib.hid q2;clear q2) | (go_at_call 223;refine (HF.out.right IH.out HMD.out B2.out.1 B4.out.1).mono ?_;rintro e w4 ⟨rfl,q4⟩;have HE:=Lib.hid q4;clear q4) | (go_at_call 223;refine (HF.out.left IH.out HS.out B1.out.1 B3.out.1).mono ?_;rintro e w3 ⟨rfl,q3⟩;have HMD:=Lib.hid q3;clear q3))
        all_goals go_end0
        all_goals exact ⟨rfl,HE.out⟩
       ·have B4:=Lib.hid b4
        clear b4
        have s1:=f1.2 B2.out
        have s2:=f2.2 B3.out
        have s3:=f3.2 B1.out
        have s4:=f4.2 B3.out
        have s5:=f5.2 B2.out
        have s6:=fun q=>B4.out (f6.1 q)
        clear f1 f2 f3 f4 f5 f6
        go_wp2_with (first | (go_at_call 255;refine (HF.out.rot HA1.out HUP.out B2.out.1 B3.out.1).mono ?_;rintro e w2 ⟨rfl,q2⟩;have HS:=Lib.hid q2;clear q2) | (go_at_call 223;refine (HF.out.left IH.out HS.out B1.out.1 B3.out.1).mono ?_;rintro e w3 ⟨rfl,q3⟩;have HMD:=Lib.hid q3;clear q3))
        all_goals go_end0
        all_goals exact HF.out.right0 HMD.out (.inr fun q=>B4.out ⟨q,trivial⟩)
      ·have B3:=Lib.hid b3
       clear b3
       by_cases b4:0<Y2.length∧True
       ·have B4:=Lib.hid b4
        clear b4
        have s1:=f1.2 B2.out
        have s2:=fun q=>B3.out (f2.1 q)
        have s3:=f3.2 B1.out
        have s4:=fun q=>B3.out (f4.1 q)
        have s5:=f5.2 B2.out
        have s6:=f6.2 B4.out
        clear f1 f2 f3 f4 f5 f6
        have HS:Hid (SymAt B g c P X1 Y1 X2 Y2 Q w wr):=Lib.hid (HF.out.still HA1.out HUP.out (.inr fun q=>B3.out ⟨q,trivial⟩))
        go_wp2_with (go_at_call 223;refine (HF.out.right IH.out (HF.out.left0 HS.out (.inr fun q=>B3.out ⟨q,trivial⟩)) B2.out.1 B4.out.1).mono ?_;rintro e w4 ⟨rfl,q4⟩;have HE:=Lib.hid q4;clear q4)
        all_goals go_end0
        all_goals exact ⟨rfl,HE.out⟩
       ·have B4:=Lib.hid b4
        clear b4
        exfalso
        have h1 : ¬ 0<Y1.length:=fun q=>B3.out ⟨q,trivial⟩
        have h2 : ¬ 0<Y2.length:=fun q=>B4.out ⟨q,trivial⟩
        have h3:=HF.out.lens
        have h4:=HM.out
        have h5:=HB.out
        omega
     ·have B2:=Lib.hid b2
      clear b2
      by_cases b3:0<Y1.length∧True
      ·have B3:=Lib.hid b3
       clear b3
       by_cases b4:0<Y2.length∧True
       ·have B4:=Lib.hid b4
        clear b4
        have s1:=fun q=>B2.out (f1.1 q)
        have s2:=f2.2 B3.out
        have s3:=f3.2 B1.out
        have s4:=f4.2 B3.out
        have s5:=fun q=>B2.out (f5.1 q)
        have s6:=f6.2 B4.out
        clear f1 f2 f3 f4 f5 f6
        have HS:Hid (SymAt B g c P X1 Y1 X2 Y2 Q w wr):=Lib.hid (HF.out.still HA1.out HUP.out (.inl fun q=>B2.out ⟨q,trivial⟩))
        go_wp2_with (go_at_call 223;refine (HF.out.left IH.out HS.out B1.out.1 B3.out.1).mono ?_;rintro e w3 ⟨rfl,q3⟩;have HMD:=Lib.hid q3;clear q3)
        all_goals go_end0
        all_goals exact HF.out.right0 HMD.out (.inl fun q=>B2.out ⟨q,trivial⟩)
       ·have B4:=Lib.hid b4
        clear b4
        have s1:=fun q=>B2.out (f1.1 q)
        have s2:=f2.2 B3.out
        have s3:=f3.2 B1.out
        have s4:=f4.2 B3.out
        have s5:=fun q=>B2.out (f5.1 q)
        have s6:=fun q=>B4.out (f6.1 q)
        clear f1 f2 f3 f4 f5 f6
        have HS:Hid (SymAt B g c P X1 Y1 X2 Y2 Q w wr):=Lib.hid (HF.out.still HA1.out HUP.out (.inl fun q=>B2.out ⟨q,trivial⟩))
        go_wp2_with (go_at_call 223;refine (HF.out.left IH.out HS.out B1.out.1 B3.out.1).mono ?_;rintro e w3 ⟨rfl,q3⟩;have HMD:=Lib.hid q3;clear q3)
        all_goals go_end0
        all_goals exact HF.out.right0 HMD.out (.inl fun q=>B2.out ⟨q,trivial⟩)
      ·have B3:=Lib.hid b3
       clear b3
       by_cases b4:0<Y2.length∧True
       ·have B4:=Lib.hid b4
        clear b4
        have s1:=fun q=>B2.out (f1.1 q)
        have s2:=fun q=>B3.out (f2.1 q)
        have s3:=f3.2 B1.out
        have s4:=fun q=>B3.out (f4.1 q)
        have s5:=fun q=>B2.out (f5.1 q)
        have s6:=f6.2 B4.out
        clear f1 f2 f3 f4 f5 f6
        have HS:Hid (SymAt B g c P X1 Y1 X2 Y2 Q w wr):=Lib.hid (HF.out.still HA1.out HUP.out (.inl fun q=>B2.out ⟨q,trivial⟩))
        go_wp2
        all_goals go_end0
        all_goals exact HF.out.right0 (HF.out.left0 HS.out (.inr fun q=>B3.out ⟨q,trivial⟩)) (.inl fun q=>B2.out ⟨q,trivial⟩)
       ·have B4:=Lib.hid b4
        clear b4
        exfalso
        have h1 : ¬ 0<Y1.length:=fun q=>B3.out ⟨q,trivial⟩
        have h2 : ¬ 0<Y2.length:=fun q=>B4.out ⟨q,trivial⟩
        have h3:=HF.out.lens
        have h4:=HM.out
        have h5:=HB.out
        omega
    ·have B1:=Lib.hid b1
     clear b1
     by_cases b2:0<X2.length∧True
     ·have B2:=Lib.hid b2
      clear b2
      by_cases b3:0<Y1.length∧True
      ·have B3:=Lib.hid b3
       clear b3
       by_cases b4:0<Y2.length∧True
       ·have B4:=Lib.hid b4
        clear b4
        have s1:=f1.2 B2.out
        have s2:=f2.2 B3.out
        have s3:=fun q=>B1.out (f3.1 q)
        have s4:=f4.2 B3.out
        have s5:=f5.2 B2.out
        have s6:=f6.2 B4.out
        clear f1 f2 f3 f4 f5 f6
        go_wp2_with (first | (go_at_call 255;refine (HF.out.rot HA1.out HUP.out B2.out.1 B3.out.1).mono ?_;rintro e w2 ⟨rfl,q2⟩;have HS:=Lib.hid q2;clear q2) | (go_at_call 223;refine (HF.out.right IH.out (HF.out.left0 HS.out (.inl fun q=>B1.out ⟨q,trivial⟩)) B2.out.1 B4.out.1).mono ?_;rintro e w4 ⟨rfl,q4⟩;have HE:=Lib.hid q4;clear q4))
        all_goals go_end0
        all_goals exact ⟨rfl,HE.out⟩
       ·have B4:=Lib.hid b4
        clear b4
        have s1:=f1.2 B2.out
        have s2:=f2.2 B3.out
        have s3:=fun q=>B1.out (f3.1 q)
        have s4:=f4.2 B3.out
        have s5:=f5.2 B2.out
        have s6:=fun q=>B4.out (f6.1 q)
        clear f1 f2 f3 f4 f5 f6
        go_wp2_with (go_at_call 255;refine (HF.out.rot HA1.out HUP.out B2.out.1 B3.out.1).mono ?_;rintro e w2 ⟨rfl,q2⟩;have HS:=Lib.hid q2;clear q2)
        all_goals go_end0
        all_goals exact HF.out.right0 (HF.out.left0 HS.out (.inl fun q=>B1.out ⟨q,trivial⟩)) (.inr fun q=>B4.out ⟨q,trivial⟩)
      ·have B3:=Lib.hid b3
       clear b3
       by_cases b4:0<Y2.length∧True
       ·have B4:=Lib.hid b4
        clear b4
        have s1:=f1.2 B2.out
        have s2:=fun q=>B3.out (f2.1 q)
        have s3:=fun q=>B1.out (f3.1 q)
        have s4:=fun q=>B3.out (f4.1 q)
        have s5:=f5.2 B2.out
        have s6:=f6.2 B4.out
        clear f1 f2 f3 f4 f5 f6
        have HS:Hid (SymAt B g c P X1 Y1 X2 Y2 Q w wr):=Lib.hid (HF.out.still HA1.out HUP.out (.inr fun q=>B3.out ⟨q,trivial⟩))
        go_wp2_with (go_at_call 223;refine (HF.out.right IH.out (HF.out.left0 HS.out (.inl fun q=>B1.out ⟨q,trivial⟩)) B2.out.1 B4.out.1).mono ?_;rintro e w4 ⟨rfl,q4⟩;have HE:=Lib.hid q4;clear q4)
        all_goals go_end0
        all_goals exact ⟨rfl,HE.out⟩
       ·have B4:=Lib.hid b4
        clear b4
        exfalso
        have h1 : ¬ 0<Y1.length:=fun q=>B3.out ⟨q,trivial⟩
        have h2 : ¬ 0<Y2.length:=fun q=>B4.out ⟨q,trivial⟩
        have h3:=HF.out.lens
        have h4:=HM.out
        have h5:=HB.out
        omega
     ·have B2:=Lib.hid b2
      clear b2
      by_cases b3:0<Y1.length∧True
      ·have B3:=Lib.hid b3
       clear b3
       by_cases b4:0<Y2.length∧True
       ·have B4:=Lib.hid b4
        clear b4
        exfalso
        have h1 : ¬ 0<X1.length:=fun q=>B1.out ⟨q,trivial⟩
        have h2 : ¬ 0<X2.length:=fun q=>B2.out ⟨q,trivial⟩
        have h3:=HF.out.lens
        have h4:=HM.out
        have h5:=HB.out
        omega
       ·have B4:=Lib.hid b4
        clear b4
        exfalso
        have h1 : ¬ 0<X1.length:=fun q=>B1.out ⟨q,trivial⟩
        have h2 : ¬ 0<X2.length:=fun q=>B2.out ⟨q,trivial⟩
        have h3:=HF.out.lens
        have h4:=HM.out
        have h5:=HB.out
        omega
      ·have B3:=Lib.hid b3
       clear b3
       by_cases b4:0<Y2.length∧True
       ·have B4:=Lib.hid b4
        clear b4
        exfalso
        have h1 : ¬ 0<X1.length:=fun q=>B1.out ⟨q,trivial⟩
        have h2 : ¬ 0<X2.length:=fun q=>B2.out ⟨q,trivial⟩
        have h3:=HF.out.lens
        have h4:=HM.out
        have h5:=HB.out
        omega
       ·have B4:=Lib.hid b4
        clear b4
        exfalso
        have h1 : ¬ 0<X1.length:=fun q=>B1.out ⟨q,trivial⟩
        have h2 : ¬ 0<X2.length:=fun q=>B2.out ⟨q,trivial⟩
        have h3:=HF.out.lens
        have h4:=HM.out
        have h5:=HB.out
        omega
 ·have HC:Hid (m≤mid):=Lib.hid (by omega)
  go_wp2
  go_loopg [20,21] (m - a) (fun z u v wr => ∃ s r:Nat,z=r - s∧u = .int .i64 s∧v = .int .i64 r∧a≤s∧s≤r∧r≤m∧Hid (GenIn L nn p a m s r)∧Ext w wr)
  case atStart=>exact ⟨a,m,rfl,rfl,rfl,Nat.le_refl _,by omega,Nat.le_refl _,Lib.hid ⟨fun h=>absurd h (Nat.lt_irrefl _),fun h=>absurd h (Nat.lt_irrefl _)⟩,Ext.refl _⟩
  case round =>
   obtain ⟨s,r,rfl,rfl,rfl,h1,h2,h3,HO,er⟩:=hrel
   by_cases hlt:s<r
   ·obtain ⟨q,hq⟩ : ∃ q,q=(s+r) / 2:=⟨_,rfl⟩
    have hqi:s≤q:=by omega
    have hqj:q<r:=by omega
    have hqq:((s:Int)+(r:Int)) / 2=(q:Int):=by omega
    obtain ⟨t,ht⟩ : ∃ t,t=p - q:=⟨_,rfl⟩
    have hpq:(p:Int) - (q:Int)=(t:Int):=by omega
    have hqm:a≤q∧q<m:=by omega
    have htm:m≤t∧t<b:=by omega
    have hqn:q<n:=by omega
    have htn:t<n:=by omega
    have hA:=H.out.ext er
    obtain ⟨px0,px1,px2,px3⟩:=hA.at (i:=q) (by rw [← HN.out];exact hqn)
    obtain ⟨py0,py1,py2,py3⟩:=hA.at (i:=t) (by rw [← HN.out];exact htn)
    have hmx:L.getD q Ud.zero∈X++Y:=List.mem_append_left _ (by
     rw [HL.out]
     exact mem_mid (by rw [← HA.out];exact hqm.1) (by rw [← HA.out, ← HM.out];exact hqm.2))
    have hmy:L.getD t Ud.zero∈X++Y:=List.mem_append_right _ (by
     rw [HL.out]
     have:=mem_mid (P:=P++X) (X:=Y) (R:=Q) (i:=t) (by rw [List.length_append, ← HA.out, ← HM.out];exact htm.1) (by rw [List.length_append, ← HA.out, ← HM.out, ← HB.out];exact htm.2)
     rwa [List.append_assoc] at this)
    obtain ⟨x,hx⟩ : ∃ x,x=L.getD q Ud.zero:=⟨_,rfl⟩
    obtain ⟨y,hy⟩ : ∃ y,y=L.getD t Ud.zero:=⟨_,rfl⟩
    rw [← hx] at px0 px1 px2 px3 hmx
    rw [← hy] at py0 py1 py2 py3 hmy
    have HXQ:=Lib.hid hx
    have HYQ:=Lib.hid hy
    have HT:=Lib.hid ht
    obtain ⟨nx,hnx⟩ : ∃ nx,nx=x.l.length:=⟨_,rfl⟩
    obtain ⟨tx,htx⟩ : ∃ tx,tx=x.t.l.length:=⟨_,rfl⟩
    obtain ⟨ny,hny⟩ : ∃ ny,ny=y.l.length:=⟨_,rfl⟩
    obtain ⟨ty,hty⟩ : ∃ ty,ty=y.t.l.length:=⟨_,rfl⟩
    rw [← hnx] at px0;rw [← htx] at px2
    rw [← hny] at py0;rw [← hty] at py2
    have HNX:=Lib.hid hnx
    have HTX:=Lib.hid htx
    have HNY:=Lib.hid hny
    have HTY:=Lib.hid hty
    have XE:Ext wr wr.drew:=(Ext.refl wr).drew
    have HRX:=Lib.hid (((HR.out x hmx).1.ext er).ext XE)
    have HRY:=Lib.hid (((HR.out y hmy).1.ext er).ext XE)
    obtain ⟨v,hv⟩ : ∃ v,cmpC y x=v:=⟨_,rfl⟩
    have HV:=Lib.hid hv
    have PY0 : ∀ z:Xt wr.drew,z.W.cell? ⟨g,t * 4,none⟩=some (.slice y.A ny y.c):=fun z=>(XE.trans z.x).cell py0
    have PY1 : ∀ z:Xt wr.drew,z.W.cell? ⟨g,t * 4+1,none⟩=some (.int .u64 y.t.e):=fun z=>(XE.trans z.x).cell py1
    have PY2 : ∀ z:Xt wr.drew,z.W.cell? ⟨g,t * 4+2,none⟩=some (.slice y.t.A ty y.t.c):=fun z=>(XE.trans z.x).cell py2
    have PY3 : ∀ z:Xt wr.drew,z.W.cell? ⟨g,t * 4+3,none⟩=some (.int .i64 y.d):=fun z=>(XE.trans z.x).cell py3
    have PX0 : ∀ z:Xt wr.drew,z.W.cell? ⟨g,q * 4,none⟩=some (.slice x.A nx x.c):=fun z=>(XE.trans z.x).cell px0
    have PX1 : ∀ z:Xt wr.drew,z.W.cell? ⟨g,q * 4+1,none⟩=some (.int .u64 x.t.e):=fun z=>(XE.trans z.x).cell px1
    have PX2 : ∀ z:Xt wr.drew,z.W.cell? ⟨g,q * 4+2,none⟩=some (.slice x.t.A tx x.t.c):=fun z=>(XE.trans z.x).cell px2
    have PX3 : ∀ z:Xt wr.drew,z.W.cell? ⟨g,q * 4+3,none⟩=some (.int .i64 x.d):=fun z=>(XE.trans z.x).cell px3
    clear hA hx hy hmx hmy hnx hny htx hty hv hq ht
    by_cases hv0:v<0
    ·have zv:decide (v<0)=true:=by simpa using hv0
     go_upto_region 35 with fail
     refine wp_region_ord [0,0,0,0,12,30,62,0,0,384,896,2047,4095,8191] (.flo [0,1,2,3,4,5,6,7,8,9,10] (.one 11 (.flo [12,13] (.fin)))) (by kernel_rfl) (by kernel_rfl) (by intro _ _ d _ _ h;cases d<;>exact h) ?_
     (refine ord_flo (pick_cons rfl (pick_cons rfl (pick_cons rfl (pick_cons rfl (pick_cons rfl (pick_cons rfl (pick_cons rfl (pick_cons rfl (pick_cons rfl (pick_cons rfl (pick_cons rfl pick_nil))))))))))) ?_;(repeat (go_big_quiet_step (fail)));refine wpQuiet_nil ?_;show ordWalk _ _ _ _ _ _ _)
     refine ord_one (pick_cons rfl pick_nil) ?_;intro K_ hK_
     go_wp2_with (go_at_call 103;refine (order_any y x ny nx ty tx v _ HV HNY HNX HTY HTX HRY HRX).mono ?_;rintro e w1 ⟨rfl,x1⟩)
     (refine ord_flo (pick_cons rfl (pick_cons rfl pick_nil)) ?_;(repeat (go_big_quiet_step (fail)));refine wpQuiet_nil ?_;show ordWalk _ _ _ _ _ _ _)
     refine ord_fin ?_
     go_wp2
     go_roundg (q - s)
     case measure=>omega
     case rel=>exact ⟨s,q,rfl,rfl,rfl,h1,hqi,by omega,Lib.hid ⟨HO.out.1,fun _=>by rw [← HT.out, ← HYQ.out, ← HXQ.out];show cmpC y x<0;rw [HV.out];exact hv0⟩,er.trans (XE.trans x1)⟩
    ·have zv:decide (v<0)=false:=by simpa using hv0
     go_upto_region 35 with fail
     refine wp_region_ord [0,0,0,0,12,30,62,0,0,384,896,2047,4095,8191] (.flo [0,1,2,3,4,5,6,7,8,9,10] (.one 11 (.flo [12,13] (.fin)))) (by kernel_rfl) (by kernel_rfl) (by intro _ _ d _ _ h;cases d<;>exact h) ?_
     (refine ord_flo (pick_cons rfl (pick_cons rfl (pick_cons rfl (pick_cons rfl (pick_cons rfl (pick_cons rfl (pick_cons rfl (pick_cons rfl (pick_cons rfl (pick_cons rfl (pick_cons rfl pick_nil))))))))))) ?_;(repeat (go_big_quiet_step (fail)));refine wpQuiet_nil ?_;show ordWalk _ _ _ _ _ _ _)
     refine ord_one (pick_cons rfl pick_nil) ?_;intro K_ hK_
     go_wp2_with (go_at_call 103;refine (order_any y x ny nx ty tx v _ HV HNY HNX HTY HTX HRY HRX).mono ?_;rintro e w1 ⟨rfl,x1⟩)
     (refine ord_flo (pick_cons rfl (pick_cons rfl pick_nil)) ?_;(repeat (go_big_quiet_step (fail)));refine wpQuiet_nil ?_;show ordWalk _ _ _ _ _ _ _)
     refine ord_fin ?_
     go_wp2
     go_roundg (r - (q+1))
     case measure=>omega
     case rel=>exact ⟨q+1,r,rfl,by go_num,rfl,by omega,by omega,h3,Lib.hid ⟨fun _=>by rw [show nn - (q+1)=t by have:=HT.out;omega,Nat.add_sub_cancel, ← HYQ.out, ← HXQ.out];show ¬ cmpC y x<0;rw [HV.out];omega,HO.out.2⟩,er.trans (XE.trans x1)⟩
   ·obtain rfl:s=r:=by omega
    obtain ⟨X1,X2,Y1,Y2,k1,k2,k3,k4,k5,k6,k7⟩:=sym_split HL.out HA.out HM.out HB.out HMID.out HNN.out HPP.out (.inr ⟨HC.out,rfl,rfl⟩) h1 h3 HO.out.1 HO.out.2
    obtain ⟨en,hen⟩ : ∃ en,en=nn - s:=⟨_,rfl⟩
    have e7:(nn:Int) - (s:Int)=(en:Int):=by omega
    have hsb:s≤b:=by omega
    have henb:en≤b:=by omega
    have HF:Hid (SymF N g n a m b mid en s P X X1 X2 Y Y1 Y2 Q w):=Lib.hid ⟨k1,k2,HA.out,k3,HM.out,HB.out,by rw [hen];exact k4,k5,HMID.out,HN0.out,HX.out,HY.out,HR.out,k6,k7,hbig,HLEN.out,by have:=HM.out;have:=HB.out;omega⟩
    have HA1:Hid (Arr wr B g c (P++(X++(Y++Q)))):=Lib.hid (by have:=H.out.ext er;rwa [HL.out] at this)
    have HUP:Hid (w.grownBy wr (some g)):=Lib.hid (upd_ext er g)
    clear k1 k2 k3 k4 k5 k6 k7 hen HO
    obtain ⟨f1,f2,f3,f4,f5,f6⟩:=HF.out.flags
    rw [show (0<X2.length)=(0<X2.length∧True) by simp] at f1 f5
    rw [show (0<Y1.length)=(0<Y1.length∧True) by simp] at f2 f4
    rw [show (0<X1.length)=(0<X1.length∧True) by simp] at f3
    rw [show (0<Y2.length)=(0<Y2.length∧True) by simp] at f6
    by_cases b1:0<X1.length∧True
    ·have B1:=Lib.hid b1
     clear b1
     by_cases b2:0<X2.length∧True
     ·have B2:=Lib.hid b2
      clear b2
      by_cases b3:0<Y1.length∧True
      ·have B3:=Lib.hid b3
       clear b3
       by_cases b4:0<Y2.length∧True
       ·have B4:=Lib.hid b4
        clear b4
        have s1:=f1.2 B2.out
        have s2:=f2.2 B3.out
        have s3:=f3.2 B1.out
        have s4:=f4.2 B3.out
        have s5:=f5.2 B2.out
        have s6:=f6.2 B4.out
        clear f1 f2 f3 f4 f5 f6
        go_wp2_with (first | (go_at_call 255;refine (HF.out.rot HA1.out HUP.out B2.out.1 B3.out.1).mono ?_;rintro e w2 ⟨rfl,q2⟩;have HS:=Lib.hid q2;clear q2) | (go_at_call 223;refine (HF.out.right IH.out HMD.out B2.out.1 B4.out.1).mono ?_;rintro e w4 ⟨rfl,q4⟩;have HE:=Lib.hid q4;clear q4) | (go_at_call 223;refine (HF.out.left IH.out HS.out B1.out.1 B3.out.1).mono ?_;rintro e w3 ⟨rfl,q3⟩;have HMD:=Lib.hid q3;clear q3))
        all_goals go_end0
        all_goals exact ⟨rfl,HE.out⟩
       ·have B4:=Lib.hid b4
        clear b4
        have s1:=f1.2 B2.out
        have s2:=f2.2 B3.out
        have s3:=f3.2 B1.out
        have s4:=f4.2 B3.out
        have s5:=f5.2 B2.out
        have s6:=fun q=>B4.out (f6.1 q)
        clear f1 f2 f3 f4 f5 f6
        go_wp2_with (first | (go_at_call 255;refine (HF.out.rot HA1.out HUP.out B2.out.1 B3.out.1).mono ?_;rintro e w2 ⟨rfl,q2⟩;have HS:=Lib.hid q2;clear q2) | (go_at_call 223;refine (HF.out.left IH.out HS.out B1.out.1 B3.out.1).mono ?_;rintro e w3 ⟨rfl,q3⟩;have HMD:=Lib.hid q3;clear q3))
        all_goals go_end0
        all_goals exact HF.out.right0 HMD.out (.inr fun q=>B4.out ⟨q,trivial⟩)
      ·have B3:=Lib.hid b3
       clear b3
       by_cases b4:0<Y2.length∧True
       ·have B4:=Lib.hid b4
        clear b4
        have s1:=f1.2 B2.out
        have s2:=fun q=>B3.out (f2.1 q)
        have s3:=f3.2 B1.out
        have s4:=fun q=>B3.out (f4.1 q)
        have s5:=f5.2 B2.out
        have s6:=f6.2 B4.out
        clear f1 f2 f3 f4 f5 f6
        have HS:Hid (SymAt B g c P X1 Y1 X2 Y2 Q w wr):=Lib.hid (HF.out.still HA1.out HUP.out (.inr fun q=>B3.out ⟨q,trivial⟩))
        go_wp2_with (go_at_call 223;refine (HF.out.right IH.out (HF.out.left0 HS.out (.inr fun q=>B3.out ⟨q,trivial⟩)) B2.out.1 B4.out.1).mono ?_;rintro e w4 ⟨rfl,q4⟩;have HE:=Lib.hid q4;clear q4)
        all_goals go_end0
        all_goals exact ⟨rfl,HE.out⟩
       ·have B4:=Lib.hid b4
        clear b4
        exfalso
        have h1 : ¬ 0<Y1.length:=fun q=>B3.out ⟨q,trivial⟩
        have h2 : ¬ 0<Y2.length:=fun q=>B4.out ⟨q,trivial⟩
        have h3:=HF.out.lens
        have h4:=HM.out
        have h5:=HB.out
        omega
     ·have B2:=Lib.hid b2
      clear b2
      by_cases b3:0<Y1.length∧True
      ·have B3:=Lib.hid b3
       clear b3
       by_cases b4:0<Y2.length∧True
       ·have B4:=Lib.hid b4
        clear b4
        have s1:=fun q=>B2.out (f1.1 q)
        have s2:=f2.2 B3.out
        have s3:=f3.2 B1.out
        have s4:=f4.2 B3.out
        have s5:=fun q=>B2.out (f5.1 q)
        have s6:=f6.2 B4.out
        clear f1 f2 f3 f4 f5 f6
        have HS:Hid (SymAt B g c P X1 Y1 X2 Y2 Q w wr):=Lib.hid (HF.out.still HA1.out HUP.out (.inl fun q=>B2.out ⟨q,trivial⟩))
        go_wp2_with (go_at_call 223;refine (HF.out.left IH.out HS.out B1.out.1 B3.out.1).mono ?_;rintro e w3 ⟨rfl,q3⟩;have HMD:=Lib.hid q3;clear q3)
        all_goals go_end0
        all_goals exact HF.out.right0 HMD.out (.inl fun q=>B2.out ⟨q,trivial⟩)
       ·have B4:=Lib.hid b4
        clear b4
        have s1:=fun q=>B2.out (f1.1 q)
        have s2:=f2.2 B3.out
        have s3:=f3.2 B1.out
        have s4:=f4.2 B3.out
        have s5:=fun q=>B2.out (f5.1 q)
        have s6:=fun q=>B4.out (f6.1 q)
        clear f1 f2 f3 f4 f5 f6
        have HS:Hid (SymAt B g c P X1 Y1 X2 Y2 Q w wr):=Lib.hid (HF.out.still HA1.out HUP.out (.inl fun q=>B2.out ⟨q,trivial⟩))
        go_wp2_with (go_at_call 223;refine (HF.out.left IH.out HS.out B1.out.1 B3.out.1).mono ?_;rintro e w3 ⟨rfl,q3⟩;have HMD:=Lib.hid q3;clear q3)
        all_goals go_end0
        all_goals exact HF.out.right0 HMD.out (.inl fun q=>B2.out ⟨q,trivial⟩)
      ·have B3:=Lib.hid b3
       clear b3
       by_cases b4:0<Y2.length∧True
       ·have B4:=Lib.hid b4
        clear b4
        have s1:=fun q=>B2.out (f1.1 q)
        have s2:=fun q=>B3.out (f2.1 q)
        have s3:=f3.2 B1.out
        have s4:=fun q=>B3.out (f4.1 q)
        have s5:=fun q=>B2.out (f5.1 q)
        have s6:=f6.2 B4.out
        clear f1 f2 f3 f4 f5 f6
        have HS:Hid (SymAt B g c P X1 Y1 X2 Y2 Q w wr):=Lib.hid (HF.out.still HA1.out HUP.out (.inl fun q=>B2.out ⟨q,trivial⟩))
        go_wp2
        all_goals go_end0
        all_goals exact HF.out.right0 (HF.out.left0 HS.out (.inr fun q=>B3.out ⟨q,trivial⟩)) (.inl fun q=>B2.out ⟨q,trivial⟩)
       ·have B4:=Lib.hid b4
        clear b4
        exfalso
        have h1 : ¬ 0<Y1.length:=fun q=>B3.out ⟨q,trivial⟩
        have h2 : ¬ 0<Y2.length:=fun q=>B4.out ⟨q,trivial⟩
        have h3:=HF.out.lens
        have h4:=HM.out
        have h5:=HB.out
        omega
    ·have B1:=Lib.hid b1
     clear b1
     by_cases b2:0<X2.length∧True
     ·have B2:=Lib.hid b2
      clear b2
      by_cases b3:0<Y1.length∧True
      ·have B3:=Lib.hid b3
       clear b3
       by_cases b4:0<Y2.length∧True
       ·have B4:=Lib.hid b4
        clear b4
        have s1:=f1.2 B2.out
        have s2:=f2.2 B3.out
        have s3:=fun q=>B1.out (f3.1 q)
        have s4:=f4.2 B3.out
        have s5:=f5.2 B2.out
        have s6:=f6.2 B4.out
        clear f1 f2 f3 f4 f5 f6
        go_wp2_with (first | (go_at_call 255;refine (HF.out.rot HA1.out HUP.out B2.out.1 B3.out.1).mono ?_;rintro e w2 ⟨rfl,q2⟩;have HS:=Lib.hid q2;clear q2) | (go_at_call 223;refine (HF.out.right IH.out (HF.out.left0 HS.out (.inl fun q=>B1.out ⟨q,trivial⟩)) B2.out.1 B4.out.1).mono ?_;rintro e w4 ⟨rfl,q4⟩;have HE:=Lib.hid q4;clear q4))
        all_goals go_end0
        all_goals exact ⟨rfl,HE.out⟩
       ·have B4:=Lib.hid b4
        clear b4
        have s1:=f1.2 B2.out
        have s2:=f2.2 B3.out
        have s3:=fun q=>B1.out (f3.1 q)
        have s4:=f4.2 B3.out
        have s5:=f5.2 B2.out
        have s6:=fun q=>B4.out (f6.1 q)
        clear f1 f2 f3 f4 f5 f6
        go_wp2_with (go_at_call 255;refine (HF.out.rot HA1.out HUP.out B2.out.1 B3.out.1).mono ?_;rintro e w2 ⟨rfl,q2⟩;have HS:=Lib.hid q2;clear q2)
        all_goals go_end0
        all_goals exact HF.out.right0 (HF.out.left0 HS.out (.inl fun q=>B1.out ⟨q,trivial⟩)) (.inr fun q=>B4.out ⟨q,trivial⟩)
      ·have B3:=Lib.hid b3
       clear b3
       by_cases b4:0<Y2.length∧True
       ·have B4:=Lib.hid b4
        clear b4
        have s1:=f1.2 B2.out
        have s2:=fun q=>B3.out (f2.1 q)
        have s3:=fun q=>B1.out (f3.1 q)
        have s4:=fun q=>B3.out (f4.1 q)
        have s5:=f5.2 B2.out
        have s6:=f6.2 B4.out
        clear f1 f2 f3 f4 f5 f6
        have HS:Hid (SymAt B g c P X1 Y1 X2 Y2 Q w wr):=Lib.hid (HF.out.still HA1.out HUP.out (.inr fun q=>B3.out ⟨q,trivial⟩))
        go_wp2_with (go_at_call 223;refine (HF.out.right IH.out (HF.out.left0 HS.out (.inl fun q=>B1.out ⟨q,trivial⟩)) B2.out.1 B4.out.1).mono ?_;rintro e w4 ⟨rfl,q4⟩;have HE:=Lib.hid q4;clear q4)
        all_goals go_end0
        all_goals exact ⟨rfl,HE.out⟩
       ·have B4:=Lib.hid b4
        clear b4
        exfalso
        have h1 : ¬ 0<Y1.length:=fun q=>B3.out ⟨q,trivial⟩
        have h2 : ¬ 0<Y2.length:=fun q=>B4.out ⟨q,trivial⟩
        have h3:=HF.out.lens
        have h4:=HM.out
        have h5:=HB.out
        omega
     ·have B2:=Lib.hid b2
      clear b2
      by_cases b3:0<Y1.length∧True
      ·have B3:=Lib.hid b3
       clear b3
       by_cases b4:0<Y2.length∧True
       ·have B4:=Lib.hid b4
        clear b4
        exfalso
        have h1 : ¬ 0<X1.length:=fun q=>B1.out ⟨q,trivial⟩
        have h2 : ¬ 0<X2.length:=fun q=>B2.out ⟨q,trivial⟩
        have h3:=HF.out.lens
        have h4:=HM.out
        have h5:=HB.out
        omega
       ·have B4:=Lib.hid b4
        clear b4
        exfalso
        have h1 : ¬ 0<X1.length:=fun q=>B1.out ⟨q,trivial⟩
        have h2 : ¬ 0<X2.length:=fun q=>B2.out ⟨q,trivial⟩
        have h3:=HF.out.lens
        have h4:=HM.out
        have h5:=HB.out
        omega
      ·have B3:=Lib.hid b3
       clear b3
       by_cases b4:0<Y2.length∧True
       ·have B4:=Lib.hid b4
        clear b4
        exfalso
        have h1 : ¬ 0<X1.length:=fun q=>B1.out ⟨q,trivial⟩
        have h2 : ¬ 0<X2.length:=fun q=>B2.out ⟨q,trivial⟩
        have h3:=HF.out.lens
        have h4:=HM.out
        have h5:=HB.out
        omega
       ·have B4:=Lib.hid b4
        clear b4
        exfalso
        have h1 : ¬ 0<X1.length:=fun q=>B1.out ⟨q,trivial⟩
        have h2 : ¬ 0<X2.length:=fun q=>B2.out ⟨q,trivial⟩
        have h3:=HF.out.lens
        have h4:=HM.out
        have h5:=HB.out
        omega
theorem symM_all (N:Nat):SymIH N:=by
 induction N with
 | zero=>exact fun B g c n a m b P X Y Q w h hx hy=>absurd h (by omega)
 | succ N ih =>
  intro B g c n a m b P X Y Q w hl hx hy ha hm hb hn sX sY h hr hbig
  by_cases h1:X.length=1
  ·obtain ⟨x,t,rfl⟩:=cons_of hx
   have ht:t=[]:=List.eq_nil_of_length_eq_zero (by rw [List.length_cons] at h1;omega)
   subst ht
   exact symOne_any B g c n a m b P Y Q x w ha (by rw [hm];rfl) hb hn sY h hr hbig
  ·by_cases h2:Y.length=1
   ·obtain ⟨y,t,rfl⟩:=cons_of hy
    have ht:t=[]:=List.eq_nil_of_length_eq_zero (by rw [List.length_cons] at h2;omega)
    subst ht
    exact symLast_any B g c n a m b P X Q y w ha hm (by rw [hb];rfl) hn sX (by omega) h hr hbig
   ·exact symGen_any N (Lib.hid ih) B g c n a m b P X Y Q w hl (by omega) (by omega) ha hm hb hn sX sY h hr hbig
end Go.Proofs.YtdgbkpoickbidaaGreatDoor.UdS
