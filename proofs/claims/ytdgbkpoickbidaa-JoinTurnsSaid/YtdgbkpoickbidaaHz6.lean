/- slices.IndexFunc, DeleteFunc at updates, by 'none of them'. slices.DeleteFunc at updates, by 'none of them': the walk. delta.Sum: the loop's relation. The plain law of a merge that keeps the order of what is alike. Two elements of a list of updates change places. slices.swapRangeCmpFunc at updates: two parts of one length change places. slices.rotateCmpFunc at updates: two parts, side by side, change places. The plain law of a symmetric merge: where two sorted lists are cut. slices.symMergeCmpFunc at updates: one element, merged with a sorted list behind it. slices.symMergeCmpFunc at updates: a sorted list, merged with one element behind it. slices.symMergeCmpFunc at updates: what its parts do. Conditions: each theorem states its own. -/
import Derived.Test.YtdgbkpoickbidaaHz5
import Derived.Lib.SliceRun
import Derived.Test.YtdgbkpoickbidaaHz3
import Derived.Test.YtdgbkpoickbidaaHz4
import Derived.Test.YtdgbkpoickbidaaHz1
import Derived.Deep.LoopGhost
namespace Go.Proofs.Ytdgbkpoickbidaa.UdS
open Go.RowKit

def nzC (x:Ud):Bool := !(x.d==0)
set_option maxRecDepth 100000 in
set_option maxHeartbeats 400000 in
theorem sum2_any (A B:Option Addr) (c n b m:Nat) (e k:Int) (v:Bool) (w:World) (hv:Hid ((k==0)=v)) :
  Calls Try.prog 44 #[.agg #[.slice A n c, .int .u64 e, .slice B m b, .int .i64 k]] w fun e w'=>e = .returned (.bool v)∧Ext w w':=by
 rw [← hv.out]
 clear hv
 go_enter Try.func44,Try.ntmps44
 go_wp2
 go_ret
 exact ⟨rfl,(Ext.refl w).alloc _⟩
set_option maxRecDepth 100000 in
set_option maxHeartbeats 2000000 in
theorem index_none (B g c n:Nat) (M:List Ud) (w:World) (hn:n=M.length) (h:Arr w B g c M) (hz : ∀ x∈M,(x.d==0)=false) :
  Calls Try.prog 60 #[.slice (some ⟨g,0,none⟩) n c, .func (.func 44) #[] #[]] w fun e w'=>e = .returned (.int .i64 (-1))∧Ext w w':=by
 have hnm:=h.le
 rw [← hn] at hnm
 have H:=Lib.hid h
 have HN:=Lib.hid hn
 have HZ:=Lib.hid hz
 clear h hn hz
 go_enter Try.func60,Try.ntmps60
 go_wp2
 go_loopw [8] (fun v wr => ∃ i:Nat,i≤n∧v = .int .i64 i∧Ext w wr) (fun v _=>n - (intOf v).toNat)
 case atStart=>exact ⟨0,Nat.zero_le _,rfl,Ext.refl _⟩
 case round =>
  obtain ⟨i,hi,rfl,er⟩:=hrel
  by_cases hlt:i<n
  ·have hil:i<M.length:=by rw [← HN.out];exact hlt
   obtain ⟨p0,p1,p2,p3⟩:=(H.out.ext er).at hil
   have hk:((M.getD i Ud.zero).d==0)=false:=by
    rw [List.getD_eq_getElem?_getD,List.getElem?_eq_getElem hil]
    exact HZ.out _ (List.getElem_mem hil)
   obtain ⟨x,hx⟩ : ∃ x,M.getD i Ud.zero=x:=⟨_,rfl⟩
   rw [hx] at p0 p1 p2 p3 hk
   have HK:=Lib.hid hk
   clear hil hx hk
   go_wp2_with (go_at_call 44;refine (sum2_any _ _ _ _ _ _ _ _ _ _ HK).mono ?_;rintro e w1 ⟨rfl,x1⟩)
   go_roundw
   case rel=>exact ⟨i+1,by omega,by go_num,er.trans x1⟩
   case measure=>simp [intOf];omega
  ·go_wp2
   go_ret
   exact ⟨rfl,er⟩
set_option maxRecDepth 100000 in
set_option maxHeartbeats 2000000 in
theorem index_some (B g c n q:Nat) (P Q:List Ud) (x:Ud) (w:World) (hn:n=(P++x :: Q).length) (hq:q=P.length) (h:Arr w B g c (P++x :: Q)) (hz : ∀ x∈P,(x.d==0)=false) (hx:(x.d==0)=true) :
  Calls Try.prog 60 #[.slice (some ⟨g,0,none⟩) n c, .func (.func 44) #[] #[]] w fun e w'=>e = .returned (.int .i64 q)∧Ext w w':=by
 have hnm:=h.le
 rw [← hn] at hnm
 have hqn:q<n:=by rw [hn,List.length_append,List.length_cons];omega
 have H:=Lib.hid h
 have HQ:=Lib.hid hq
 have HZ:=Lib.hid hz
 have HX:=Lib.hid hx
 clear h hn hz hq hx
 go_enter Try.func60,Try.ntmps60
 go_wp2
 go_loopw [8] (fun v wr => ∃ i:Nat,i≤q∧v = .int .i64 i∧Ext w wr) (fun v _=>n - (intOf v).toNat)
 case atStart=>exact ⟨0,Nat.zero_le _,rfl,Ext.refl _⟩
 case round =>
  obtain ⟨i,hi,rfl,er⟩:=hrel
  have hlt:i<n:=by omega
  have hil:i<(P++x :: Q).length:=by rw [List.length_append,List.length_cons, ← HQ.out];omega
  obtain ⟨p0,p1,p2,p3⟩:=(H.out.ext er).at hil
  by_cases hiq:i<q
  ·have hk:(((P++x :: Q).getD i Ud.zero).d==0)=false:=by
    have hp:i<P.length:=by rw [← HQ.out];exact hiq
    rw [List.getD_eq_getElem?_getD,List.getElem?_append_left hp,List.getElem?_eq_getElem hp]
    exact HZ.out _ (List.getElem_mem hp)
   obtain ⟨y,hy⟩ : ∃ y,(P++x :: Q).getD i Ud.zero=y:=⟨_,rfl⟩
   rw [hy] at p0 p1 p2 p3 hk
   have HK:=Lib.hid hk
   clear hil hy hk
   go_wp2_with (go_at_call 44;refine (sum2_any _ _ _ _ _ _ _ _ _ _ HK).mono ?_;rintro e w1 ⟨rfl,x1⟩)
   go_roundw
   case rel=>exact ⟨i+1,by omega,by go_num,er.trans x1⟩
   case measure=>simp [intOf];omega
  ·have hiq2:i=q:=by omega
   subst hiq2
   have e:(P++x :: Q).getD i Ud.zero=x:=by rw [HQ.out];exact getD_mid P x Q
   rw [e] at p0 p1 p2 p3
   clear hil e
   go_wp2_with (go_at_call 44;refine (sum2_any _ _ _ _ _ _ _ _ _ _ HX).mono ?_;rintro e w1 ⟨rfl,x1⟩)
   go_ret
   exact ⟨rfl,er.trans x1⟩
theorem own_set_past {w:World} {B g n c k:Nat} {xs:List Value} (h:Own w B 51 4 (some ⟨g,0,none⟩) n c xs) (hk:xs.length≤k) (u:Value):Own (w.setCell ⟨g,k,none⟩ u) B 51 4 (some ⟨g,0,none⟩) n c xs:=by
 have:=h.put k u
 rwa [List.set_eq_of_length_le hk] at this
theorem own_sets_past {B g n c:Nat} {xs:List Value} : ∀ (vs:List Value) (w:World) (k:Nat),Own w B 51 4 (some ⟨g,0,none⟩) n c xs→xs.length≤k→Own (w.setCells g k vs) B 51 4 (some ⟨g,0,none⟩) n c xs
 | [],_,_,h,_=>h
 | v :: vs,w,k,h,hk=>own_sets_past vs _ (k+1) (own_set_past h hk v) (by omega)
theorem upd_sets (g:Nat) : ∀ (vs:List Value) (w:World) (k:Nat),w.grownBy (w.setCells g k vs) (some g)
 | [],w,_=>World.grownBy.refl w _
 | v :: vs,w,k=>(upd_set w g k v).trans (upd_sets g vs _ (k+1))
theorem Arr.prefix_ {w:World} {B g c:Nat} {K X:List Ud} (h:Arr w B g c (K++X)):Arr w B g c K:=by
 refine ⟨⟨udsC_len K,?_⟩,h.2⟩
 rcases h.1.2 with ⟨h1,h2⟩ | ⟨g',cur,e,hb,hg,hnc,hcm,hcs,htake⟩
 ·exact .inl ⟨h1,by rw [List.length_append] at h2;omega⟩
 ·refine .inr ⟨g',cur,e,hb,hg,by rw [List.length_append] at hnc;omega,hcm,hcs,?_⟩
  have:(cur.toList.take ((K++X).length * 4)).take (K.length * 4)=(udsC (K++X)).take (K.length * 4):=by rw [htake]
  rw [List.take_take,Nat.min_eq_left (by rw [List.length_append];omega),udsC_append] at this
  rw [this, ← udsC_len K,List.take_left]
theorem Arr.cells_past {w:World} {B g c:Nat} {K:List Ud} (h:Arr w B g c K) {j:Nat} (hj:j<c * 4):(w.cell? ⟨g,j,none⟩).isSome=true:=by
 rcases h.1.2 with ⟨h1,_⟩ | ⟨g',cur,e,hb,hg,hnc,hcm,hcs,htake⟩
 ·have:=h.2;omega
 ·cases e
  rw [cell_of_row w g j cur _ (0,0) hg,Array.getElem?_eq_getElem (Nat.lt_of_lt_of_le hj hcs)]
  rfl
theorem run_clear4 {P:Program} (w:World) (t e ty:TypeId) (z0 z1 z2 z3:Value) (ht:P.underlying t=some (.slice e)) (hv : ∀ w,(zeroValue e).run P w = .ok (.agg #[z0,z1,z2,z3]) w) (hz : ∀ v∈[z0,z1,z2,z3],v.oneCell'=true) (hzc:(Value.agg #[z0,z1,z2,z3]).cells = #[z0,z1,z2,z3]) (b o n c:Nat) (hn:0<n)
  (hc : ∀ j,j<n * 4→(w.cell? ⟨b,o+j,none⟩).isSome=true) (hf : ∀ j,j<n * 4→w.frozen? ⟨b,o+j,none⟩=false) :
  (Builtin.clear_ #[t] ty #[.slice (some ⟨b,o,none⟩) n c]).run P w = .ok (.tuple #[]) (w.setCells b o (Builtin.zeroCells #[z0,z1,z2,z3] n).toList):=by
 have hlen:(Builtin.zeroCells #[z0,z1,z2,z3] n).toList.length=n * 4:=by
  have:=size_zeroCells #[z0,z1,z2,z3] n
  rw [Array.length_toList,this]
  rfl
 have hall : ∀ v∈(Builtin.zeroCells #[z0,z1,z2,z3] n).toList,v.oneCell'=true:=by
  intro v hv'
  unfold Builtin.zeroCells at hv'
  rw [Array.toList_map] at hv'
  obtain ⟨i,_,rfl⟩:=List.mem_map.1 hv'
  show (#[z0,z1,z2,z3][i % 4]!).oneCell'=true
  rcases (by omega:i % 4=0∨i % 4=1∨i % 4=2∨i % 4=3) with h | h | h | h
  ·rw [h];exact hz z0 (by simp)
  ·rw [h];exact hz z1 (by simp)
  ·rw [h];exact hz z2 (by simp)
  ·rw [h];exact hz z3 (by simp)
 have hst:=run_storeCells_cells (P:=P) b o (Builtin.zeroCells #[z0,z1,z2,z3] n).toList 0 w (by simpa [hlen] using hc) (by simpa [hlen] using hf) hall
 simp only [Nat.add_zero] at hst
 obtain ⟨m,rfl⟩ : ∃ m,n=m+1:=⟨n - 1,by omega⟩
 simp [Builtin.clear_,run_underlying ht,hv,hzc,hst]
open Go.RowKit
/-- what is left behind: those that are some -/
def Deleted (B g c:Nat) (M:List Ud) (w:World) (e:Ending) (w':World):Prop := ∃ m,e = .returned (.slice (some ⟨g,0,none⟩) m c)∧m=(M.filter nzC).length∧Arr w' B g c (M.filter nzC)∧w.grownBy w' (some g)
theorem zero_ud (w:World):(zeroValue 51).run Try.prog w = .ok (.agg #[.slice none 0 0, .int .u64 0, .slice none 0 0, .int .i64 0]) w:=by kernel_rfl
/-- so far: K is kept, X is to be thrown away, R is to come -/
def DelIn (B g c:Nat) (M K X R:List Ud) (w wr:World) (j:Nat):Prop:=j=K.length+X.length∧M.filter nzC=K++R.filter nzC∧Arr wr B g c (K++(X++R))∧w.grownBy wr (some g)∧0<X.length
theorem DelIn.mk' {B g c:Nat} {M K X R:List Ud} {w wr wz:World} {j:Nat} (h:DelIn B g c M K X R w wr j) (hz:Ext wr wz):DelIn B g c M K X R w wz j:=⟨h.1,h.2.1,h.2.2.1.ext hz,h.2.2.2.1.trans (upd_ext hz g),h.2.2.2.2⟩
theorem DelIn.skip {B g c:Nat} {M K X R:List Ud} {x:Ud} {w wr wz:World} {j:Nat} (h:DelIn B g c M K X (x :: R) w wr j) (hx:nzC x=false) (hz:Ext wr wz):DelIn B g c M K (X++[x]) R w wz (j+1):=by
 obtain ⟨h1,h2,h3,h4,h5⟩:=h
 refine ⟨by rw [List.length_append,List.length_singleton];omega,by rw [h2,List.filter_cons_of_neg (by simp [hx])],?_,h4.trans (upd_ext hz g),by rw [List.length_append];omega⟩
 have e:K++(X++[x]++R)=K++(X++x :: R):=by simp
 rw [e]
 exact h3.ext hz
theorem DelIn.keep {B g c i:Nat} {M K X R:List Ud} {x y:Ud} {w wr:World} {j:Nat} (h:DelIn B g c M K (y :: X) (x :: R) w wr j) (hx:nzC x=true) (hi:i=K.length) {n m:Nat} (hn:n=x.l.length) (hm:m=x.t.l.length) :
  DelIn B g c M (K++[x]) (X++[x]) R w (put4 wr g i x n m) (j+1):=by
 subst hi hn hm
 obtain ⟨h1,h2,h3,h4,h5⟩:=h
 refine ⟨by simp only [List.length_append,List.length_cons,List.length_nil] at h1 ⊢;omega,by rw [h2,List.filter_cons_of_pos hx];simp,?_,h4.trans (upd_put4 wr g _ _ _ _),by rw [List.length_append,List.length_singleton];omega⟩
 have h6:=h3.set K.length x
 have e:(K++(y :: X++x :: R)).set K.length x=K++[x]++(X++[x]++R):=by
  rw [List.cons_append,set_mid]
  simp
 rw [e] at h6
 exact h6
set_option maxRecDepth 100000 in
set_option maxHeartbeats 4000000 in
theorem deleteFunc_any (B g c n:Nat) (M:List Ud) (w:World) (hn:n=M.length) (h:Arr w B g c M) :
  Calls Try.prog 43 #[.slice (some ⟨g,0,none⟩) n c, .func (.func 44) #[] #[]] w (Deleted B g c M w):=by
 by_cases hall : ∀ x∈M,(x.d==0)=false
 ·have hf:M.filter nzC=M:=List.filter_eq_self.2 fun x hx=>by unfold nzC;rw [hall x hx];rfl
  have H:=Lib.hid h
  have HN:=Lib.hid hn
  have HF:=Lib.hid hf
  clear h hn hf
  go_enter Try.func43,Try.ntmps43
  go_wp2_with (go_at_call 60;refine (index_none B g c n M _ HN.out H.out hall).mono ?_;rintro e w1 ⟨rfl,x1⟩)
  go_ret
  exact ⟨n,rfl,by rw [HF.out];exact HN.out,by rw [HF.out];exact H.out.ext x1,upd_ext x1 g⟩
 ·obtain ⟨P,x,Q,rfl,hP,hx⟩ : ∃ P x Q,M=P++x :: Q∧(∀ y∈P,(y.d==0)=false)∧(x.d==0)=true:=by
   clear h hn
   induction M with
   | nil=>exact absurd (fun x hx=>(nomatch hx)) hall
   | cons y M ih =>
    by_cases hy:(y.d==0)=true
    ·exact ⟨[],y,M,rfl,fun z hz=>(nomatch hz),hy⟩
    ·have hy':(y.d==0)=false:=by simpa using hy
     obtain ⟨P,x,Q,e,h1,h2⟩:=ih (fun q=>hall fun z hz=>(List.mem_cons.1 hz).elim (fun e=>e ▸ hy') (q z))
     exact ⟨y :: P,x,Q,by rw [e];rfl,fun z hz=>(List.mem_cons.1 hz).elim (fun e=>e ▸ hy') (h1 z),h2⟩
  clear hall
  obtain ⟨M,hM⟩ : ∃ M,M=P++x :: Q:=⟨_,rfl⟩
  obtain ⟨q,hq⟩ : ∃ q,q=P.length:=⟨_,rfl⟩
  have hnm:=h.le
  rw [← hn] at hnm
  have hqn:q<n:=by rw [hn,hq,List.length_append,List.length_cons];omega
  have hncap:n≤c:=by rw [hn];exact h.1.le.1
  have hc63:c≤9223372036854775807:=h.1.le.2
  have hf1:P.filter nzC=P:=List.filter_eq_self.2 fun y hy=>by unfold nzC;rw [hP y hy];rfl
  have H:=Lib.hid h
  have HN:=Lib.hid hn
  have HQ:=Lib.hid hq
  have HP:=Lib.hid hP
  have HX:=Lib.hid hx
  have HLen:Hid (n=q+1+Q.length):=Lib.hid (by rw [hn,hq,List.length_append,List.length_cons];omega)
  have HD : ∀ w1,Ext w w1→Hid (DelIn B g c M P [x] Q w w1 (q+1)):=fun w1 x1=>Lib.hid ⟨by rw [hq];rfl,by rw [hM,List.filter_append,hf1,List.filter_cons_of_neg (by unfold nzC;rw [hx];decide)],h.ext x1,upd_ext x1 g,Nat.zero_lt_one⟩
  have HDD:=Lib.hid HD
  rw [← hM]
  clear h hn hq hP hx hf1 hM HD
  go_enter Try.func43,Try.ntmps43
  go_wp2_with (go_at_call 60;refine (index_some B g c n q P Q x _ HN.out HQ.out H.out HP.out HX.out).mono ?_;rintro e w1 ⟨rfl,x1⟩)
  go_loopg [5,6] (n - (q+1)) (fun z u v wr => ∃ (i j:Nat) (K X R:List Ud),z=n - j∧j≤n∧i≤j∧u = .int .i64 i∧v = .int .i64 j∧Hid (i=K.length∧n=j+R.length)∧Hid (DelIn B g c M K X R w wr j))
  case atStart=>exact ⟨q,q+1,P,[x],Q,rfl,by omega,by omega,rfl,by simp,Lib.hid ⟨HQ.out,HLen.out⟩,HDD.out w1 x1⟩
  case round =>
   obtain ⟨i,j,K,X,R,rfl,hj,hij,rfl,rfl,HI,HJ⟩:=hrel
   obtain ⟨wi,hwi⟩ : ∃ wi:World,wi=wr:=⟨_,rfl⟩
   rw [← hwi] at HJ ⊢
   clear hwi
   by_cases hlt:j<n
   ·obtain ⟨y,R,rfl⟩ : ∃ y R',R=y :: R':=by
     cases R with
     | nil=>have:=HI.out.2;rw [List.length_nil] at this;omega
     | cons y R=>exact ⟨y,R,rfl⟩
    obtain ⟨x0,X,rfl⟩ : ∃ x0 X',X=x0 :: X':=by
     cases X with
     | nil=>have:=HJ.out.2.2.2.2;exact absurd this (by decide)
     | cons x0 X=>exact ⟨x0,X,rfl⟩
    have hA:=HJ.out.2.2.1
    have hjl:j<(K++(x0 :: X++y :: R)).length:=by have:=HJ.out.1;simp only [List.length_append,List.length_cons] at this ⊢;omega
    obtain ⟨p0,p1,p2,p3⟩:=hA.at hjl
    have e:(K++(x0 :: X++y :: R)).getD j Ud.zero=y:=by
     rw [← List.append_assoc,show j=(K++x0 :: X).length by rw [List.length_append];exact HJ.out.1]
     exact getD_mid _ y R
    rw [e] at p0 p1 p2 p3
    have f0:=hA.free (i * 4)
    have f0b:=hA.free (i * 4+1)
    have f1:=hA.free (i * 4+2)
    have f1b:=hA.free (i * 4+3)
    have c0 : ∃ u,wi.cell? ⟨g,i * 4,none⟩=some u:=Option.isSome_iff_exists.1 (hA.cells_past (by omega))
    obtain ⟨u0,c0⟩:=c0
    have c1 : ∃ u,wi.cell? ⟨g,i * 4+1,none⟩=some u:=Option.isSome_iff_exists.1 (hA.cells_past (by omega))
    obtain ⟨u1,c1⟩:=c1
    have c2 : ∃ u,wi.cell? ⟨g,i * 4+2,none⟩=some u:=Option.isSome_iff_exists.1 (hA.cells_past (by omega))
    obtain ⟨u2,c2⟩:=c2
    have c3 : ∃ u,wi.cell? ⟨g,i * 4+3,none⟩=some u:=Option.isSome_iff_exists.1 (hA.cells_past (by omega))
    obtain ⟨u3,c3⟩:=c3
    have HA:=Lib.hid hA
    obtain ⟨ny,hny⟩ : ∃ ny,ny=y.l.length:=⟨_,rfl⟩
    obtain ⟨ty,hty⟩ : ∃ ty,ty=y.t.l.length:=⟨_,rfl⟩
    rw [← hny] at p0;rw [← hty] at p2
    have HNY:=Lib.hid hny
    have HTY:=Lib.hid hty
    obtain ⟨v,hv⟩ : ∃ v,(y.d==0)=v:=⟨_,rfl⟩
    have HV:=Lib.hid hv
    clear hA hjl e hny hty hv
    cases v
    ·have hx:Hid (nzC y=true):=Lib.hid (by unfold nzC;rw [HV.out];rfl)
     go_wp2_with (go_at_call 44;refine (sum2_any _ _ _ _ _ _ _ _ _ _ HV).mono ?_;rintro e w2 ⟨rfl,x2⟩;have X2:=((Ext.refl wi).alloc (.cells #[.slice y.A ny y.c, .int .u64 y.t.e, .slice y.t.A ty y.t.c, .int .i64 y.d] 51)).trans x2;have B2:=(Bk.new wi 51 #[.slice y.A ny y.c, .int .u64 y.t.e, .slice y.t.A ty y.t.c, .int .i64 y.d]).ext x2;have b0:=B2.cell 0;have b1:=B2.cell 1;have b2:=B2.cell 2;have b3:=B2.cell 3;have HA2:=Lib.hid (HA.out.ext X2);have g0:=HA2.out.free (i * 4);have g1:=HA2.out.free (i * 4+1);have g2:=HA2.out.free (i * 4+2);have g3:=HA2.out.free (i * 4+3);have d0:=X2.cell c0;have d1:=X2.cell c1;have d2:=X2.cell c2;have d3:=X2.cell c3)
     go_roundg (n - (j+1))
     case measure=>omega
     case rel=>exact ⟨i+1,j+1,K++[y],X++[y],R,rfl,by omega,by omega,by go_num,by go_num,Lib.hid ⟨by rw [List.length_append,List.length_singleton, ← HI.out.1],by have:=HI.out.2;rw [List.length_cons] at this;omega⟩,Lib.hid ((DelIn.mk' HJ.out X2).keep hx.out HI.out.1 HNY.out HTY.out)⟩
    ·have hx:Hid (nzC y=false):=Lib.hid (by unfold nzC;rw [HV.out];rfl)
     go_wp2_with (go_at_call 44;refine (sum2_any _ _ _ _ _ _ _ _ _ _ HV).mono ?_;rintro e w2 ⟨rfl,x2⟩;have X2:=((Ext.refl wi).alloc (.cells #[.slice y.A ny y.c, .int .u64 y.t.e, .slice y.t.A ty y.t.c, .int .i64 y.d] 51)).trans x2)
     go_roundg (n - (j+1))
     case measure=>omega
     case rel=>exact ⟨i,j+1,K,x0 :: X++[y],R,rfl,by omega,by omega,rfl,by go_num,Lib.hid ⟨HI.out.1,by have:=HI.out.2;rw [List.length_cons] at this;omega⟩,Lib.hid (HJ.out.skip hx.out X2)⟩
   ·obtain rfl:j=n:=by omega
    have hR:R=[]:=List.eq_nil_of_length_eq_zero (by have:=HI.out.2;omega)
    subst hR
    have hA:=HJ.out.2.2.1
    have hin:i<j:=by have h1:=HJ.out.1;have h2:=HI.out.1;have h3:=HJ.out.2.2.2.2;omega
    have hcap:j - i≤c - i:=by omega
    have hci : ¬ (c=i):=by omega
    have hcl : ∃ vs, ∀ ty,(Builtin.clear_ #[33] ty #[.slice (some ⟨g,i * 4,none⟩) (j - i) (c - i)]).run Try.prog wi = .ok (.tuple #[]) (wi.setCells g (i * 4) vs) :=
     ⟨_,fun ty=>(run_clear4 (P:=Try.prog) wi 33 51 ty (.slice none 0 0) (.int .u64 0) (.slice none 0 0) (.int .i64 0) Try.underlying33 zero_ud (by intro v hv;simp at hv;rcases hv with rfl | rfl | rfl | rfl<;>rfl) rfl g (i * 4) (j - i) (c - i) (by omega) (fun t ht=>hA.cells_past (by omega)) (fun t ht=>hA.free _))⟩
    obtain ⟨vs,hcl⟩:=hcl
    have HA:=Lib.hid hA
    have HF:Hid (M.filter nzC=K):=Lib.hid (by have:=HJ.out.2.1;rwa [List.filter_nil,List.append_nil] at this)
    have HG:=Lib.hid HJ.out.2.2.2.1
    have HK:=Lib.hid HI.out.1
    clear hA HJ HI
    go_wp2
    go_ret
    refine ⟨i,rfl,by rw [HF.out];exact HK.out,?_,HG.out.trans (upd_sets g vs wi _)⟩
    rw [HF.out]
    have hp:=HA.out.prefix_
    exact ⟨own_sets_past vs wi _ hp.1 (by rw [udsC_len,HK.out];exact Nat.le_refl _),hp.2⟩
end Go.Proofs.Ytdgbkpoickbidaa.UdS
namespace Go.Proofs.Ytdgbkpoickbidaa
open Go.RowKit

namespace UdS
theorem map_snoc {α β:Type} {f:α→β} {O:List α} {M:List β} {y:β} (h:O.map f=M++[y]) : ∃ K z,O=K++[z]∧K.map f=M∧f z=y:=by
 obtain ⟨K,R,e,e1,e2⟩:=List.map_eq_append_iff.1 h
 cases R with
 | nil=>simp at e2
 | cons z R =>
  cases R with
  | cons z' R=>simp at e2
  | nil=>exact ⟨K,z,e,e1,by simpa using e2⟩
theorem ustable_map {O S:List Ud} (h:Stable cmpC O S):Stable cmpV (O.map Ud.uv) (S.map Ud.uv):=by
 refine ⟨List.pairwise_map.2 (h.sorted.imp fun q=>q),fun c=>?_⟩
 have e : ∀ K:List Ud,alike cmpV c (K.map Ud.uv)=(alike cmpC ⟨none,0,c.1.1,⟨c.1.2.1,none,0,c.1.2.2⟩,c.2⟩ K).map Ud.uv:=fun K=>by
  unfold alike
  rw [List.filter_map]
  rfl
 rw [e,e,h.same]
/-- the last one that was put down is like the last one that was read -/
theorem dlast {S O:List Ud} {j:Nat} (hs:S.Pairwise fun x y=>cmpC x y≤0) (hin : ∀ x∈S,InN x.uv) (h:O.map Ud.uv=mergeV ((S.take (j+1)).map Ud.uv)) (hj:j<S.length) :
  ∃ M y,O=M++[y] ∧ ∀ x:Ud,kcmp y.k x.k=0↔kcmp (S.getD j Ud.zero).k x.k=0:=by
 have hsub:(S.take (j+1)).Sublist S:=List.take_sublist _ _
 have k:=(merge_sum ((S.take (j+1)).map Ud.uv) (List.pairwise_map.2 ((hs.sublist hsub).imp fun q=>q)) (fun x hx=>by obtain ⟨y,hy,rfl⟩:=List.mem_map.1 hx;exact hin y (hsub.subset hy))).2
 rw [takeU hj] at k h
 rcases k with ⟨k,_⟩ | ⟨S0,s,M0,y,k1,k2,k3⟩
 ·simp at k
 ·rw [k2] at h
  obtain ⟨K,z,e,e1,e2⟩:=map_snoc h
  refine ⟨K,z,e,fun x=>?_⟩
  rw [List.map_append,List.map_singleton] at k1
  have hsz:=(List.append_inj' k1 rfl).2
  have hs2:(S.getD j Ud.zero).uv=s:=by simpa using hsz
  have k4:kcmp z.k (S.getD j Ud.zero).k=0:=by
   have:cmpV z.uv (S.getD j Ud.zero).uv=0:=by rw [e2,hs2];exact k3
   exact this
  exact kcmp_tot.eq_left k4
/-- while S is read: i of it are done -/
structure DSumAt (w w1:World) (S:List Ud) (wr:World) (i:Nat) (A:Option Addr) (c:Nat) (O:List Ud):Prop where
 out:Uout wr w.heap.size A c O
 is:O.map Ud.uv=mergeV ((S.take i).map Ud.uv)
 len:O.length≤i
 ext:Ext w1 wr
 lo:Ext w w1
variable {w w1 wr wz:World} {S O M:List Ud} {i:Nat} {A:Option Addr} {c:Nat} {x y:Ud}
theorem DSumAt.mono (h:DSumAt w w1 S wr i A c O) (q:Ext wr wz):DSumAt w w1 S wz i A c O:=⟨h.out.ext q,h.is,h.len,h.ext.trans q,h.lo⟩
theorem DSumAt.join {g m:Nat} {s:Int} (h:DSumAt w w1 S wr i (some ⟨g,0,none⟩) c (M++[y])) (hi:i<S.length) (hx:S.getD i Ud.zero=x) (hc:kcmp y.k x.k=0) (hm:m=M.length) (hs:w64 (y.d+x.d)=s) (hg:w1.heap.size≤g) :
  DSumAt w w1 S (wr.setCell ⟨g,m * 4+3,none⟩ (.int .i64 s)) (i+1) (some ⟨g,0,none⟩) c (M++[⟨y.A,y.c,y.l,y.t,s⟩]):=by
 subst hm hs
 refine ⟨h.out.bump _,?_,by have:=h.len;simp only [List.length_append,List.length_singleton] at this ⊢;omega,h.ext.set (p:=⟨g,_,none⟩) hg _,h.lo⟩
 rw [takeU hi,hx,List.map_append,List.map_append,List.map_singleton,List.map_singleton,mergeV_snoc, ← h.is,List.map_append,List.map_singleton,mergeStep_snoc,if_pos (show cmpV y.uv x.uv=0 from hc)]
 rfl
theorem dkeep_is (h:O.map Ud.uv=mergeV ((S.take i).map Ud.uv)) (hi:i<S.length) (hx:S.getD i Ud.zero=x) (hc:O=[] ∨ ∃ M y,O=M++[y] ∧ ¬ kcmp y.k x.k=0) {z:Ud} (hz:z.uv=x.uv):(O++[z]).map Ud.uv=mergeV ((S.take (i+1)).map Ud.uv):=by
 rw [takeU hi,hx,List.map_append,List.map_append,List.map_singleton,List.map_singleton,mergeV_snoc, ← h,hz]
 rcases hc with rfl | ⟨M,y,rfl,hc⟩
 ·rfl
 ·rw [List.map_append,List.map_singleton,mergeStep_snoc,if_neg (show ¬ cmpV y.uv x.uv=0 from hc)]
/-- what Sum hands back -/
def DSumRes (w:World) (L:List Ud) (e:Ending) (w':World):Prop := ∃ A m R,e = .returned (.slice A m m)∧m=R.length∧Uout w' w.heap.size A m R∧R.map Ud.uv=sumV (L.map Ud.uv)∧Ext w w'
theorem dsum_val {L S O:List Ud} (hin : ∀ x∈L,InN x.uv) (st:Stable cmpC L S) (h:O.map Ud.uv=mergeV (S.map Ud.uv)):(O.filter nzC).map Ud.uv=sumV (L.map Ud.uv):=by
 have h1:Summed (L.map Ud.uv) (O.map Ud.uv):=by
  rw [h]
  exact Summed.of_stable (ustable_map st) (fun y hy=>by obtain ⟨x,hx,rfl⟩:=List.mem_map.1 hy;exact hin x hx)
 have h2:=Summed.all (L.map Ud.uv) (fun y hy=>by obtain ⟨x,hx,rfl⟩:=List.mem_map.1 hy;exact hin x hx)
 unfold sumV
 rw [← h1.unique h2,List.filter_map]
 rfl
end UdS
open Go.RowKit
section
variable {α:Type} {cmp:α→α→Int}
theorem last_cases (s:List α):s=[] ∨ ∃ t y,s=t++[y]:=by
 rcases List.eq_nil_or_concat s with h | ⟨t,y,h⟩
 ·exact .inl h
 ·exact .inr ⟨t,y,by rw [h,List.concat_eq_append]⟩
theorem le_last (T:TotPre cmp) {t:List α} {y:α} (h:(t++[y]).Pairwise fun a b=>cmp a b≤0) : ∀ a∈t++[y],cmp a y≤0:=by
 intro a ha
 rcases List.mem_append.1 ha with q | q
 ·exact (List.pairwise_append.1 h).2.2 a q y (by simp)
 ·simp only [List.mem_singleton] at q
  subst q
  rw [T.refl];decide
theorem head_le (T:TotPre cmp) {t:List α} {y:α} (h:(y :: t).Pairwise fun a b=>cmp a b≤0) : ∀ a∈y :: t,cmp y a≤0:=by
 intro a ha
 rcases List.mem_cons.1 ha with q | q
 ·subst q
  rw [T.refl];decide
 ·exact (List.pairwise_cons.1 h).1 a q
/-- two sorted lists, each cut in two; the inner parts change places -/
theorem Stable.merge (T:TotPre cmp) {X1 X2 Y1 Y2 Z1 Z2:List α} (hX:(X1++X2).Pairwise fun a b=>cmp a b≤0) (hY:(Y1++Y2).Pairwise fun a b=>cmp a b≤0)
  (h1 : ∀ t x y s,X1=t++[x]→Y2=y :: s→cmp x y≤0) (h2 : ∀ t y x s,Y1=t++[y]→X2=x :: s→cmp y x<0)
  (s1:Stable cmp (X1++Y1) Z1) (s2:Stable cmp (X2++Y2) Z2):Stable cmp ((X1++X2)++(Y1++Y2)) (Z1++Z2):=by
 have pX:=List.pairwise_append.1 hX
 have pY:=List.pairwise_append.1 hY
 have a12 : ∀ a∈X1, ∀ b∈Y2,cmp a b≤0:=by
  intro a ha b hb
  rcases last_cases X1 with e | ⟨t,x,e⟩
  ·rw [e] at ha;cases ha
  ·cases hY2:Y2 with
   | nil=>rw [hY2] at hb;cases hb
   | cons y s =>
    have q1:=le_last T (e ▸ pX.1) a (e ▸ ha)
    have q2:=h1 t x y s e hY2
    have q3:=head_le T (hY2 ▸ pY.2.1) b (hY2 ▸ hb)
    exact T.trans _ _ _ (T.trans _ _ _ q1 q2) q3
 have a21 : ∀ a∈Y1, ∀ b∈X2,cmp a b<0:=by
  intro a ha b hb
  rcases last_cases Y1 with e | ⟨t,y,e⟩
  ·rw [e] at ha;cases ha
  ·cases hX2:X2 with
   | nil=>rw [hX2] at hb;cases hb
   | cons x s =>
    have q1:=le_last T (e ▸ pY.1) a (e ▸ ha)
    have q2:=h2 t y x s e hX2
    have q3:=head_le T (hX2 ▸ pX.2.1) b (hX2 ▸ hb)
    exact T.lt_of_lt_le (T.lt_of_le_lt q1 q2) q3
 refine ⟨List.pairwise_append.2 ⟨s1.sorted,s2.sorted,fun a ha b hb=>?_⟩,fun c=>?_⟩
 ·rcases List.mem_append.1 ((s1.mem T a).1 ha) with p | p<;>rcases List.mem_append.1 ((s2.mem T b).1 hb) with q | q
  ·exact pX.2.2 a p b q
  ·exact a12 a p b q
  ·exact Int.le_of_lt (a21 a p b q)
  ·exact pY.2.2 a p b q
 ·rw [alike_append,s1.same,s2.same,alike_append,alike_append,alike_append,alike_append,alike_append]
  have hc:alike cmp c Y1++alike cmp c X2=alike cmp c X2++alike cmp c Y1:=by
   cases e1:alike cmp c Y1 with
   | nil=>simp
   | cons y l1 =>
    cases e2:alike cmp c X2 with
    | nil=>simp
    | cons x l2 =>
     exfalso
     have my:y∈alike cmp c Y1:=by rw [e1];exact List.mem_cons_self ..
     have mx:x∈alike cmp c X2:=by rw [e2];exact List.mem_cons_self ..
     obtain ⟨hy,qy⟩:=List.mem_filter.1 my
     obtain ⟨hx,qx⟩:=List.mem_filter.1 mx
     have qy:cmp c y=0:=by simpa using qy
     have qx:cmp c x=0:=by simpa using qx
     have:=a21 y hy x hx
     have:=(T.eq_left qy).1 qx
     omega
  rw [List.append_assoc,List.append_assoc, ← List.append_assoc (alike cmp c Y1),hc,List.append_assoc]
/-- a list that is sorted is its own sorted one -/
theorem Stable.self {l:List α} (h:l.Pairwise fun a b=>cmp a b≤0):Stable cmp l l:=⟨h,fun _=>rfl⟩
/-- S is O, each block of so many of them sorted by itself -/
inductive Bks (cmp:α→α→Int) (s:Nat):List α→List α→Prop
 | last (O S:List α) (h:O.length≤s) (k:Stable cmp O S):Bks cmp s O S
 | more (O S O' S':List α) (h:O.length=s) (k:Stable cmp O S) (r:Bks cmp s O' S'):Bks cmp s (O++O') (S++S')
theorem Stable.nil_of {S:List α} (T:TotPre cmp) (h:Stable cmp [] S):S=[]:=h.unique T Stable.nil
theorem Bks.none (T:TotPre cmp) {s:Nat} (hs:0<s) {O S:List α} (h:Bks cmp s O S) (ho:O=[]):S=[]:=by
 cases h with
 | last _ _ _ k=>subst ho;exact k.nil_of T
 | more O1 S1 O2 S2 h1 _ _ =>
  have:=congrArg List.length ho
  rw [List.length_append,List.length_nil] at this
  omega
theorem Bks.all (T:TotPre cmp) {s:Nat} (hs:0<s) {O S:List α} (h:Bks cmp s O S) (hl:O.length≤s):Stable cmp O S:=by
 cases h with
 | last _ _ _ k=>exact k
 | more O1 S1 O2 S2 h1 k r =>
  rw [List.length_append] at hl
  have e:O2=[]:=List.eq_nil_of_length_eq_zero (by omega)
  have e2:=r.none T hs e
  subst e e2
  rw [List.append_nil,List.append_nil]
  exact k
theorem Bks.mem (T:TotPre cmp) {s:Nat} {O S:List α} (h:Bks cmp s O S) (x:α):x∈S↔x∈O:=by
 induction h with
 | last O S _ k=>exact k.mem T x
 | more O1 S1 O2 S2 _ k _ ih=>rw [List.mem_append,List.mem_append,k.mem T,ih]
theorem Bks.len (T : ∀ {O S:List α},Stable cmp O S→S.length=O.length) {s:Nat} {O S:List α} (h:Bks cmp s O S):S.length=O.length:=by
 induction h with
 | last O S _ k=>exact T k
 | more O1 S1 O2 S2 _ k _ ih=>rw [List.length_append,List.length_append,T k,ih]
/-- two blocks at the head -/
theorem Bks.two {s:Nat} (hs:0<s) {O S:List α} (h:Bks cmp s O S) (hl:2 * s≤O.length) :
  ∃ O1 S1 O2 S2 O3 S3,O=O1++(O2++O3)∧S=S1++(S2++S3)∧O1.length=s∧O2.length=s∧Stable cmp O1 S1∧Stable cmp O2 S2∧Bks cmp s O3 S3:=by
 cases h with
 | last _ _ h _=>omega
 | more O1 S1 O2 S2 h1 k r =>
  rw [List.length_append] at hl
  cases r with
  | last _ _ h2 k2=>exact ⟨O1,S1,O2,S2,[],[],by rw [List.append_nil],by rw [List.append_nil],h1,by omega,k,k2, .last [] [] (Nat.zero_le _) Stable.nil⟩
  | more O2 S2 O3 S3 h2 k2 r2=>exact ⟨O1,S1,O2,S2,O3,S3,rfl,rfl,h1,h2,k,k2,r2⟩
/-- one block at the head, less than one behind it -/
theorem Bks.rest (T:TotPre cmp) {s:Nat} (hs:0<s) {O S:List α} (h:Bks cmp s O S) (h1:s<O.length) (h2:O.length<2 * s) :
  ∃ O1 S1 O2 S2,O=O1++O2∧S=S1++S2∧O1.length=s∧Stable cmp O1 S1∧Stable cmp O2 S2:=by
 cases h with
 | last _ _ h _=>omega
 | more O1 S1 O2 S2 h3 k r =>
  rw [List.length_append] at h2
  exact ⟨O1,S1,O2,S2,rfl,rfl,h3,k,r.all T hs (by omega)⟩
end
end Go.Proofs.Ytdgbkpoickbidaa
namespace Go.Proofs.Ytdgbkpoickbidaa.UdS
open Go.RowKit

theorem getD_here {P Q:List Ud} {x:Ud} {p:Nat} (hp:p=P.length):(P++x :: Q).getD p Ud.zero=x:=by subst hp;exact getD_mid P x Q
theorem Arr.here {w:World} {B g c p:Nat} {P Q:List Ud} {x:Ud} (h:Arr w B g c (P++x :: Q)) (hp:p=P.length) :
  w.cell? ⟨g,p * 4,none⟩=some (.slice x.A x.l.length x.c)∧w.cell? ⟨g,p * 4+1,none⟩=some (.int .u64 x.t.e)∧w.cell? ⟨g,p * 4+2,none⟩=some (.slice x.t.A x.t.l.length x.t.c)∧w.cell? ⟨g,p * 4+3,none⟩=some (.int .i64 x.d):=by
 have:=h.at (i:=p) (by subst hp;simp)
 rwa [getD_here hp] at this
theorem set_two (P M Q:List Ud) (x y:Ud):((P++x :: (M++y :: Q)).set P.length y).set (P.length+1+M.length) x=P++y :: (M++x :: Q):=by
 rw [set_mid]
 have:=set_mid (P++y :: M) y x Q
 simp only [List.append_assoc,List.cons_append,List.length_append,List.length_cons] at this
 rwa [show P.length+1+M.length=P.length+(M.length+1) by omega]
theorem set_two' (P M Q:List Ud) (x y:Ud):((P++x :: (M++y :: Q)).set (P.length+1+M.length) x).set P.length y=P++y :: (M++x :: Q):=by
 have:=set_mid (P++x :: M) y x Q
 simp only [List.append_assoc,List.cons_append,List.length_append,List.length_cons] at this
 rw [show P.length+1+M.length=P.length+(M.length+1) by omega,this,set_mid]
section
variable {w:World} {B g c p q:Nat} {P M Q:List Ud} {x y:Ud}
/-- the first one is written first -/
theorem Arr.swapA (h:Arr w B g c (P++x :: (M++y :: Q))) (hp:p=P.length) (hq:q=P.length+1+M.length) {nx ny tx ty:Nat} (hx:nx=x.l.length) (hy:ny=y.l.length) (hx2:tx=x.t.l.length) (hy2:ty=y.t.l.length) :
  Arr (put4 (put4 w g p y ny ty) g q x nx tx) B g c (P++y :: (M++x :: Q)):=by
 subst hp hq hx hy hx2 hy2
 have h1:=(h.set P.length y).set (P.length+1+M.length) x
 rwa [set_two] at h1
/-- the second one is written first -/
theorem Arr.swapB (h:Arr w B g c (P++x :: (M++y :: Q))) (hp:p=P.length) (hq:q=P.length+1+M.length) {nx ny tx ty:Nat} (hx:nx=x.l.length) (hy:ny=y.l.length) (hx2:tx=x.t.l.length) (hy2:ty=y.t.l.length) :
  Arr (put4 (put4 w g q x nx tx) g p y ny ty) B g c (P++y :: (M++x :: Q)):=by
 subst hp hq hx hy hx2 hy2
 have h1:=(h.set (P.length+1+M.length) x).set P.length y
 rwa [set_two'] at h1
end
theorem cons_of {α:Type} {l:List α} (h:0<l.length) : ∃ x t,l=x :: t:=by
 cases l with
 | nil=>exact absurd h (Nat.lt_irrefl 0)
 | cons x t=>exact ⟨x,t,rfl⟩
open Go.RowKit
/-- the loop's relation -/
def SwIn (B g c:Nat) (P X M Y Q:List Ud) (w wi:World) (i:Nat) (X1 X2 Y1 Y2:List Ud):Prop :=
 X=X1++X2∧Y=Y1++Y2∧X1.length=i∧Y1.length=i∧Arr wi B g c (P++(Y1++(X2++(M++(X1++(Y2++Q))))))∧w.grownBy wi (some g)
theorem SwIn.form {B g c:Nat} {P X M Y Q:List Ud} {w wi:World} {i:Nat} {X1 X2 Y1 Y2:List Ud} {x y:Ud} (h:SwIn B g c P X M Y Q w wi i X1 (x :: X2) Y1 (y :: Y2)) :
  Arr wi B g c ((P++Y1)++x :: ((X2++(M++X1))++y :: (Y2++Q))):=by
 have:=h.2.2.2.2.1
 have e:P++(Y1++(x :: X2++(M++(X1++(y :: Y2++Q)))))=(P++Y1)++x :: ((X2++(M++X1))++y :: (Y2++Q)):=by simp
 rwa [e] at this
theorem SwIn.ext {B g c:Nat} {P X M Y Q:List Ud} {w wi wz:World} {i:Nat} {X1 X2 Y1 Y2:List Ud} (h:SwIn B g c P X M Y Q w wi i X1 X2 Y1 Y2) (z:Ext wi wz):SwIn B g c P X M Y Q w wz i X1 X2 Y1 Y2 :=
 ⟨h.1,h.2.1,h.2.2.1,h.2.2.2.1,h.2.2.2.2.1.ext z,h.2.2.2.2.2.trans (upd_ext z g)⟩
theorem SwIn.step {B g c a b p q:Nat} {P X M Y Q:List Ud} {w wi:World} {i:Nat} {X1 X2 Y1 Y2:List Ud} {x y:Ud} (h:SwIn B g c P X M Y Q w wi i X1 (x :: X2) Y1 (y :: Y2)) (ha:a=P.length) (hb:b=P.length+X.length+M.length) (hp:p=a+i) (hq:q=b+i) {nx ny tx ty:Nat} (hx:nx=x.l.length) (hy:ny=y.l.length) (hx2:tx=x.t.l.length) (hy2:ty=y.t.l.length) {wj:World} (hz:Ext wi wj) :
  SwIn B g c P X M Y Q w (put4 (put4 wj g p y ny ty) g q x nx tx) (i+1) (X1++[x]) X2 (Y1++[y]) Y2:=by
 have hf:=h.form.ext hz
 obtain ⟨h1,h2,h3,h4,h5,h6⟩:=h
 have h7:=hf.swapA (p:=p) (q:=q) (by rw [List.length_append];omega) (by
  have:=congrArg List.length h1
  simp only [List.length_append,List.length_cons] at this ⊢
  omega) hx hy hx2 hy2
 refine ⟨by rw [h1];simp,by rw [h2];simp,by rw [List.length_append,List.length_singleton];omega,by rw [List.length_append,List.length_singleton];omega,?_,(h6.trans (upd_ext hz g)).trans upd_swap⟩
 have e:P++(Y1++[y]++(X2++(M++(X1++[x]++(Y2++Q)))))=(P++Y1)++y :: ((X2++(M++X1))++x :: (Y2++Q)):=by simp
 rw [e]
 exact h7
set_option maxRecDepth 100000 in
set_option maxHeartbeats 4000000 in
theorem swapR_any (B g c n a b k:Nat) (P X M Y Q:List Ud) (w:World) (ha:a=P.length) (hb:b=P.length+X.length+M.length) (hx:k=X.length) (hy:k=Y.length) (hn:n=(P++(X++(M++(Y++Q)))).length) (h:Arr w B g c (P++(X++(M++(Y++Q))))) :
  Calls Try.prog 85 #[.slice (some ⟨g,0,none⟩) n c, .int .i64 a, .int .i64 b, .int .i64 k, .func (.func 40) #[] #[]] w fun e w'=>e = .returned (.tuple #[])∧Arr w' B g c (P++(Y++(M++(X++Q))))∧w.grownBy w' (some g):=by
 have hnm:=h.le
 rw [← hn] at hnm
 have hbk:b+k≤n:=by rw [hb,hn];simp only [List.length_append];omega
 have hak:a+k≤b:=by omega
 have HA:=Lib.hid ha
 have HB:=Lib.hid hb
 have HX:=Lib.hid hx
 have HY:=Lib.hid hy
 have HI:Hid (SwIn B g c P X M Y Q w w 0 [] X [] Y):=Lib.hid ⟨rfl,rfl,rfl,rfl,h,World.grownBy.refl w _⟩
 clear ha hb hx hy hn h
 go_enter Try.func85,Try.ntmps85
 go_wp2
 go_loopg [10] k (fun z v wr => ∃ (i:Nat) (X1 X2 Y1 Y2:List Ud),z=k - i∧i≤k∧v = .int .i64 i∧Hid (SwIn B g c P X M Y Q w wr i X1 X2 Y1 Y2))
 case atStart=>exact ⟨0,[],X,[],Y,rfl,Nat.zero_le _,rfl,HI⟩
 case round =>
  obtain ⟨i,X1,X2,Y1,Y2,rfl,hi,rfl,HJ⟩:=hrel
  clear HI
  by_cases hlt:i<k
  ·obtain ⟨x,X2,rfl⟩:=cons_of (l:=X2) (by
    obtain ⟨q1,q2,q3,q4,_⟩:=HJ.out
    have:=HX.out
    rw [q1,List.length_append] at this
    omega)
   obtain ⟨y,Y2,rfl⟩:=cons_of (l:=Y2) (by
    obtain ⟨q1,q2,q3,q4,_⟩:=HJ.out
    have:=HY.out
    rw [q2,List.length_append] at this
    omega)
   have hf:=HJ.out.form
   obtain ⟨px0,px1,px2,px3⟩:=hf.here (p:=a+i) (by rw [List.length_append];have:=HA.out;have:=HJ.out.2.2.2.1;omega)
   have hf2:Arr wr B g c ((P++(Y1++(x :: X2++(M++X1))))++y :: (Y2++Q)):=by
    have e:(P++Y1)++x :: ((X2++(M++X1))++y :: (Y2++Q))=(P++(Y1++(x :: X2++(M++X1))))++y :: (Y2++Q):=by simp
    rwa [e] at hf
   obtain ⟨py0,py1,py2,py3⟩:=hf2.here (p:=b+i) (by
    obtain ⟨q1,q2,q3,q4,_⟩:=HJ.out
    have e1:=congrArg List.length q1
    have e2:=HB.out
    simp only [List.length_append,List.length_cons] at e1 ⊢
    omega)
   have f0:=hf.free ((a+i) * 4)
   have f0b:=hf.free ((a+i) * 4+1)
   have f1:=hf.free ((a+i) * 4+2)
   have f1b:=hf.free ((a+i) * 4+3)
   have f2:=hf.free ((b+i) * 4)
   have f2b:=hf.free ((b+i) * 4+1)
   have f3:=hf.free ((b+i) * 4+2)
   have f3b:=hf.free ((b+i) * 4+3)
   obtain ⟨nx,hnx⟩ : ∃ nx,nx=x.l.length:=⟨_,rfl⟩
   obtain ⟨tx,htx⟩ : ∃ tx,tx=x.t.l.length:=⟨_,rfl⟩
   obtain ⟨ny,hny⟩ : ∃ ny,ny=y.l.length:=⟨_,rfl⟩
   obtain ⟨ty,hty⟩ : ∃ ty,ty=y.t.l.length:=⟨_,rfl⟩
   rw [← hnx] at px0;rw [← htx] at px2
   rw [← hny] at py0;rw [← hty] at py2
   have HNX:=Lib.hid hnx
   have HTX:=Lib.hid htx
   have HNY:=Lib.hid hny
   have HTY:=Lib.hid hty
   have XE:Ext wr wr.drew:=(Ext.refl wr).drew
   have PY0 : ∀ z:Xt wr.drew,z.W.cell? ⟨g,(b+i) * 4,none⟩=some (.slice y.A ny y.c):=fun z=>(XE.trans z.x).cell py0
   have PY1 : ∀ z:Xt wr.drew,z.W.cell? ⟨g,(b+i) * 4+1,none⟩=some (.int .u64 y.t.e):=fun z=>(XE.trans z.x).cell py1
   have PY2 : ∀ z:Xt wr.drew,z.W.cell? ⟨g,(b+i) * 4+2,none⟩=some (.slice y.t.A ty y.t.c):=fun z=>(XE.trans z.x).cell py2
   have PY3 : ∀ z:Xt wr.drew,z.W.cell? ⟨g,(b+i) * 4+3,none⟩=some (.int .i64 y.d):=fun z=>(XE.trans z.x).cell py3
   have PX0 : ∀ z:Xt wr.drew,z.W.cell? ⟨g,(a+i) * 4,none⟩=some (.slice x.A nx x.c):=fun z=>(XE.trans z.x).cell px0
   have PX1 : ∀ z:Xt wr.drew,z.W.cell? ⟨g,(a+i) * 4+1,none⟩=some (.int .u64 x.t.e):=fun z=>(XE.trans z.x).cell px1
   have PX2 : ∀ z:Xt wr.drew,z.W.cell? ⟨g,(a+i) * 4+2,none⟩=some (.slice x.t.A tx x.t.c):=fun z=>(XE.trans z.x).cell px2
   have PX3 : ∀ z:Xt wr.drew,z.W.cell? ⟨g,(a+i) * 4+3,none⟩=some (.int .i64 x.d):=fun z=>(XE.trans z.x).cell px3
   clear hf hf2 hnx hny htx hty
   go_upto_region 3 with fail
   refine wp_region_ord [0,0,0,6,0,0,0,96,0,0,0,1536,3840,7936,0,0,0,98304,245760,507904,1048335,2096911,4194303,8388607] (.flo [0,1,2,3,8,9,10,11,12,13,14,15,16,17,18,19,20] (.pur [4,5,6,7] (.one 21 (.flo [22] (.one 23 (.fin)))))) (by kernel_rfl) (by kernel_rfl) (by intro _ _ d _ _ h;cases d<;>exact h) ?_
   (refine ord_flo (pick_cons rfl (pick_cons rfl (pick_cons rfl (pick_cons rfl (pick_cons rfl (pick_cons rfl (pick_cons rfl (pick_cons rfl (pick_cons rfl (pick_cons rfl (pick_cons rfl (pick_cons rfl (pick_cons rfl (pick_cons rfl (pick_cons rfl (pick_cons rfl (pick_cons rfl pick_nil))))))))))))))))) ?_;(repeat (go_big_quiet_step (fail)));refine wpQuiet_nil ?_;show ordWalk _ _ _ _ _ _ _)
   (refine ord_pur (pick_cons rfl (pick_cons rfl (pick_cons rfl (pick_cons rfl pick_nil)))) ?_;(repeat (go_big_quiet_step (fail)));refine wpQuiet_nil ?_;show ordWalk _ _ _ _ _ _ _)
   refine ord_one (pick_cons rfl pick_nil) ?_;intro K_ hK_
   go_wp2
   (refine ord_flo (pick_cons rfl pick_nil) ?_;(repeat (go_big_quiet_step (fail)));refine wpQuiet_nil ?_;show ordWalk _ _ _ _ _ _ _)
   refine ord_one (pick_cons rfl pick_nil) ?_;intro K_ hK_
   go_wp2
   refine ord_fin ?_
   go_wp2
   go_roundg (k - (i+1))
   case measure=>omega
   case rel=>exact ⟨i+1,X1++[x],X2,Y1++[y],Y2,rfl,by omega,by go_num,Lib.hid ((HJ.out.step HA.out HB.out rfl rfl HNX.out HNY.out HTX.out HTY.out (Ext.refl _)).ext (Ext.refl _).drew)⟩
  ·have hik:i=k:=by omega
   obtain ⟨q1,q2,q3,q4,q5,q6⟩:=HJ.out
   have e1:X2=[]:=List.eq_nil_of_length_eq_zero (by have:=HX.out;rw [q1,List.length_append] at this;omega)
   have e2:Y2=[]:=List.eq_nil_of_length_eq_zero (by have:=HY.out;rw [q2,List.length_append] at this;omega)
   subst e1 e2
   have HQ5:Hid (Arr wr B g c (P++(Y++(M++(X++Q))))):=Lib.hid (by
    rw [List.append_nil] at q1 q2
    rw [q1,q2]
    simpa using q5)
   have HQ6:=Lib.hid q6
   clear q1 q2 q3 q4 q5 q6
   go_wp2
   go_end0
   exact ⟨rfl,HQ5.out,HQ6.out⟩
open Go.RowKit
/-- the loop's relation: D is what shall be -/
def RotIn (B g c m:Nat) (D:List Ud) (w wi:World) (i j p:Nat) (P U V Q:List Ud):Prop :=
 D=P++(V++(U++Q))∧U.length=i∧V.length=j∧P.length=p∧m=p+i∧0<i∧0<j∧Arr wi B g c (P++(U++(V++Q)))∧w.grownBy wi (some g)
theorem RotIn.left {B g c m:Nat} {D:List Ud} {w wi wj:World} {i j p:Nat} {P U1 U2 V Q:List Ud} (h:RotIn B g c m D w wi i j p P (U1++U2) V Q) (h1:U1.length=j) (h2:0<i - j)
  (ha:Arr wj B g c (P++(V++(U2++(U1++Q))))) (hg:wi.grownBy wj (some g)):RotIn B g c m D w wj (i - j) j (p+j) (P++V) U2 U1 Q:=by
 obtain ⟨q1,q2,q3,q4,q5,q6,q7,q8,q9⟩:=h
 rw [List.length_append] at q2
 refine ⟨by rw [q1];simp,by omega,h1,by rw [List.length_append];omega,by omega,h2,q7,?_,q9.trans hg⟩
 rw [List.append_assoc]
 exact ha
theorem RotIn.right {B g c m:Nat} {D:List Ud} {w wi wj:World} {i j p:Nat} {P U V1 V2 Q:List Ud} (h:RotIn B g c m D w wi i j p P U (V1++V2) Q) (h1:V2.length=i) (h2:0<j - i)
  (ha:Arr wj B g c (P++(V2++(V1++(U++Q))))) (hg:wi.grownBy wj (some g)):RotIn B g c m D w wj i (j - i) p P V2 V1 (U++Q):=by
 obtain ⟨q1,q2,q3,q4,q5,q6,q7,q8,q9⟩:=h
 rw [List.length_append] at q3
 exact ⟨by rw [q1];simp,h1,by omega,q4,q5,q6,h2,ha,q9.trans hg⟩
theorem cut_at {α:Type} (l:List α) (k:Nat) (h:k≤l.length) : ∃ l1 l2,l=l1++l2∧l1.length=k:=⟨l.take k,l.drop k,(List.take_append_drop k l).symm,by rw [List.length_take];omega⟩
set_option maxRecDepth 100000 in
set_option maxHeartbeats 4000000 in
theorem rot_any (B g c n a m b:Nat) (P U V Q:List Ud) (w:World) (ha:a=P.length) (hm:m=a+U.length) (hb:b=m+V.length) (hu:0<U.length) (hv:0<V.length) (hn:n=(P++(U++(V++Q))).length) (h:Arr w B g c (P++(U++(V++Q)))) :
  Calls Try.prog 76 #[.slice (some ⟨g,0,none⟩) n c, .int .i64 a, .int .i64 m, .int .i64 b, .func (.func 40) #[] #[]] w fun e w'=>e = .returned (.tuple #[])∧Arr w' B g c (P++(V++(U++Q)))∧w.grownBy w' (some g):=by
 have hnm:=h.le
 rw [← hn] at hnm
 have hbn:b≤n:=by rw [hb,hm,ha,hn];simp only [List.length_append];omega
 obtain ⟨i0,hi0⟩ : ∃ i,i=U.length:=⟨_,rfl⟩
 obtain ⟨j0,hj0⟩ : ∃ j,j=V.length:=⟨_,rfl⟩
 obtain ⟨D,hD⟩ : ∃ D,D=P++(V++(U++Q)):=⟨_,rfl⟩
 have HN:Hid (n=D.length):=Lib.hid (by rw [hn,hD];simp only [List.length_append];omega)
 have HI:Hid (RotIn B g c m D w w i0 j0 a P U V Q):=Lib.hid ⟨hD,hi0.symm,hj0.symm,ha.symm,by omega,by omega,by omega,h,World.grownBy.refl w _⟩
 have e1:(m:Int) - (a:Int)=(i0:Int):=by omega
 have e2:(b:Int) - (m:Int)=(j0:Int):=by omega
 have hij:i0+j0≤n:=by omega
 rw [← hD]
 clear ha hm hb hu hv hn h hi0 hj0 hD
 go_enter Try.func76,Try.ntmps76
 go_wp2
 go_loopg [10,11] (i0+j0) (fun z u v wr => ∃ (i j p:Nat) (P U V Q:List Ud),z=i+j∧i+j≤n∧u = .int .i64 i∧v = .int .i64 j∧Hid (RotIn B g c m D w wr i j p P U V Q))
 case atStart=>exact ⟨i0,j0,a,P,U,V,Q,rfl,hij,rfl,rfl,HI⟩
 case round =>
  obtain ⟨i,j,p,P,U,V,Q,rfl,hs,rfl,rfl,HJ⟩:=hrel
  clear HI e1 e2
  have hmi:(m:Int) - (i:Int)=(p:Int):=by have:=HJ.out.2.2.2.2.1;omega
  have hmn:m+j≤n:=by
   obtain ⟨q1,q2,q3,q4,q5,_⟩:=HJ.out
   have:=HN.out
   rw [q1] at this
   simp only [List.length_append] at this
   omega
  have him:i≤m:=by have:=HJ.out.2.2.2.2.1;omega
  rcases Nat.lt_trichotomy i j with hlt | heq | hgt
  ·obtain ⟨V1,V2,rfl,hv1⟩:=cut_at V (j - i) (by have:=HJ.out.2.2.1;omega)
   have z1:((i:Int)==(j:Int))=false:=by rw [beq_eq_false_iff_ne];omega
   have z2 : ¬ (j:Int)<i:=by omega
   have hmj:(m:Int)+(j:Int) - (i:Int)=((p+j:Nat):Int):=by omega
   have hji:(j:Int) - (i:Int)=((j - i:Nat):Int):=by omega
   have HV1:=Lib.hid hv1
   clear hv1
   go_wp2_with (go_at_call 85;refine (swapR_any B g c n p (p+j) i P U V1 V2 Q _ HJ.out.2.2.2.1.symm (by have:=HV1.out;have:=HJ.out;have:=this.2.1;have:=HJ.out.2.2.2.1;omega) HJ.out.2.1.symm (by have:=HJ.out.2.2.1;rw [List.length_append] at this;have:=HV1.out;omega) (by rw [HN.out,HJ.out.1];simp only [List.length_append];omega) (by have:=HJ.out.2.2.2.2.2.2.2.1;rwa [List.append_assoc] at this)).mono ?_;rintro e w1 ⟨rfl,a1,g1⟩;have HJ1:=Lib.hid (HJ.out.right (by have:=HJ.out.2.2.1;rw [List.length_append] at this;have:=HV1.out;omega) (by omega) a1 g1);clear a1 g1)
   go_roundg (i+(j - i))
   case measure=>have:=HJ.out.2.2.2.2.2.1;omega
   case rel=>exact ⟨i,j - i,p,P,V2,V1,U++Q,rfl,by omega,rfl,by go_num,HJ1⟩
  ·subst heq
   have z1:((i:Int)==(i:Int))=true:=by simp
   go_wp2_with (go_at_call 85;refine (swapR_any B g c n p m i P U [] V Q _ HJ.out.2.2.2.1.symm (by have:=HJ.out.2.1;have:=HJ.out.2.2.2.1;have:=HJ.out.2.2.2.2.1;simp only [List.length_nil];omega) HJ.out.2.1.symm HJ.out.2.2.1.symm (by rw [HN.out,HJ.out.1];simp only [List.length_append,List.length_nil];omega) HJ.out.2.2.2.2.2.2.2.1).mono ?_;rintro e w1 ⟨rfl,a1,g1⟩;have HA1:Hid (Arr w1 B g c D):=Lib.hid (by rw [HJ.out.1];exact a1);have HG1:=Lib.hid (HJ.out.2.2.2.2.2.2.2.2.trans g1);clear a1 g1)
   go_end0
   exact ⟨rfl,HA1.out,HG1.out⟩
  ·obtain ⟨U1,U2,rfl,hu1⟩:=cut_at U j (by have:=HJ.out.2.1;omega)
   have z1:((i:Int)==(j:Int))=false:=by rw [beq_eq_false_iff_ne];omega
   have z2:(j:Int)<i:=by omega
   have hji:(i:Int) - (j:Int)=((i - j:Nat):Int):=by omega
   have HU1:=Lib.hid hu1
   clear hu1
   go_wp2_with (go_at_call 85;refine (swapR_any B g c n p m j P U1 U2 V Q _ HJ.out.2.2.2.1.symm (by have:=HJ.out.2.1;rw [List.length_append] at this;have:=HJ.out.2.2.2.1;have:=HJ.out.2.2.2.2.1;omega) HU1.out.symm HJ.out.2.2.1.symm (by rw [HN.out,HJ.out.1];simp only [List.length_append];omega) (by have:=HJ.out.2.2.2.2.2.2.2.1;rwa [List.append_assoc] at this)).mono ?_;rintro e w1 ⟨rfl,a1,g1⟩;have HJ1:=Lib.hid (HJ.out.left HU1.out (by omega) a1 g1);clear a1 g1)
   go_roundg (i - j+j)
   case measure=>have:=HJ.out.2.2.2.2.2.2.1;omega
   case rel=>exact ⟨i - j,j,p+j,P++V,U2,U1,Q,rfl,by omega,by go_num,rfl,HJ1⟩
open Go.RowKit
def SortedC (l:List Ud):Prop:=l.Pairwise fun x y=>cmpC x y≤0
theorem SortedC.left {l m:List Ud} (h:SortedC (l++m)):SortedC l:=(List.pairwise_append.1 h).1
theorem SortedC.right {l m:List Ud} (h:SortedC (l++m)):SortedC m:=(List.pairwise_append.1 h).2.1
theorem getD_left {l m:List Ud} {i:Nat} (h:i<l.length):(l++m).getD i Ud.zero=l.getD i Ud.zero:=by
 rw [List.getD_eq_getElem?_getD,List.getElem?_append_left h,List.getD_eq_getElem?_getD]
theorem getD_right {l m:List Ud} {i:Nat} (h:l.length≤i):(l++m).getD i Ud.zero=m.getD (i - l.length) Ud.zero:=by
 rw [List.getD_eq_getElem?_getD,List.getElem?_append_right h,List.getD_eq_getElem?_getD]
theorem mem_getD {l:List Ud} {i:Nat} (h:i<l.length):l.getD i Ud.zero∈l:=by
 rw [List.getD_eq_getElem?_getD,List.getElem?_eq_getElem h]
 exact List.getElem_mem h
theorem mem_mid {P X R:List Ud} {i:Nat} (h1:P.length≤i) (h2:i<P.length+X.length):(P++(X++R)).getD i Ud.zero∈X:=by
 rw [getD_right h1,getD_left (by omega)]
 exact mem_getD (by omega)
/-- an element behind what is ahead of it -/
theorem getD_of {L P Q:List Ud} {x:Ud} {i:Nat} (h:L=P++x :: Q) (hi:i=P.length):L.getD i Ud.zero=x:=by
 rw [h];exact getD_here hi
/-- where the general search ends -/
theorem sym_split {P X Y Q L:List Ud} {a m b mid n p s lo hi:Nat} (hL:L=P++(X++(Y++Q))) (ha:a=P.length) (hm:m=a+X.length) (hb:b=m+Y.length) (hmid:mid=(a+b) / 2) (hn:n=mid+m) (hp:n=p+1)
  (hc:(mid<m∧lo=n - b∧hi=mid)∨(m≤mid∧lo=a∧hi=m)) (h1:lo≤s) (h2:s≤hi) (hA:lo<s → ¬ cmpC (L.getD (n - s) Ud.zero) (L.getD (s - 1) Ud.zero)<0) (hB:s<hi→cmpC (L.getD (p - s) Ud.zero) (L.getD s Ud.zero)<0) :
  ∃ X1 X2 Y1 Y2,X=X1++X2∧Y=Y1++Y2∧s=a+X1.length∧n - s=m+Y1.length∧mid=a+(X1.length+Y1.length) ∧
   (∀ t x y u,X1=t++[x]→Y2=y :: u→cmpC x y≤0)∧(∀ t y x u,Y1=t++[y]→X2=x :: u→cmpC y x<0):=by
 have hs1:a≤s∧s≤m:=by omega
 have hs2:m≤n - s∧n - s≤b:=by omega
 obtain ⟨X1,X2,hX,hX1⟩:=cut_at X (s - a) (by omega)
 obtain ⟨Y1,Y2,hY,hY1⟩:=cut_at Y (n - s - m) (by omega)
 have lX:X.length=X1.length+X2.length:=by rw [hX,List.length_append]
 have lY:Y.length=Y1.length+Y2.length:=by rw [hY,List.length_append]
 refine ⟨X1,X2,Y1,Y2,hX,hY,by omega,by omega,by omega,fun t x y u e1 e2=>?_,fun t y x u e1 e2=>?_⟩
 ·have l1:X1.length=t.length+1:=by rw [e1,List.length_append,List.length_singleton]
  have l2:Y2.length=u.length+1:=by rw [e2,List.length_cons]
  have:=hA (by omega)
  rw [getD_of (L:=L) (P:=P++X++Y1) (Q:=u++Q) (x:=y) (by rw [hL,hY,e2];simp) (by simp only [List.length_append];omega),getD_of (L:=L) (P:=P++t) (Q:=X2++(Y++Q)) (x:=x) (by rw [hL,hX,e1];simp) (by simp only [List.length_append];omega)] at this
  rw [cmpC_tot.neg]
  omega
 ·have l1:Y1.length=t.length+1:=by rw [e1,List.length_append,List.length_singleton]
  have l2:X2.length=u.length+1:=by rw [e2,List.length_cons]
  have:=hB (by omega)
  rw [getD_of (L:=L) (P:=P++X++t) (Q:=Y2++Q) (x:=y) (by rw [hL,hY,e1];simp) (by simp only [List.length_append];omega),getD_of (L:=L) (P:=P++X1) (Q:=u++(Y++Q)) (x:=x) (by rw [hL,hX,e2];simp) (by simp only [List.length_append];omega)] at this
  exact this
/-- one element, behind it a sorted list: where it goes -/
theorem one_split {P Y Q L:List Ud} {x:Ud} {a m b i:Nat} (hL:L=P++([x]++(Y++Q))) (ha:a=P.length) (hm:m=a+1) (hb:b=m+Y.length) (h1:m≤i) (h2:i≤b) (hY:SortedC Y)
  (hA:m<i→cmpC (L.getD (i - 1) Ud.zero) x<0) (hB:i<b → ¬ cmpC (L.getD i Ud.zero) x<0) :
  ∃ Y1 Y2,Y=Y1++Y2∧i=m+Y1.length∧Stable cmpC ([x]++Y) (Y1++x :: Y2):=by
 obtain ⟨Y1,Y2,hS,hY1⟩:=cut_at Y (i - m) (by omega)
 have lY:Y.length=Y1.length+Y2.length:=by rw [hS,List.length_append]
 have hf : ∀ y u,Y2=y :: u→cmpC x y≤0:=fun y u e=>by
  have l2:Y2.length=u.length+1:=by rw [e,List.length_cons]
  have:=hB (by omega)
  rw [getD_of (L:=L) (P:=P++([x]++Y1)) (Q:=u++Q) (x:=y) (by rw [hL,hS,e];simp) (by simp only [List.length_append,List.length_singleton];omega)] at this
  rw [cmpC_tot.neg]
  omega
 refine ⟨Y1,Y2,hS,by omega,?_⟩
 rw [hS] at hY
 have hx2:SortedC (x :: Y2):=List.pairwise_cons.2 ⟨fun z hz=>by
  cases h:Y2 with
  | nil=>rw [h] at hz;cases hz
  | cons y u=>exact cmpC_tot.trans _ _ _ (hf y u h) (head_le cmpC_tot (h ▸ hY.right) z (h ▸ hz)),hY.right⟩
 have:=Stable.merge cmpC_tot (X1:=[]) (X2:=[x]) (Y1:=Y1) (Y2:=Y2) (Z1:=Y1) (Z2:=x :: Y2) (by rw [List.nil_append];exact List.pairwise_singleton _ _) hY (fun t z y s e=>by cases t<;>cases e) (fun t y z s e1 e2=>by
  injection e2 with e2 _
  subst e2
  have l1:Y1.length=t.length+1:=by rw [e1,List.length_append,List.length_singleton]
  have:=hA (by omega)
  rwa [getD_of (L:=L) (P:=P++([x]++t)) (Q:=Y2++Q) (x:=y) (by rw [hL,hS,e1];simp) (by simp only [List.length_append,List.length_singleton];omega)] at this) (by rw [List.nil_append];exact Stable.self hY.left) (Stable.self hx2)
 rw [hS]
 exact this
/-- a sorted list, behind it one element: where that goes -/
theorem last_split {P X Q L:List Ud} {y:Ud} {a m i:Nat} (hL:L=P++(X++([y]++Q))) (ha:a=P.length) (hm:m=a+X.length) (h1:a≤i) (h2:i≤m) (hX:SortedC X)
  (hA:a<i → ¬ cmpC y (L.getD (i - 1) Ud.zero)<0) (hB:i<m→cmpC y (L.getD i Ud.zero)<0) :
  ∃ X1 X2,X=X1++X2∧i=a+X1.length∧Stable cmpC (X++[y]) (X1++y :: X2):=by
 obtain ⟨X1,X2,hS,hX1⟩:=cut_at X (i - a) (by omega)
 have lX:X.length=X1.length+X2.length:=by rw [hS,List.length_append]
 refine ⟨X1,X2,hS,by omega,?_⟩
 refine Stable.insert cmpC_tot (Stable.self (hS ▸ hX) |> fun h=>(hS ▸ h:Stable cmpC X (X1++X2))) (fun z hz=>?_) (fun z hz=>?_)
 ·cases h:X2 with
  | nil=>rw [h] at hz;cases hz
  | cons x u =>
   have l2:X2.length=u.length+1:=by rw [h,List.length_cons]
   have:=hB (by omega)
   rw [getD_of (L:=L) (P:=P++X1) (Q:=u++([y]++Q)) (x:=x) (by rw [hL,hS,h];simp) (by simp only [List.length_append];omega)] at this
   rw [hS] at hX
   exact cmpC_tot.lt_of_lt_le this (head_le cmpC_tot (h ▸ hX.right) z (h ▸ hz))
 ·rcases last_cases X1 with e | ⟨t,x,e⟩
  ·rw [e] at hz;cases hz
  ·rw [e,List.getLast?_append,List.getLast?_singleton] at hz
   have hz:x=z:=by simpa using hz
   subst hz
   have l1:X1.length=t.length+1:=by rw [e,List.length_append,List.length_singleton]
   have:=hA (by omega)
   rwa [getD_of (L:=L) (P:=P++t) (Q:=X2++([y]++Q)) (x:=x) (by rw [hL,hS,e];simp) (by simp only [List.length_append];omega)] at this
open Go.RowKit
/-- what a merge leaves behind -/
def SymRes (B g c:Nat) (P S Q:List Ud) (w:World) (e:Ending) (w':World):Prop:=e = .returned (.tuple #[]) ∧ ∃ Z,Stable cmpC S Z∧Arr w' B g c (P++(Z++Q))∧w.grownBy w' (some g)
def OneIn (L:List Ud) (x:Ud) (m b i j:Nat):Prop:=(m<i→cmpC (L.getD (i - 1) Ud.zero) x<0)∧(j<b → ¬ cmpC (L.getD j Ud.zero) x<0)
/-- the element on its way -/
def WayIn (B g c a:Nat) (P Y1 R:List Ud) (x:Ud) (w wi:World) (k:Nat) (Ya Yb:List Ud):Prop :=
 Y1=Ya++Yb∧k=a+Ya.length∧Arr wi B g c (P++(Ya++x :: (Yb++R)))∧w.grownBy wi (some g)
theorem WayIn.ext {B g c a:Nat} {P Y1 R:List Ud} {x:Ud} {w wi wz:World} {k:Nat} {Ya Yb:List Ud} (h:WayIn B g c a P Y1 R x w wi k Ya Yb) (z:Ext wi wz):WayIn B g c a P Y1 R x w wz k Ya Yb:=⟨h.1,h.2.1,h.2.2.1.ext z,h.2.2.2.trans (upd_ext z g)⟩
theorem WayIn.step {B g c a:Nat} {P Y1 R:List Ud} {x y:Ud} {w wi wj:World} {k k1:Nat} {Ya Yb:List Ud} (h:WayIn B g c a P Y1 R x w wi k Ya (y :: Yb)) (ha:a=P.length) (hk:k1=k+1) {nx ny tx ty:Nat} (hx:nx=x.l.length) (hy:ny=y.l.length) (hx2:tx=x.t.l.length) (hy2:ty=y.t.l.length) (hz:Ext wi wj) :
  WayIn B g c a P Y1 R x w (put4 (put4 wj g k y ny ty) g k1 x nx tx) (k+1) (Ya++[y]) Yb:=by
 obtain ⟨h1,h2,h3,h4⟩:=h
 have e:P++(Ya++x :: (y :: Yb++R))=(P++Ya)++x :: ([]++y :: (Yb++R)):=by simp
 have hf:=h3.ext hz
 rw [e] at hf
 have h7:=hf.swapA (p:=k) (q:=k1) (by rw [List.length_append];omega) (by rw [List.length_append,List.length_nil];omega) hx hy hx2 hy2
 refine ⟨by rw [h1];simp,by rw [List.length_append,List.length_singleton];omega,?_,(h4.trans (upd_ext hz g)).trans upd_swap⟩
 have e2:P++(Ya++[y]++x :: (Yb++R))=(P++Ya)++y :: ([]++x :: (Yb++R)):=by simp
 rw [e2]
 exact h7
set_option maxRecDepth 100000 in
set_option maxHeartbeats 8000000 in
theorem symOne_any (B g c n a m b:Nat) (P Y Q:List Ud) (x:Ud) (w:World) (ha:a=P.length) (hm:m=a+1) (hb:b=m+Y.length) (hn:n=(P++([x]++(Y++Q))).length) (hY:SortedC Y) (h:Arr w B g c (P++([x]++(Y++Q)))) (hr:Rws w g ([x]++Y)) (hbig:n≤1000000000) :
  Calls Try.prog 67 #[.slice (some ⟨g,0,none⟩) n c, .int .i64 a, .int .i64 m, .int .i64 b, .func (.func 40) #[] #[]] w (SymRes B g c P ([x]++Y) Q w):=by
 have hnm:=h.le
 rw [← hn] at hnm
 obtain ⟨L,hL⟩ : ∃ L,L=P++([x]++(Y++Q)):=⟨_,rfl⟩
 have hbn:b≤n:=by rw [hb,hm,ha,hn];simp only [List.length_append,List.length_singleton];omega
 have HA:=Lib.hid ha
 have HB:=Lib.hid hb
 have HM:=Lib.hid hm
 have HL:=Lib.hid hL
 have HY:=Lib.hid hY
 have HR:=Lib.hid hr
 have HN:Hid (n=L.length):=Lib.hid (by rw [hL];exact hn)
 have H:Hid (Arr w B g c L):=Lib.hid (by rw [hL];exact h)
 have e1:(m:Int) - (a:Int)=1:=by omega
 have hmb:m≤b:=by omega
 have ham:a<m:=by omega
 clear ha hm hb hn hY h hr hL
 go_enter Try.func67,Try.ntmps67
 go_wp2
 go_loopg [10,11] (b - m) (fun z u v wr => ∃ i j:Nat,z=j - i∧u = .int .i64 i∧v = .int .i64 j∧m≤i∧i≤j∧j≤b∧Hid (OneIn L x m b i j)∧Ext w wr)
 case atStart=>exact ⟨m,b,rfl,rfl,rfl,Nat.le_refl _,hmb,Nat.le_refl _,Lib.hid ⟨fun h=>absurd h (Nat.lt_irrefl _),fun h=>absurd h (Nat.lt_irrefl _)⟩,Ext.refl _⟩
 case round =>
  obtain ⟨i,j,rfl,rfl,rfl,h1,h2,h3,HO,er⟩:=hrel
  by_cases hlt:i<j
  ·obtain ⟨q,hq⟩ : ∃ q,q=(i+j) / 2:=⟨_,rfl⟩
   have hqi:i≤q:=by omega
   have hqj:q<j:=by omega
   have hqq:((i:Int)+(j:Int)) / 2=(q:Int):=by omega
   have hA:=H.out.ext er
   have hqL:q<L.length:=by rw [← HN.out];omega
   obtain ⟨py0,py1,py2,py3⟩:=hA.at hqL
   have hx:=hA
   rw [HL.out] at hx
   obtain ⟨px0,px1,px2,px3⟩:=Arr.here (Q:=Y++Q) hx HA.out
   have hmem:L.getD q Ud.zero∈[x]++Y:=List.mem_append_right _ (by
    rw [HL.out]
    have:=mem_mid (P:=P++[x]) (X:=Y) (R:=Q) (i:=q) (by rw [List.length_append,List.length_singleton, ← HA.out, ← HM.out];omega) (by rw [List.length_append,List.length_singleton, ← HA.out, ← HM.out, ← HB.out];omega)
    rwa [List.append_assoc] at this)
   have HMY:=Lib.hid hmem
   obtain ⟨y,hy⟩ : ∃ y,y=L.getD q Ud.zero:=⟨_,rfl⟩
   rw [← hy] at py0 py1 py2 py3 HMY
   have HYQ:=Lib.hid hy
   obtain ⟨nx,hnx⟩ : ∃ nx,nx=x.l.length:=⟨_,rfl⟩
   obtain ⟨tx,htx⟩ : ∃ tx,tx=x.t.l.length:=⟨_,rfl⟩
   obtain ⟨ny,hny⟩ : ∃ ny,ny=y.l.length:=⟨_,rfl⟩
   obtain ⟨ty,hty⟩ : ∃ ty,ty=y.t.l.length:=⟨_,rfl⟩
   rw [← hnx] at px0;rw [← htx] at px2
   rw [← hny] at py0;rw [← hty] at py2
   have HNX:=Lib.hid hnx
   have HTX:=Lib.hid htx
   have HNY:=Lib.hid hny
   have HTY:=Lib.hid hty
   have XE:Ext wr wr.drew:=(Ext.refl wr).drew
   have HRX:=Lib.hid (((HR.out x (by simp)).1.ext er).ext XE)
   have HRY:=Lib.hid (((HR.out y HMY.out).1.ext er).ext XE)
   obtain ⟨v,hv⟩ : ∃ v,cmpC y x=v:=⟨_,rfl⟩
   have HV:=Lib.hid hv
   have PY0 : ∀ z:Xt wr.drew,z.W.cell? ⟨g,q * 4,none⟩=some (.slice y.A ny y.c):=fun z=>(XE.trans z.x).cell py0
   have PY1 : ∀ z:Xt wr.drew,z.W.cell? ⟨g,q * 4+1,none⟩=some (.int .u64 y.t.e):=fun z=>(XE.trans z.x).cell py1
   have PY2 : ∀ z:Xt wr.drew,z.W.cell? ⟨g,q * 4+2,none⟩=some (.slice y.t.A ty y.t.c):=fun z=>(XE.trans z.x).cell py2
   have PY3 : ∀ z:Xt wr.drew,z.W.cell? ⟨g,q * 4+3,none⟩=some (.int .i64 y.d):=fun z=>(XE.trans z.x).cell py3
   have PX0 : ∀ z:Xt wr.drew,z.W.cell? ⟨g,a * 4,none⟩=some (.slice x.A nx x.c):=fun z=>(XE.trans z.x).cell px0
   have PX1 : ∀ z:Xt wr.drew,z.W.cell? ⟨g,a * 4+1,none⟩=some (.int .u64 x.t.e):=fun z=>(XE.trans z.x).cell px1
   have PX2 : ∀ z:Xt wr.drew,z.W.cell? ⟨g,a * 4+2,none⟩=some (.slice x.t.A tx x.t.c):=fun z=>(XE.trans z.x).cell px2
   have PX3 : ∀ z:Xt wr.drew,z.W.cell? ⟨g,a * 4+3,none⟩=some (.int .i64 x.d):=fun z=>(XE.trans z.x).cell px3
   clear hA hqL hx hmem hnx hny htx hty hv hy hq
   by_cases hv0:v<0
   ·have zv:decide (v<0)=true:=by simpa using hv0
    go_upto_region 5 with fail
    refine wp_region_ord [0,0,0,6,14,0,0,96,224,511,1023] (.flo [0,1,2,3,4,5,6,7,8] (.one 9 (.flo [10] (.fin)))) (by kernel_rfl) (by kernel_rfl) (by intro _ _ d _ _ h;cases d<;>exact h) ?_
    (refine ord_flo (pick_cons rfl (pick_cons rfl (pick_cons rfl (pick_cons rfl (pick_cons rfl (pick_cons rfl (pick_cons rfl (pick_cons rfl (pick_cons rfl pick_nil))))))))) ?_;(repeat (go_big_quiet_step (fail)));refine wpQuiet_nil ?_;show ordWalk _ _ _ _ _ _ _)
    refine ord_one (pick_cons rfl pick_nil) ?_;intro K_ hK_
    go_wp2_with (go_at_call 40;refine (order_any y x ny nx ty tx v _ HV HNY HNX HTY HTX HRY HRX).mono ?_;rintro e w1 ⟨rfl,x1⟩)
    (refine ord_flo (pick_cons rfl pick_nil) ?_;(repeat (go_big_quiet_step (fail)));refine wpQuiet_nil ?_;show ordWalk _ _ _ _ _ _ _)
    refine ord_fin ?_
    go_wp2
    go_roundg (j - (q+1))
    case measure=>omega
    case rel=>exact ⟨q+1,j,rfl,by go_num,rfl,by omega,by omega,h3,Lib.hid ⟨fun _=>by rw [Nat.add_sub_cancel, ← HYQ.out];show cmpC y x<0;rw [HV.out];exact hv0,HO.out.2⟩,er.trans (XE.trans x1)⟩
   ·have zv:decide (v<0)=false:=by simpa using hv0
    go_upto_region 5 with fail
    refine wp_region_ord [0,0,0,6,14,0,0,96,224,511,1023] (.flo [0,1,2,3,4,5,6,7,8] (.one 9 (.flo [10] (.fin)))) (by kernel_rfl) (by kernel_rfl) (by intro _ _ d _ _ h;cases d<;>exact h) ?_
    (refine ord_flo (pick_cons rfl (pick_cons rfl (pick_cons rfl (pick_cons rfl (pick_cons rfl (pick_cons rfl (pick_cons rfl (pick_cons rfl (pick_cons rfl pick_nil))))))))) ?_;(repeat (go_big_quiet_step (fail)));refine wpQuiet_nil ?_;show ordWalk _ _ _ _ _ _ _)
    refine ord_one (pick_cons rfl pick_nil) ?_;intro K_ hK_
    go_wp2_with (go_at_call 40;refine (order_any y x ny nx ty tx v _ HV HNY HNX HTY HTX HRY HRX).mono ?_;rintro e w1 ⟨rfl,x1⟩)
    (refine ord_flo (pick_cons rfl pick_nil) ?_;(repeat (go_big_quiet_step (fail)));refine wpQuiet_nil ?_;show ordWalk _ _ _ _ _ _ _)
    refine ord_fin ?_
    go_wp2
    go_roundg (q - i)
    case measure=>omega
    case rel=>exact ⟨i,q,rfl,rfl,rfl,h1,hqi,by omega,Lib.hid ⟨HO.out.1,fun _=>by rw [← HYQ.out];show ¬ cmpC y x<0;rw [HV.out];omega⟩,er.trans (XE.trans x1)⟩
  ·obtain rfl:i=j:=by omega
   obtain ⟨Y1,Y2,k1,k2,k3⟩:=one_split HL.out HA.out HM.out HB.out h1 h3 HY.out HO.out.1 HO.out.2
   have HK:=Lib.hid k3
   have HY1:=Lib.hid k1
   have HI2:=Lib.hid k2
   have HW:Hid (WayIn B g c a P Y1 (Y2++Q) x w wr a [] Y1):=Lib.hid ⟨rfl,rfl,by
    have:=H.out.ext er
    rw [HL.out,k1] at this
    simpa using this,upd_ext er g⟩
   have hi1:(i:Int) - 1=((i - 1:Nat):Int):=by omega
   have hi2:i - 1=a+Y1.length:=by have:=HM.out;omega
   have HI3:=Lib.hid hi2
   clear k1 k2 k3 hi2 HO
   obtain ⟨wo,hwo⟩ : ∃ wo:World,wo=wr:=⟨_,rfl⟩
   rw [← hwo] at HW er ⊢
   clear hwo
   go_wp2
   go_loopg [13] (i - 1 - a) (fun z u wr => ∃ (k:Nat) (Ya Yb:List Ud),z=i - 1 - k∧u = .int .i64 k∧a≤k∧k≤i - 1∧Hid (WayIn B g c a P Y1 (Y2++Q) x w wr k Ya Yb))
   case atStart=>exact ⟨a,[],Y1,rfl,rfl,Nat.le_refl _,by omega,HW⟩
   case round =>
    obtain ⟨k,Ya,Yb,rfl,rfl,hk1,hk2,HJ⟩:=hrel
    clear HW
    by_cases hkl:k<i - 1
    ·obtain ⟨y,Yb,rfl⟩:=cons_of (l:=Yb) (by
      obtain ⟨q1,q2,_⟩:=HJ.out
      have:=HI3.out
      rw [q1,List.length_append] at this
      omega)
     have hf:=HJ.out.2.2.1
     have e2:P++(Ya++x :: (y :: Yb++(Y2++Q)))=(P++Ya)++x :: (y :: (Yb++(Y2++Q))):=by simp
     rw [e2] at hf
     have hkP:k=(P++Ya).length:=by rw [List.length_append, ← HA.out];exact HJ.out.2.1
     obtain ⟨px0,px1,px2,px3⟩:=hf.here hkP
     have e3:(P++Ya)++x :: (y :: (Yb++(Y2++Q)))=(P++Ya++[x])++y :: (Yb++(Y2++Q)):=by simp
     have hf2:=hf
     rw [e3] at hf2
     obtain ⟨py0,py1,py2,py3⟩:=hf2.here (p:=k+1) (by rw [List.length_append, ← hkP,List.length_singleton])
     have f0:=hf.free (k * 4)
     have f0b:=hf.free (k * 4+1)
     have f1:=hf.free (k * 4+2)
     have f1b:=hf.free (k * 4+3)
     have f2:=hf.free ((k+1) * 4)
     have f2b:=hf.free ((k+1) * 4+1)
     have f3:=hf.free ((k+1) * 4+2)
     have f3b:=hf.free ((k+1) * 4+3)
     obtain ⟨nx,hnx⟩ : ∃ nx,nx=x.l.length:=⟨_,rfl⟩
     obtain ⟨tx,htx⟩ : ∃ tx,tx=x.t.l.length:=⟨_,rfl⟩
     obtain ⟨ny,hny⟩ : ∃ ny,ny=y.l.length:=⟨_,rfl⟩
     obtain ⟨ty,hty⟩ : ∃ ty,ty=y.t.l.length:=⟨_,rfl⟩
     rw [← hnx] at px0;rw [← htx] at px2
     rw [← hny] at py0;rw [← hty] at py2
     have HNX:=Lib.hid hnx
     have HTX:=Lib.hid htx
     have HNY:=Lib.hid hny
     have HTY:=Lib.hid hty
     have XE:Ext wr wr.drew:=(Ext.refl wr).drew
     have PY0 : ∀ z:Xt wr.drew,z.W.cell? ⟨g,(k+1) * 4,none⟩=some (.slice y.A ny y.c):=fun z=>(XE.trans z.x).cell py0
     have PY1 : ∀ z:Xt wr.drew,z.W.cell? ⟨g,(k+1) * 4+1,none⟩=some (.int .u64 y.t.e):=fun z=>(XE.trans z.x).cell py1
     have PY2 : ∀ z:Xt wr.drew,z.W.cell? ⟨g,(k+1) * 4+2,none⟩=some (.slice y.t.A ty y.t.c):=fun z=>(XE.trans z.x).cell py2
     have PY3 : ∀ z:Xt wr.drew,z.W.cell? ⟨g,(k+1) * 4+3,none⟩=some (.int .i64 y.d):=fun z=>(XE.trans z.x).cell py3
     have PX0 : ∀ z:Xt wr.drew,z.W.cell? ⟨g,k * 4,none⟩=some (.slice x.A nx x.c):=fun z=>(XE.trans z.x).cell px0
     have PX1 : ∀ z:Xt wr.drew,z.W.cell? ⟨g,k * 4+1,none⟩=some (.int .u64 x.t.e):=fun z=>(XE.trans z.x).cell px1
     have PX2 : ∀ z:Xt wr.drew,z.W.cell? ⟨g,k * 4+2,none⟩=some (.slice x.t.A tx x.t.c):=fun z=>(XE.trans z.x).cell px2
     have PX3 : ∀ z:Xt wr.drew,z.W.cell? ⟨g,k * 4+3,none⟩=some (.int .i64 x.d):=fun z=>(XE.trans z.x).cell px3
     clear hf hf2 e2 e3 hkP hnx hny htx hty
     go_upto_region 11 with fail
     refine wp_region_ord [0,0,0,0,8,0,0,64,224,480,0,0,3072,7168,16355,32739,65535,131071] (.flo [0,1,5,6,7,8,9,10,11,12,13,14] (.pur [2,3,4] (.one 15 (.flo [16] (.one 17 (.fin)))))) (by kernel_rfl) (by kernel_rfl) (by intro _ _ d _ _ h;cases d<;>exact h) ?_
     (refine ord_flo (pick_cons rfl (pick_cons rfl (pick_cons rfl (pick_cons rfl (pick_cons rfl (pick_cons rfl (pick_cons rfl (pick_cons rfl (pick_cons rfl (pick_cons rfl (pick_cons rfl (pick_cons rfl pick_nil)))))))))))) ?_;(repeat (go_big_quiet_step (fail)));refine wpQuiet_nil ?_;show ordWalk _ _ _ _ _ _ _)
     (refine ord_pur (pick_cons rfl (pick_cons rfl (pick_cons rfl pick_nil))) ?_;(repeat (go_big_quiet_step (fail)));refine wpQuiet_nil ?_;show ordWalk _ _ _ _ _ _ _)
     refine ord_one (pick_cons rfl pick_nil) ?_;intro K_ hK_
     go_wp2
     (refine ord_flo (pick_cons rfl pick_nil) ?_;(repeat (go_big_quiet_step (fail)));refine wpQuiet_nil ?_;show ordWalk _ _ _ _ _ _ _)
     refine ord_one (pick_cons rfl pick_nil) ?_;intro K_ hK_
     go_wp2
     refine ord_fin ?_
     go_wp2
     go_roundg (i - 1 - (k+1))
     case measure=>omega
     case rel=>exact ⟨k+1,Ya++[y],Yb,rfl,by go_num,by omega,by omega,Lib.hid ((HJ.out.step HA.out rfl HNX.out HNY.out HTX.out HTY.out (Ext.refl _)).ext (Ext.refl _).drew)⟩
    ·obtain rfl:k=i - 1:=by omega
     have HE:Hid (Yb=[]):=Lib.hid (by
      obtain ⟨q1,q2,_⟩:=HJ.out
      have:=HI3.out
      rw [q1,List.length_append] at this
      exact List.eq_nil_of_length_eq_zero (by omega))
     go_wp2
     refine bodyPost_ret (v := .tuple #[]) (by simp only [results,Try.results67];go_simp) rfl ?_
     obtain ⟨q1,q2,q3,q4⟩:=HJ.out
     rw [HE.out] at q1 q3
     rw [List.append_nil] at q1
     refine ⟨rfl,Y1++x :: Y2,HK.out,?_,q4⟩
     rw [q1]
     simpa using q3
open Go.RowKit
def LastIn (L:List Ud) (y:Ud) (a m i j:Nat):Prop:=(a<i → ¬ cmpC y (L.getD (i - 1) Ud.zero)<0)∧(j<m→cmpC y (L.getD j Ud.zero)<0)
/-- the element on its way -/
def BackIn (B g c a:Nat) (P X2 R:List Ud) (y:Ud) (w wi:World) (k:Nat) (Xa Xb:List Ud):Prop :=
 X2=Xa++Xb∧k=a+Xa.length∧Arr wi B g c (P++(Xa++y :: (Xb++R)))∧w.grownBy wi (some g)
theorem BackIn.ext {B g c a:Nat} {P X2 R:List Ud} {y:Ud} {w wi wz:World} {k:Nat} {Xa Xb:List Ud} (h:BackIn B g c a P X2 R y w wi k Xa Xb) (z:Ext wi wz):BackIn B g c a P X2 R y w wz k Xa Xb:=⟨h.1,h.2.1,h.2.2.1.ext z,h.2.2.2.trans (upd_ext z g)⟩
theorem BackIn.step {B g c a:Nat} {P X2 R:List Ud} {x y:Ud} {w wi wj:World} {k k1:Nat} {Xa Xb:List Ud} (h:BackIn B g c a P X2 R y w wi k (Xa++[x]) Xb) (ha:a=P.length) (hk:k=k1+1) {nx ny tx ty:Nat} (hx:nx=x.l.length) (hy:ny=y.l.length) (hx2:tx=x.t.l.length) (hy2:ty=y.t.l.length) (hz:Ext wi wj) :
  BackIn B g c a P X2 R y w (put4 (put4 wj g k x nx tx) g k1 y ny ty) k1 Xa (x :: Xb):=by
 obtain ⟨h1,h2,h3,h4⟩:=h
 rw [List.length_append,List.length_singleton] at h2
 have e:P++(Xa++[x]++y :: (Xb++R))=(P++Xa)++x :: ([]++y :: (Xb++R)):=by simp
 have hf:=h3.ext hz
 rw [e] at hf
 have h7:=hf.swapB (p:=k1) (q:=k) (by rw [List.length_append];omega) (by rw [List.length_append,List.length_nil];omega) hx hy hx2 hy2
 refine ⟨by rw [h1];simp,by omega,?_,(h4.trans (upd_ext hz g)).trans upd_swap⟩
 have e2:P++(Xa++y :: (x :: Xb++R))=(P++Xa)++y :: ([]++x :: (Xb++R)):=by simp
 rw [e2]
 exact h7
set_option maxRecDepth 100000 in
set_option maxHeartbeats 8000000 in
theorem symLast_any (B g c n a m b:Nat) (P X Q:List Ud) (y:Ud) (w:World) (ha:a=P.length) (hm:m=a+X.length) (hb:b=m+1) (hn:n=(P++(X++([y]++Q))).length) (hX:SortedC X) (h2:2≤X.length) (h:Arr w B g c (P++(X++([y]++Q)))) (hr:Rws w g (X++[y])) (hbig:n≤1000000000) :
  Calls Try.prog 67 #[.slice (some ⟨g,0,none⟩) n c, .int .i64 a, .int .i64 m, .int .i64 b, .func (.func 40) #[] #[]] w (SymRes B g c P (X++[y]) Q w):=by
 have hnm:=h.le
 rw [← hn] at hnm
 obtain ⟨L,hL⟩ : ∃ L,L=P++(X++([y]++Q)):=⟨_,rfl⟩
 have hbn:b≤n:=by rw [hb,hm,ha,hn];simp only [List.length_append,List.length_singleton];omega
 have HA:=Lib.hid ha
 have HB:=Lib.hid hb
 have HM:=Lib.hid hm
 have HL:=Lib.hid hL
 have HX:=Lib.hid hX
 have HR:=Lib.hid hr
 have HN:Hid (n=L.length):=Lib.hid (by rw [hL];exact hn)
 have H:Hid (Arr w B g c L):=Lib.hid (by rw [hL];exact h)
 have e1:((m:Int) - (a:Int)==1)=false:=by rw [beq_eq_false_iff_ne];omega
 have e2:(b:Int) - (m:Int)=1:=by omega
 have hmb:m<b:=by omega
 have ham:a≤m:=by omega
 clear ha hm hb hn hX h hr hL h2
 go_enter Try.func67,Try.ntmps67
 go_wp2
 go_loopg [14,15] (m - a) (fun z u v wr => ∃ i j:Nat,z=j - i∧u = .int .i64 i∧v = .int .i64 j∧a≤i∧i≤j∧j≤m∧Hid (LastIn L y a m i j)∧Ext w wr)
 case atStart=>exact ⟨a,m,rfl,rfl,rfl,Nat.le_refl _,ham,Nat.le_refl _,Lib.hid ⟨fun h=>absurd h (Nat.lt_irrefl _),fun h=>absurd h (Nat.lt_irrefl _)⟩,Ext.refl _⟩
 case round =>
  obtain ⟨i,j,rfl,rfl,rfl,h1,h2,h3,HO,er⟩:=hrel
  by_cases hlt:i<j
  ·obtain ⟨q,hq⟩ : ∃ q,q=(i+j) / 2:=⟨_,rfl⟩
   have hqi:i≤q:=by omega
   have hqj:q<j:=by omega
   have hqq:((i:Int)+(j:Int)) / 2=(q:Int):=by omega
   have hA:=H.out.ext er
   have hqL:q<L.length:=by rw [← HN.out];omega
   obtain ⟨py0,py1,py2,py3⟩:=hA.at hqL
   have hx:=hA
   rw [HL.out] at hx
   have ex:P++(X++([y]++Q))=(P++X)++y :: Q:=by simp
   rw [ex] at hx
   obtain ⟨px0,px1,px2,px3⟩:=hx.here (p:=m) (by rw [List.length_append, ← HA.out];exact HM.out)
   have hmem:L.getD q Ud.zero∈X++[y]:=List.mem_append_left _ (by
    rw [HL.out]
    exact mem_mid (by rw [← HA.out];omega) (by rw [← HA.out, ← HM.out];omega))
   have HMY:=Lib.hid hmem
   obtain ⟨x,hy⟩ : ∃ x,x=L.getD q Ud.zero:=⟨_,rfl⟩
   rw [← hy] at py0 py1 py2 py3 HMY
   have HYQ:=Lib.hid hy
   obtain ⟨nx,hnx⟩ : ∃ nx,nx=x.l.length:=⟨_,rfl⟩
   obtain ⟨tx,htx⟩ : ∃ tx,tx=x.t.l.length:=⟨_,rfl⟩
   obtain ⟨ny,hny⟩ : ∃ ny,ny=y.l.length:=⟨_,rfl⟩
   obtain ⟨ty,hty⟩ : ∃ ty,ty=y.t.l.length:=⟨_,rfl⟩
   rw [← hny] at px0;rw [← hty] at px2
   rw [← hnx] at py0;rw [← htx] at py2
   have HNX:=Lib.hid hnx
   have HTX:=Lib.hid htx
   have HNY:=Lib.hid hny
   have HTY:=Lib.hid hty
   have XE:Ext wr wr.drew:=(Ext.refl wr).drew
   have HRY:=Lib.hid (((HR.out y (by simp)).1.ext er).ext XE)
   have HRX:=Lib.hid (((HR.out x HMY.out).1.ext er).ext XE)
   obtain ⟨v,hv⟩ : ∃ v,cmpC y x=v:=⟨_,rfl⟩
   have HV:=Lib.hid hv
   have PY0 : ∀ z:Xt wr.drew,z.W.cell? ⟨g,q * 4,none⟩=some (.slice x.A nx x.c):=fun z=>(XE.trans z.x).cell py0
   have PY1 : ∀ z:Xt wr.drew,z.W.cell? ⟨g,q * 4+1,none⟩=some (.int .u64 x.t.e):=fun z=>(XE.trans z.x).cell py1
   have PY2 : ∀ z:Xt wr.drew,z.W.cell? ⟨g,q * 4+2,none⟩=some (.slice x.t.A tx x.t.c):=fun z=>(XE.trans z.x).cell py2
   have PY3 : ∀ z:Xt wr.drew,z.W.cell? ⟨g,q * 4+3,none⟩=some (.int .i64 x.d):=fun z=>(XE.trans z.x).cell py3
   have PX0 : ∀ z:Xt wr.drew,z.W.cell? ⟨g,m * 4,none⟩=some (.slice y.A ny y.c):=fun z=>(XE.trans z.x).cell px0
   have PX1 : ∀ z:Xt wr.drew,z.W.cell? ⟨g,m * 4+1,none⟩=some (.int .u64 y.t.e):=fun z=>(XE.trans z.x).cell px1
   have PX2 : ∀ z:Xt wr.drew,z.W.cell? ⟨g,m * 4+2,none⟩=some (.slice y.t.A ty y.t.c):=fun z=>(XE.trans z.x).cell px2
   have PX3 : ∀ z:Xt wr.drew,z.W.cell? ⟨g,m * 4+3,none⟩=some (.int .i64 y.d):=fun z=>(XE.trans z.x).cell px3
   clear hA hqL hx hmem hnx hny htx hty hv hy hq ex
   by_cases hv0:v<0
   ·have zv:decide (v<0)=true:=by simpa using hv0
    go_upto_region 17 with fail
    refine wp_region_ord [0,0,0,6,14,0,0,96,224,511,1023,2047] (.flo [0,1,2,3,4,5,6,7,8] (.one 9 (.flo [10,11] (.fin)))) (by kernel_rfl) (by kernel_rfl) (by intro _ _ d _ _ h;cases d<;>exact h) ?_
    (refine ord_flo (pick_cons rfl (pick_cons rfl (pick_cons rfl (pick_cons rfl (pick_cons rfl (pick_cons rfl (pick_cons rfl (pick_cons rfl (pick_cons rfl pick_nil))))))))) ?_;(repeat (go_big_quiet_step (fail)));refine wpQuiet_nil ?_;show ordWalk _ _ _ _ _ _ _)
    refine ord_one (pick_cons rfl pick_nil) ?_;intro K_ hK_
    go_wp2_with (go_at_call 40;refine (order_any y x ny nx ty tx v _ HV HNY HNX HTY HTX HRY HRX).mono ?_;rintro e w1 ⟨rfl,x1⟩)
    (refine ord_flo (pick_cons rfl (pick_cons rfl pick_nil)) ?_;(repeat (go_big_quiet_step (fail)));refine wpQuiet_nil ?_;show ordWalk _ _ _ _ _ _ _)
    refine ord_fin ?_
    go_wp2
    go_roundg (q - i)
    case measure=>omega
    case rel=>exact ⟨i,q,rfl,rfl,rfl,h1,hqi,by omega,Lib.hid ⟨HO.out.1,fun _=>by rw [← HYQ.out];show cmpC y x<0;rw [HV.out];exact hv0⟩,er.trans (XE.trans x1)⟩
   ·have zv:decide (v<0)=false:=by simpa using hv0
    go_upto_region 17 with fail
    refine wp_region_ord [0,0,0,6,14,0,0,96,224,511,1023,2047] (.flo [0,1,2,3,4,5,6,7,8] (.one 9 (.flo [10,11] (.fin)))) (by kernel_rfl) (by kernel_rfl) (by intro _ _ d _ _ h;cases d<;>exact h) ?_
    (refine ord_flo (pick_cons rfl (pick_cons rfl (pick_cons rfl (pick_cons rfl (pick_cons rfl (pick_cons rfl (pick_cons rfl (pick_cons rfl (pick_cons rfl pick_nil))))))))) ?_;(repeat (go_big_quiet_step (fail)));refine wpQuiet_nil ?_;show ordWalk _ _ _ _ _ _ _)
    refine ord_one (pick_cons rfl pick_nil) ?_;intro K_ hK_
    go_wp2_with (go_at_call 40;refine (order_any y x ny nx ty tx v _ HV HNY HNX HTY HTX HRY HRX).mono ?_;rintro e w1 ⟨rfl,x1⟩)
    (refine ord_flo (pick_cons rfl (pick_cons rfl pick_nil)) ?_;(repeat (go_big_quiet_step (fail)));refine wpQuiet_nil ?_;show ordWalk _ _ _ _ _ _ _)
    refine ord_fin ?_
    go_wp2
    go_roundg (j - (q+1))
    case measure=>omega
    case rel=>exact ⟨q+1,j,rfl,by go_num,rfl,by omega,by omega,h3,Lib.hid ⟨fun _=>by rw [Nat.add_sub_cancel, ← HYQ.out];show ¬ cmpC y x<0;rw [HV.out];omega,HO.out.2⟩,er.trans (XE.trans x1)⟩
  ·obtain rfl:i=j:=by omega
   obtain ⟨X1,X2,k1,k2,k3⟩:=last_split HL.out HA.out HM.out h1 h3 HX.out HO.out.1 HO.out.2
   have HK:=Lib.hid k3
   have HX1:=Lib.hid k1
   have HI2:Hid (i=(P++X1).length):=Lib.hid (by rw [List.length_append, ← HA.out];exact k2)
   have HW:Hid (BackIn B g c i (P++X1) X2 Q y w wr m X2 []):=Lib.hid ⟨(List.append_nil _).symm,by
    have:=HM.out
    rw [k1,List.length_append] at this
    omega,by
    have:=H.out.ext er
    rw [HL.out,k1] at this
    simpa using this,upd_ext er g⟩
   clear k1 k2 k3 HO
   obtain ⟨wo,hwo⟩ : ∃ wo:World,wo=wr:=⟨_,rfl⟩
   rw [← hwo] at HW er ⊢
   clear hwo
   go_wp2
   go_loopg [17] (m - i) (fun z u wr => ∃ (k:Nat) (Xa Xb:List Ud),z=k - i∧u = .int .i64 k∧i≤k∧k≤m∧Hid (BackIn B g c i (P++X1) X2 Q y w wr k Xa Xb))
   case atStart=>exact ⟨m,X2,[],rfl,rfl,h3,Nat.le_refl _,HW⟩
   case round =>
    obtain ⟨k,Xa,Xb,rfl,rfl,hk1,hk2,HJ⟩:=hrel
    clear HW
    rcases last_cases Xa with rfl | ⟨Xa,x,rfl⟩
    ·obtain rfl:k=i:=by have:=HJ.out.2.1;simpa using this
     go_wp2
     refine bodyPost_ret (v := .tuple #[]) (by simp only [results,Try.results67];go_simp) rfl ?_
     obtain ⟨q1,q2,q3,q4⟩:=HJ.out
     refine ⟨rfl,X1++y :: X2,HK.out,?_,q4⟩
     rw [q1]
     simpa using q3
    ·obtain ⟨k1,hk⟩ : ∃ k1,k=k1+1:=⟨k - 1,by have:=HJ.out.2.1;rw [List.length_append,List.length_singleton] at this;omega⟩
     subst hk
     have hik:i≤k1:=by have:=HJ.out.2.1;rw [List.length_append,List.length_singleton] at this;omega
     have hkk:((k1+1:Nat):Int) - 1=(k1:Int):=by omega
     have hf:=HJ.out.2.2.1
     have e2:P++X1++(Xa++[x]++y :: (Xb++Q))=(P++X1++Xa)++x :: (y :: (Xb++Q)):=by simp
     rw [e2] at hf
     have hkP:k1=(P++X1++Xa).length:=by rw [List.length_append, ← HI2.out];have:=HJ.out.2.1;rw [List.length_append,List.length_singleton] at this;omega
     obtain ⟨px0,px1,px2,px3⟩:=hf.here hkP
     have e3:(P++X1++Xa)++x :: (y :: (Xb++Q))=(P++X1++Xa++[x])++y :: (Xb++Q):=by simp
     have hf2:=hf
     rw [e3] at hf2
     obtain ⟨py0,py1,py2,py3⟩:=hf2.here (p:=k1+1) (by rw [List.length_append, ← hkP,List.length_singleton])
     have f0:=hf.free (k1 * 4)
     have f0b:=hf.free (k1 * 4+1)
     have f1:=hf.free (k1 * 4+2)
     have f1b:=hf.free (k1 * 4+3)
     have f2:=hf.free ((k1+1) * 4)
     have f2b:=hf.free ((k1+1) * 4+1)
     have f3:=hf.free ((k1+1) * 4+2)
     have f3b:=hf.free ((k1+1) * 4+3)
     obtain ⟨nx,hnx⟩ : ∃ nx,nx=x.l.length:=⟨_,rfl⟩
     obtain ⟨tx,htx⟩ : ∃ tx,tx=x.t.l.length:=⟨_,rfl⟩
     obtain ⟨ny,hny⟩ : ∃ ny,ny=y.l.length:=⟨_,rfl⟩
     obtain ⟨ty,hty⟩ : ∃ ty,ty=y.t.l.length:=⟨_,rfl⟩
     rw [← hnx] at px0;rw [← htx] at px2
     rw [← hny] at py0;rw [← hty] at py2
     have HNX:=Lib.hid hnx
     have HTX:=Lib.hid htx
     have HNY:=Lib.hid hny
     have HTY:=Lib.hid hty
     have XE:Ext wr wr.drew:=(Ext.refl wr).drew
     have PY0 : ∀ z:Xt wr.drew,z.W.cell? ⟨g,(k1+1) * 4,none⟩=some (.slice y.A ny y.c):=fun z=>(XE.trans z.x).cell py0
     have PY1 : ∀ z:Xt wr.drew,z.W.cell? ⟨g,(k1+1) * 4+1,none⟩=some (.int .u64 y.t.e):=fun z=>(XE.trans z.x).cell py1
     have PY2 : ∀ z:Xt wr.drew,z.W.cell? ⟨g,(k1+1) * 4+2,none⟩=some (.slice y.t.A ty y.t.c):=fun z=>(XE.trans z.x).cell py2
     have PY3 : ∀ z:Xt wr.drew,z.W.cell? ⟨g,(k1+1) * 4+3,none⟩=some (.int .i64 y.d):=fun z=>(XE.trans z.x).cell py3
     have PX0 : ∀ z:Xt wr.drew,z.W.cell? ⟨g,k1 * 4,none⟩=some (.slice x.A nx x.c):=fun z=>(XE.trans z.x).cell px0
     have PX1 : ∀ z:Xt wr.drew,z.W.cell? ⟨g,k1 * 4+1,none⟩=some (.int .u64 x.t.e):=fun z=>(XE.trans z.x).cell px1
     have PX2 : ∀ z:Xt wr.drew,z.W.cell? ⟨g,k1 * 4+2,none⟩=some (.slice x.t.A tx x.t.c):=fun z=>(XE.trans z.x).cell px2
     have PX3 : ∀ z:Xt wr.drew,z.W.cell? ⟨g,k1 * 4+3,none⟩=some (.int .i64 x.d):=fun z=>(XE.trans z.x).cell px3
     clear hf hf2 e2 e3 hkP hnx hny htx hty
     go_upto_region 23 with fail
     refine wp_region_ord [0,0,0,0,8,0,0,64,224,480,0,0,3072,7168,16355,32739,65535,131071] (.flo [0,1,5,6,7,8,9,10,11,12,13,14] (.pur [2,3,4] (.one 15 (.flo [16] (.one 17 (.fin)))))) (by kernel_rfl) (by kernel_rfl) (by intro _ _ d _ _ h;cases d<;>exact h) ?_
     (refine ord_flo (pick_cons rfl (pick_cons rfl (pick_cons rfl (pick_cons rfl (pick_cons rfl (pick_cons rfl (pick_cons rfl (pick_cons rfl (pick_cons rfl (pick_cons rfl (pick_cons rfl (pick_cons rfl pick_nil)))))))))))) ?_;(repeat (go_big_quiet_step (fail)));refine wpQuiet_nil ?_;show ordWalk _ _ _ _ _ _ _)
     (refine ord_pur (pick_cons rfl (pick_cons rfl (pick_cons rfl pick_nil))) ?_;(repeat (go_big_quiet_step (fail)));refine wpQuiet_nil ?_;show ordWalk _ _ _ _ _ _ _)
     refine ord_one (pick_cons rfl pick_nil) ?_;intro K_ hK_
     go_wp2
     (refine ord_flo (pick_cons rfl pick_nil) ?_;(repeat (go_big_quiet_step (fail)));refine wpQuiet_nil ?_;show ordWalk _ _ _ _ _ _ _)
     refine ord_one (pick_cons rfl pick_nil) ?_;intro K_ hK_
     go_wp2
     refine ord_fin ?_
     go_wp2
     go_roundg (k1 - i)
     case measure=>omega
     case rel=>exact ⟨k1,Xa,x :: Xb,rfl,by go_num,hik,by omega,Lib.hid ((HJ.out.step HI2.out rfl HNX.out HNY.out HTX.out HTY.out (Ext.refl _)).ext (Ext.refl _).drew)⟩
open Go.RowKit
/-- the merge, of so many rows at most -/
def SymIH (N:Nat):Prop := ∀ (B g c n a m b:Nat) (P X Y Q:List Ud) (w:World),X.length+Y.length≤N→0<X.length→0<Y.length→a=P.length→m=a+X.length→b=m+Y.length→n=(P++(X++(Y++Q))).length→SortedC X→SortedC Y →
 Arr w B g c (P++(X++(Y++Q)))→Rws w g (X++Y)→n≤1000000000 →
 Calls Try.prog 67 #[.slice (some ⟨g,0,none⟩) n c, .int .i64 a, .int .i64 m, .int .i64 b, .func (.func 40) #[] #[]] w (SymRes B g c P (X++Y) Q w)
/-- how the lists are cut -/
structure SymF (N g n a m b mid en s:Nat) (P X X1 X2 Y Y1 Y2 Q:List Ud) (w:World):Prop where
 hX:X=X1++X2
 hY:Y=Y1++Y2
 ha:a=P.length
 hs:s=a+X1.length
 hm:m=a+X.length
 hb:b=m+Y.length
 hen:en=m+Y1.length
 hmid:mid=a+(X1.length+Y1.length)
 half:mid=(a+b) / 2
 hn:n=(P++(X++(Y++Q))).length
 sX:SortedC X
 sY:SortedC Y
 rows:Rws w g (X++Y)
 cut1 : ∀ t x y u,X1=t++[x]→Y2=y :: u→cmpC x y≤0
 cut2 : ∀ t y x u,Y1=t++[y]→X2=x :: u→cmpC y x<0
 big:n≤1000000000
 len:X.length+Y.length≤N+1
 two:2≤X.length+Y.length
def SymAt (B g c:Nat) (P X1 Y1 X2 Y2 Q:List Ud) (w w2:World):Prop:=Arr w2 B g c (P++(X1++(Y1++(X2++(Y2++Q)))))∧w.grownBy w2 (some g)
def SymMid (B g c:Nat) (P X1 Y1 X2 Y2 Q:List Ud) (w w3:World):Prop := ∃ Z1,Stable cmpC (X1++Y1) Z1∧Arr w3 B g c (P++(Z1++(X2++(Y2++Q))))∧w.grownBy w3 (some g)
section
variable {N B g c n a m b mid en s:Nat} {P X X1 X2 Y Y1 Y2 Q:List Ud} {w w1 w2 w3:World}
theorem nil_or {α:Type} {l:List α} (h : ¬ 0<l.length):l=[]:=List.eq_nil_of_length_eq_zero (by omega)
theorem SymF.lens (F:SymF N g n a m b mid en s P X X1 X2 Y Y1 Y2 Q w):X.length=X1.length+X2.length∧Y.length=Y1.length+Y2.length∧n=P.length+(X.length+(Y.length+Q.length)) :=
 ⟨by rw [F.hX,List.length_append],by rw [F.hY,List.length_append],by rw [F.hn];simp only [List.length_append]⟩
theorem SymF.flags (F:SymF N g n a m b mid en s P X X1 X2 Y Y1 Y2 Q w):(s<m↔0<X2.length)∧(m<en↔0<Y1.length)∧(a<s↔0<X1.length)∧(s<mid↔0<Y1.length)∧(mid<en↔0<X2.length)∧(en<b↔0<Y2.length):=by
 obtain ⟨l1,l2,l3⟩:=F.lens
 have hs:=F.hs
 have hm:=F.hm
 have hb:=F.hb
 have hmid:=F.hmid
 have hen:=F.hen
 refine ⟨⟨fun _=>?_,fun _=>?_⟩,⟨fun _=>?_,fun _=>?_⟩,⟨fun _=>?_,fun _=>?_⟩,⟨fun _=>?_,fun _=>?_⟩,⟨fun _=>?_,fun _=>?_⟩,⟨fun _=>?_,fun _=>?_⟩⟩<;>omega
/-- where nothing is to be turned -/
theorem SymF.still (F:SymF N g n a m b mid en s P X X1 X2 Y Y1 Y2 Q w) (h:Arr w1 B g c (P++(X++(Y++Q)))) (up:w.grownBy w1 (some g)) (hz : ¬ 0<X2.length ∨ ¬ 0<Y1.length):SymAt B g c P X1 Y1 X2 Y2 Q w w1:=by
 refine ⟨?_,up⟩
 rw [F.hX,F.hY] at h
 rcases hz with q | q
 ·rw [nil_or q] at h ⊢
  simpa using h
 ·rw [nil_or q] at h ⊢
  simpa using h
theorem SymF.rot (F:SymF N g n a m b mid en s P X X1 X2 Y Y1 Y2 Q w) (h:Arr w1 B g c (P++(X++(Y++Q)))) (up:w.grownBy w1 (some g)) (h1:0<X2.length) (h2:0<Y1.length) :
  Calls Try.prog 76 #[.slice (some ⟨g,0,none⟩) n c, .int .i64 s, .int .i64 m, .int .i64 en, .func (.func 40) #[] #[]] w1 fun e w'=>e = .returned (.tuple #[])∧SymAt B g c P X1 Y1 X2 Y2 Q w w':=by
 obtain ⟨l1,l2,l3⟩:=F.lens
 have e:P++(X++(Y++Q))=(P++X1)++(X2++(Y1++(Y2++Q))):=by rw [F.hX,F.hY];simp
 rw [e] at h
 have ha:=F.ha
 have hs:=F.hs
 have hm:=F.hm
 refine (rot_any B g c n s m en (P++X1) X2 Y1 (Y2++Q) w1 (by rw [List.length_append];omega) (by omega) F.hen h1 h2 (by rw [F.hn,e]) h).mono ?_
 rintro e w2 ⟨rfl,a2,g2⟩
 refine ⟨rfl,?_,up.trans g2⟩
 rwa [List.append_assoc] at a2
theorem SymF.left (F:SymF N g n a m b mid en s P X X1 X2 Y Y1 Y2 Q w) (IH:SymIH N) (h:SymAt B g c P X1 Y1 X2 Y2 Q w w2) (h1:0<X1.length) (h2:0<Y1.length) :
  Calls Try.prog 67 #[.slice (some ⟨g,0,none⟩) n c, .int .i64 a, .int .i64 s, .int .i64 mid, .func (.func 40) #[] #[]] w2 fun e w'=>e = .returned (.tuple #[])∧SymMid B g c P X1 Y1 X2 Y2 Q w w':=by
 obtain ⟨l1,l2,l3⟩:=F.lens
 obtain ⟨q1,q2⟩:=h
 have ha:=F.ha
 have hs:=F.hs
 have hm:=F.hm
 have hb:=F.hb
 have hh:=F.half
 have hmid:=F.hmid
 have hl:=F.len
 have h2':=F.two
 refine (IH B g c n a s mid P X1 Y1 (X2++(Y2++Q)) w2 (by omega) h1 h2 ha hs (by omega) (by simp only [List.length_append];omega) (SortedC.left (F.hX ▸ F.sX)) (SortedC.left (F.hY ▸ F.sY)) q1 ((F.rows.upd q2).sub fun x hx=>?_) F.big).mono ?_
 ·rw [F.hX,F.hY]
  rcases List.mem_append.1 hx with hx | hx<;>simp [hx]
 ·rintro e w3 ⟨rfl,Z,z1,z2,z3⟩
  exact ⟨rfl,Z,z1,z2,q2.trans z3⟩
theorem SymF.left0 (F:SymF N g n a m b mid en s P X X1 X2 Y Y1 Y2 Q w) (h:SymAt B g c P X1 Y1 X2 Y2 Q w w2) (hz : ¬ 0<X1.length ∨ ¬ 0<Y1.length):SymMid B g c P X1 Y1 X2 Y2 Q w w2:=by
 obtain ⟨q1,q2⟩:=h
 refine ⟨X1++Y1,?_,by rw [List.append_assoc];exact q1,q2⟩
 rcases hz with q | q
 ·rw [nil_or q,List.nil_append]
  exact Stable.self (SortedC.left (F.hY ▸ F.sY))
 ·rw [nil_or q,List.append_nil]
  exact Stable.self (SortedC.left (F.hX ▸ F.sX))
theorem SymF.all (F:SymF N g n a m b mid en s P X X1 X2 Y Y1 Y2 Q w) {Z1 Z2:List Ud} (h1:Stable cmpC (X1++Y1) Z1) (h2:Stable cmpC (X2++Y2) Z2):Stable cmpC (X++Y) (Z1++Z2):=by
 have:=Stable.merge cmpC_tot (F.hX ▸ F.sX) (F.hY ▸ F.sY) F.cut1 F.cut2 h1 h2
 rwa [← F.hX, ← F.hY] at this
theorem SymF.right (F:SymF N g n a m b mid en s P X X1 X2 Y Y1 Y2 Q w) (IH:SymIH N) (h:SymMid B g c P X1 Y1 X2 Y2 Q w w3) (h1:0<X2.length) (h2:0<Y2.length) :
  Calls Try.prog 67 #[.slice (some ⟨g,0,none⟩) n c, .int .i64 mid, .int .i64 en, .int .i64 b, .func (.func 40) #[] #[]] w3 (SymRes B g c P (X++Y) Q w):=by
 obtain ⟨l1,l2,l3⟩:=F.lens
 obtain ⟨Z1,q0,q1,q2⟩:=h
 have lz:=stable_len q0
 rw [List.length_append] at lz
 have ha:=F.ha
 have hs:=F.hs
 have hm:=F.hm
 have hb:=F.hb
 have hh:=F.half
 have hmid:=F.hmid
 have hen:=F.hen
 have hl:=F.len
 have h2':=F.two
 rw [← List.append_assoc] at q1
 refine (IH B g c n mid en b (P++Z1) X2 Y2 Q w3 (by omega) h1 h2 (by rw [List.length_append];omega) (by omega) (by omega) (by simp only [List.length_append];omega) (SortedC.right (F.hX ▸ F.sX)) (SortedC.right (F.hY ▸ F.sY)) q1 ((F.rows.upd q2).sub fun x hx=>?_) F.big).mono ?_
 ·rw [F.hX,F.hY]
  rcases List.mem_append.1 hx with hx | hx<;>simp [hx]
 ·rintro e w4 ⟨rfl,Z,z1,z2,z3⟩
  exact ⟨rfl,Z1++Z,F.all q0 z1,by simpa using z2,q2.trans z3⟩
theorem SymF.right0 (F:SymF N g n a m b mid en s P X X1 X2 Y Y1 Y2 Q w) (h:SymMid B g c P X1 Y1 X2 Y2 Q w w3) (hz : ¬ 0<X2.length ∨ ¬ 0<Y2.length):SymRes B g c P (X++Y) Q w (.returned (.tuple #[])) w3:=by
 obtain ⟨Z1,q0,q1,q2⟩:=h
 refine ⟨rfl,Z1++(X2++Y2),F.all q0 ?_,by simpa using q1,q2⟩
 rcases hz with q | q
 ·rw [nil_or q,List.nil_append]
  exact Stable.self (SortedC.right (F.hY ▸ F.sY))
 ·rw [nil_or q,List.append_nil]
  exact Stable.self (SortedC.right (F.hX ▸ F.sX))
end
end Go.Proofs.Ytdgbkpoickbidaa.UdS
