/- slices.IndexFunc, ContainsFunc at times, by any predicate that makes new memory at most. chain.Beyond, Leq: what they answer. chain.Of: the antichain of any times, in memory of its own. penstockref05.Beyond, Leq, Of: what they answer. penstockref01.sign, Cmp: they answer what datum's answer. penstockref02.Cmp: what it answers of any two rows. penstockref02.Cmp, its answer a name. DeltaSame: the walk. Conditions: each theorem states its own. -/
import Derived.Test.YtdgbkpoickbidaaGreatDoorHs3
import Derived.Deep.LoopGhost
import Derived.Shelf.Abstract
import Derived.Test.YtdgbkpoickbidaaGreatDoorHs9
import Derived.Test.YtdgbkpoickbidaaGreatDoorHs12
import Derived.Test.YtdgbkpoickbidaaGreatDoorHs13
import Derived.Test.YtdgbkpoickbidaaGreatDoorHs11
import Derived.Test.YtdgbkpoickbidaaGreatDoorHs1
import Derived.Test.YtdgbkpoickbidaaGreatDoorHs2
import Derived.Test.YtdgbkpoickbidaaGreatDoorHs7
namespace Go.Proofs.YtdgbkpoickbidaaGreatDoor
open Go.RowKit

open Go.RowKit
/-! ### Leq -/
open Go.RowKit
/-- what Of answers: V in memory of its own -/
def OfOut (V:List TV) (w:World) (e:Ending) (w':World):Prop := ∃ A c n M,e = .returned (.slice A n c)∧n=List.length M∧Tout w' w.heap.size A c M∧M.map Tm.v=V∧Ext w w'
theorem OfOut.back {V:List TV} {w w3:World} {e:Ending} {w':World} (h:OfOut V w3 e w') (x:Ext w w3):OfOut V w e w':=by
 obtain ⟨A,c,n,M,rfl,hn,hT,hV,x2⟩:=h
 exact ⟨A,c,n,M,rfl,hn,hT.mono x.size,hV,x.trans x2⟩
open Go.RowKit
theorem rbeyond_take {V:List TV} {k:Nat} (h:k<V.length) (t:TV):beyondV (V.take (k+1)) t=(beyondV (V.take k) t||tleq V[k] t):=by
 rw [List.take_succ_eq_append_getElem h,beyond_append]
set_option maxRecDepth 100000 in
set_option maxHeartbeats 2000000 in
theorem rbeyond_any (AL:Option Addr) (cL m:Nat) (L:List Tm) (e:Int) (A:Option Addr) (n c:Nat) (l:List Int) (w:World) (hm:Hid (m=L.length)) (hL:Hid (Tin w AL cL L)) (ht:Hid (Sl w 1 A n c (wds l))) :
  Calls Tryz.prog 96 #[.slice AL m cL, .agg #[.int .u64 e, .slice A n c]] w fun r w'=>r = .returned (.bool (beyondV (L.map Tm.v) (e,l)))∧Ext w w':=by
 obtain ⟨b,hb⟩ : ∃ b,beyondV (L.map Tm.v) (e,l)=b:=⟨_,rfl⟩
 rw [hb]
 have HB:=Lib.hid hb
 clear hb
 have hmax:m≤9223372036854775807:=by rw [hm.out];exact hL.out.sl.le
 go_enter Tryz.func96,Tryz.ntmps96
 go_wp2
 obtain ⟨w0,hw0⟩ : ∃ w0,w0=w.alloc (Obj.cells #[Value.int IntKind.u64 e,Value.slice A n c] 26):=⟨_,rfl⟩
 have X0:Hid (Ext w w0):=Lib.hid (hw0 ▸ (Ext.refl w).alloc _)
 have B0:Hid (Bk w0 w.heap.size 26 #[Value.int IntKind.u64 e,Value.slice A n c]):=Lib.hid (by subst hw0;exact Bk.new _ _ _)
 rw [← hw0]
 clear hw0
 go_loopg [5] m (fun z v wr => ∃ k:Nat,z=m - k∧k≤m∧v = .int .i64 k∧Hid (beyondV ((L.map Tm.v).take k) (e,l)=false)∧Hid (Ext w0 wr))
 case atStart=>exact ⟨0,rfl,Nat.zero_le _,rfl,Lib.hid rfl,Lib.hid (Ext.refl _)⟩
 case round =>
  obtain ⟨k,rfl,hk,rfl,HF,HE⟩:=hrel
  by_cases hlt:k<m
  ·have b0 : ∀ y:Xt wr,y.W.cell? ⟨w.heap.size,0,none⟩=some (.int .u64 e):=fun y=>(B0.out.ext (HE.out.trans y.x)).cell 0
   have b1 : ∀ y:Xt wr,y.W.cell? ⟨w.heap.size,1,none⟩=some (.slice A n c):=fun y=>(B0.out.ext (HE.out.trans y.x)).cell 1
   have hkL:k<L.length:=by rw [← hm.out];exact hlt
   obtain ⟨f,Ax,nx,cx,lx,ad,T,hx, -⟩:=(hL.out.ext (X0.out.trans HE.out)).tmAt hkL
   have HKV:=Lib.hid (map_at hkL)
   rw [hx] at HKV
   obtain ⟨rfl,q0,q1,HXS⟩:=T
   have STY : ∀ y:Xt wr,Hid (Sl y.W 1 A n c (wds l)):=fun y=>Lib.hid (ht.out.ext ((X0.out.trans HE.out).trans y.x))
   clear hx hkL
   rcases hq:tleq (f,lx) (e,l) with _ | _
   ·have HT1:=Lib.hid hq
    clear hq
    go_wp2
    (refine wp_region_ext (by kernel_rfl) (by kernel_rfl) ?_;(repeat (go_big_quiet_step ((go_at_call 119;with_reducible exact call_ext (rtq_at f e Ax A nx n cx c lx l _ HT1 (HXS _) (STY _))))));refine wpQuiet_nil ?_;rintro _ ⟨y,rfl⟩)
    go_wp2
    go_roundg (m - (k+1))
    case measure=>omega
    case rel=>exact ⟨k+1,by omega,by omega,by go_num,Lib.hid (by obtain ⟨h1,h2⟩:=HKV.out;rw [rbeyond_take h1,HF.out,h2];exact HT1.out),Lib.hid (HE.out.trans y.x)⟩
   ·have HT1:=Lib.hid hq
    clear hq
    go_wp2
    (refine wp_region_ext (by kernel_rfl) (by kernel_rfl) ?_;(repeat (go_big_quiet_step ((go_at_call 119;with_reducible exact call_ext (rtq_at f e Ax A nx n cx c lx l _ HT1 (HXS _) (STY _))))));refine wpQuiet_nil ?_;rintro _ ⟨y,rfl⟩)
    go_wp2
    go_ret
    refine ⟨ret_bool ?_,(X0.out.trans HE.out).trans y.x⟩
    rw [← HB.out]
    obtain ⟨h1,h2⟩:=HKV.out
    exact (beyond_iff.2 ⟨_,List.getElem_mem h1,by rw [h2];exact HT1.out⟩).symm
  ·obtain rfl:m=k:=by omega
   go_wp2
   go_ret
   refine ⟨ret_bool ?_,X0.out.trans HE.out⟩
   rw [← HB.out]
   have:=HF.out
   rw [List.take_of_length_le (by rw [List.length_map,hm.out];exact Nat.le_refl _)] at this
   exact this.symm
theorem rbeyond_at {v:Bool} (AL:Option Addr) (cL m:Nat) (L:List Tm) (e:Int) (A:Option Addr) (n c:Nat) (l:List Int) (w:World) (hv:Hid (beyondV (L.map Tm.v) (e,l)=v)) (hm:Hid (m=L.length)) (hL:Hid (Tin w AL cL L)) (ht:Hid (Sl w 1 A n c (wds l))) :
  Calls Tryz.prog 96 #[.slice AL m cL, .agg #[.int .u64 e, .slice A n c]] w fun r w'=>r = .returned (.bool v)∧Ext w w':=hv.out ▸ rbeyond_any AL cL m L e A n c l w hm hL ht
open Go.RowKit
def signI (l s:Bool):Int:=if l then -1 else if s then 0 else 1
set_option maxRecDepth 100000 in
set_option maxHeartbeats 400000 in
theorem sign_any (l s:Bool) (w:World):Calls Tryz.prog 219 #[.bool l, .bool s] w fun e w'=>e = .returned (.int .i64 (signI l s))∧w=w':=by
 cases l<;>cases s
 all_goals
  go_enter Tryz.func219,Tryz.ntmps219
  go_wp2
  go_ret
  exact ⟨rfl,rfl⟩
set_option maxRecDepth 100000 in
set_option maxHeartbeats 800000 in
theorem rcmp_klt (ka na kb nb:Int) (ba bb:Bool) (sa sb:ByteArray) (w:World) (h:ka<kb):Calls Tryz.prog 165 #[.agg #[.int .u8 (ka), .bool (ba), .int .i64 (na), .string (sa)], .agg #[.int .u8 (kb), .bool (bb), .int .i64 (nb), .string (sb)]] w fun e w'=>e = .returned (.int .i64 (-1))∧Ext w w':=by
 have z:(ka != kb)=true:=by simp;omega
 go_enter Tryz.func165,Tryz.ntmps165
 go_wp2_with (go_at_call 219;refine (sign_any _ _ _).mono ?_;rintro e w1 ⟨rfl,rfl⟩)
 go_ret
 exact ⟨rfl,((Ext.refl w).alloc _).alloc _⟩
set_option maxRecDepth 100000 in
set_option maxHeartbeats 800000 in
theorem rcmp_kgt (ka na kb nb:Int) (ba bb:Bool) (sa sb:ByteArray) (w:World) (h:kb<ka):Calls Tryz.prog 165 #[.agg #[.int .u8 (ka), .bool (ba), .int .i64 (na), .string (sa)], .agg #[.int .u8 (kb), .bool (bb), .int .i64 (nb), .string (sb)]] w fun e w'=>e = .returned (.int .i64 (1))∧Ext w w':=by
 have z:(ka != kb)=true:=by simp;omega
 have z2:decide (ka<kb)=false:=by simp;omega
 go_enter Tryz.func165,Tryz.ntmps165
 go_wp2_with (go_at_call 219;refine (sign_any _ _ _).mono ?_;rintro e w1 ⟨rfl,rfl⟩)
 go_ret
 exact ⟨rfl,((Ext.refl w).alloc _).alloc _⟩
set_option maxRecDepth 100000 in
set_option maxHeartbeats 800000 in
theorem rcmp_b_false_false (na nb:Int) (sa sb:ByteArray) (w:World)  : Calls Tryz.prog 165 #[.agg #[.int .u8 (2), .bool (false), .int .i64 (na), .string (sa)], .agg #[.int .u8 (2), .bool (false), .int .i64 (nb), .string (sb)]] w fun e w'=>e = .returned (.int .i64 (0))∧Ext w w':=by
 go_enter Tryz.func165,Tryz.ntmps165
 go_wp2_with (go_at_call 219;refine (sign_any _ _ _).mono ?_;rintro e w1 ⟨rfl,rfl⟩)
 go_ret
 exact ⟨rfl,((Ext.refl w).alloc _).alloc _⟩
set_option maxRecDepth 100000 in
set_option maxHeartbeats 800000 in
theorem rcmp_b_false_true (na nb:Int) (sa sb:ByteArray) (w:World)  : Calls Tryz.prog 165 #[.agg #[.int .u8 (2), .bool (false), .int .i64 (na), .string (sa)], .agg #[.int .u8 (2), .bool (true), .int .i64 (nb), .string (sb)]] w fun e w'=>e = .returned (.int .i64 (-1))∧Ext w w':=by
 go_enter Tryz.func165,Tryz.ntmps165
 go_wp2_with (go_at_call 219;refine (sign_any _ _ _).mono ?_;rintro e w1 ⟨rfl,rfl⟩)
 go_ret
 exact ⟨rfl,((Ext.refl w).alloc _).alloc _⟩
set_option maxRecDepth 100000 in
set_option maxHeartbeats 800000 in
theorem rcmp_b_true_false (na nb:Int) (sa sb:ByteArray) (w:World)  : Calls Tryz.prog 165 #[.agg #[.int .u8 (2), .bool (true), .int .i64 (na), .string (sa)], .agg #[.int .u8 (2), .bool (false), .int .i64 (nb), .string (sb)]] w fun e w'=>e = .returned (.int .i64 (1))∧Ext w w':=by
 go_enter Tryz.func165,Tryz.ntmps165
 go_wp2_with (go_at_call 219;refine (sign_any _ _ _).mono ?_;rintro e w1 ⟨rfl,rfl⟩)
 go_ret
 exact ⟨rfl,((Ext.refl w).alloc _).alloc _⟩
set_option maxRecDepth 100000 in
set_option maxHeartbeats 800000 in
theorem rcmp_b_true_true (na nb:Int) (sa sb:ByteArray) (w:World)  : Calls Tryz.prog 165 #[.agg #[.int .u8 (2), .bool (true), .int .i64 (na), .string (sa)], .agg #[.int .u8 (2), .bool (true), .int .i64 (nb), .string (sb)]] w fun e w'=>e = .returned (.int .i64 (0))∧Ext w w':=by
 go_enter Tryz.func165,Tryz.ntmps165
 go_wp2_with (go_at_call 219;refine (sign_any _ _ _).mono ?_;rintro e w1 ⟨rfl,rfl⟩)
 go_ret
 exact ⟨rfl,((Ext.refl w).alloc _).alloc _⟩
set_option maxRecDepth 100000 in
set_option maxHeartbeats 800000 in
theorem rcmp_nlt (na nb:Int) (ba bb:Bool) (sa sb:ByteArray) (w:World) (h:na<nb):Calls Tryz.prog 165 #[.agg #[.int .u8 (3), .bool (ba), .int .i64 (na), .string (sa)], .agg #[.int .u8 (3), .bool (bb), .int .i64 (nb), .string (sb)]] w fun e w'=>e = .returned (.int .i64 (-1))∧Ext w w':=by
 have z:(na==nb)=false:=by simp;omega
 go_enter Tryz.func165,Tryz.ntmps165
 go_wp2_with (go_at_call 219;refine (sign_any _ _ _).mono ?_;rintro e w1 ⟨rfl,rfl⟩)
 go_ret
 exact ⟨rfl,((Ext.refl w).alloc _).alloc _⟩
set_option maxRecDepth 100000 in
set_option maxHeartbeats 800000 in
theorem rcmp_neq (na:Int) (ba bb:Bool) (sa sb:ByteArray) (w:World)  : Calls Tryz.prog 165 #[.agg #[.int .u8 (3), .bool (ba), .int .i64 (na), .string (sa)], .agg #[.int .u8 (3), .bool (bb), .int .i64 (na), .string (sb)]] w fun e w'=>e = .returned (.int .i64 (0))∧Ext w w':=by
 have z2:decide (na<na)=false:=by simp
 go_enter Tryz.func165,Tryz.ntmps165
 go_wp2_with (go_at_call 219;refine (sign_any _ _ _).mono ?_;rintro e w1 ⟨rfl,rfl⟩)
 go_ret
 exact ⟨rfl,((Ext.refl w).alloc _).alloc _⟩
set_option maxRecDepth 100000 in
set_option maxHeartbeats 800000 in
theorem rcmp_ngt (na nb:Int) (ba bb:Bool) (sa sb:ByteArray) (w:World) (h:nb<na):Calls Tryz.prog 165 #[.agg #[.int .u8 (3), .bool (ba), .int .i64 (na), .string (sa)], .agg #[.int .u8 (3), .bool (bb), .int .i64 (nb), .string (sb)]] w fun e w'=>e = .returned (.int .i64 (1))∧Ext w w':=by
 have z:(na==nb)=false:=by simp;omega
 have z2:decide (na<nb)=false:=by simp;omega
 go_enter Tryz.func165,Tryz.ntmps165
 go_wp2_with (go_at_call 219;refine (sign_any _ _ _).mono ?_;rintro e w1 ⟨rfl,rfl⟩)
 go_ret
 exact ⟨rfl,((Ext.refl w).alloc _).alloc _⟩
set_option maxRecDepth 100000 in
set_option maxHeartbeats 800000 in
theorem rcmp_slt (na nb:Int) (ba bb:Bool) (sa sb:ByteArray) (w:World) (h:Op.bytesLess sa.toList sb.toList=true):Calls Tryz.prog 165 #[.agg #[.int .u8 (4), .bool (ba), .int .i64 (na), .string (sa)], .agg #[.int .u8 (4), .bool (bb), .int .i64 (nb), .string (sb)]] w fun e w'=>e = .returned (.int .i64 (-1))∧Ext w w':=by
 go_enter Tryz.func165,Tryz.ntmps165
 go_wp2_with (go_at_call 219;refine (sign_any _ _ _).mono ?_;rintro e w1 ⟨rfl,rfl⟩)
 go_ret
 exact ⟨rfl,((Ext.refl w).alloc _).alloc _⟩
set_option maxRecDepth 100000 in
set_option maxHeartbeats 800000 in
theorem rcmp_seq (na nb:Int) (ba bb:Bool) (sa sb:ByteArray) (w:World) (h:Op.bytesLess sa.toList sb.toList=false) (h2:(sa.toList==sb.toList)=true):Calls Tryz.prog 165 #[.agg #[.int .u8 (4), .bool (ba), .int .i64 (na), .string (sa)], .agg #[.int .u8 (4), .bool (bb), .int .i64 (nb), .string (sb)]] w fun e w'=>e = .returned (.int .i64 (0))∧Ext w w':=by
 go_enter Tryz.func165,Tryz.ntmps165
 go_wp2_with (go_at_call 219;refine (sign_any _ _ _).mono ?_;rintro e w1 ⟨rfl,rfl⟩)
 go_ret
 exact ⟨rfl,((Ext.refl w).alloc _).alloc _⟩
set_option maxRecDepth 100000 in
set_option maxHeartbeats 800000 in
theorem rcmp_sgt (na nb:Int) (ba bb:Bool) (sa sb:ByteArray) (w:World) (h:Op.bytesLess sa.toList sb.toList=false) (h2:(sa.toList==sb.toList)=false):Calls Tryz.prog 165 #[.agg #[.int .u8 (4), .bool (ba), .int .i64 (na), .string (sa)], .agg #[.int .u8 (4), .bool (bb), .int .i64 (nb), .string (sb)]] w fun e w'=>e = .returned (.int .i64 (1))∧Ext w w':=by
 go_enter Tryz.func165,Tryz.ntmps165
 go_wp2_with (go_at_call 219;refine (sign_any _ _ _).mono ?_;rintro e w1 ⟨rfl,rfl⟩)
 go_ret
 exact ⟨rfl,((Ext.refl w).alloc _).alloc _⟩
set_option maxRecDepth 100000 in
set_option maxHeartbeats 800000 in
theorem rcmp_oth (k:Int) (na nb:Int) (ba bb:Bool) (sa sb:ByteArray) (w:World) (h2 : ¬ k=2) (h3 : ¬ k=3) (h4 : ¬ k=4):Calls Tryz.prog 165 #[.agg #[.int .u8 (k), .bool (ba), .int .i64 (na), .string (sa)], .agg #[.int .u8 (k), .bool (bb), .int .i64 (nb), .string (sb)]] w fun e w'=>e = .returned (.int .i64 (0))∧Ext w w':=by
 have z:(k != k)=false:=by simp
 have z2:(k==2)=false:=by simpa using h2
 have z3:(k==3)=false:=by simpa using h3
 have z4:(k==4)=false:=by simpa using h4
 go_enter Tryz.func165,Tryz.ntmps165
 go_wp2
 go_ret
 exact ⟨rfl,((Ext.refl w).alloc _).alloc _⟩
theorem rdcmp_any (ka na kb nb:Int) (ba bb:Bool) (sa sb:ByteArray) (w:World):Calls Tryz.prog 165 #[.agg #[.int .u8 (ka), .bool (ba), .int .i64 (na), .string (sa)], .agg #[.int .u8 (kb), .bool (bb), .int .i64 (nb), .string (sb)]] w fun e w'=>e = .returned (.int .i64 (cmpD ⟨ka,ba,na,sa⟩ ⟨kb,bb,nb,sb⟩))∧Ext w w':=by
 unfold cmpD
 simp only
 by_cases h:ka=kb
 ·subst h
  rw [if_pos rfl]
  by_cases h2:ka=2
  ·subst h2
   rw [if_pos rfl]
   cases ba<;>cases bb
   ·exact rcmp_b_false_false na nb sa sb w
   ·exact rcmp_b_false_true na nb sa sb w
   ·exact rcmp_b_true_false na nb sa sb w
   ·exact rcmp_b_true_true na nb sa sb w
  rw [if_neg h2]
  by_cases h3:ka=3
  ·subst h3
   rw [if_pos rfl]
   rcases Int.lt_trichotomy na nb with h | h | h
   ·rw [cmpI_lt h];exact rcmp_nlt na nb ba bb sa sb w h
   ·subst h;rw [cmpI_self];exact rcmp_neq na ba bb sa sb w
   ·rw [cmpI_gt h];exact rcmp_ngt na nb ba bb sa sb w h
  rw [if_neg h3]
  by_cases h4:ka=4
  ·subst h4
   rw [if_pos rfl]
   unfold cmpS
   cases h1:Op.bytesLess sa.toList sb.toList
   ·cases h2:(sa.toList==sb.toList)
    ·exact rcmp_sgt na nb ba bb sa sb w h1 h2
    ·exact rcmp_seq na nb ba bb sa sb w h1 h2
   ·exact rcmp_slt na nb ba bb sa sb w h1
  rw [if_neg h4]
  exact rcmp_oth ka na nb ba bb sa sb w h2 h3 h4
 ·rw [if_neg h]
  rcases Int.lt_or_gt_of_ne h with h | h
  ·rw [cmpI_lt h];exact rcmp_klt ka na kb nb ba bb sa sb w h
  ·rw [cmpI_gt h];exact rcmp_kgt ka na kb nb ba bb sa sb w h
theorem rcmp_at {c:Int} (ka na kb nb:Int) (ba bb:Bool) (sa sb:ByteArray) (w:World) (h:Hid (cmpD ⟨ka,ba,na,sa⟩ ⟨kb,bb,nb,sb⟩=c)):Calls Tryz.prog 165 #[.agg #[.int .u8 (ka), .bool (ba), .int .i64 (na), .string (sa)], .agg #[.int .u8 (kb), .bool (bb), .int .i64 (nb), .string (sb)]] w fun e w'=>e = .returned (.int .i64 c)∧Ext w w':=h.out ▸ rdcmp_any ka na kb nb ba bb sa sb w
theorem rcmpD_lit {v:Int} (ka na kb nb:Int) (ba bb:Bool) (sa sb:ByteArray) (w:World) (h:Hid (cmpD ⟨ka,ba,na,sa⟩ ⟨kb,bb,nb,sb⟩=v)) :
  Calls Tryz.prog 165 #[.agg #[.int .u8 ka, .bool ba, .int .i64 na, .string sa], .agg #[.int .u8 kb, .bool bb, .int .i64 nb, .string sb]] w fun e w'=>e = .returned (.int .i64 v)∧Ext w w':=rcmp_at _ _ _ _ _ _ _ _ _ h
open Go.RowKit
set_option maxRecDepth 100000 in
set_option maxHeartbeats 4000000 in
theorem rowRCmp_any (A1 A2:Option Addr) (c1 c2 n1 n2:Nat) (l m:List Dat) (w:World) (e1:n1=l.length) (e2:n2=m.length) (h1:Rw w A1 c1 l) (h2:Rw w A2 c2 m) :
  Calls Tryz.prog 53 #[.slice A1 n1 c1, .slice A2 n2 c2] w fun e w'=>e = .returned (.int .i64 (cmpR l m))∧Ext w w':=by
 have E1:=Lib.hid e1
 have E2:=Lib.hid e2
 have hl1:=h1.le
 have hl2:=h2.le
 rw [← e1] at hl1
 rw [← e2] at hl2
 have H1:=Lib.hid h1
 have H2:=Lib.hid h2
 clear e1 e2 h1 h2
 go_enter Tryz.func53,Tryz.ntmps53
 go_wp2
 go_loopw [5] (fun v wr => ∃ i:Nat,i≤n1∧v = .int .i64 i∧Hid (i≤m.length∧cmpR (l.drop i) (m.drop i)=cmpR l m)∧Ext w wr) (fun v _=>n1 - (intOf v).toNat)
 case atStart=>exact ⟨0,Nat.zero_le _,rfl,Lib.hid ⟨Nat.zero_le _,rfl⟩,Ext.refl _⟩
 case round =>
  obtain ⟨i,hi,rfl,hr,er⟩:=hrel
  have hsz:=er.size
  by_cases hlt:i<n1
  ·by_cases hlt2:i<n2
   ·obtain ⟨a1,rfl,p0,p1,p2,p3⟩:=(H1.out.ext er).at (show i<l.length by rw [← E1.out];exact hlt)
    obtain ⟨d,hd⟩ : ∃ d,l.getD i Dat.zero=d:=⟨_,rfl⟩
    rw [hd] at p0 p1 p2 p3
    obtain ⟨a2,rfl,q0,q1,q2,q3⟩:=(H2.out.ext er).at (show i<m.length by rw [← E2.out];exact hlt2)
    obtain ⟨d2,hd2⟩ : ∃ d,m.getD i Dat.zero=d:=⟨_,rfl⟩
    rw [hd2] at q0 q1 q2 q3
    obtain ⟨v,hv⟩ : ∃ v,cmpD d d2=v:=⟨_,rfl⟩
    have HS:Hid (cmpR l m=if v=0 then cmpR (l.drop (i+1)) (m.drop (i+1)) else v):=Lib.hid (by rw [← hr.out.2,cmpR_drop (by rw [← E1.out];exact hlt) (by rw [← E2.out];exact hlt2),hd,hd2,hv])
    have HB:Hid (i+1≤m.length):=Lib.hid (by rw [← E2.out];exact hlt2)
    clear hd hd2 hr
    obtain ⟨ka,ba,na,sa⟩:=d
    obtain ⟨kb,bb,nb,sb⟩:=d2
    simp only at p0 p1 p2 p3 q0 q1 q2 q3
    have HV:=Lib.hid hv
    clear hv
    have X:Ext wr wr.drew:=(Ext.refl wr).drew
    have P0 : ∀ y:Xt wr.drew,y.W.cell? (a1.add (i * 4))=some (.int .u8 ka):=fun y=>(X.trans y.x).cell p0
    have P1 : ∀ y:Xt wr.drew,y.W.cell? ⟨(a1.add (i * 4)).block,(a1.add (i * 4)).off+1,none⟩=some (.bool ba):=fun y=>(X.trans y.x).cell p1
    have P2 : ∀ y:Xt wr.drew,y.W.cell? ⟨(a1.add (i * 4)).block,(a1.add (i * 4)).off+2,none⟩=some (.int .i64 na):=fun y=>(X.trans y.x).cell p2
    have P3 : ∀ y:Xt wr.drew,y.W.cell? ⟨(a1.add (i * 4)).block,(a1.add (i * 4)).off+3,none⟩=some (.string sa):=fun y=>(X.trans y.x).cell p3
    have Q0 : ∀ y:Xt wr.drew,y.W.cell? (a2.add (i * 4))=some (.int .u8 kb):=fun y=>(X.trans y.x).cell q0
    have Q1 : ∀ y:Xt wr.drew,y.W.cell? ⟨(a2.add (i * 4)).block,(a2.add (i * 4)).off+1,none⟩=some (.bool bb):=fun y=>(X.trans y.x).cell q1
    have Q2 : ∀ y:Xt wr.drew,y.W.cell? ⟨(a2.add (i * 4)).block,(a2.add (i * 4)).off+2,none⟩=some (.int .i64 nb):=fun y=>(X.trans y.x).cell q2
    have Q3 : ∀ y:Xt wr.drew,y.W.cell? ⟨(a2.add (i * 4)).block,(a2.add (i * 4)).off+3,none⟩=some (.string sb):=fun y=>(X.trans y.x).cell q3
    by_cases hv0:v=0
    ·subst hv0
     go_upto_region 4 with fail
     refine wp_region_ord [0,0,3,7,0,0,48,112,255,511] (.flo [0,1,2,3,4,5,6,7] (.one 8 (.flo [9] (.fin)))) (by kernel_rfl) (by kernel_rfl) (by intro _ _ d _ _ h;cases d<;>exact h) ?_
     (refine ord_flo (pick_cons rfl (pick_cons rfl (pick_cons rfl (pick_cons rfl (pick_cons rfl (pick_cons rfl (pick_cons rfl (pick_cons rfl pick_nil)))))))) ?_;(repeat (go_big_quiet_step (fail)));refine wpQuiet_nil ?_;show ordWalk _ _ _ _ _ _ _)
     refine ord_one (pick_cons rfl pick_nil) ?_;intro K_ hK_
     go_wp2_with (go_at_call 165;refine (rcmpD_lit _ _ _ _ _ _ _ _ _ HV).mono ?_;rintro e w1 ⟨rfl,x1⟩)
     (refine ord_flo (pick_cons rfl pick_nil) ?_;(repeat (go_big_quiet_step (fail)));refine wpQuiet_nil ?_;show ordWalk _ _ _ _ _ _ _)
     refine ord_fin ?_
     go_wp2
     go_roundw
     case rel=>exact ⟨i+1,by omega,by go_num,Lib.hid ⟨HB.out,by rw [HS.out];simp⟩,er.trans (X.trans x1)⟩
     case measure=>simp [intOf];omega
    ·have z:(v != 0)=true:=by simpa using hv0
     have HZ:=Lib.hid hv0
     clear hv0
     go_upto_region 4 with fail
     refine wp_region_ord [0,0,3,7,0,0,48,112,255,511] (.flo [0,1,2,3,4,5,6,7] (.one 8 (.flo [9] (.fin)))) (by kernel_rfl) (by kernel_rfl) (by intro _ _ d _ _ h;cases d<;>exact h) ?_
     (refine ord_flo (pick_cons rfl (pick_cons rfl (pick_cons rfl (pick_cons rfl (pick_cons rfl (pick_cons rfl (pick_cons rfl (pick_cons rfl pick_nil)))))))) ?_;(repeat (go_big_quiet_step (fail)));refine wpQuiet_nil ?_;show ordWalk _ _ _ _ _ _ _)
     refine ord_one (pick_cons rfl pick_nil) ?_;intro K_ hK_
     go_wp2_with (go_at_call 165;refine (rcmpD_lit _ _ _ _ _ _ _ _ _ HV).mono ?_;rintro e w1 ⟨rfl,x1⟩)
     (refine ord_flo (pick_cons rfl pick_nil) ?_;(repeat (go_big_quiet_step (fail)));refine wpQuiet_nil ?_;show ordWalk _ _ _ _ _ _ _)
     refine ord_fin ?_
     go_wp2
     go_ret
     exact ⟨(by rw [HS.out,if_neg HZ.out];rfl),er.trans (X.trans x1)⟩
   ·have HS:Hid (cmpR l m=1):=Lib.hid (by rw [← hr.out.2];exact cmpR_more (by rw [← E1.out];exact hlt) (by rw [← E2.out];omega))
    have h3:n2<n1:=by omega
    clear hr
    go_wp2
    go_ret
    exact ⟨(by rw [HS.out];rfl),er⟩
  ·have HS:Hid (cmpR l m=if i<m.length then -1 else 0):=Lib.hid (by rw [← hr.out.2];exact cmpR_end (by rw [← E1.out];omega))
   have HB:Hid (i≤m.length):=Lib.hid hr.out.1
   obtain rfl:i=n1:=by omega
   by_cases h2:i<n2
   ·have HT:Hid (cmpR l m = -1):=Lib.hid (by rw [HS.out,if_pos (by rw [← E2.out];exact h2)])
    clear HS hr
    go_wp2
    go_ret
    exact ⟨(by rw [HT.out];rfl),er⟩
   ·have HT:Hid (cmpR l m=0):=Lib.hid (by rw [HS.out,if_neg (by rw [← E2.out];exact h2)])
    have h3 : ¬ n2<i:=by have:=HB.out;rw [← E2.out] at this;omega
    clear HS hr
    go_wp2
    go_ret
    exact ⟨(by rw [HT.out];rfl),er⟩
open Go.RowKit
theorem rowRCmp_lit {v:Int} (A1 A2:Option Addr) (c1 c2 n1 n2:Nat) (l m:List Dat) (w:World) (hv:Hid (cmpR l m=v)) (e1:Hid (n1=l.length)) (e2:Hid (n2=m.length)) (h1:Hid (Rw w A1 c1 l)) (h2:Hid (Rw w A2 c2 m)) :
  Calls Tryz.prog 53 #[.slice A1 n1 c1, .slice A2 n2 c2] w fun e w'=>e = .returned (.int .i64 v)∧Ext w w':=hv.out ▸ rowRCmp_any A1 A2 c1 c2 n1 n2 l m w e1.out e2.out h1.out h2.out
open Go.RowKit
set_option maxRecDepth 100000 in
set_option maxHeartbeats 4000000 in
theorem same10_much (AL:Option Addr) (cL n:Nat) (L:List Ud) (tn:Int) (AS:Option Addr) (cS nS:Nat) (S:List Tm) (e:Int) (At:Option Addr) (nt ct:Nat) (lt:List Int) (w:World) (hn:Hid (n=L.length)) (hL:Hid (Uin w AL cL L)) (hnS:Hid (nS=S.length)) (hS:Hid (Tin w AS cS S)) (ht:Hid (Sl w 1 At nt ct (wds lt))) (G:Good w)
  (hm:24<n∨(n≤24∧muchU (L.map Ud.uv)=true)∨(n≤24∧muchU (L.map Ud.uv)=false∧6<nS)∨(n≤24∧muchU (L.map Ud.uv)=false∧nS≤6∧farV (S.map Tm.v)=true)∨(n≤24∧muchU (L.map Ud.uv)=false∧nS≤6∧farV (S.map Tm.v)=false∧50<nt)) :
  Calls Tryz.prog 12 #[.slice AL n cL, .int .u8 tn, .slice AS nS cS, .agg #[.int .u64 e, .slice At nt ct]] w fun r w'=>r = .returned (.bool true)∧Ext w w':=by
 have X0:Ext w (w.alloc (.cells #[.int .u64 e, .slice At nt ct] 26)):=(Ext.refl _).alloc _
 have HU:Hid (Uin (w.alloc (.cells #[.int .u64 e, .slice At nt ct] 26)) AL cL L):=Lib.hid (hL.out.ext X0)
 have BT:Hid (Bk (w.alloc (.cells #[.int .u64 e, .slice At nt ct] 26)) w.heap.size 26 #[.int .u64 e, .slice At nt ct]):=Lib.hid (Bk.new _ _ _)
 have hcap:=ht.out.cap
 go_enter Tryz.func12,Tryz.ntmps12
 rcases hm with h1 | ⟨h0,h1⟩ | ⟨h0,h1,h2⟩ | ⟨h0,h1,h2,h3⟩ | ⟨h0,h1,h2,h3,h4⟩
 ·have z1:decide ((24:Int)<(n:Int))=true:=decide_eq_true (by omega)
  clear h1
  go_wp2_with (first
   | (go_at_call 28;refine (known10_any _ (G.ext X0)).mono ?_;rintro r w1 ⟨rfl,x1⟩))
  go_ret
  exact ⟨rfl,X0.trans x1⟩
 ·have z1:decide ((24:Int)<(n:Int))=false:=decide_eq_false (by omega)
  have H1:=Lib.hid h1
  clear h1 h0
  have m1:True:=trivial
  go_wp2_with (first
   | (go_at_call 13;have mk:=m1;clear m1 mk;refine (much10_at AL cL n L _ H1 hn HU).mono ?_;rintro r w1 ⟨rfl,x1⟩;have X1:=Lib.hid (X0.trans x1);clear x1;have m2:True:=trivial)
   | (go_at_call 28;have mk:=m2;clear m2 mk;refine (known10_any _ (G.ext X1.out)).mono ?_;rintro r w2 ⟨rfl,x2⟩))
  go_ret
  exact ⟨rfl,X1.out.trans x2⟩
 ·have z1:decide ((24:Int)<(n:Int))=false:=decide_eq_false (by omega)
  have z2:decide ((6:Int)<(nS:Int))=true:=decide_eq_true (by omega)
  have H1:=Lib.hid h1
  clear h1 h0 h2
  have m1:True:=trivial
  go_wp2_with (first
   | (go_at_call 13;have mk:=m1;clear m1 mk;refine (much10_at AL cL n L _ H1 hn HU).mono ?_;rintro r w1 ⟨rfl,x1⟩;have X1:=Lib.hid (X0.trans x1);clear x1;have m2:True:=trivial)
   | (go_at_call 28;have mk:=m2;clear m2 mk;refine (known10_any _ (G.ext X1.out)).mono ?_;rintro r w2 ⟨rfl,x2⟩))
  go_ret
  exact ⟨rfl,X1.out.trans x2⟩
 ·have z1:decide ((24:Int)<(n:Int))=false:=decide_eq_false (by omega)
  have z2:decide ((6:Int)<(nS:Int))=false:=decide_eq_false (by omega)
  have H1:=Lib.hid h1
  have H2:=Lib.hid h3
  clear h1 h0 h2 h3
  have m1:True:=trivial
  go_wp2_with (first
   | (go_at_call 13;have mk:=m1;clear m1 mk;refine (much10_at AL cL n L _ H1 hn HU).mono ?_;rintro r w1 ⟨rfl,x1⟩;have X1:=Lib.hid (X0.trans x1);clear x1;have m2:True:=trivial)
   | (go_at_call 14;have mk:=m2;clear m2 mk;refine (far10_at AS cS nS S _ H2 hnS (Lib.hid (hS.out.ext X1.out))).mono ?_;rintro r w2 ⟨rfl,x2⟩;have X2:=Lib.hid (X1.out.trans x2);clear x2;have m3:True:=trivial)
   | (go_at_call 28;have mk:=m3;clear m3 mk;refine (known10_any _ (G.ext X2.out)).mono ?_;rintro r w3 ⟨rfl,x3⟩))
  go_ret
  exact ⟨rfl,X2.out.trans x3⟩
 ·have z1:decide ((24:Int)<(n:Int))=false:=decide_eq_false (by omega)
  have z2:decide ((6:Int)<(nS:Int))=false:=decide_eq_false (by omega)
  have z3:decide ((50:Int)<(nt:Int))=true:=decide_eq_true (by omega)
  have H1:=Lib.hid h1
  have H2:=Lib.hid h3
  clear h1 h0 h2 h3 h4
  have m1:True:=trivial
  go_wp2_with (first
   | (go_at_call 13;have mk:=m1;clear m1 mk;refine (much10_at AL cL n L _ H1 hn HU).mono ?_;rintro r w1 ⟨rfl,x1⟩;have X1:=Lib.hid (X0.trans x1);have B1:=Lib.hid (BT.out.ext x1);clear x1;have m2:True:=trivial)
   | (go_at_call 14;have mk:=m2;clear m2 mk;refine (far10_at AS cS nS S _ H2 hnS (Lib.hid (hS.out.ext X1.out))).mono ?_;rintro r w2 ⟨rfl,x2⟩;have X2:=Lib.hid (X1.out.trans x2);have t1:=(B1.out.ext x2).cell 1;clear x2;have m3:True:=trivial)
   | (go_at_call 28;have mk:=m3;clear m3 mk;refine (known10_any _ (G.ext X2.out)).mono ?_;rintro r w3 ⟨rfl,x3⟩))
  go_ret
  exact ⟨rfl,X2.out.trans x3⟩
theorem ctin_of {w w':World} {A:Option Addr} {m c B:Nat} {R:List Ct} (hm:m=R.length) (o:Own w B 154 2 A m c (ctsC R)) (r : ∀ x∈R,RwO w x.A x.c x.l ∧ ∀ ad,x.A=some ad→B≤ad.block∧blk A c≠some ad.block) (x:Ext w w'):Ctin w' A c R :=
 ⟨by rw [← hm];exact o.sl.ext x,fun y hy=>((r y hy).1.rw).ext x⟩
set_option maxRecDepth 100000 in
set_option maxHeartbeats 1000000 in
theorem same10_main (AL:Option Addr) (cL n:Nat) (L:List Ud) (t:Nat) (AS:Option Addr) (cS nS:Nat) (S:List Tm) (e:Int) (At:Option Addr) (nt ct:Nat) (lt:List Int) (w:World) (hn:Hid (n=L.length)) (hL:Hid (Uin w AL cL L)) (hI:Hid (∀ x∈L,UdIn x)) (htx:Hid (∀ x∈L, ∀ d∈x.l,d.s.size≤140737488355328)) (ht9:t≤255) (hnS:Hid (nS=S.length)) (hS:Hid (Tin w AS cS S)) (hIS:Hid (∀ x∈S,TmIn x)) (ht:Hid (Sl w 1 At nt ct (wds lt))) (hte:Hid (InE (e,lt))) (hnt:Hid (nt=lt.length)) (G:Good w) (GP:Pow w)
  (h0:n≤24) (h1:Hid (muchU (L.map Ud.uv)=false)) (h2:nS≤6) (h3:Hid (farV (S.map Tm.v)=false)) (h4:nt≤50) :
  Calls Tryz.prog 12 #[.slice AL n cL, .int .u8 (t:Int), .slice AS nS cS, .agg #[.int .u64 e, .slice At nt ct]] w fun r w'=>r = .returned (.bool true)∧Ext w w':=by
 have X0:Ext w (w.alloc (.cells #[.int .u64 e, .slice At nt ct] 26)):=(Ext.refl _).alloc _
 have HU:Hid (Uin (w.alloc (.cells #[.int .u64 e, .slice At nt ct] 26)) AL cL L):=Lib.hid (hL.out.ext X0)
 have BT:Hid (Bk (w.alloc (.cells #[.int .u64 e, .slice At nt ct] 26)) w.heap.size 26 #[.int .u64 e, .slice At nt ct]):=Lib.hid (Bk.new _ _ _)
 have hcap:=ht.out.cap
 have z1:decide ((24:Int)<(n:Int))=false:=decide_eq_false (by omega)
 have z2:decide ((6:Int)<(nS:Int))=false:=decide_eq_false (by omega)
 have z3:decide ((50:Int)<(nt:Int))=false:=decide_eq_false (by omega)
 have HIN:Hid (∀ x∈L,InU x):=Lib.hid (fun x hx=>(hI.out x hx).inU (Nat.le_trans ((muchU_small h1.out).2 x hx).1 (by decide)) (Nat.le_trans ((muchU_small h1.out).2 x hx).2 (by decide)))
 have HFS:Hid (Fine S):=Lib.hid (fun x hx=>⟨(hIS.out x hx).u,Nat.le_trans ((far_small h3.out).2 x hx) (by decide)⟩)
 have HSE:Hid (∀ v∈S.map Tm.v,InE v):=Lib.hid (fun v hv=>by obtain ⟨x,hx,rfl⟩:=List.mem_map.1 hv;exact ⟨(hIS.out x hx).u,(hIS.out x hx).e⟩)
 obtain ⟨vb,hvb⟩ : ∃ vb,validU (L.map Ud.uv)=vb:=⟨_,rfl⟩
 have hval : ∀ W,Ext w W→Calls Tryz.prog 94 #[.slice AL n cL] W fun r w'=>r = .returned (.bool vb)∧Ext W w':=fun W x=>by
  have k:=valid10_any AL cL n L W hn (Lib.hid (hL.out.ext x)) htx (by omega)
  rw [hvb] at k
  exact k
 have HVal:=Lib.hid hval
 have HVB:=Lib.hid hvb
 clear hval hvb
 have m1:True:=trivial
 go_enter Tryz.func12,Tryz.ntmps12
 cases vb with
 | false =>
  go_wp2_with (first
   | (go_at_call 13;have mk:=m1;clear m1 mk;refine (much10_at AL cL n L _ h1 hn HU).mono ?_;rintro r w1 ⟨rfl,x1⟩;have X1:=Lib.hid (X0.trans x1);have B1:=Lib.hid (BT.out.ext x1);clear x1;have m2:True:=trivial)
   | (go_at_call 14;have mk:=m2;clear m2 mk;refine (far10_at AS cS nS S _ h3 hnS (Lib.hid (hS.out.ext X1.out))).mono ?_;rintro r w2 ⟨rfl,x2⟩;have X2:=Lib.hid (X1.out.trans x2);have t1:=(B1.out.ext x2).cell 1;clear x2;have m3:True:=trivial)
   | (go_at_call 28;have mk:=m3;clear m3 mk;refine (known10_any _ (G.ext X2.out)).mono ?_;rintro r w3 ⟨rfl,x3⟩;have X3:=Lib.hid (X2.out.trans x3);clear x3;have m4:True:=trivial)
   | (go_at_call 94;have mk:=m4;clear m4 mk;refine (HVal.out _ X3.out).mono ?_;rintro r w4 ⟨rfl,x4⟩;have X4:=Lib.hid (X3.out.trans x4);clear x4))
  go_ret
  exact ⟨rfl,X4.out⟩
 | true =>
  have HGT:Hid (∀ u∈L.map Ud.uv,GoodT u):=Lib.hid fun u hu=>by
   obtain ⟨x,hx,rfl⟩:=List.mem_map.1 hu
   have h:=HVB.out
   unfold validU at h
   exact ⟨(HIN.out x hx).uv,of_decide_eq_true (List.all_eq_true.1 h _ (List.mem_map.2 ⟨x,hx,rfl⟩))⟩
  go_wp2_with (first
   | (go_at_call 13;have mk:=m1;clear m1 mk;refine (much10_at AL cL n L _ h1 hn HU).mono ?_;rintro r w1 ⟨rfl,x1⟩;have X1:=Lib.hid (X0.trans x1);have B1:=Lib.hid (BT.out.ext x1);clear x1;have m2:True:=trivial)
   | (go_at_call 14;have mk:=m2;clear m2 mk;refine (far10_at AS cS nS S _ h3 hnS (Lib.hid (hS.out.ext X1.out))).mono ?_;rintro r w2 ⟨rfl,x2⟩;have X2:=Lib.hid (X1.out.trans x2);have B2:=Lib.hid (B1.out.ext x2);have t1:=B2.out.cell 1;clear x2;have m3:True:=trivial)
   | (go_at_call 28;have mk:=m3;clear m3 mk;refine (known10_any _ (G.ext X2.out)).mono ?_;rintro r w3 ⟨rfl,x3⟩;have X3:=Lib.hid (X2.out.trans x3);have B3:=Lib.hid (B2.out.ext x3);clear x3;have m4:True:=trivial)
   | (go_at_call 94;have mk:=m4;clear m4 mk;refine (HVal.out _ X3.out).mono ?_;rintro r w4 ⟨rfl,x4⟩;have X4:=Lib.hid (X3.out.trans x4);have B4:=Lib.hid (B3.out.ext x4);clear x4;have m5:True:=trivial)
   | (go_at_call 95;have mk:=m5;clear m5 mk;refine (wide10_any AL cL n L _ hn (Lib.hid (hL.out.ext X4.out)) HIN (by omega)).mono ?_;rintro r w5 ⟨⟨b,rfl,hb⟩,x5⟩;have HB:=Lib.hid hb;have X5:=Lib.hid (X4.out.trans x5);have B5:=Lib.hid (B4.out.ext x5);clear x5 hb t1;rcases b with _ | _))
  rotate_left
  ·go_ret
   exact ⟨rfl,X5.out⟩
  have HF:=Lib.hid (HB.out trivial)
  clear HB HVal HVB
  have HO0:Hid (Own w5 w5.heap.size 95 4 none 0 0 (udsC (turnL L t 0))):=Lib.hid (Own.nil _ _ _ _)
  go_loopg [10,11] n (fun z v10 v11 wr => ∃ (k:Nat) (A:Option Addr) (c q:Nat),z=n - k∧k≤n∧v11 = .int .i64 k∧v10 = .slice A q c∧q≤k∧Hid (q=k)∧Hid (Own wr w5.heap.size 95 4 A q c (udsC (turnL L t k)))∧Hid (Ext w5 wr))
  case atStart=>exact ⟨0,none,0,0,rfl,Nat.zero_le _,rfl,rfl,Nat.le_refl _,Lib.hid rfl,HO0,Lib.hid (Ext.refl _)⟩
  case round =>
   clear HO0
   obtain ⟨k,A,c,q,rfl,hk,rfl,rfl,hqk,HQK,HO,HX⟩:=hrel
   by_cases hlt:k<n
   ·have hn0:0<n:=by omega
    obtain ⟨j,hj⟩ : ∃ j,j=(k+t) % n:=⟨_,rfl⟩
    have hjn:j<n:=by rw [hj];exact Nat.mod_lt _ hn0
    have hjL:j<L.length:=by rw [← hn.out];exact hjn
    obtain ⟨ad,hA,q0,q1,q2,q3⟩:=(hL.out.ext (X5.out.trans HX.out)).at (i:=j) hjL
    subst hA
    have hsu:udsC (turnL L t (k+1))=udsC (turnL L t k)++udC (L.getD j Ud.zero):=by
     rw [turnL_succ,udsC_append, ← hn.out, ← hj]
     simp [udsC]
    obtain ⟨x,hx⟩ : ∃ x,L.getD j Ud.zero=x:=⟨_,rfl⟩
    rw [hx] at q0 q1 q2 q3 hsu
    obtain ⟨xA,xc,xl,⟨te,tA,tc,tl⟩,d⟩:=x
    obtain ⟨xn,hxn⟩ : ∃ xn,xn=xl.length:=⟨_,rfl⟩
    obtain ⟨nx,hnx⟩ : ∃ nx,nx=tl.length:=⟨_,rfl⟩
    replace q0:wr.cell? (ad.add (j * 4))=some (.slice xA xl.length xc):=q0
    replace q1:wr.cell? ⟨(ad.add (j * 4)).block,(ad.add (j * 4)).off+1,none⟩=some (.int .u64 te):=q1
    replace q2:wr.cell? ⟨(ad.add (j * 4)).block,(ad.add (j * 4)).off+2,none⟩=some (.slice tA tl.length tc):=q2
    replace q3:wr.cell? ⟨(ad.add (j * 4)).block,(ad.add (j * 4)).off+3,none⟩=some (.int .i64 d):=q3
    replace hsu:udsC (turnL L t (k+1))=udsC (turnL L t k)++[.slice xA xl.length xc, .int .u64 te, .slice tA tl.length tc, .int .i64 d]:=hsu
    rw [← hxn] at q0 hsu
    rw [← hnx] at q2 hsu
    have HSU:=Lib.hid hsu
    clear hx hxn hnx hsu hjL
    have hc8:IntKind.i64.wrap (t:Int)=(t:Int):=IntWalk.i64_in _ (by omega)
    obtain ⟨s,hs⟩ : ∃ s:Nat,s=k+t:=⟨_,rfl⟩
    have hadd:IntKind.i64.wrap ((k:Int)+(t:Int))=(s:Int):=by rw [IntWalk.i64_in _ (by omega)];omega
    have hadd2:wrap64 ((k:Int)+(t:Int))=(s:Int):=by unfold wrap64;omega
    have hrem:Int.tmod (s:Int) (n:Int)=(j:Int):=by rw [hj,hs];rfl
    clear hs
    have hnz:(n:Int)≠0:=by omega
    clear hj
    go_wp2_with (at_builtin;refine wpList_append_gen _ elem_ud w5.heap.size _ _ rfl rfl A q c (udsC (turnL L t k)) rfl (HO.out.alloc _) (some ⟨wr.heap.size,0,none⟩) 1 1 [.slice xA xn xc, .int .u64 te, .slice tA nx tc, .int .i64 d] rfl (Sl.one wr #[.slice xA xn xc, .int .u64 te, .slice tA nx tc, .int .i64 d] 95 4 rfl) (by intro u hu;simp at hu;rcases hu with rfl | rfl | rfl | rfl<;>rfl) (by omega) (by decide) (Nat.le_trans HX.out.size ((Ext.refl wr).alloc _).size) ?_;intro A8 c8 w8 o8 g8 x8;have HO8:=Lib.hid o8;have HG8:=Lib.hid g8;clear o8 g8 x8)
    go_roundg (n - (k+1))
    case measure=>omega
    case rel=>exact ⟨k+1,A8,c8,q+1,by omega,by omega,by go_num,rfl,by omega,Lib.hid (by have:=HQK.out;omega),Lib.hid (by rw [HSU.out];exact HO8.out),Lib.hid ((HX.out.alloc _).grown HG8.out fun p hp=>(HO.out.lt p hp).1)⟩
   ·obtain rfl:k=n:=by omega
    obtain ⟨O,hO⟩ : ∃ O,O=turnL L t k:=⟨_,rfl⟩
    rw [← hO] at HO
    have hOl:q=O.length:=by rw [hO,turnL_len];exact HQK.out
    have hOp:O.Perm L:=by rw [hO,hn.out];exact turnL_perm L t
    have HOL:=Lib.hid hOl
    have HOP:=Lib.hid hOp
    have HLW:=Lib.hid (hL.out.ext (X5.out.trans HX.out))
    have HOU:Hid (Uin wr A c O):=Lib.hid ⟨by rw [← hOl];exact HO.out.sl,fun x hx=>HLW.out.ls x (hOp.mem_iff.1 hx)⟩
    have HOI:Hid (∀ x∈O,InU x):=Lib.hid fun x hx=>HIN.out x (hOp.mem_iff.1 hx)
    obtain ⟨SV,hSV⟩ : ∃ SV,UdS.sumV (L.map Ud.uv)=SV:=⟨_,rfl⟩
    obtain ⟨BV,hBV⟩ : ∃ BV,sumV (atV (L.map Ud.uv) (e,lt))=BV:=⟨_,rfl⟩
    have HSV:=Lib.hid hSV
    have HBV:=Lib.hid hBV
    have HOV:Hid (UdS.sumV (O.map Ud.uv)=SV):=Lib.hid ((sumT_perm (hOp.map Ud.uv) HGT.out).trans hSV)
    have HTV:Hid (InTV (e,lt)):=Lib.hid ⟨hte.out.1,by show lt.length≤_;rw [← hnt.out];omega,hte.out.2⟩
    have HSB:Hid (sumV (atV SV (e,lt))=BV):=Lib.hid (by rw [← hSV, ← hBV];exact bag_sum HGT.out HTV.out)
    have HSG:Hid (∀ u∈SV,GoodT u):=Lib.hid (by rw [← hSV];exact gt_sum HGT.out)
    have HSI:Hid (∀ R:List Ud,R.map Ud.uv=SV → ∀ x∈R,InU x):=Lib.hid fun R e1 x hx=>(HSG.out x.uv (by rw [← e1];exact List.mem_map.2 ⟨x,hx,rfl⟩)).1.u
    have HSL:Hid (∀ R:List Ud,R.map Ud.uv=SV→R.length≤24):=Lib.hid fun R e1=>by
     have a:=congrArg List.length e1
     have b:=uSumV_len (L.map Ud.uv)
     rw [hSV] at b
     rw [List.length_map] at a b
     have:=hn.out
     omega
    have HSS:Hid (UdS.sumV SV=SV):=Lib.hid (by rw [← hSV];exact sumT_twice HGT.out)
    clear hO hOl hOp hSV hBV
    have XW:=Lib.hid (X5.out.trans HX.out)
    have BW:=Lib.hid (B5.out.ext HX.out)
    obtain ⟨gt,hgt⟩ : ∃ gt,gt=w.heap.size:=⟨_,rfl⟩
    have HGT2:=Lib.hid hgt
    clear hgt
    have p1:True:=trivial
    go_upto_region 13 with (first
     | (go_at_call 16;have mk:=p1;clear p1 mk;refine (dsum_at AL cL k L _ HSV hn HLW (by omega) (in_lens HIN.out).1 (in_lens HIN.out).2).mono ?_;rintro r v1 ⟨A1,m1,R1,rfl,l1,u1,e1,x1⟩;have L1:=Lib.hid l1;have U1:=Lib.hid u1;have E1:=Lib.hid e1;have Y1:=Lib.hid x1;clear l1 u1 e1 x1;have p2:True:=trivial)
     | (go_at_call 16;have mk:=p2;clear p2 mk;refine (dsum_at A c q O _ HOV HOL (Lib.hid (HOU.out.ext Y1.out)) (by omega) (in_lens HOI.out).1 (in_lens HOI.out).2).mono ?_;rintro r v2 ⟨A2,m2,R2,rfl,l2,u2,e2,x2⟩;have L2:=Lib.hid l2;have U2:=Lib.hid u2;have E2:=Lib.hid e2;have Y2:=Lib.hid x2;clear l2 u2 e2 x2))
    have XE:Ext v2 v2.drew:=(Ext.refl v2).drew
    have HS1:Hid (∀ W,Ext v1 W→Uin W A1 m1 R1):=Lib.hid fun W x=>U1.out.uin.ext x
    have HS2:Hid (∀ W,Ext v2 W→Uin W A2 m2 R2):=Lib.hid fun W x=>U2.out.uin.ext x
    have hm1:m1≤24:=by rw [L1.out];exact HSL.out R1 E1.out
    have hm2:m2≤24:=by rw [L2.out];exact HSL.out R2 E2.out
    have hmm:m2=m1:=by rw [L1.out,L2.out, ← List.length_map (f:=Ud.uv), ← List.length_map (f:=Ud.uv),E1.out,E2.out]
    subst hmm
    have XV2:Hid (Ext w v2):=Lib.hid ((XW.out.trans Y1.out).trans Y2.out)
    have B2':=Lib.hid (BW.out.ext (Y1.out.trans Y2.out))
    have GW:Hid (∀ W,Ext v2 W→Good W):=Lib.hid fun W x=>G.ext (XV2.out.trans x)
    have HTW:Hid (∀ W,Ext v2 W→Sl W 1 At nt ct (wds lt)):=Lib.hid fun W x=>ht.out.ext (XV2.out.trans x)
    have HAtL:Hid (∀ W,Ext v2 W→Calls Tryz.prog 17 #[.slice AL k cL, .agg #[.int .u64 e, .slice At nt ct]] W (DAtRes W BV)):=Lib.hid fun W x=>dat_at AL cL k L e At nt ct lt W HBV hn (Lib.hid (hL.out.ext (XV2.out.trans x))) (by omega) HIN (Lib.hid (HTW.out W x)) (GW.out W x)
    have HAt1:Hid (∀ W,Ext v2 W→Calls Tryz.prog 17 #[.slice A1 m2 m2, .agg #[.int .u64 e, .slice At nt ct]] W (DAtRes W BV)):=Lib.hid fun W x=>dat_at A1 m2 m2 R1 e At nt ct lt W (Lib.hid (by rw [E1.out];exact HSB.out)) L1 (Lib.hid (HS1.out W (Y2.out.trans x))) (by omega) (Lib.hid (HSI.out R1 E1.out)) (Lib.hid (HTW.out W x)) (GW.out W x)
    have HAt2:Hid (∀ W,Ext v2 W→Calls Tryz.prog 17 #[.slice A2 m2 m2, .agg #[.int .u64 e, .slice At nt ct]] W (DAtRes W BV)):=Lib.hid fun W x=>dat_at A2 m2 m2 R2 e At nt ct lt W (Lib.hid (by rw [E2.out];exact HSB.out)) L2 (Lib.hid (HS2.out W x)) (by omega) (Lib.hid (HSI.out R2 E2.out)) (Lib.hid (HTW.out W x)) (GW.out W x)
    have HSu:Hid (∀ W,Ext v2 W→Calls Tryz.prog 16 #[.slice A1 m2 m2] W (DAdvRes W SV)):=Lib.hid fun W x=>dsum_at A1 m2 m2 R1 W (Lib.hid (by rw [E1.out];exact HSS.out)) L1 (Lib.hid (HS1.out W (Y2.out.trans x))) (by omega) (in_lens (HSI.out R1 E1.out)).1 (in_lens (HSI.out R1 E1.out)).2
    have t0 : ∀ y:Xt v2.drew,y.W.cell? ⟨w.heap.size,0,none⟩=some (.int .u64 e):=fun y=>(B2'.out.ext (XE.trans y.x)).cell 0
    have t1 : ∀ y:Xt v2.drew,y.W.cell? ⟨w.heap.size,1,none⟩=some (.slice At nt ct):=fun y=>(B2'.out.ext (XE.trans y.x)).cell 1
    refine wp_region_ord [0,1,0,4,15,31,63,63,255,63,63,2047,4095,8191,16383,32767,32767,131071,32767,32767,1048575,2097151,4194303,8388607,16777215,33554431,16777215,134217727,268435455,536870911] (.flo [0,1,2,3,4,5,6,7,9,10] (.ext 8 (.one 11 (.one 12 (.flo [13,14,15,16,18,19] (.ext 17 (.one 20 (.one 21 (.flo [22,23,24] (.pur [26] (.one 25 (.one 27 (.flo [28,29] (.fin)))))))))))))) (by kernel_rfl) (by kernel_rfl) (by intro _ _ d _ _ h;cases d<;>exact h) ?_
    (refine ord_flo (pick_cons rfl (pick_cons rfl (pick_cons rfl (pick_cons rfl (pick_cons rfl (pick_cons rfl (pick_cons rfl (pick_cons rfl (pick_cons rfl (pick_cons rfl pick_nil)))))))))) ?_;(repeat (go_big_quiet_step (fail)));refine wpQuiet_nil ?_;show ordWalk _ _ _ _ _ _ _)
    refine ord_ext (pick_cons rfl pick_nil) ?_;intro K_ hK_
    go_wp2_with (go_at_call 17;refine (HAt1.out _ XE).mono ?_;rintro r v3 ⟨A3,m3,c3,R3,rfl,l3,o3,r3,a3,e3,x3⟩;have L3:=Lib.hid l3;have O3:=Lib.hid o3;have Q3:=Lib.hid r3;have E3:=Lib.hid e3;have Z3:=Lib.hid (XE.trans x3);have J3:=Lib.hid x3;clear l3 o3 r3 a3 e3 x3)
    refine ordNext.mk J3.out ?_
    refine ord_one (pick_cons rfl pick_nil) ?_;intro K_ hK_
    go_wp2_with (go_at_call 17;refine (HAtL.out _ Z3.out).mono ?_;rintro r v4 ⟨A4,m4,c4,R4,rfl,l4,o4,r4,a4,e4,x4⟩;have L4:=Lib.hid l4;have O4:=Lib.hid o4;have Q4:=Lib.hid r4;have E4:=Lib.hid e4;have J4:=Lib.hid x4;clear l4 o4 r4 a4 e4 x4)
    refine ord_one (pick_cons rfl pick_nil) ?_;intro K_ hK_
    go_wp2_with (go_at_call 25;refine (sameCts_any A3 A4 c3 c4 m3 m4 R3 R4 _ L3.out L4.out (ctin_of L3.out O3.out Q3.out J4.out) (ctin_of L4.out O4.out Q4.out (Ext.refl _)) (E3.out.trans E4.out.symm)).mono ?_;rintro r v5 ⟨rfl,x5⟩;have Z5:Hid (Ext v2 v5):=Lib.hid ((Z3.out.trans J4.out).trans x5);clear x5)
    have t0 : ∀ y:Xt v5,y.W.cell? ⟨w.heap.size,0,none⟩=some (.int .u64 e):=fun y=>(B2'.out.ext (Z5.out.trans y.x)).cell 0
    have t1 : ∀ y:Xt v5,y.W.cell? ⟨w.heap.size,1,none⟩=some (.slice At nt ct):=fun y=>(B2'.out.ext (Z5.out.trans y.x)).cell 1
    (refine ord_flo (pick_cons rfl (pick_cons rfl (pick_cons rfl (pick_cons rfl (pick_cons rfl (pick_cons rfl pick_nil)))))) ?_;(repeat (go_big_quiet_step (fail)));refine wpQuiet_nil ?_;show ordWalk _ _ _ _ _ _ _)
    refine ord_ext (pick_cons rfl pick_nil) ?_;intro K_ hK_
    go_wp2_with (go_at_call 17;refine (HAt2.out _ Z5.out).mono ?_;rintro r v6 ⟨A6,m6,c6,R6,rfl,l6,o6,r6,a6,e6,x6⟩;have L6:=Lib.hid l6;have O6:=Lib.hid o6;have Q6:=Lib.hid r6;have E6:=Lib.hid e6;have J6:=Lib.hid x6;clear l6 o6 r6 a6 e6 x6)
    refine ordNext.mk J6.out ?_
    refine ord_one (pick_cons rfl pick_nil) ?_;intro K_ hK_
    go_wp2_with (go_at_call 17;refine (HAtL.out _ (Z5.out.trans J6.out)).mono ?_;rintro r v7 ⟨A7,m7,c7,R7,rfl,l7,o7,r7,a7,e7,x7⟩;have L7:=Lib.hid l7;have O7:=Lib.hid o7;have Q7:=Lib.hid r7;have E7:=Lib.hid e7;have J7:=Lib.hid x7;clear l7 o7 r7 a7 e7 x7)
    refine ord_one (pick_cons rfl pick_nil) ?_;intro K_ hK_
    go_wp2_with (go_at_call 25;refine (sameCts_any A6 A7 c6 c7 m6 m7 R6 R7 _ L6.out L7.out (ctin_of L6.out O6.out Q6.out J7.out) (ctin_of L7.out O7.out Q7.out (Ext.refl _)) (E6.out.trans E7.out.symm)).mono ?_;rintro r v8 ⟨rfl,x8⟩;have Z8:Hid (Ext v2 v8):=Lib.hid (((Z5.out.trans J6.out).trans J7.out).trans x8);clear x8)
    (refine ord_flo (pick_cons rfl (pick_cons rfl (pick_cons rfl pick_nil))) ?_;(repeat (go_big_quiet_step (fail)));refine wpQuiet_nil ?_;show ordWalk _ _ _ _ _ _ _)
    (refine ord_pur (pick_cons rfl pick_nil) ?_;(repeat (go_big_quiet_step (fail)));refine wpQuiet_nil ?_;show ordWalk _ _ _ _ _ _ _)
    refine ord_one (pick_cons rfl pick_nil) ?_;intro K_ hK_
    go_wp2_with (go_at_call 16;refine (HSu.out _ Z8.out).mono ?_;rintro r v9 ⟨A9,m9,R9,rfl,l9,u9,e9,x9⟩;have L9:=Lib.hid l9;have U9:=Lib.hid u9;have E9:=Lib.hid e9;have J9:=Lib.hid x9;clear l9 u9 e9 x9)
    refine ord_one (pick_cons rfl pick_nil) ?_;intro K_ hK_
    go_wp2_with (go_at_call 23;refine (sameUps_any A9 A1 m9 m2 m9 m2 R9 R1 _ L9 L1 (Lib.hid U9.out.uin) (Lib.hid (HS1.out _ (Y2.out.trans (Z8.out.trans J9.out)))) (Lib.hid (E9.out.trans E1.out.symm))).mono ?_;rintro r v10 ⟨rfl,x10⟩;have Z10:Hid (Ext v2 v10):=Lib.hid ((Z8.out.trans J9.out).trans x10);clear x10)
    (refine ord_flo (pick_cons rfl (pick_cons rfl pick_nil)) ?_;(repeat (go_big_quiet_step (fail)));refine wpQuiet_nil ?_;show ordWalk _ _ _ _ _ _ _)
    refine ord_fin ?_
    clear t0 t1 L3 O3 Q3 E3 J3 L4 O4 Q4 E4 J4 L6 O6 Q6 E6 J6 L7 O7 Q7 E7 J7 L9 U9 E9 J9
    go_upto_region 14 with fail
    obtain ⟨bb,hbb⟩ : ∃ b,beyondV (S.map Tm.v) (e,lt)=b:=⟨_,rfl⟩
    have HBB:=Lib.hid hbb
    clear hbb
    have X10:=Lib.hid (XV2.out.trans Z10.out)
    have B10:=Lib.hid (B2'.out.ext Z10.out)
    have XD:Ext v10 v10.drew:=(Ext.refl v10).drew
    go_cut [14,121] (fun s s2 wx=>s = .bool true∧s2 = .bool false∧Hid (Ext v10 wx))
    case first =>
     have t0 : ∀ y:Xt v10.drew,y.W.cell? ⟨w.heap.size,0,none⟩=some (.int .u64 e):=fun y=>(B10.out.ext (XD.trans y.x)).cell 0
     have t1 : ∀ y:Xt v10.drew,y.W.cell? ⟨w.heap.size,1,none⟩=some (.slice At nt ct):=fun y=>(B10.out.ext (XD.trans y.x)).cell 1
     cases bb with
     | false =>
      refine wp_region_ord [0,0,3,7,15,15,63,15,255,15,15,2047,4095,8191,16383] (.flo [0,1] (.one 2 (.flo [3,4,5,7,9,10] (.ext 6 (.ext 8 (.one 11 (.one 12 (.flo [13,14] (.fin))))))))) (by kernel_rfl) (by kernel_rfl) (by intro _ _ d _ _ h;cases d<;>exact h) ?_
      (refine ord_flo (pick_cons rfl (pick_cons rfl pick_nil)) ?_;(repeat (go_big_quiet_step (fail)));refine wpQuiet_nil ?_;show ordWalk _ _ _ _ _ _ _)
      refine ord_one (pick_cons rfl pick_nil) ?_;intro K_ hK_
      go_wp2_with (go_at_call 96;refine (rbeyond_at AS cS nS S e At nt ct lt _ HBB hnS (Lib.hid (hS.out.ext (X10.out.trans XD))) (Lib.hid (ht.out.ext (X10.out.trans XD)))).mono ?_;rintro r v11 ⟨rfl,x11⟩;have Z11:Hid (Ext v10 v11):=Lib.hid (XD.trans x11);clear x11)
      have t0 : ∀ y:Xt v11,y.W.cell? ⟨w.heap.size,0,none⟩=some (.int .u64 e):=fun y=>(B10.out.ext (Z11.out.trans y.x)).cell 0
      have t1 : ∀ y:Xt v11,y.W.cell? ⟨w.heap.size,1,none⟩=some (.slice At nt ct):=fun y=>(B10.out.ext (Z11.out.trans y.x)).cell 1
      (refine ord_flo (pick_cons rfl (pick_cons rfl (pick_cons rfl (pick_cons rfl (pick_cons rfl (pick_cons rfl pick_nil)))))) ?_;(repeat (go_big_quiet_step (fail)));refine wpQuiet_nil ?_;show ordWalk _ _ _ _ _ _ _)
      refine ord_ext (pick_cons rfl pick_nil) ?_;intro K_ hK_
      go_wp2
      refine ordNext.mk (Ext.refl _) ?_
      refine ord_ext (pick_cons rfl pick_nil) ?_;intro K_ hK_
      go_wp2
      refine ordNext.mk (Ext.refl _) ?_
      refine ord_one (pick_cons rfl pick_nil) ?_;intro K_ hK_
      go_wp2
      refine ord_one (pick_cons rfl pick_nil) ?_;intro K_ hK_
      go_wp2
      (refine ord_flo (pick_cons rfl (pick_cons rfl pick_nil)) ?_;(repeat (go_big_quiet_step (fail)));refine wpQuiet_nil ?_;show ordWalk _ _ _ _ _ _ _)
      refine ord_fin ?_
      go_wp2_with fail
      go_meet
      case rel=>exact ⟨rfl,rfl,Z11⟩
     | true =>
      refine wp_region_ord [0,0,3,7,15,15,63,15,255,15,15,2047,4095,8191,16383] (.flo [0,1] (.one 2 (.flo [3,4,5,7,9,10] (.ext 6 (.ext 8 (.one 11 (.one 12 (.flo [13,14] (.fin))))))))) (by kernel_rfl) (by kernel_rfl) (by intro _ _ d _ _ h;cases d<;>exact h) ?_
      (refine ord_flo (pick_cons rfl (pick_cons rfl pick_nil)) ?_;(repeat (go_big_quiet_step (fail)));refine wpQuiet_nil ?_;show ordWalk _ _ _ _ _ _ _)
      refine ord_one (pick_cons rfl pick_nil) ?_;intro K_ hK_
      go_wp2_with (go_at_call 96;refine (rbeyond_at AS cS nS S e At nt ct lt _ HBB hnS (Lib.hid (hS.out.ext (X10.out.trans XD))) (Lib.hid (ht.out.ext (X10.out.trans XD)))).mono ?_;rintro r v11 ⟨rfl,x11⟩;have Z11:Hid (Ext v10 v11):=Lib.hid (XD.trans x11);clear x11)
      have t0 : ∀ y:Xt v11,y.W.cell? ⟨w.heap.size,0,none⟩=some (.int .u64 e):=fun y=>(B10.out.ext (Z11.out.trans y.x)).cell 0
      have t1 : ∀ y:Xt v11,y.W.cell? ⟨w.heap.size,1,none⟩=some (.slice At nt ct):=fun y=>(B10.out.ext (Z11.out.trans y.x)).cell 1
      obtain ⟨AV,hAV⟩ : ∃ AV,UdS.sumV ((L.map Ud.uv).map (advK (S.map Tm.v)))=AV:=⟨_,rfl⟩
      have HAV:=Lib.hid hAV
      have HAG:Hid (∀ u∈AV,GoodT u):=Lib.hid (by rw [← hAV];exact gt_sum (adv_gt HSE.out HGT.out))
      have HAB:Hid (sumV (atV AV (e,lt))=BV):=Lib.hid (by rw [← hAV,bag_adv HSE.out HBB.out HGT.out HTV.out];exact HBV.out)
      have HAN:Hid (AV.length≤24):=Lib.hid (by
       have b:=uSumV_len ((L.map Ud.uv).map (advK (S.map Tm.v)))
       rw [hAV,List.length_map,List.length_map, ← hn.out] at b
       omega)
      clear hAV
      (refine ord_flo (pick_cons rfl (pick_cons rfl (pick_cons rfl (pick_cons rfl (pick_cons rfl (pick_cons rfl pick_nil)))))) ?_;(repeat (go_big_quiet_step (fail)));refine wpQuiet_nil ?_;show ordWalk _ _ _ _ _ _ _)
      refine ord_ext (pick_cons rfl pick_nil) ?_;intro K_ hK_
      go_wp2_with (go_at_call 18;refine (dadv_any AL cL k L AS cS nS S _ HAV hn (Lib.hid (hL.out.ext (X10.out.trans Z11.out))) (by omega) HIN hnS (Lib.hid (hS.out.ext (X10.out.trans Z11.out))) HFS (by omega)).mono ?_;rintro r v12 ⟨A12,m12,R12,rfl,l12,u12,e12,x12⟩;have L12:=Lib.hid l12;have U12:=Lib.hid u12;have E12:=Lib.hid e12;have J12:=Lib.hid x12;clear l12 u12 e12 x12)
      refine ordNext.mk J12.out ?_
      have hm12:m12≤24:=by rw [L12.out, ← List.length_map (f:=Ud.uv),E12.out];exact HAN.out
      have HI12:Hid (∀ x∈R12,InU x):=Lib.hid fun x hx=>(HAG.out x.uv (by rw [← E12.out];exact List.mem_map.2 ⟨x,hx,rfl⟩)).1.u
      have Z12:=Lib.hid (Z11.out.trans J12.out)
      refine ord_ext (pick_cons rfl pick_nil) ?_;intro K_ hK_
      go_wp2_with (go_at_call 17;refine (dat_at (U:=BV) A12 m12 m12 R12 e At nt ct lt _ (Lib.hid (by rw [E12.out];exact HAB.out)) L12 (Lib.hid U12.out.uin) (by omega) HI12 (Lib.hid (HTW.out _ (Z10.out.trans Z12.out))) (GW.out _ (Z10.out.trans Z12.out))).mono ?_;rintro r v13 ⟨A13,m13,c13,R13,rfl,l13,o13,r13,a13,e13,x13⟩;have L13:=Lib.hid l13;have O13:=Lib.hid o13;have Q13:=Lib.hid r13;have E13:=Lib.hid e13;have J13:=Lib.hid x13;clear l13 o13 r13 a13 e13 x13)
      refine ordNext.mk J13.out ?_
      refine ord_one (pick_cons rfl pick_nil) ?_;intro K_ hK_
      go_wp2_with (go_at_call 17;refine (HAtL.out _ (Z10.out.trans (Z12.out.trans J13.out))).mono ?_;rintro r v14 ⟨A14,m14,c14,R14,rfl,l14,o14,r14,a14,e14,x14⟩;have L14:=Lib.hid l14;have O14:=Lib.hid o14;have Q14:=Lib.hid r14;have E14:=Lib.hid e14;have J14:=Lib.hid x14;clear l14 o14 r14 a14 e14 x14)
      refine ord_one (pick_cons rfl pick_nil) ?_;intro K_ hK_
      go_wp2_with (go_at_call 25;refine (sameCts_any A13 A14 c13 c14 m13 m14 R13 R14 _ L13.out L14.out (ctin_of L13.out O13.out Q13.out J14.out) (ctin_of L14.out O14.out Q14.out (Ext.refl _)) (E13.out.trans E14.out.symm)).mono ?_;rintro r v15 ⟨rfl,x15⟩;have Z15:Hid (Ext v10 v15):=Lib.hid ((Z12.out.trans J13.out).trans (J14.out.trans x15));clear x15)
      (refine ord_flo (pick_cons rfl (pick_cons rfl pick_nil)) ?_;(repeat (go_big_quiet_step (fail)));refine wpQuiet_nil ?_;show ordWalk _ _ _ _ _ _ _)
      refine ord_fin ?_
      go_wp2_with fail
      go_meet
      case rel=>exact ⟨rfl,rfl,Z15⟩
    case rest =>
     obtain ⟨rfl,rfl,ZC⟩:=hcut
     clear XD HAtL HAt1 HAt2 HSu
     obtain ⟨V,hV⟩ : ∃ V,V=L.map fun x=>x.t.v:=⟨_,rfl⟩
     have HVE:Hid (∀ v∈V,InE v):=Lib.hid (by
      rw [hV]
      intro v hv
      obtain ⟨x,hx,rfl⟩:=List.mem_map.1 hv
      exact ⟨(HIN.out x hx).tu,(HIN.out x hx).te⟩)
     rw [← hV] at HF
     have HVI:=Lib.hid (few_inV HF.out HVE.out)
     have HIX:Hid (∀ x∈L,InV x.t.v):=Lib.hid fun x hx=>HVI.out _ (by rw [hV];exact List.mem_map.2 ⟨x,hx,rfl⟩)
     have HSX:Hid (∀ x∈L,x.t.v∈allT V):=Lib.hid fun x hx=>allT_sub V _ (by rw [hV];exact List.mem_map.2 ⟨x,hx,rfl⟩)
     have HVD:=Lib.hid hV
     clear hV
     have XC:=Lib.hid (X10.out.trans ZC.out)
     have BC:=Lib.hid (B10.out.ext ZC.out)
     go_upto_region 17 with (first
      | (go_at_call 97;refine (times_any AL cL k L _ (allT V) hn (Lib.hid (hL.out.ext XC.out)) HIX (Lib.hid (allT_closed V)) HSX (Lib.hid (Nat.le_trans (allT_len HF.out) (by decide))) (Lib.hid (allT_inV HF.out HVE.out)) (GP.ext XC.out) (by omega)).mono ?_;rintro r v16 ⟨A16,c16,n16,M,rfl,l16,t16,j16,i16,x16⟩;have L16:=Lib.hid l16;have T16:=Lib.hid t16;have J16:=Lib.hid j16;have I16:=Lib.hid i16;have X16:=Lib.hid x16;clear l16 t16 j16 i16 x16))
     rw [← HVD.out] at J16
     have hn16:n16≤4096:=by
      have a:=J16.out.len (allT_closed V) (allT_sub V)
      have b:=allT_len HF.out
      rw [List.length_map, ← L16.out] at a
      omega
     have HRI:Hid (Rising (M.map Tm.v)):=Lib.hid J16.out.rise
     have HCL:Hid (ClosedT (M.map Tm.v)):=Lib.hid J16.out.closed
     have HLT:Hid (∀ u∈L.map Ud.uv,u.1.2∈M.map Tm.v):=Lib.hid fun u hu=>by
      obtain ⟨x,hx,rfl⟩:=List.mem_map.1 hu
      exact J16.out.sub _ (by rw [HVD.out];exact List.mem_map.2 ⟨x,hx,rfl⟩)
     have H24:Hid ((L.map Ud.uv).length≤24):=Lib.hid (by rw [List.length_map, ← hn.out];exact h0)
     have XM:=Lib.hid (XC.out.trans X16.out)
     have HB0:Hid (BgS v16 v16 (L.map Ud.uv) M none 0 0 []):=Lib.hid (BgS.start _ _ _)
     go_wp2
     go_loopg [16,17] n16 (fun z u16 u17 wr => ∃ (j:Nat) (A:Option Addr) (c q:Nat) (Bs:List Bg),z=n16 - j∧j≤n16∧u17 = .int .i64 j∧u16 = .slice A q c∧q≤j∧Hid (q=j)∧Hid (BgS v16 wr (L.map Ud.uv) M A c q Bs))
     case atStart=>exact ⟨0,none,0,0,[],rfl,Nat.zero_le _,rfl,rfl,Nat.le_refl _,Lib.hid rfl,HB0⟩
     case round =>
      clear HB0
      obtain ⟨j,AB,cB,qB,Bs,rfl,hj,rfl,rfl,hqj,HQJ,HBS⟩:=hrel
      by_cases hlt:j<n16
      ·have hjM:j<M.length:=by rw [← L16.out];exact hlt
       obtain ⟨ad,rfl,q0,q1⟩:=(T16.out.tin.ext HBS.out.ext).at (i:=j) hjM
       have HXS:Hid (Sl v16 1 (M.getD j Tm.zero).A (M.getD j Tm.zero).l.length (M.getD j Tm.zero).c (wds (M.getD j Tm.zero).l)):=Lib.hid (T16.out.tin.ls _ (getT_mem hjM))
       have hjq:M.getD j Tm.zero=M.getD qB Tm.zero:=by rw [HQJ.out]
       obtain ⟨x,hx⟩ : ∃ x,M.getD j Tm.zero=x:=⟨_,rfl⟩
       rw [hx] at q0 q1 HXS hjq
       have HJQ:=Lib.hid hjq
       clear hx hjq hjM
       obtain ⟨e1,Ax,cx,l1⟩:=x
       obtain ⟨nx,hnx⟩ : ∃ nx,nx=l1.length:=⟨_,rfl⟩
       replace q0:wr.cell? (ad.add (j * 2))=some (.int .u64 e1):=q0
       replace q1:wr.cell? ⟨(ad.add (j * 2)).block,(ad.add (j * 2)).off+1,none⟩=some (.slice Ax l1.length cx):=q1
       replace HXS:Hid (Sl v16 1 Ax l1.length cx (wds l1)):=HXS
       rw [← hnx] at q1 HXS
       clear hnx
       have XR:=Lib.hid (XM.out.trans HBS.out.ext)
       go_wp2_with (first
        | (go_at_call 17;refine (dat_any AL cL k L e1 Ax nx cx l1 _ hn (Lib.hid (hL.out.ext XR.out)) (by omega) HIN (Lib.hid (HXS.out.ext HBS.out.ext)) (G.ext XR.out)).mono ?_;rintro r v17 ⟨A17,n17,c17,R17,rfl,l17,o17,r17,a17,e17,x17⟩;have L17:=Lib.hid l17;have O17:=Lib.hid o17;have Q17:=Lib.hid r17;have E17:=Lib.hid e17;have X17:=Lib.hid x17;clear l17 o17 r17 a17 e17 x17)
        | (at_builtin;refine wpList_append_gen _ elemBags v16.heap.size _ _ rfl rfl AB qB cB (Bs.map bgV) rfl ((HBS.out.own.ext X17.out).alloc _) (some ⟨v17.heap.size,0,none⟩) 1 1 [.slice A17 n17 c17] rfl (Sl.one v17 #[.slice A17 n17 c17] 31 1 rfl) (by intro u hu;simp at hu;rw [hu];rfl) (by omega) (by decide) (Nat.le_trans HBS.out.ext.size (Nat.le_trans X17.out.size ((Ext.refl v17).alloc _).size)) ?_;intro A18 c18 w18 o18 g18 x18;have O18:=Lib.hid o18;have G18:=Lib.hid g18;clear o18 g18 x18))
       go_roundg (n16 - (j+1))
       case measure=>omega
       case rel =>
        have XA:=(Ext.refl v17).alloc (.cells #[.slice A17 n17 c17] 31)
        refine ⟨j+1,A18,c18,qB+1,Bs++[(A17,c17,R17)],by omega,by omega,by go_num,rfl,by omega,Lib.hid (by have:=HQJ.out;omega),Lib.hid (HBS.out.push (X17.out.trans XA) ?_ G18.out ⟨?_,fun y hy=>((Q17.out y hy).1.ext XA)⟩ ?_)⟩
        ·show Own w18 v16.heap.size _ 1 A18 (qB+1) c18 (Bs.map bgV++[.slice A17 R17.length c17])
         rw [← L17.out]
         exact O18.out
        ·show Own _ 0 _ 2 A17 R17.length c17 (ctsC R17)
         rw [← L17.out]
         exact (O17.out.mono (Nat.zero_le _)).ext XA
        ·rw [← HJQ.out]
         exact E17.out
      ·obtain rfl:j=n16:=by omega
       have HQB:Hid (j=Bs.length):=Lib.hid (by rw [← HQJ.out];exact HBS.out.len)
       have HBV2:Hid (∀ i,i<M.length→(Bs.getD i Bg.zero).2.2.map valC=sumV (atV (L.map Ud.uv) (M.getD i Tm.zero).v)):=Lib.hid fun i hi=>HBS.out.val i (by rw [HQJ.out,L16.out];exact hi)
       have hqj2:qB=j:=HQJ.out
       subst hqj2
       have XR:=Lib.hid (XM.out.trans HBS.out.ext)
       go_upto_region 25 with (first
        | (go_at_call 98;refine (dof_any A16 c16 qB M AB cB Bs _ (L.map Ud.uv) L16 HQB (Lib.hid (T16.out.tin.ext HBS.out.ext)) (Lib.hid HBS.out.bgi) I16 HRI HCL HGT HLT HBV2 (GP.ext XR.out) (G.ext XR.out) (by omega) H24).mono ?_;rintro r v20 ⟨A20,m20,R20,rfl,l20,u20,e20,x20⟩;have L20:=Lib.hid l20;have U20:=Lib.hid u20;have E20:Hid (R20.map Ud.uv=SV):=Lib.hid (e20.trans HSV.out);have X20:=Lib.hid x20;have hm20:m20=m2:=(by rw [l20,L1.out, ← List.length_map (f:=Ud.uv), ← List.length_map (f:=Ud.uv),e20,HSV.out,E1.out]);clear l20 u20 e20 x20;subst hm20))
       have XF:=Lib.hid (XR.out.trans X20.out)
       have HSW:Hid (∀ W,Ext v20 W→Uin W A1 m20 R1):=Lib.hid fun W x=>HS1.out W (Y2.out.trans (Z10.out.trans (ZC.out.trans (X16.out.trans (HBS.out.ext.trans (X20.out.trans x))))))
       have HRW:Hid (∀ W,Ext v20 W→Uin W A20 m20 R20):=Lib.hid fun W x=>U20.out.uin.ext x
       have HEQ:Hid (R20.map Ud.uv=R1.map Ud.uv):=Lib.hid (E20.out.trans E1.out.symm)
       go_wp2
       go_loopg [19] m20 (fun z u19 wr => ∃ i:Nat,z=m20 - i∧i≤m20∧u19 = .int .i64 i∧Hid (Ext v20 wr))
       case atStart=>exact ⟨0,rfl,Nat.zero_le _,rfl,Lib.hid (Ext.refl _)⟩
       case round =>
        obtain ⟨i,rfl,hi,rfl,HE⟩:=hrel
        by_cases hlt:i<m20
        ·have hil:i<R20.length:=by rw [← L20.out];exact hlt
         have him:i<R1.length:=by rw [← L1.out];exact hlt
         obtain ⟨ad,hA1,p0,p1,p2,p3⟩:=(HRW.out _ HE.out).at hil
         obtain ⟨bd,hA2,q0,q1,q2,q3⟩:=(HSW.out _ HE.out).at him
         have hr1:=(HRW.out _ HE.out).ls _ (getU_mem hil)
         have hr2:=(HSW.out _ HE.out).ls _ (getU_mem him)
         obtain ⟨e1,e2,e3,e4⟩:=uval_at HEQ.out hil
         obtain ⟨x,hx⟩ : ∃ x,R20.getD i Ud.zero=x:=⟨_,rfl⟩
         obtain ⟨y,hy⟩ : ∃ y,R1.getD i Ud.zero=y:=⟨_,rfl⟩
         rw [hx] at p0 p1 p2 p3 hr1 e1 e2 e3 e4
         rw [hy] at q0 q1 q2 q3 hr2 e1 e2 e3 e4
         obtain ⟨xA,xc,xl,⟨xe,xtA,xtc,xtl⟩,xd⟩:=x
         obtain ⟨yA,yc,yl,⟨ye,ytA,ytc,ytl⟩,yd⟩:=y
         dsimp only at p0 p1 p2 p3 q0 q1 q2 q3 hr1 hr2 e1 e2 e3 e4
         subst e1 e2 e3 e4
         obtain ⟨nx,hnx⟩ : ∃ nx,nx=yl.length:=⟨_,rfl⟩
         obtain ⟨tx,htx2⟩ : ∃ tx,tx=ytl.length:=⟨_,rfl⟩
         rw [← hnx] at p0 q0
         rw [← htx2] at p2 q2
         have HNX:=Lib.hid hnx
         have HR1:Hid (∀ W,Ext wr W→Rw W xA xc yl):=Lib.hid (fun W q=>hr1.r.ext q)
         have HR2:Hid (∀ W,Ext wr W→Rw W yA yc yl):=Lib.hid (fun W q=>hr2.r.ext q)
         have HT1:Hid (∀ W,Ext wr W→Sl W 1 xtA tx xtc (wds ytl)):=Lib.hid (fun W q=>by rw [htx2];exact hr1.t.ext q)
         have HT2:Hid (∀ W,Ext wr W→Sl W 1 ytA tx ytc (wds ytl)):=Lib.hid (fun W q=>by rw [htx2];exact hr2.t.ext q)
         have HCC:Hid (cmpR yl yl=0):=Lib.hid (cmpR_tot.refl yl)
         have X:Ext wr wr.drew:=(Ext.refl wr).drew
         have P0 : ∀ z:Xt wr.drew,z.W.cell? (ad.add (i * 4))=some (.slice xA nx xc):=fun z=>(X.trans z.x).cell p0
         have P1 : ∀ z:Xt wr.drew,z.W.cell? ⟨(ad.add (i * 4)).block,(ad.add (i * 4)).off+1,none⟩=some (.int .u64 ye):=fun z=>(X.trans z.x).cell p1
         have P2 : ∀ z:Xt wr.drew,z.W.cell? ⟨(ad.add (i * 4)).block,(ad.add (i * 4)).off+2,none⟩=some (.slice xtA tx xtc):=fun z=>(X.trans z.x).cell p2
         have P3 : ∀ z:Xt wr.drew,z.W.cell? ⟨(ad.add (i * 4)).block,(ad.add (i * 4)).off+3,none⟩=some (.int .i64 yd):=fun z=>(X.trans z.x).cell p3
         have Q0 : ∀ z:Xt wr.drew,z.W.cell? (bd.add (i * 4))=some (.slice yA nx yc):=fun z=>(X.trans z.x).cell q0
         have Q1 : ∀ z:Xt wr.drew,z.W.cell? ⟨(bd.add (i * 4)).block,(bd.add (i * 4)).off+1,none⟩=some (.int .u64 ye):=fun z=>(X.trans z.x).cell q1
         have Q2 : ∀ z:Xt wr.drew,z.W.cell? ⟨(bd.add (i * 4)).block,(bd.add (i * 4)).off+2,none⟩=some (.slice ytA tx ytc):=fun z=>(X.trans z.x).cell q2
         have Q3 : ∀ z:Xt wr.drew,z.W.cell? ⟨(bd.add (i * 4)).block,(bd.add (i * 4)).off+3,none⟩=some (.int .i64 yd):=fun z=>(X.trans z.x).cell q3
         clear hil him hr1 hr2 hx hy hnx htx2 p0 p1 p2 p3 q0 q1 q2 q3
         subst hA1 hA2
         go_upto_region 28 with fail
         refine wp_region_ord [0,0,3,7,15,0,0,96,224,480,1023,2047,4095,4095,16383,32767,65535,4095,4095,397311,921599,1970175,4194303,8388607,16777215,33554431,67108863,67108863,268435455,536870911,1073741823,67108863,67108863,6509559807,15099494399,32279363583,68719476735,137438953471,274877906943] (.flo [0,1,2,3,4,5,6,7,8,9,10,11,12,13,14,15,16,17,18,19,20,21] (.one 22 (.flo [23,24,25,26,27,28,29,30,31,32,33,34,35] (.one 36 (.flo [37,38] (.fin)))))) (by kernel_rfl) (by kernel_rfl) (by intro _ _ d _ _ h;cases d<;>exact h) ?_
         (refine ord_flo (pick_cons rfl (pick_cons rfl (pick_cons rfl (pick_cons rfl (pick_cons rfl (pick_cons rfl (pick_cons rfl (pick_cons rfl (pick_cons rfl (pick_cons rfl (pick_cons rfl (pick_cons rfl (pick_cons rfl (pick_cons rfl (pick_cons rfl (pick_cons rfl (pick_cons rfl (pick_cons rfl (pick_cons rfl (pick_cons rfl (pick_cons rfl (pick_cons rfl pick_nil)))))))))))))))))))))) ?_;(repeat (go_big_quiet_step (fail)));refine wpQuiet_nil ?_;show ordWalk _ _ _ _ _ _ _)
         refine ord_one (pick_cons rfl pick_nil) ?_;intro K_ hK_
         go_wp2_with (go_at_call 54;refine (usameTime_at (b:=true) ye ye xtA ytA tx tx xtc ytc ytl ytl _ (Lib.hid (by simp)) (Lib.hid (HT1.out _ X)) (Lib.hid (HT2.out _ X))).mono ?_;rintro r w1 ⟨rfl,x1⟩)
         have P0 : ∀ z:Xt w1,z.W.cell? (ad.add (i * 4))=some (.slice xA nx xc):=fun z=>P0 ⟨z.W,x1.trans z.x⟩
         have Q0 : ∀ z:Xt w1,z.W.cell? (bd.add (i * 4))=some (.slice yA nx yc):=fun z=>Q0 ⟨z.W,x1.trans z.x⟩
         clear P1 P2 P3 Q1 Q2 Q3
         (refine ord_flo (pick_cons rfl (pick_cons rfl (pick_cons rfl (pick_cons rfl (pick_cons rfl (pick_cons rfl (pick_cons rfl (pick_cons rfl (pick_cons rfl (pick_cons rfl (pick_cons rfl (pick_cons rfl (pick_cons rfl pick_nil))))))))))))) ?_;(repeat (go_big_quiet_step (fail)));refine wpQuiet_nil ?_;show ordWalk _ _ _ _ _ _ _)
         refine ord_one (pick_cons rfl pick_nil) ?_;intro K_ hK_
         go_wp2_with (go_at_call 53;refine (rowRCmp_lit xA yA xc yc nx nx yl yl _ HCC HNX HNX (Lib.hid (HR1.out _ (X.trans x1))) (Lib.hid (HR2.out _ (X.trans x1)))).mono ?_;rintro r w2 ⟨rfl,x2⟩)
         (refine ord_flo (pick_cons rfl (pick_cons rfl pick_nil)) ?_;(repeat (go_big_quiet_step (fail)));refine wpQuiet_nil ?_;show ordWalk _ _ _ _ _ _ _)
         refine ord_fin ?_
         go_wp2
         go_roundg (m20 - (i+1))
         case measure=>omega
         case rel=>exact ⟨i+1,by omega,by omega,by go_num,Lib.hid (HE.out.trans ((X.trans x1).trans x2))⟩
        ·go_wp2
         go_ret
         exact ⟨rfl,XF.out.trans HE.out⟩
theorem same10_any (AL:Option Addr) (cL n:Nat) (L:List Ud) (tn:Int) (AS:Option Addr) (cS nS:Nat) (S:List Tm) (e:Int) (At:Option Addr) (nt ct:Nat) (lt:List Int) (w:World) (hn:Hid (n=L.length)) (hL:Hid (Uin w AL cL L)) (hI:Hid (∀ x∈L,UdIn x)) (htx:Hid (∀ x∈L, ∀ d∈x.l,d.s.size≤140737488355328)) (ht9:0≤tn∧tn≤255) (hnS:Hid (nS=S.length)) (hS:Hid (Tin w AS cS S)) (hIS:Hid (∀ x∈S,TmIn x)) (ht:Hid (Sl w 1 At nt ct (wds lt))) (hte:Hid (InE (e,lt))) (hnt:Hid (nt=lt.length)) (G:Good w) (GP:Pow w) :
  Calls Tryz.prog 12 #[.slice AL n cL, .int .u8 tn, .slice AS nS cS, .agg #[.int .u64 e, .slice At nt ct]] w fun r w'=>r = .returned (.bool true)∧Ext w w':=by
 obtain ⟨t,rfl⟩ : ∃ t:Nat,tn=(t:Int):=⟨tn.toNat,by omega⟩
 by_cases h0:24<n
 ·exact same10_much AL cL n L t AS cS nS S e At nt ct lt w hn hL hnS hS ht G (.inl h0)
 ·cases h1:muchU (L.map Ud.uv) with
  | true=>exact same10_much AL cL n L t AS cS nS S e At nt ct lt w hn hL hnS hS ht G (.inr (.inl ⟨by omega,h1⟩))
  | false =>
   by_cases h2:6<nS
   ·exact same10_much AL cL n L t AS cS nS S e At nt ct lt w hn hL hnS hS ht G (.inr (.inr (.inl ⟨by omega,h1,h2⟩)))
   ·cases h3:farV (S.map Tm.v) with
    | true=>exact same10_much AL cL n L t AS cS nS S e At nt ct lt w hn hL hnS hS ht G (.inr (.inr (.inr (.inl ⟨by omega,h1,by omega,h3⟩))))
    | false =>
     by_cases h4:50<nt
     ·exact same10_much AL cL n L t AS cS nS S e At nt ct lt w hn hL hnS hS ht G (.inr (.inr (.inr (.inr ⟨by omega,h1,by omega,h3,h4⟩))))
     ·exact same10_main AL cL n L t AS cS nS S e At nt ct lt w hn hL hI htx (by omega) hnS hS hIS ht hte hnt G GP (by omega) (Lib.hid h1) (by omega) (Lib.hid h3) (by omega)
end Go.Proofs.YtdgbkpoickbidaaGreatDoor
