/- penstockref01.sign, Cmp: they answer what datum's answer. penstockref02.Cmp: what it answers of any two rows. penstockref02.Cmp, its answer a name. penstockref10: cmp, add. penstockref10: Sum. ShareTwo: the walk. ShareTwo: the walk. Conditions: each theorem states its own. -/
import Derived.Test.YtdgbkpoickbidaaGreatDoorHt3
import Derived.Test.YtdgbkpoickbidaaGreatDoorHt15
import Derived.Deep.LoopGhost
import Derived.Test.YtdgbkpoickbidaaGreatDoorHt8
import Derived.Deep.CutBlock
namespace Go.Proofs.YtdgbkpoickbidaaGreatDoor
open Go.RowKit

def signI (l s:Bool):Int:=if l then -1 else if s then 0 else 1
set_option maxRecDepth 100000 in
set_option maxHeartbeats 400000 in
theorem sign_any (l s:Bool) (w:World):Calls Tryz.prog 219 #[.bool l, .bool s] w fun e w'=>e = .returned (.int .i64 (signI l s))∧w=w':=by
 cases l<;>cases s
 all_goals
  go_enter Tryz.func219,Tryz.ntmps219
  go_wp2
  go_ret
  exact ⟨rfl,rfl⟩
set_option maxRecDepth 100000 in
set_option maxHeartbeats 800000 in
theorem rcmp_klt (ka na kb nb:Int) (ba bb:Bool) (sa sb:ByteArray) (w:World) (h:ka<kb):Calls Tryz.prog 165 #[.agg #[.int .u8 (ka), .bool (ba), .int .i64 (na), .string (sa)], .agg #[.int .u8 (kb), .bool (bb), .int .i64 (nb), .string (sb)]] w fun e w'=>e = .returned (.int .i64 (-1))∧Ext w w':=by
 have z:(ka != kb)=true:=by simp;omega
 go_enter Tryz.func165,Tryz.ntmps165
 go_wp2_with (go_at_call 219;refine (sign_any _ _ _).mono ?_;rintro e w1 ⟨rfl,rfl⟩)
 go_ret
 exact ⟨rfl,((Ext.refl w).alloc _).alloc _⟩
set_option maxRecDepth 100000 in
set_option maxHeartbeats 800000 in
theorem rcmp_kgt (ka na kb nb:Int) (ba bb:Bool) (sa sb:ByteArray) (w:World) (h:kb<ka):Calls Tryz.prog 165 #[.agg #[.int .u8 (ka), .bool (ba), .int .i64 (na), .string (sa)], .agg #[.int .u8 (kb), .bool (bb), .int .i64 (nb), .string (sb)]] w fun e w'=>e = .returned (.int .i64 (1))∧Ext w w':=by
 have z:(ka != kb)=true:=by simp;omega
 have z2:decide (ka<kb)=false:=by simp;omega
 go_enter Tryz.func165,Tryz.ntmps165
 go_wp2_with (go_at_call 219;refine (sign_any _ _ _).mono ?_;rintro e w1 ⟨rfl,rfl⟩)
 go_ret
 exact ⟨rfl,((Ext.refl w).alloc _).alloc _⟩
set_option maxRecDepth 100000 in
set_option maxHeartbeats 800000 in
theorem rcmp_b_false_false (na nb:Int) (sa sb:ByteArray) (w:World)  : Calls Tryz.prog 165 #[.agg #[.int .u8 (2), .bool (false), .int .i64 (na), .string (sa)], .agg #[.int .u8 (2), .bool (false), .int .i64 (nb), .string (sb)]] w fun e w'=>e = .returned (.int .i64 (0))∧Ext w w':=by
 go_enter Tryz.func165,Tryz.ntmps165
 go_wp2_with (go_at_call 219;refine (sign_any _ _ _).mono ?_;rintro e w1 ⟨rfl,rfl⟩)
 go_ret
 exact ⟨rfl,((Ext.refl w).alloc _).alloc _⟩
set_option maxRecDepth 100000 in
set_option maxHeartbeats 800000 in
theorem rcmp_b_false_true (na nb:Int) (sa sb:ByteArray) (w:World)  : Calls Tryz.prog 165 #[.agg #[.int .u8 (2), .bool (false), .int .i64 (na), .string (sa)], .agg #[.int .u8 (2), .bool (true), .int .i64 (nb), .string (sb)]] w fun e w'=>e = .returned (.int .i64 (-1))∧Ext w w':=by
 go_enter Tryz.func165,Tryz.ntmps165
 go_wp2_with (go_at_call 219;refine (sign_any _ _ _).mono ?_;rintro e w1 ⟨rfl,rfl⟩)
 go_ret
 exact ⟨rfl,((Ext.refl w).alloc _).alloc _⟩
set_option maxRecDepth 100000 in
set_option maxHeartbeats 800000 in
theorem rcmp_b_true_false (na nb:Int) (sa sb:ByteArray) (w:World)  : Calls Tryz.prog 165 #[.agg #[.int .u8 (2), .bool (true), .int .i64 (na), .string (sa)], .agg #[.int .u8 (2), .bool (false), .int .i64 (nb), .string (sb)]] w fun e w'=>e = .returned (.int .i64 (1))∧Ext w w':=by
 go_enter Tryz.func165,Tryz.ntmps165
 go_wp2_with (go_at_call 219;refine (sign_any _ _ _).mono ?_;rintro e w1 ⟨rfl,rfl⟩)
 go_ret
 exact ⟨rfl,((Ext.refl w).alloc _).alloc _⟩
set_option maxRecDepth 100000 in
set_option maxHeartbeats 800000 in
theorem rcmp_b_true_true (na nb:Int) (sa sb:ByteArray) (w:World)  : Calls Tryz.prog 165 #[.agg #[.int .u8 (2), .bool (true), .int .i64 (na), .string (sa)], .agg #[.int .u8 (2), .bool (true), .int .i64 (nb), .string (sb)]] w fun e w'=>e = .returned (.int .i64 (0))∧Ext w w':=by
 go_enter Tryz.func165,Tryz.ntmps165
 go_wp2_with (go_at_call 219;refine (sign_any _ _ _).mono ?_;rintro e w1 ⟨rfl,rfl⟩)
 go_ret
 exact ⟨rfl,((Ext.refl w).alloc _).alloc _⟩
set_option maxRecDepth 100000 in
set_option maxHeartbeats 800000 in
theorem rcmp_nlt (na nb:Int) (ba bb:Bool) (sa sb:ByteArray) (w:World) (h:na<nb):Calls Tryz.prog 165 #[.agg #[.int .u8 (3), .bool (ba), .int .i64 (na), .string (sa)], .agg #[.int .u8 (3), .bool (bb), .int .i64 (nb), .string (sb)]] w fun e w'=>e = .returned (.int .i64 (-1))∧Ext w w':=by
 have z:(na==nb)=false:=by simp;omega
 go_enter Tryz.func165,Tryz.ntmps165
 go_wp2_with (go_at_call 219;refine (sign_any _ _ _).mono ?_;rintro e w1 ⟨rfl,rfl⟩)
 go_ret
 exact ⟨rfl,((Ext.refl w).alloc _).alloc _⟩
set_option maxRecDepth 100000 in
set_option maxHeartbeats 800000 in
theorem rcmp_neq (na:Int) (ba bb:Bool) (sa sb:ByteArray) (w:World)  : Calls Tryz.prog 165 #[.agg #[.int .u8 (3), .bool (ba), .int .i64 (na), .string (sa)], .agg #[.int .u8 (3), .bool (bb), .int .i64 (na), .string (sb)]] w fun e w'=>e = .returned (.int .i64 (0))∧Ext w w':=by
 have z2:decide (na<na)=false:=by simp
 go_enter Tryz.func165,Tryz.ntmps165
 go_wp2_with (go_at_call 219;refine (sign_any _ _ _).mono ?_;rintro e w1 ⟨rfl,rfl⟩)
 go_ret
 exact ⟨rfl,((Ext.refl w).alloc _).alloc _⟩
set_option maxRecDepth 100000 in
set_option maxHeartbeats 800000 in
theorem rcmp_ngt (na nb:Int) (ba bb:Bool) (sa sb:ByteArray) (w:World) (h:nb<na):Calls Tryz.prog 165 #[.agg #[.int .u8 (3), .bool (ba), .int .i64 (na), .string (sa)], .agg #[.int .u8 (3), .bool (bb), .int .i64 (nb), .string (sb)]] w fun e w'=>e = .returned (.int .i64 (1))∧Ext w w':=by
 have z:(na==nb)=false:=by simp;omega
 have z2:decide (na<nb)=false:=by simp;omega
 go_enter Tryz.func165,Tryz.ntmps165
 go_wp2_with (go_at_call 219;refine (sign_any _ _ _).mono ?_;rintro e w1 ⟨rfl,rfl⟩)
 go_ret
 exact ⟨rfl,((Ext.refl w).alloc _).alloc _⟩
set_option maxRecDepth 100000 in
set_option maxHeartbeats 800000 in
theorem rcmp_slt (na nb:Int) (ba bb:Bool) (sa sb:ByteArray) (w:World) (h:Op.bytesLess sa.toList sb.toList=true):Calls Tryz.prog 165 #[.agg #[.int .u8 (4), .bool (ba), .int .i64 (na), .string (sa)], .agg #[.int .u8 (4), .bool (bb), .int .i64 (nb), .string (sb)]] w fun e w'=>e = .returned (.int .i64 (-1))∧Ext w w':=by
 go_enter Tryz.func165,Tryz.ntmps165
 go_wp2_with (go_at_call 219;refine (sign_any _ _ _).mono ?_;rintro e w1 ⟨rfl,rfl⟩)
 go_ret
 exact ⟨rfl,((Ext.refl w).alloc _).alloc _⟩
set_option maxRecDepth 100000 in
set_option maxHeartbeats 800000 in
theorem rcmp_seq (na nb:Int) (ba bb:Bool) (sa sb:ByteArray) (w:World) (h:Op.bytesLess sa.toList sb.toList=false) (h2:(sa.toList==sb.toList)=true):Calls Tryz.prog 165 #[.agg #[.int .u8 (4), .bool (ba), .int .i64 (na), .string (sa)], .agg #[.int .u8 (4), .bool (bb), .int .i64 (nb), .string (sb)]] w fun e w'=>e = .returned (.int .i64 (0))∧Ext w w':=by
 go_enter Tryz.func165,Tryz.ntmps165
 go_wp2_with (go_at_call 219;refine (sign_any _ _ _).mono ?_;rintro e w1 ⟨rfl,rfl⟩)
 go_ret
 exact ⟨rfl,((Ext.refl w).alloc _).alloc _⟩
set_option maxRecDepth 100000 in
set_option maxHeartbeats 800000 in
theorem rcmp_sgt (na nb:Int) (ba bb:Bool) (sa sb:ByteArray) (w:World) (h:Op.bytesLess sa.toList sb.toList=false) (h2:(sa.toList==sb.toList)=false):Calls Tryz.prog 165 #[.agg #[.int .u8 (4), .bool (ba), .int .i64 (na), .string (sa)], .agg #[.int .u8 (4), .bool (bb), .int .i64 (nb), .string (sb)]] w fun e w'=>e = .returned (.int .i64 (1))∧Ext w w':=by
 go_enter Tryz.func165,Tryz.ntmps165
 go_wp2_with (go_at_call 219;refine (sign_any _ _ _).mono ?_;rintro e w1 ⟨rfl,rfl⟩)
 go_ret
 exact ⟨rfl,((Ext.refl w).alloc _).alloc _⟩
set_option maxRecDepth 100000 in
set_option maxHeartbeats 800000 in
theorem rcmp_oth (k:Int) (na nb:Int) (ba bb:Bool) (sa sb:ByteArray) (w:World) (h2 : ¬ k=2) (h3 : ¬ k=3) (h4 : ¬ k=4):Calls Tryz.prog 165 #[.agg #[.int .u8 (k), .bool (ba), .int .i64 (na), .string (sa)], .agg #[.int .u8 (k), .bool (bb), .int .i64 (nb), .string (sb)]] w fun e w'=>e = .returned (.int .i64 (0))∧Ext w w':=by
 have z:(k != k)=false:=by simp
 have z2:(k==2)=false:=by simpa using h2
 have z3:(k==3)=false:=by simpa using h3
 have z4:(k==4)=false:=by simpa using h4
 go_enter Tryz.func165,Tryz.ntmps165
 go_wp2
 go_ret
 exact ⟨rfl,((Ext.refl w).alloc _).alloc _⟩
theorem rdcmp_any (ka na kb nb:Int) (ba bb:Bool) (sa sb:ByteArray) (w:World):Calls Tryz.prog 165 #[.agg #[.int .u8 (ka), .bool (ba), .int .i64 (na), .string (sa)], .agg #[.int .u8 (kb), .bool (bb), .int .i64 (nb), .string (sb)]] w fun e w'=>e = .returned (.int .i64 (cmpD ⟨ka,ba,na,sa⟩ ⟨kb,bb,nb,sb⟩))∧Ext w w':=by
 unfold cmpD
 simp only
 by_cases h:ka=kb
 ·subst h
  rw [if_pos rfl]
  by_cases h2:ka=2
  ·subst h2
   rw [if_pos rfl]
   cases ba<;>cases bb
   ·exact rcmp_b_false_false na nb sa sb w
   ·exact rcmp_b_false_true na nb sa sb w
   ·exact rcmp_b_true_false na nb sa sb w
   ·exact rcmp_b_true_true na nb sa sb w
  rw [if_neg h2]
  by_cases h3:ka=3
  ·subst h3
   rw [if_pos rfl]
   rcases Int.lt_trichotomy na nb with h | h | h
   ·rw [cmpI_lt h];exact rcmp_nlt na nb ba bb sa sb w h
   ·subst h;rw [cmpI_self];exact rcmp_neq na ba bb sa sb w
   ·rw [cmpI_gt h];exact rcmp_ngt na nb ba bb sa sb w h
  rw [if_neg h3]
  by_cases h4:ka=4
  ·subst h4
   rw [if_pos rfl]
   unfold cmpS
   cases h1:Op.bytesLess sa.toList sb.toList
   ·cases h2:(sa.toList==sb.toList)
    ·exact rcmp_sgt na nb ba bb sa sb w h1 h2
    ·exact rcmp_seq na nb ba bb sa sb w h1 h2
   ·exact rcmp_slt na nb ba bb sa sb w h1
  rw [if_neg h4]
  exact rcmp_oth ka na nb ba bb sa sb w h2 h3 h4
 ·rw [if_neg h]
  rcases Int.lt_or_gt_of_ne h with h | h
  ·rw [cmpI_lt h];exact rcmp_klt ka na kb nb ba bb sa sb w h
  ·rw [cmpI_gt h];exact rcmp_kgt ka na kb nb ba bb sa sb w h
theorem rcmp_at {c:Int} (ka na kb nb:Int) (ba bb:Bool) (sa sb:ByteArray) (w:World) (h:Hid (cmpD ⟨ka,ba,na,sa⟩ ⟨kb,bb,nb,sb⟩=c)):Calls Tryz.prog 165 #[.agg #[.int .u8 (ka), .bool (ba), .int .i64 (na), .string (sa)], .agg #[.int .u8 (kb), .bool (bb), .int .i64 (nb), .string (sb)]] w fun e w'=>e = .returned (.int .i64 c)∧Ext w w':=h.out ▸ rdcmp_any ka na kb nb ba bb sa sb w
theorem rcmpD_lit {v:Int} (ka na kb nb:Int) (ba bb:Bool) (sa sb:ByteArray) (w:World) (h:Hid (cmpD ⟨ka,ba,na,sa⟩ ⟨kb,bb,nb,sb⟩=v)) :
  Calls Tryz.prog 165 #[.agg #[.int .u8 ka, .bool ba, .int .i64 na, .string sa], .agg #[.int .u8 kb, .bool bb, .int .i64 nb, .string sb]] w fun e w'=>e = .returned (.int .i64 v)∧Ext w w':=rcmp_at _ _ _ _ _ _ _ _ _ h
open Go.RowKit
set_option maxRecDepth 100000 in
set_option maxHeartbeats 4000000 in
theorem rowRCmp_any (A1 A2:Option Addr) (c1 c2 n1 n2:Nat) (l m:List Dat) (w:World) (e1:n1=l.length) (e2:n2=m.length) (h1:Rw w A1 c1 l) (h2:Rw w A2 c2 m) :
  Calls Tryz.prog 53 #[.slice A1 n1 c1, .slice A2 n2 c2] w fun e w'=>e = .returned (.int .i64 (cmpR l m))∧Ext w w':=by
 have E1:=Lib.hid e1
 have E2:=Lib.hid e2
 have hl1:=h1.le
 have hl2:=h2.le
 rw [← e1] at hl1
 rw [← e2] at hl2
 have H1:=Lib.hid h1
 have H2:=Lib.hid h2
 clear e1 e2 h1 h2
 go_enter Tryz.func53,Tryz.ntmps53
 go_wp2
 go_loopw [5] (fun v wr => ∃ i:Nat,i≤n1∧v = .int .i64 i∧Hid (i≤m.length∧cmpR (l.drop i) (m.drop i)=cmpR l m)∧Ext w wr) (fun v _=>n1 - (intOf v).toNat)
 case atStart=>exact ⟨0,Nat.zero_le _,rfl,Lib.hid ⟨Nat.zero_le _,rfl⟩,Ext.refl _⟩
 case round =>
  obtain ⟨i,hi,rfl,hr,er⟩:=hrel
  have hsz:=er.size
  by_cases hlt:i<n1
  ·by_cases hlt2:i<n2
   ·obtain ⟨a1,rfl,p0,p1,p2,p3⟩:=(H1.out.ext er).at (show i<l.length by rw [← E1.out];exact hlt)
    obtain ⟨d,hd⟩ : ∃ d,l.getD i Dat.zero=d:=⟨_,rfl⟩
    rw [hd] at p0 p1 p2 p3
    obtain ⟨a2,rfl,q0,q1,q2,q3⟩:=(H2.out.ext er).at (show i<m.length by rw [← E2.out];exact hlt2)
    obtain ⟨d2,hd2⟩ : ∃ d,m.getD i Dat.zero=d:=⟨_,rfl⟩
    rw [hd2] at q0 q1 q2 q3
    obtain ⟨v,hv⟩ : ∃ v,cmpD d d2=v:=⟨_,rfl⟩
    have HS:Hid (cmpR l m=if v=0 then cmpR (l.drop (i+1)) (m.drop (i+1)) else v):=Lib.hid (by rw [← hr.out.2,cmpR_drop (by rw [← E1.out];exact hlt) (by rw [← E2.out];exact hlt2),hd,hd2,hv])
    have HB:Hid (i+1≤m.length):=Lib.hid (by rw [← E2.out];exact hlt2)
    clear hd hd2 hr
    obtain ⟨ka,ba,na,sa⟩:=d
    obtain ⟨kb,bb,nb,sb⟩:=d2
    simp only at p0 p1 p2 p3 q0 q1 q2 q3
    have HV:=Lib.hid hv
    clear hv
    have X:Ext wr wr.drew:=(Ext.refl wr).drew
    have P0 : ∀ y:Xt wr.drew,y.W.cell? (a1.add (i * 4))=some (.int .u8 ka):=fun y=>(X.trans y.x).cell p0
    have P1 : ∀ y:Xt wr.drew,y.W.cell? ⟨(a1.add (i * 4)).block,(a1.add (i * 4)).off+1,none⟩=some (.bool ba):=fun y=>(X.trans y.x).cell p1
    have P2 : ∀ y:Xt wr.drew,y.W.cell? ⟨(a1.add (i * 4)).block,(a1.add (i * 4)).off+2,none⟩=some (.int .i64 na):=fun y=>(X.trans y.x).cell p2
    have P3 : ∀ y:Xt wr.drew,y.W.cell? ⟨(a1.add (i * 4)).block,(a1.add (i * 4)).off+3,none⟩=some (.string sa):=fun y=>(X.trans y.x).cell p3
    have Q0 : ∀ y:Xt wr.drew,y.W.cell? (a2.add (i * 4))=some (.int .u8 kb):=fun y=>(X.trans y.x).cell q0
    have Q1 : ∀ y:Xt wr.drew,y.W.cell? ⟨(a2.add (i * 4)).block,(a2.add (i * 4)).off+1,none⟩=some (.bool bb):=fun y=>(X.trans y.x).cell q1
    have Q2 : ∀ y:Xt wr.drew,y.W.cell? ⟨(a2.add (i * 4)).block,(a2.add (i * 4)).off+2,none⟩=some (.int .i64 nb):=fun y=>(X.trans y.x).cell q2
    have Q3 : ∀ y:Xt wr.drew,y.W.cell? ⟨(a2.add (i * 4)).block,(a2.add (i * 4)).off+3,none⟩=some (.string sb):=fun y=>(X.trans y.x).cell q3
    by_cases hv0:v=0
    ·subst hv0
     go_upto_region 4 with fail
     refine wp_region_ord [0,0,3,7,0,0,48,112,255,511] (.flo [0,1,2,3,4,5,6,7] (.one 8 (.flo [9] (.fin)))) (by kernel_rfl) (by kernel_rfl) (by intro _ _ d _ _ h;cases d<;>exact h) ?_
     (refine ord_flo (pick_cons rfl (pick_cons rfl (pick_cons rfl (pick_cons rfl (pick_cons rfl (pick_cons rfl (pick_cons rfl (pick_cons rfl pick_nil)))))))) ?_;(repeat (go_big_quiet_step (fail)));refine wpQuiet_nil ?_;show ordWalk _ _ _ _ _ _ _)
     refine ord_one (pick_cons rfl pick_nil) ?_;intro K_ hK_
     go_wp2_with (go_at_call 165;refine (rcmpD_lit _ _ _ _ _ _ _ _ _ HV).mono ?_;rintro e w1 ⟨rfl,x1⟩)
     (refine ord_flo (pick_cons rfl pick_nil) ?_;(repeat (go_big_quiet_step (fail)));refine wpQuiet_nil ?_;show ordWalk _ _ _ _ _ _ _)
     refine ord_fin ?_
     go_wp2
     go_roundw
     case rel=>exact ⟨i+1,by omega,by go_num,Lib.hid ⟨HB.out,by rw [HS.out];simp⟩,er.trans (X.trans x1)⟩
     case measure=>simp [intOf];omega
    ·have z:(v != 0)=true:=by simpa using hv0
     have HZ:=Lib.hid hv0
     clear hv0
     go_upto_region 4 with fail
     refine wp_region_ord [0,0,3,7,0,0,48,112,255,511] (.flo [0,1,2,3,4,5,6,7] (.one 8 (.flo [9] (.fin)))) (by kernel_rfl) (by kernel_rfl) (by intro _ _ d _ _ h;cases d<;>exact h) ?_
     (refine ord_flo (pick_cons rfl (pick_cons rfl (pick_cons rfl (pick_cons rfl (pick_cons rfl (pick_cons rfl (pick_cons rfl (pick_cons rfl pick_nil)))))))) ?_;(repeat (go_big_quiet_step (fail)));refine wpQuiet_nil ?_;show ordWalk _ _ _ _ _ _ _)
     refine ord_one (pick_cons rfl pick_nil) ?_;intro K_ hK_
     go_wp2_with (go_at_call 165;refine (rcmpD_lit _ _ _ _ _ _ _ _ _ HV).mono ?_;rintro e w1 ⟨rfl,x1⟩)
     (refine ord_flo (pick_cons rfl pick_nil) ?_;(repeat (go_big_quiet_step (fail)));refine wpQuiet_nil ?_;show ordWalk _ _ _ _ _ _ _)
     refine ord_fin ?_
     go_wp2
     go_ret
     exact ⟨(by rw [HS.out,if_neg HZ.out];rfl),er.trans (X.trans x1)⟩
   ·have HS:Hid (cmpR l m=1):=Lib.hid (by rw [← hr.out.2];exact cmpR_more (by rw [← E1.out];exact hlt) (by rw [← E2.out];omega))
    have h3:n2<n1:=by omega
    clear hr
    go_wp2
    go_ret
    exact ⟨(by rw [HS.out];rfl),er⟩
  ·have HS:Hid (cmpR l m=if i<m.length then -1 else 0):=Lib.hid (by rw [← hr.out.2];exact cmpR_end (by rw [← E1.out];omega))
   have HB:Hid (i≤m.length):=Lib.hid hr.out.1
   obtain rfl:i=n1:=by omega
   by_cases h2:i<n2
   ·have HT:Hid (cmpR l m = -1):=Lib.hid (by rw [HS.out,if_pos (by rw [← E2.out];exact h2)])
    clear HS hr
    go_wp2
    go_ret
    exact ⟨(by rw [HT.out];rfl),er⟩
   ·have HT:Hid (cmpR l m=0):=Lib.hid (by rw [HS.out,if_neg (by rw [← E2.out];exact h2)])
    have h3 : ¬ n2<i:=by have:=HB.out;rw [← E2.out] at this;omega
    clear HS hr
    go_wp2
    go_ret
    exact ⟨(by rw [HT.out];rfl),er⟩
open Go.RowKit
theorem rowRCmp_lit {v:Int} (A1 A2:Option Addr) (c1 c2 n1 n2:Nat) (l m:List Dat) (w:World) (hv:Hid (cmpR l m=v)) (e1:Hid (n1=l.length)) (e2:Hid (n2=m.length)) (h1:Hid (Rw w A1 c1 l)) (h2:Hid (Rw w A2 c2 m)) :
  Calls Tryz.prog 53 #[.slice A1 n1 c1, .slice A2 n2 c2] w fun e w'=>e = .returned (.int .i64 v)∧Ext w w':=hv.out ▸ rowRCmp_any A1 A2 c1 c2 n1 n2 l m w e1.out e2.out h1.out h2.out
open Go.RowKit
set_option maxRecDepth 100000 in
set_option maxHeartbeats 2000000 in
theorem rucmp_any (x y:Ud) (nx ny tx ty:Nat) (v:Int) (w:World) (hv:Hid (UdS.cmpC x y=v)) (hnx:Hid (nx=x.l.length)) (hny:Hid (ny=y.l.length)) (htx:Hid (tx=x.t.l.length)) (hty:Hid (ty=y.t.l.length)) (hx:Hid (UdR w x)) (hy:Hid (UdR w y)) (ux:Hid (U32 x.t.l)) (uy:Hid (U32 y.t.l)) (h9:tx≤1000000) (h8:ty≤1000000) :
  Calls Tryz.prog 194 #[.agg #[.slice x.A nx x.c, .int .u64 x.t.e, .slice x.t.A tx x.t.c, .int .i64 x.d], .agg #[.slice y.A ny y.c, .int .u64 y.t.e, .slice y.t.A ty y.t.c, .int .i64 y.d]] w fun e w'=>e = .returned (.int .i64 v)∧Ext w w':=by
 obtain ⟨r,hr⟩ : ∃ r,cmpR x.l y.l=r:=⟨_,rfl⟩
 obtain ⟨t,ht⟩ : ∃ t,tcmp (x.t.e,x.t.l) (y.t.e,y.t.l)=t:=⟨_,rfl⟩
 have hvv:(if r=0 then t else r)=v:=by rw [← hv.out, ← hr, ← ht];rfl
 have HR:=Lib.hid hr
 have HT:=Lib.hid ht
 have X1:Hid (∀ W,Ext w W→Sl W 1 x.t.A tx x.t.c (wds x.t.l)):=Lib.hid (fun W q=>by rw [htx.out];exact hx.out.t.ext q)
 have Y1:Hid (∀ W,Ext w W→Sl W 1 y.t.A ty y.t.c (wds y.t.l)):=Lib.hid (fun W q=>by rw [hty.out];exact hy.out.t.ext q)
 clear hr ht
 go_enter Tryz.func194,Tryz.ntmps194
 have x0:Ext w ((w.alloc (Obj.cells #[.slice x.A nx x.c, .int .u64 x.t.e, .slice x.t.A tx x.t.c, .int .i64 x.d] 95)).alloc (Obj.cells #[.slice y.A ny y.c, .int .u64 y.t.e, .slice y.t.A ty y.t.c, .int .i64 y.d] 95)):=((Ext.refl w).alloc _).alloc _
 have a0:Hid (Bk ((w.alloc (Obj.cells #[.slice x.A nx x.c, .int .u64 x.t.e, .slice x.t.A tx x.t.c, .int .i64 x.d] 95)).alloc (Obj.cells #[.slice y.A ny y.c, .int .u64 y.t.e, .slice y.t.A ty y.t.c, .int .i64 y.d] 95)) w.heap.size 95 #[.slice x.A nx x.c, .int .u64 x.t.e, .slice x.t.A tx x.t.c, .int .i64 x.d]):=Lib.hid ((Bk.new _ _ _).alloc _)
 have b0:Hid (Bk ((w.alloc (Obj.cells #[.slice x.A nx x.c, .int .u64 x.t.e, .slice x.t.A tx x.t.c, .int .i64 x.d] 95)).alloc (Obj.cells #[.slice y.A ny y.c, .int .u64 y.t.e, .slice y.t.A ty y.t.c, .int .i64 y.d] 95)) (w.heap.size+1) 95 #[.slice y.A ny y.c, .int .u64 y.t.e, .slice y.t.A ty y.t.c, .int .i64 y.d]):=Lib.hid (Bk.at (by simp))
 have p0:=a0.out.cell 0
 have p1:=b0.out.cell 0
 have m1:True:=trivial
 by_cases hr0:r=0
 ·subst hr0
  rw [if_pos rfl] at hvv
  have HV:=Lib.hid hvv
  clear hvv
  go_wp2_with (first
   | (go_at_call 53;have mk:=m1;clear m1 mk;refine (rowRCmp_lit x.A y.A x.c y.c nx ny x.l y.l _ HR hnx hny (Lib.hid (hx.out.r.ext x0)) (Lib.hid (hy.out.r.ext x0))).mono ?_;rintro e w1 ⟨rfl,x1⟩;have r1:=(a0.out.ext x1).cell 1;have r2:=(a0.out.ext x1).cell 2;have s1:=(b0.out.ext x1).cell 1;have s2:=(b0.out.ext x1).cell 2;have X2:=Lib.hid (x0.trans x1);clear x1;have m2:True:=trivial)
   | (go_at_call 149;have mk:=m2;clear m2 mk;refine (rtc_at x.t.e y.t.e x.t.A y.t.A tx ty x.t.c y.t.c x.t.l y.t.l _ HT (Lib.hid (X1.out _ X2.out)) (Lib.hid (Y1.out _ X2.out)) ux uy h9 h8).mono ?_;rintro e w2 ⟨rfl,x2⟩)
   | fail)
  go_ret
  exact ⟨ret_int HV.out,X2.out.trans x2⟩
 ·have zr:(r==0)=false:=by simpa using hr0
  rw [if_neg hr0] at hvv
  have HV:=Lib.hid hvv
  clear hvv
  go_wp2_with (first
   | (go_at_call 53;have mk:=m1;clear m1 mk;refine (rowRCmp_lit x.A y.A x.c y.c nx ny x.l y.l _ HR hnx hny (Lib.hid (hx.out.r.ext x0)) (Lib.hid (hy.out.r.ext x0))).mono ?_;rintro e w1 ⟨rfl,x1⟩)
   | fail)
  go_ret
  exact ⟨ret_int HV.out,x0.trans x1⟩
/-- what add hands back -/
def AddU (w:World) (V:List UV) (e:Ending) (w':World):Prop := ∃ A m c M,e = .returned (.slice A m c)∧m=M.length∧Uin w' A c M∧M.map Ud.uv=V∧Ext w w'
/-- y is x but for how often -/
def UdLike (y x:Ud):Prop:=y.A=x.A∧y.c=x.c∧y.l=x.l∧y.t=x.t
theorem UdLike.udr {w:World} {x y:Ud} (h:UdLike y x) (u:UdR w x):UdR w y:=by
 obtain ⟨e1,e2,e3,e4⟩:=h
 exact ⟨by rw [e1,e2,e3];exact u.r,by rw [e4];exact u.t⟩
/-- the same, and where it lies -/
def AddP (w:World) (L:List Ud) (V:List UV) (e:Ending) (w':World):Prop := ∃ A m c M,e = .returned (.slice A m c)∧m=M.length∧Own w' w.heap.size 95 4 A m c (udsC M)∧(∀ y∈M, ∃ x∈L,UdLike y x)∧M.map Ud.uv=V∧Ext w w'
theorem AddP.toU {w w':World} {L:List Ud} {V:List UV} {e:Ending} (h:AddP w L V e w') (hL : ∀ x∈L,UdR w x):AddU w V e w':=by
 obtain ⟨A,m,c,M,e1,e2,o,p,v,x⟩:=h
 refine ⟨A,m,c,M,e1,e2,⟨by rw [← e2];exact o.sl,fun y hy=>?_⟩,v,x⟩
 obtain ⟨z,hz,q⟩:=p y hy
 exact (q.udr (hL z hz)).ext x
theorem addp_uin {w w':World} {B m c:Nat} {A:Option Addr} {L M:List Ud} {x:Ud} (o:Own w' B 95 4 A m c (udsC M)) (hm:m=M.length) (p : ∀ y∈M, ∃ z∈x :: L,UdLike y z) (hx:UdR w x) (h : ∀ z∈L,UdR w z) (X:Ext w w'):Uin w' A c M:=by
 refine ⟨by rw [← hm];exact o.sl,fun y hy=>?_⟩
 obtain ⟨z,hz,q⟩:=p y hy
 rcases List.mem_cons.1 hz with rfl | hz
 ·exact (q.udr hx).ext X
 ·exact (q.udr (h z hz)).ext X
theorem Uin.dropS {w:World} {A:Option Addr} {c n k:Nat} {L:List Ud} (h:Uin w A c L) (hn:n=L.length) (hk:k≤n):Sl w 4 (if c=k then A else A.map (·.add (k * 4))) (n - k) (c - k) (udsC (L.drop k)):=by
 have:=Sl.drop (k:=k) h.sl (by omega)
 rwa [udsC_drop, ← hn] at this
theorem Uin.takeS {w:World} {A:Option Addr} {c n k:Nat} {L:List Ud} (h:Uin w A c L) (hn:n=L.length) (hk:k≤n):Sl w 4 A k c (udsC (L.take k)):=by
 have:=Sl.take (k:=k) h.sl (by omega)
 rwa [udsC_take] at this
theorem addu_new {w w':World} {L:List Ud} {A6:Option Addr} {c6 n k m B:Nat} {x:Ud} (hn:n=L.length) (hk:k≤n) (hs:UdS.Srt L) (h1 : ∀ j,k=j+1→kcmp (L.getD j Ud.zero).k x.k<0) (h2 : ∀ y∈L.drop k,0<UdS.cmpC y x) (hm:m=n+1)
  (o:Own w' B 95 4 A6 m c6 (udsC (L.take k)++udC x++udsC (L.drop k))) (X:Ext w w') (hB:w.heap.size≤B):AddP w (x :: L) (UdS.addV (L.map Ud.uv) x.uv) (.returned (.slice A6 m c6)) w':=by
 have hl:(L.take k++x :: L.drop k).length=m:=by rw [List.length_append,List.length_cons,List.length_take,List.length_drop];omega
 refine ⟨A6,m,c6,L.take k++x :: L.drop k,rfl,hl.symm,?_,fun y hy=>⟨y,?_,rfl,rfl,rfl,rfl⟩,UdS.add_at_new hs (by omega) rfl h1 (fun y hy=>h2 y (List.mem_of_mem_head? hy)),X⟩
 ·have e:udsC (L.take k++x :: L.drop k)=udsC (L.take k)++udC x++udsC (L.drop k):=by rw [udsC_append,List.append_assoc];rfl
  rw [e]
  exact o.mono hB
 ·rcases List.mem_append.1 hy with hy | hy
  ·exact List.mem_cons_of_mem _ (List.mem_of_mem_take hy)
  ·rcases List.mem_cons.1 hy with rfl | hy
   ·exact List.mem_cons_self ..
   ·exact List.mem_cons_of_mem _ (List.mem_of_mem_drop hy)
theorem addu_eq {w w3:World} {L:List Ud} {c3 n j g B:Nat} {x y:Ud} {s:Int} (hn:n=L.length) (hj:j<n) (hs:UdS.Srt L) (hy:L.getD j Ud.zero=y) (hv:UdS.cmpC y x=0) (hsm:w64 (y.d+x.d)=s) (hg:w.heap.size≤g)
  (o:Own w3 B 95 4 (some ⟨g,0,none⟩) n c3 (udsC L)) (X:Ext w w3) (hB:w.heap.size≤B):AddP w (x :: L) (UdS.addV (L.map Ud.uv) x.uv) (.returned (.slice (some ⟨g,0,none⟩) n c3)) (w3.setCell ⟨g,j * 4+3,none⟩ (.int .i64 s)):=by
 have XE:Ext w (w3.setCell ⟨g,j * 4+3,none⟩ (.int .i64 s)):=X.set (p:=⟨g,_,none⟩) hg _
 refine ⟨_,n,c3,L.set j ⟨y.A,y.c,y.l,y.t,s⟩,rfl,by rw [List.length_set];exact hn,?_,fun z hz=>?_,UdS.add_at_eq hs (by omega) hy hv hsm,XE⟩
 ·have:=(o.put (j * 4+3) (.int .i64 s)).mono hB
  rw [UdS.udsC_set3 L j y s (by omega) hy] at this
  exact this
 ·rcases List.mem_or_eq_of_mem_set hz with hz | rfl
  ·exact ⟨z,List.mem_cons_of_mem _ hz,rfl,rfl,rfl,rfl⟩
  ·exact ⟨y,List.mem_cons_of_mem _ (hy ▸ getU_mem (by omega)),rfl,rfl,rfl,rfl⟩
set_option maxRecDepth 100000 in
set_option maxHeartbeats 16000000 in
theorem radd10_any {V:List UV} (A:Option Addr) (c n:Nat) (L:List Ud) (x:Ud) (nx tx:Nat) (w:World) (hV:Hid (UdS.addV (L.map Ud.uv) x.uv=V)) (hn:Hid (n=L.length)) (hnx:Hid (nx=x.l.length)) (htx:Hid (tx=x.t.l.length)) (h:Hid (Uin w A c L)) (hx:Hid (UdR w x)) (hs:Hid (UdS.Srt L)) (ux:Hid (U32 x.t.l)) (uL:Hid (∀ y∈L,U32 y.t.l∧y.t.l.length≤1000000)) (h9:n≤1000000) (h8:tx≤1000000) :
  Calls Tryz.prog 118 #[.slice A n c, .agg #[.slice x.A nx x.c, .int .u64 x.t.e, .slice x.t.A tx x.t.c, .int .i64 x.d]] w (AddP w (x :: L) V):=by
 rw [← hV.out]
 have hcap:n≤c∧c≤9223372036854775807:=by have:=h.out.sl.cap;rwa [← hn.out] at this
 go_enter Tryz.func118,Tryz.ntmps118
 go_wp2
 obtain ⟨wb,hwb⟩ : ∃ wb,wb=w.alloc (.cells #[.slice x.A nx x.c, .int .u64 x.t.e, .slice x.t.A tx x.t.c, .int .i64 x.d] 95):=⟨_,rfl⟩
 have XB:Hid (Ext w wb):=Lib.hid (by rw [hwb];exact (Ext.refl _).alloc _)
 have BU:Hid (Bk wb w.heap.size 95 #[.slice x.A nx x.c, .int .u64 x.t.e, .slice x.t.A tx x.t.c, .int .i64 x.d]):=Lib.hid (by rw [hwb];exact Bk.new _ _ _)
 rw [← hwb]
 clear hwb
 obtain ⟨gu,hgu⟩ : ∃ k,k=w.heap.size:=⟨_,rfl⟩
 rw [← hgu] at BU ⊢
 clear hgu
 have HXN:Hid (udC x=[.slice x.A nx x.c, .int .u64 x.t.e, .slice x.t.A tx x.t.c, .int .i64 x.d]):=Lib.hid (by rw [hnx.out,htx.out];rfl)
 have HD0:Hid (∀ y∈L.drop n,0<UdS.cmpC y x):=Lib.hid (fun y hy=>by rw [List.drop_of_length_le (by rw [← hn.out];exact Nat.le_refl _)] at hy;cases hy)
 go_loopg [5] n (fun z v wr => ∃ k:Nat,z=k∧k≤n∧v = .int .i64 k∧Hid (∀ y∈L.drop k,0<UdS.cmpC y x)∧Hid (Ext wb wr))
 case atStart=>exact ⟨n,rfl,Nat.le_refl _,rfl,HD0,Lib.hid (Ext.refl _)⟩
 case round =>
  clear HD0
  obtain ⟨k,hzk,hk,rfl,HD,HE⟩:=hrel
  have X:Ext wr wr.drew:=(Ext.refl wr).drew
  have q0 : ∀ z:Xt wr.drew,z.W.cell? ⟨gu,0,none⟩=some (.slice x.A nx x.c):=fun z=>(BU.out.ext ((HE.out.trans X).trans z.x)).cell 0
  have q1 : ∀ z:Xt wr.drew,z.W.cell? ⟨gu,1,none⟩=some (.int .u64 x.t.e):=fun z=>(BU.out.ext ((HE.out.trans X).trans z.x)).cell 1
  have q2 : ∀ z:Xt wr.drew,z.W.cell? ⟨gu,2,none⟩=some (.slice x.t.A tx x.t.c):=fun z=>(BU.out.ext ((HE.out.trans X).trans z.x)).cell 2
  have q3 : ∀ z:Xt wr.drew,z.W.cell? ⟨gu,3,none⟩=some (.int .i64 x.d):=fun z=>(BU.out.ext ((HE.out.trans X).trans z.x)).cell 3
  have HUX:Hid (∀ W,Ext wb W→UdR W x):=Lib.hid (fun W q=>(hx.out.ext XB.out).ext q)
  cases k with
  | zero =>
   go_upto_region 2 with fail
   refine wp_region_ord [0,1,3,7,7,23,63,127,7,511,1023,2047] (.flo [0,1,2,3,4,5,6,7,8] (.one 9 (.flo [10,11] (.fin)))) (by kernel_rfl) (by kernel_rfl) (by intro _ _ d _ _ h;cases d<;>exact h) ?_
   (refine ord_flo (pick_cons rfl (pick_cons rfl (pick_cons rfl (pick_cons rfl (pick_cons rfl (pick_cons rfl (pick_cons rfl (pick_cons rfl (pick_cons rfl pick_nil))))))))) ?_;(repeat (go_big_quiet_step (fail)));refine wpQuiet_nil ?_;show ordWalk _ _ _ _ _ _ _)
   refine ord_one (pick_cons rfl pick_nil) ?_;intro K_ hK_
   go_wp2
   (refine ord_flo (pick_cons rfl (pick_cons rfl pick_nil)) ?_;(repeat (go_big_quiet_step (fail)));refine wpQuiet_nil ?_;show ordWalk _ _ _ _ _ _ _)
   refine ord_fin ?_
   have x3:Ext wr.drew wr.drew:=Ext.refl _
   obtain ⟨w3,hw3⟩ : ∃ W:World,W=wr.drew:=⟨_,rfl⟩
   rw [← hw3] at X x3 ⊢
   have x3:Ext w3 w3:=Ext.refl _
   clear hw3
   have HE:=Lib.hid (HE.out.trans (X.trans x3))
   clear q0 q1 q2 q3 X
   obtain ⟨wr,hwr⟩ : ∃ W:World,W=w3:=⟨_,rfl⟩
   rw [← hwr] at HE ⊢
   clear hwr x3
   have X:Ext wr wr.drew:=(Ext.refl wr).drew
   have q0 : ∀ z:Xt wr.drew,z.W.cell? ⟨gu,0,none⟩=some (.slice x.A nx x.c):=fun z=>(BU.out.ext ((HE.out.trans X).trans z.x)).cell 0
   have q1 : ∀ z:Xt wr.drew,z.W.cell? ⟨gu,1,none⟩=some (.int .u64 x.t.e):=fun z=>(BU.out.ext ((HE.out.trans X).trans z.x)).cell 1
   have q2 : ∀ z:Xt wr.drew,z.W.cell? ⟨gu,2,none⟩=some (.slice x.t.A tx x.t.c):=fun z=>(BU.out.ext ((HE.out.trans X).trans z.x)).cell 2
   have q3 : ∀ z:Xt wr.drew,z.W.cell? ⟨gu,3,none⟩=some (.int .i64 x.d):=fun z=>(BU.out.ext ((HE.out.trans X).trans z.x)).cell 3
   go_upto_region 4 with fail
   refine wp_region_ord [0,1,3,7,7,23,63,127,7,511,1023,2047] (.flo [0,1,2,3,4,5,6,7,8] (.one 9 (.flo [10,11] (.fin)))) (by kernel_rfl) (by kernel_rfl) (by intro _ _ d _ _ h;cases d<;>exact h) ?_
   (refine ord_flo (pick_cons rfl (pick_cons rfl (pick_cons rfl (pick_cons rfl (pick_cons rfl (pick_cons rfl (pick_cons rfl (pick_cons rfl (pick_cons rfl pick_nil))))))))) ?_;(repeat (go_big_quiet_step (fail)));refine wpQuiet_nil ?_;show ordWalk _ _ _ _ _ _ _)
   refine ord_one (pick_cons rfl pick_nil) ?_;intro K_ hK_
   go_wp2
   (refine ord_flo (pick_cons rfl (pick_cons rfl pick_nil)) ?_;(repeat (go_big_quiet_step (fail)));refine wpQuiet_nil ?_;show ordWalk _ _ _ _ _ _ _)
   refine ord_fin ?_
   have x3:Ext wr.drew wr.drew:=Ext.refl _
   obtain ⟨w3,hw3⟩ : ∃ W:World,W=wr.drew:=⟨_,rfl⟩
   rw [← hw3] at X x3 ⊢
   have x3:Ext w3 w3:=Ext.refl _
   clear hw3
   have HE:=Lib.hid (HE.out.trans (X.trans x3))
   clear q0 q1 q2 q3 X
   obtain ⟨wr,hwr⟩ : ∃ W:World,W=w3:=⟨_,rfl⟩
   rw [← hwr] at HE ⊢
   clear hwr x3
   have ST:Hid (Sl wr 4 A (0) c (udsC (L.take (0)))):=Lib.hid ((h.out.ext (XB.out.trans HE.out)).takeS hn.out hk)
   have SD:Hid (Sl wr 4 (if c=0 then A else A.map (·.add ((0) * 4))) (n - (0)) (c - (0)) (udsC (L.drop (0)))):=Lib.hid ((h.out.ext (XB.out.trans HE.out)).dropS hn.out hk)
   cases A with
   | none =>
    obtain rfl:c=0:=h.out.sl.2.2.2.1 rfl
    have hn0:n=0:=by omega
    subst hn0
    have p1:True:=trivial
    go_wp2_with (first
     | (at_builtin;have mk:=p1;clear p1 mk;refine wpList_append_two _ elem_ud wr.heap.size _ _ rfl rfl none 0 0 [] rfl (Own.nil _ _ _ _) none 0 0 (udsC (L.take 0)) rfl ST.out (udsC_one _) (by omega) (by decide) (Nat.le_refl _) ?_;intro A4 c4 w4 o4 g4 h4;clear h4;have y4:Ext wr w4:=Ext.grown (Ext.refl _) g4 (fun k e=>nomatch e);have O4:Hid (Own w4 wr.heap.size 95 4 A4 0 c4 (udsC (L.take 0))):=Lib.hid (by have:=o4;rwa [Nat.zero_add,List.nil_append] at this);have e0:=(BU.out.ext (HE.out.trans y4)).cell 0;have e1:=(BU.out.ext (HE.out.trans y4)).cell 1;have e2:=(BU.out.ext (HE.out.trans y4)).cell 2;have e3:=(BU.out.ext (HE.out.trans y4)).cell 3;have Y4:=Lib.hid y4;clear o4 g4 y4;have p2:True:=trivial)
     | (at_builtin;have mk:=p2;clear p2 mk;refine wpList_append_two _ elem_ud wr.heap.size _ _ rfl rfl A4 0 c4 (udsC (L.take 0)) rfl (O4.out.alloc _) (some ⟨w4.heap.size,0,none⟩) 1 1 [.slice x.A nx x.c, .int .u64 x.t.e, .slice x.t.A tx x.t.c, .int .i64 x.d] rfl (Sl.one w4 #[.slice x.A nx x.c, .int .u64 x.t.e, .slice x.t.A tx x.t.c, .int .i64 x.d] 95 4 rfl) (by intro u hu;simp at hu;rcases hu with rfl | rfl | rfl | rfl<;>rfl) (by omega) (by decide) (Nat.le_trans Y4.out.size ((Ext.refl w4).alloc _).size) ?_;intro A5 c5 w5 o5 g5 h5;clear h5;have Y5:Hid (Ext wr w5):=Lib.hid (Ext.grown (Y4.out.alloc _) g5 (fun k e=>(O4.out.lt k e).1));have O5:=Lib.hid o5;clear o5 g5;have p3:True:=trivial)
     | (at_builtin;have mk:=p3;clear p3 mk;refine wpList_append_two _ elem_ud wr.heap.size _ _ rfl rfl A5 (0+1) c5 _ rfl O5.out none (0) (0) (udsC (L.drop 0)) rfl ((Sl.ext (by have:=SD.out;simpa using this) Y5.out)) (udsC_one _) (by omega) (by decide) Y5.out.size ?_;intro A6 c6 w6 o6 g6 h6;clear h6;have Y6:Hid (Ext wr w6):=Lib.hid (Ext.grown Y5.out g6 (fun k e=>(O5.out.lt k e).1));have O6:=Lib.hid o6;clear o6 g6)
     | fail)
    go_ret
    exact addu_new (k:=0) (m:=0+1+(0)) hn.out (by omega) hs.out (fun j e=>by omega) HD.out (by omega) (by have:=O6.out;rw [HXN.out];exact this) ((XB.out.trans HE.out).trans Y6.out) (XB.out.trans HE.out).size
   | some a3 =>
    by_cases hcj:c=0
    ·subst hcj
     have hn0:n=0:=by omega
     subst hn0
     have p1:True:=trivial
     go_wp2_with (first
      | (at_builtin;have mk:=p1;clear p1 mk;refine wpList_append_two _ elem_ud wr.heap.size _ _ rfl rfl none 0 0 [] rfl (Own.nil _ _ _ _) (some a3) 0 0 (udsC (L.take 0)) rfl ST.out (udsC_one _) (by omega) (by decide) (Nat.le_refl _) ?_;intro A4 c4 w4 o4 g4 h4;clear h4;have y4:Ext wr w4:=Ext.grown (Ext.refl _) g4 (fun k e=>nomatch e);have O4:Hid (Own w4 wr.heap.size 95 4 A4 0 c4 (udsC (L.take 0))):=Lib.hid (by have:=o4;rwa [Nat.zero_add,List.nil_append] at this);have e0:=(BU.out.ext (HE.out.trans y4)).cell 0;have e1:=(BU.out.ext (HE.out.trans y4)).cell 1;have e2:=(BU.out.ext (HE.out.trans y4)).cell 2;have e3:=(BU.out.ext (HE.out.trans y4)).cell 3;have Y4:=Lib.hid y4;clear o4 g4 y4;have p2:True:=trivial)
      | (at_builtin;have mk:=p2;clear p2 mk;refine wpList_append_two _ elem_ud wr.heap.size _ _ rfl rfl A4 0 c4 (udsC (L.take 0)) rfl (O4.out.alloc _) (some ⟨w4.heap.size,0,none⟩) 1 1 [.slice x.A nx x.c, .int .u64 x.t.e, .slice x.t.A tx x.t.c, .int .i64 x.d] rfl (Sl.one w4 #[.slice x.A nx x.c, .int .u64 x.t.e, .slice x.t.A tx x.t.c, .int .i64 x.d] 95 4 rfl) (by intro u hu;simp at hu;rcases hu with rfl | rfl | rfl | rfl<;>rfl) (by omega) (by decide) (Nat.le_trans Y4.out.size ((Ext.refl w4).alloc _).size) ?_;intro A5 c5 w5 o5 g5 h5;clear h5;have Y5:Hid (Ext wr w5):=Lib.hid (Ext.grown (Y4.out.alloc _) g5 (fun k e=>(O4.out.lt k e).1));have O5:=Lib.hid o5;clear o5 g5;have p3:True:=trivial)
      | (at_builtin;have mk:=p3;clear p3 mk;refine wpList_append_two _ elem_ud wr.heap.size _ _ rfl rfl A5 (0+1) c5 _ rfl O5.out _ (0) (0) (udsC (L.drop 0)) rfl ((Sl.ext (by have:=SD.out;simpa using this) Y5.out)) (udsC_one _) (by omega) (by decide) Y5.out.size ?_;intro A6 c6 w6 o6 g6 h6;clear h6;have Y6:Hid (Ext wr w6):=Lib.hid (Ext.grown Y5.out g6 (fun k e=>(O5.out.lt k e).1));have O6:=Lib.hid o6;clear o6 g6)
      | fail)
     go_ret
     exact addu_new (k:=0) (m:=0+1+(0)) hn.out (by omega) hs.out (fun j e=>by omega) HD.out (by omega) (by have:=O6.out;rw [HXN.out];exact this) ((XB.out.trans HE.out).trans Y6.out) (XB.out.trans HE.out).size
    ·have p1:True:=trivial
     go_wp2_with (first
      | (at_builtin;have mk:=p1;clear p1 mk;refine wpList_append_two _ elem_ud wr.heap.size _ _ rfl rfl none 0 0 [] rfl (Own.nil _ _ _ _) (some a3) 0 c (udsC (L.take 0)) rfl ST.out (udsC_one _) (by omega) (by decide) (Nat.le_refl _) ?_;intro A4 c4 w4 o4 g4 h4;clear h4;have y4:Ext wr w4:=Ext.grown (Ext.refl _) g4 (fun k e=>nomatch e);have O4:Hid (Own w4 wr.heap.size 95 4 A4 0 c4 (udsC (L.take 0))):=Lib.hid (by have:=o4;rwa [Nat.zero_add,List.nil_append] at this);have e0:=(BU.out.ext (HE.out.trans y4)).cell 0;have e1:=(BU.out.ext (HE.out.trans y4)).cell 1;have e2:=(BU.out.ext (HE.out.trans y4)).cell 2;have e3:=(BU.out.ext (HE.out.trans y4)).cell 3;have Y4:=Lib.hid y4;clear o4 g4 y4;have p2:True:=trivial)
      | (at_builtin;have mk:=p2;clear p2 mk;refine wpList_append_two _ elem_ud wr.heap.size _ _ rfl rfl A4 0 c4 (udsC (L.take 0)) rfl (O4.out.alloc _) (some ⟨w4.heap.size,0,none⟩) 1 1 [.slice x.A nx x.c, .int .u64 x.t.e, .slice x.t.A tx x.t.c, .int .i64 x.d] rfl (Sl.one w4 #[.slice x.A nx x.c, .int .u64 x.t.e, .slice x.t.A tx x.t.c, .int .i64 x.d] 95 4 rfl) (by intro u hu;simp at hu;rcases hu with rfl | rfl | rfl | rfl<;>rfl) (by omega) (by decide) (Nat.le_trans Y4.out.size ((Ext.refl w4).alloc _).size) ?_;intro A5 c5 w5 o5 g5 h5;clear h5;have Y5:Hid (Ext wr w5):=Lib.hid (Ext.grown (Y4.out.alloc _) g5 (fun k e=>(O4.out.lt k e).1));have O5:=Lib.hid o5;clear o5 g5;have p3:True:=trivial)
      | (at_builtin;have mk:=p3;clear p3 mk;refine wpList_append_two _ elem_ud wr.heap.size _ _ rfl rfl A5 (0+1) c5 _ rfl O5.out _ (n) (c) (udsC (L.drop 0)) rfl ((Sl.ext (by have:=SD.out;rw [if_neg hcj] at this;simpa [Addr.add] using this) Y5.out)) (udsC_one _) (by omega) (by decide) Y5.out.size ?_;intro A6 c6 w6 o6 g6 h6;clear h6;have Y6:Hid (Ext wr w6):=Lib.hid (Ext.grown Y5.out g6 (fun k e=>(O5.out.lt k e).1));have O6:=Lib.hid o6;clear o6 g6)
      | fail)
     go_ret
     exact addu_new (k:=0) (m:=0+1+(n)) hn.out (by omega) hs.out (fun j e=>by omega) HD.out (by omega) (by have:=O6.out;rw [HXN.out];exact this) ((XB.out.trans HE.out).trans Y6.out) (XB.out.trans HE.out).size
  | succ j =>
   have hjL:j<L.length:=by rw [← hn.out];omega
   have hcel : ∀ W,Ext wb W → ∃ ad,A=some ad∧W.cell? (ad.add (j * 4))=some (.slice (L.getD j Ud.zero).A (L.getD j Ud.zero).l.length (L.getD j Ud.zero).c) ∧
     W.cell? ⟨(ad.add (j * 4)).block,(ad.add (j * 4)).off+1,none⟩=some (.int .u64 (L.getD j Ud.zero).t.e)∧W.cell? ⟨(ad.add (j * 4)).block,(ad.add (j * 4)).off+2,none⟩=some (.slice (L.getD j Ud.zero).t.A (L.getD j Ud.zero).t.l.length (L.getD j Ud.zero).t.c) ∧
     W.cell? ⟨(ad.add (j * 4)).block,(ad.add (j * 4)).off+3,none⟩=some (.int .i64 (L.getD j Ud.zero).d):=fun W q=>((h.out.ext XB.out).ext q).at hjL
   obtain ⟨ad,eA,_⟩:=hcel wb (Ext.refl _)
   have hUY : ∀ W,Ext wb W→UdR W (L.getD j Ud.zero):=fun W q=>((h.out.ls _ (getU_mem hjL)).ext XB.out).ext q
   have h32:=uL.out _ (getU_mem hjL)
   have hdrop:L.drop j=L.getD j Ud.zero :: L.drop (j+1):=dropU hjL
   obtain ⟨y,hy⟩ : ∃ y,L.getD j Ud.zero=y:=⟨_,rfl⟩
   simp only [hy,eA,Option.some.injEq,exists_eq_left'] at hcel hUY h32 hdrop
   obtain ⟨ny,hny⟩ : ∃ ny,ny=y.l.length:=⟨_,rfl⟩
   obtain ⟨ty,hty⟩ : ∃ ty,ty=y.t.l.length:=⟨_,rfl⟩
   simp only [← hny, ← hty] at hcel
   have HNY:=Lib.hid hny
   have HTY:=Lib.hid hty
   have HY:=Lib.hid hy
   have HUY:=Lib.hid hUY
   have HU32:Hid (U32 y.t.l):=Lib.hid h32.1
   have hty9:ty≤1000000:=by rw [hty];exact h32.2
   have HDR:=Lib.hid hdrop
   have HC0:=Lib.hid (fun W q=>(hcel W q).1)
   have HC1:=Lib.hid (fun W q=>(hcel W q).2.1)
   have HC2:=Lib.hid (fun W q=>(hcel W q).2.2.1)
   have HC3:=Lib.hid (fun W q=>(hcel W q).2.2.2)
   obtain ⟨v,hv⟩ : ∃ v,UdS.cmpC y x=v:=⟨_,rfl⟩
   have HV:=Lib.hid hv
   subst eA
   clear hcel hUY h32 hy hny hty hv hdrop hjL
   have za:decide ((0:Int)<(j:Int)+1)=true:=decide_eq_true (by omega)
   have s0 : ∀ z:Xt wr.drew,z.W.cell? (ad.add (j * 4))=some (.slice y.A ny y.c):=fun z=>HC0.out _ ((HE.out.trans X).trans z.x)
   have s1 : ∀ z:Xt wr.drew,z.W.cell? ⟨(ad.add (j * 4)).block,(ad.add (j * 4)).off+1,none⟩=some (.int .u64 y.t.e):=fun z=>HC1.out _ ((HE.out.trans X).trans z.x)
   have s2 : ∀ z:Xt wr.drew,z.W.cell? ⟨(ad.add (j * 4)).block,(ad.add (j * 4)).off+2,none⟩=some (.slice y.t.A ty y.t.c):=fun z=>HC2.out _ ((HE.out.trans X).trans z.x)
   have s3 : ∀ z:Xt wr.drew,z.W.cell? ⟨(ad.add (j * 4)).block,(ad.add (j * 4)).off+3,none⟩=some (.int .i64 y.d):=fun z=>HC3.out _ ((HE.out.trans X).trans z.x)
   by_cases hp:0<v
   ·have zv:decide (0<v)=true:=decide_eq_true hp
    have HP:=Lib.hid hp
    clear hp
    go_upto_region 2 with fail
    refine wp_region_ord [0,1,3,7,7,23,63,127,7,511,1023,2047] (.flo [0,1,2,3,4,5,6,7,8] (.one 9 (.flo [10,11] (.fin)))) (by kernel_rfl) (by kernel_rfl) (by intro _ _ d _ _ h;cases d<;>exact h) ?_
    (refine ord_flo (pick_cons rfl (pick_cons rfl (pick_cons rfl (pick_cons rfl (pick_cons rfl (pick_cons rfl (pick_cons rfl (pick_cons rfl (pick_cons rfl pick_nil))))))))) ?_;(repeat (go_big_quiet_step (fail)));refine wpQuiet_nil ?_;show ordWalk _ _ _ _ _ _ _)
    refine ord_one (pick_cons rfl pick_nil) ?_;intro K_ hK_
    go_wp2_with (go_at_call 194;refine (rucmp_any y x ny nx ty tx _ _ HV HNY hnx HTY htx (Lib.hid (HUY.out _ (HE.out.trans X))) (Lib.hid (HUX.out _ (HE.out.trans X))) HU32 ux hty9 h8).mono ?_;rintro e w3 ⟨rfl,x3⟩)
    (refine ord_flo (pick_cons rfl (pick_cons rfl pick_nil)) ?_;(repeat (go_big_quiet_step (fail)));refine wpQuiet_nil ?_;show ordWalk _ _ _ _ _ _ _)
    refine ord_fin ?_
    go_wp2
    go_roundg j
    case measure=>omega
    case rel=>exact ⟨j,rfl,by omega,by go_num,Lib.hid (fun z hz=>by rw [HDR.out] at hz;rcases List.mem_cons.1 hz with rfl | hz;(rw [HV.out];exact HP.out);exact HD.out z hz),Lib.hid (HE.out.trans (X.trans x3))⟩
   ·have zv:decide (0<v)=false:=decide_eq_false hp
    have HNP:=Lib.hid hp
    clear hp
    go_upto_region 2 with fail
    refine wp_region_ord [0,1,3,7,7,23,63,127,7,511,1023,2047] (.flo [0,1,2,3,4,5,6,7,8] (.one 9 (.flo [10,11] (.fin)))) (by kernel_rfl) (by kernel_rfl) (by intro _ _ d _ _ h;cases d<;>exact h) ?_
    (refine ord_flo (pick_cons rfl (pick_cons rfl (pick_cons rfl (pick_cons rfl (pick_cons rfl (pick_cons rfl (pick_cons rfl (pick_cons rfl (pick_cons rfl pick_nil))))))))) ?_;(repeat (go_big_quiet_step (fail)));refine wpQuiet_nil ?_;show ordWalk _ _ _ _ _ _ _)
    refine ord_one (pick_cons rfl pick_nil) ?_;intro K_ hK_
    go_wp2_with (go_at_call 194;refine (rucmp_any y x ny nx ty tx _ _ HV HNY hnx HTY htx (Lib.hid (HUY.out _ (HE.out.trans X))) (Lib.hid (HUX.out _ (HE.out.trans X))) HU32 ux hty9 h8).mono ?_;rintro e w3 ⟨rfl,x3⟩)
    (refine ord_flo (pick_cons rfl (pick_cons rfl pick_nil)) ?_;(repeat (go_big_quiet_step (fail)));refine wpQuiet_nil ?_;show ordWalk _ _ _ _ _ _ _)
    refine ord_fin ?_
    clear s0 s1 s2 s3
    have HE:=Lib.hid (HE.out.trans (X.trans x3))
    clear q0 q1 q2 q3 X
    obtain ⟨wr,hwr⟩ : ∃ W:World,W=w3:=⟨_,rfl⟩
    rw [← hwr] at HE ⊢
    clear hwr x3
    have X:Ext wr wr.drew:=(Ext.refl wr).drew
    have q0 : ∀ z:Xt wr.drew,z.W.cell? ⟨gu,0,none⟩=some (.slice x.A nx x.c):=fun z=>(BU.out.ext ((HE.out.trans X).trans z.x)).cell 0
    have q1 : ∀ z:Xt wr.drew,z.W.cell? ⟨gu,1,none⟩=some (.int .u64 x.t.e):=fun z=>(BU.out.ext ((HE.out.trans X).trans z.x)).cell 1
    have q2 : ∀ z:Xt wr.drew,z.W.cell? ⟨gu,2,none⟩=some (.slice x.t.A tx x.t.c):=fun z=>(BU.out.ext ((HE.out.trans X).trans z.x)).cell 2
    have q3 : ∀ z:Xt wr.drew,z.W.cell? ⟨gu,3,none⟩=some (.int .i64 x.d):=fun z=>(BU.out.ext ((HE.out.trans X).trans z.x)).cell 3
    have s0 : ∀ z:Xt wr.drew,z.W.cell? (ad.add (j * 4))=some (.slice y.A ny y.c):=fun z=>HC0.out _ ((HE.out.trans X).trans z.x)
    have s1 : ∀ z:Xt wr.drew,z.W.cell? ⟨(ad.add (j * 4)).block,(ad.add (j * 4)).off+1,none⟩=some (.int .u64 y.t.e):=fun z=>HC1.out _ ((HE.out.trans X).trans z.x)
    have s2 : ∀ z:Xt wr.drew,z.W.cell? ⟨(ad.add (j * 4)).block,(ad.add (j * 4)).off+2,none⟩=some (.slice y.t.A ty y.t.c):=fun z=>HC2.out _ ((HE.out.trans X).trans z.x)
    have s3 : ∀ z:Xt wr.drew,z.W.cell? ⟨(ad.add (j * 4)).block,(ad.add (j * 4)).off+3,none⟩=some (.int .i64 y.d):=fun z=>HC3.out _ ((HE.out.trans X).trans z.x)
    by_cases hv0:v=0
    ·have HV0:=Lib.hid hv0
     subst hv0
     go_upto_region 4 with fail
     refine wp_region_ord [0,1,3,7,7,23,63,127,7,511,1023,2047] (.flo [0,1,2,3,4,5,6,7,8] (.one 9 (.flo [10,11] (.fin)))) (by kernel_rfl) (by kernel_rfl) (by intro _ _ d _ _ h;cases d<;>exact h) ?_
     (refine ord_flo (pick_cons rfl (pick_cons rfl (pick_cons rfl (pick_cons rfl (pick_cons rfl (pick_cons rfl (pick_cons rfl (pick_cons rfl (pick_cons rfl pick_nil))))))))) ?_;(repeat (go_big_quiet_step (fail)));refine wpQuiet_nil ?_;show ordWalk _ _ _ _ _ _ _)
     refine ord_one (pick_cons rfl pick_nil) ?_;intro K_ hK_
     go_wp2_with (go_at_call 194;refine (rucmp_any y x ny nx ty tx _ _ HV HNY hnx HTY htx (Lib.hid (HUY.out _ (HE.out.trans X))) (Lib.hid (HUX.out _ (HE.out.trans X))) HU32 ux hty9 h8).mono ?_;rintro e w3 ⟨rfl,x3⟩)
     (refine ord_flo (pick_cons rfl (pick_cons rfl pick_nil)) ?_;(repeat (go_big_quiet_step (fail)));refine wpQuiet_nil ?_;show ordWalk _ _ _ _ _ _ _)
     refine ord_fin ?_
     have HE:=Lib.hid (HE.out.trans (X.trans x3))
     clear q0 q1 q2 q3 s0 s1 s2 s3 X
     obtain ⟨wr,hwr⟩ : ∃ W:World,W=w3:=⟨_,rfl⟩
     rw [← hwr] at HE ⊢
     clear hwr x3
     have SL:Hid (Sl wr 4 (some ad) n c (udsC L)):=Lib.hid (by have:=(h.out.ext (XB.out.trans HE.out)).sl;rwa [← hn.out] at this)
     obtain ⟨s,hsm⟩ : ∃ s,w64 (y.d+x.d)=s:=⟨_,rfl⟩
     have hsm2:IntKind.i64.wrap (y.d+x.d)=s:=hsm
     have HSM:=Lib.hid hsm
     clear hsm
     go_upto_region 7 with (first
      | (at_builtin;refine wpList_append_two _ elem_ud wr.heap.size _ _ rfl rfl none 0 0 [] rfl (Own.nil _ _ _ _) (some ad) n c (udsC L) rfl SL.out (udsC_one _) (by omega) (by decide) (Nat.le_refl _) ?_;intro A4 c4 w4 o4 g4 h4;clear h4;have y4:Ext wr w4:=Ext.grown (Ext.refl _) g4 (fun k e=>nomatch e);have o4:Own w4 wr.heap.size 95 4 A4 n c4 (udsC L):=(by have:=o4;rwa [Nat.zero_add,List.nil_append] at this);have hf:=o4.form (show 0<n by omega);obtain ⟨g4',eA4,_,hg4,_,hc4,hf4⟩:=hf;subst eA4;have O4:=Lib.hid o4;have Y4:=Lib.hid y4;have HG4:=Lib.hid hg4;have d3:=hc4 (j * 4+3) (.int .i64 y.d) (by rw [udsC_at L j 3 (by rw [← hn.out];omega) (by omega),HY.out];rfl);have f3:=hf4 (j * 4+3);clear o4 g4 hg4 hc4 hf4)
      | fail)
     have X:Ext w4 w4.drew:=(Ext.refl w4).drew
     have e3 : ∀ z:Xt w4.drew,z.W.cell? ⟨g4',j * 4+3,none⟩=some (.int .i64 y.d):=fun z=>(X.trans z.x).cell d3
     have u3 : ∀ z:Xt w4.drew,z.W.cell? ⟨gu,3,none⟩=some (.int .i64 x.d):=fun z=>(BU.out.ext (((HE.out.trans Y4.out).trans X).trans z.x)).cell 3
     have HRES:=Lib.hid (addu_eq (B:=wr.heap.size) (n:=n) (x:=x) hn.out (by omega) hs.out HY.out HV.out HSM.out (Nat.le_trans (XB.out.trans HE.out).size HG4.out) (O4.out.ext X) (((XB.out.trans HE.out).trans Y4.out).trans X) (XB.out.trans HE.out).size)
     refine wp_region_ord [0,0,2,7,15,31,0,64,255,511,1023,2047] (.flo [0,1,2,3,4,5,6,7,8,9,10] (.one 11 (.fin))) (by kernel_rfl) (by kernel_rfl) (by intro _ _ d _ _ h;cases d<;>exact h) ?_
     (refine ord_flo (pick_cons rfl (pick_cons rfl (pick_cons rfl (pick_cons rfl (pick_cons rfl (pick_cons rfl (pick_cons rfl (pick_cons rfl (pick_cons rfl (pick_cons rfl (pick_cons rfl pick_nil))))))))))) ?_;(repeat (go_big_quiet_step (fail)));refine wpQuiet_nil ?_;show ordWalk _ _ _ _ _ _ _)
     refine ord_one (pick_cons rfl pick_nil) ?_;intro K_ hK_
     go_wp2
     refine ord_fin ?_
     go_wp2
     go_ret
     exact HRES.out
    ·have zv0:(v==0)=false:=by simpa using hv0
     have HLT:Hid (kcmp y.k x.k<0):=Lib.hid (by have a:=HNP.out;have b:=HV.out;show UdS.cmpC y x<0;omega)
     clear hv0
     go_upto_region 4 with fail
     refine wp_region_ord [0,1,3,7,7,23,63,127,7,511,1023,2047] (.flo [0,1,2,3,4,5,6,7,8] (.one 9 (.flo [10,11] (.fin)))) (by kernel_rfl) (by kernel_rfl) (by intro _ _ d _ _ h;cases d<;>exact h) ?_
     (refine ord_flo (pick_cons rfl (pick_cons rfl (pick_cons rfl (pick_cons rfl (pick_cons rfl (pick_cons rfl (pick_cons rfl (pick_cons rfl (pick_cons rfl pick_nil))))))))) ?_;(repeat (go_big_quiet_step (fail)));refine wpQuiet_nil ?_;show ordWalk _ _ _ _ _ _ _)
     refine ord_one (pick_cons rfl pick_nil) ?_;intro K_ hK_
     go_wp2_with (go_at_call 194;refine (rucmp_any y x ny nx ty tx _ _ HV HNY hnx HTY htx (Lib.hid (HUY.out _ (HE.out.trans X))) (Lib.hid (HUX.out _ (HE.out.trans X))) HU32 ux hty9 h8).mono ?_;rintro e w3 ⟨rfl,x3⟩)
     (refine ord_flo (pick_cons rfl (pick_cons rfl pick_nil)) ?_;(repeat (go_big_quiet_step (fail)));refine wpQuiet_nil ?_;show ordWalk _ _ _ _ _ _ _)
     refine ord_fin ?_
     clear s0 s1 s2 s3
     have HE:=Lib.hid (HE.out.trans (X.trans x3))
     clear q0 q1 q2 q3 X
     obtain ⟨wr,hwr⟩ : ∃ W:World,W=w3:=⟨_,rfl⟩
     rw [← hwr] at HE ⊢
     clear hwr x3
     have ST:Hid (Sl wr 4 (some ad) (j+1) c (udsC (L.take (j+1)))):=Lib.hid ((h.out.ext (XB.out.trans HE.out)).takeS hn.out hk)
     have SD:Hid (Sl wr 4 (if c=j+1 then some ad else (some ad:Option Addr).map (·.add ((j+1) * 4))) (n - (j+1)) (c - (j+1)) (udsC (L.drop (j+1)))):=Lib.hid ((h.out.ext (XB.out.trans HE.out)).dropS hn.out hk)
     by_cases hcj:c=j+1
     ·obtain rfl:n=j+1:=by omega
      subst hcj
      have p1:True:=trivial
      go_wp2_with (first
       | (at_builtin;have mk:=p1;clear p1 mk;refine wpList_append_two _ elem_ud wr.heap.size _ _ rfl rfl none 0 0 [] rfl (Own.nil _ _ _ _) (some ad) (j+1) (j+1) (udsC (L.take (j+1))) rfl ST.out (udsC_one _) (by omega) (by decide) (Nat.le_refl _) ?_;intro A4 c4 w4 o4 g4 h4;clear h4;have y4:Ext wr w4:=Ext.grown (Ext.refl _) g4 (fun k e=>nomatch e);have O4:Hid (Own w4 wr.heap.size 95 4 A4 (j+1) c4 (udsC (L.take (j+1)))):=Lib.hid (by have:=o4;rwa [Nat.zero_add,List.nil_append] at this);have e0:=(BU.out.ext (HE.out.trans y4)).cell 0;have e1:=(BU.out.ext (HE.out.trans y4)).cell 1;have e2:=(BU.out.ext (HE.out.trans y4)).cell 2;have e3:=(BU.out.ext (HE.out.trans y4)).cell 3;have Y4:=Lib.hid y4;clear o4 g4 y4;have p2:True:=trivial)
       | (at_builtin;have mk:=p2;clear p2 mk;refine wpList_append_two _ elem_ud wr.heap.size _ _ rfl rfl A4 (j+1) c4 (udsC (L.take (j+1))) rfl (O4.out.alloc _) (some ⟨w4.heap.size,0,none⟩) 1 1 [.slice x.A nx x.c, .int .u64 x.t.e, .slice x.t.A tx x.t.c, .int .i64 x.d] rfl (Sl.one w4 #[.slice x.A nx x.c, .int .u64 x.t.e, .slice x.t.A tx x.t.c, .int .i64 x.d] 95 4 rfl) (by intro u hu;simp at hu;rcases hu with rfl | rfl | rfl | rfl<;>rfl) (by omega) (by decide) (Nat.le_trans Y4.out.size ((Ext.refl w4).alloc _).size) ?_;intro A5 c5 w5 o5 g5 h5;clear h5;have Y5:Hid (Ext wr w5):=Lib.hid (Ext.grown (Y4.out.alloc _) g5 (fun k e=>(O4.out.lt k e).1));have O5:=Lib.hid o5;clear o5 g5;have p3:True:=trivial)
       | (at_builtin;have mk:=p3;clear p3 mk;refine wpList_append_two _ elem_ud wr.heap.size _ _ rfl rfl A5 ((j+1)+1) c5 _ rfl O5.out _ (0) (0) (udsC (L.drop (j+1))) rfl ((Sl.ext (by have:=SD.out;rw [if_pos rfl,Nat.sub_self] at this;exact this) Y5.out)) (udsC_one _) (by omega) (by decide) Y5.out.size ?_;intro A6 c6 w6 o6 g6 h6;clear h6;have Y6:Hid (Ext wr w6):=Lib.hid (Ext.grown Y5.out g6 (fun k e=>(O5.out.lt k e).1));have O6:=Lib.hid o6;clear o6 g6)
       | fail)
      go_ret
      exact addu_new (k:=(j+1)) (m:=(j+1)+1+(0)) hn.out (by omega) hs.out (fun j' e=>by obtain rfl:j=j':=(by omega);rw [HY.out];exact HLT.out) HD.out (by omega) (by have:=O6.out;rw [HXN.out];exact this) ((XB.out.trans HE.out).trans Y6.out) (XB.out.trans HE.out).size
     ·have p1:True:=trivial
      go_wp2_with (first
       | (at_builtin;have mk:=p1;clear p1 mk;refine wpList_append_two _ elem_ud wr.heap.size _ _ rfl rfl none 0 0 [] rfl (Own.nil _ _ _ _) (some ad) (j+1) c (udsC (L.take (j+1))) rfl ST.out (udsC_one _) (by omega) (by decide) (Nat.le_refl _) ?_;intro A4 c4 w4 o4 g4 h4;clear h4;have y4:Ext wr w4:=Ext.grown (Ext.refl _) g4 (fun k e=>nomatch e);have O4:Hid (Own w4 wr.heap.size 95 4 A4 (j+1) c4 (udsC (L.take (j+1)))):=Lib.hid (by have:=o4;rwa [Nat.zero_add,List.nil_append] at this);have e0:=(BU.out.ext (HE.out.trans y4)).cell 0;have e1:=(BU.out.ext (HE.out.trans y4)).cell 1;have e2:=(BU.out.ext (HE.out.trans y4)).cell 2;have e3:=(BU.out.ext (HE.out.trans y4)).cell 3;have Y4:=Lib.hid y4;clear o4 g4 y4;have p2:True:=trivial)
       | (at_builtin;have mk:=p2;clear p2 mk;refine wpList_append_two _ elem_ud wr.heap.size _ _ rfl rfl A4 (j+1) c4 (udsC (L.take (j+1))) rfl (O4.out.alloc _) (some ⟨w4.heap.size,0,none⟩) 1 1 [.slice x.A nx x.c, .int .u64 x.t.e, .slice x.t.A tx x.t.c, .int .i64 x.d] rfl (Sl.one w4 #[.slice x.A nx x.c, .int .u64 x.t.e, .slice x.t.A tx x.t.c, .int .i64 x.d] 95 4 rfl) (by intro u hu;simp at hu;rcases hu with rfl | rfl | rfl | rfl<;>rfl) (by omega) (by decide) (Nat.le_trans Y4.out.size ((Ext.refl w4).alloc _).size) ?_;intro A5 c5 w5 o5 g5 h5;clear h5;have Y5:Hid (Ext wr w5):=Lib.hid (Ext.grown (Y4.out.alloc _) g5 (fun k e=>(O4.out.lt k e).1));have O5:=Lib.hid o5;clear o5 g5;have p3:True:=trivial)
       | (at_builtin;have mk:=p3;clear p3 mk;refine wpList_append_two _ elem_ud wr.heap.size _ _ rfl rfl A5 ((j+1)+1) c5 _ rfl O5.out (some (ad.add ((j+1) * 4))) (n - (j+1)) (c - (j+1)) (udsC (L.drop (j+1))) rfl ((Sl.ext (by have:=SD.out;rw [if_neg hcj] at this;exact this) Y5.out)) (udsC_one _) (by omega) (by decide) Y5.out.size ?_;intro A6 c6 w6 o6 g6 h6;clear h6;have Y6:Hid (Ext wr w6):=Lib.hid (Ext.grown Y5.out g6 (fun k e=>(O5.out.lt k e).1));have O6:=Lib.hid o6;clear o6 g6)
       | fail)
      go_ret
      exact addu_new (k:=(j+1)) (m:=(j+1)+1+(n - (j+1))) hn.out (by omega) hs.out (fun j' e=>by obtain rfl:j=j':=(by omega);rw [HY.out];exact HLT.out) HD.out (by omega) (by have:=O6.out;rw [HXN.out];exact this) ((XB.out.trans HE.out).trans Y6.out) (XB.out.trans HE.out).size
open Go.RowKit
namespace UdS
theorem addV_key : ∀ (R:List V) (x y:V),y∈addV R x→y.1=x.1 ∨ ∃ z∈R,z.1=y.1
 | [],x,y,h => .inl (by rw [List.mem_singleton.1 h])
 | a :: R,x,y,h=>by
  unfold addV at h
  split at h
  ·rcases List.mem_cons.1 h with rfl | h
   ·exact .inr ⟨_,List.mem_cons_self ..,rfl⟩
   ·rcases addV_key R x y h with q | ⟨z,hz,q⟩
    ·exact .inl q
    ·exact .inr ⟨z,List.mem_cons_of_mem _ hz,q⟩
  ·split at h
   ·rcases List.mem_cons.1 h with rfl | h
    ·exact .inr ⟨_,List.mem_cons_self ..,rfl⟩
    ·exact .inr ⟨y,List.mem_cons_of_mem _ h,rfl⟩
   ·rcases List.mem_cons.1 h with rfl | h
    ·exact .inl rfl
    ·exact .inr ⟨y,h,rfl⟩
theorem usumTo_key {L:List Ud} : ∀ (i:Nat) (y:V),y∈usumTo L i → ∃ x∈L,x.k=y.1
 | 0,y,h=>by unfold usumTo at h;simp at h
 | i+1,y,h=>by
  by_cases hi:i<L.length
  ·rw [usumTo_succ hi rfl] at h
   rcases addV_key _ _ _ h with q | ⟨z,hz,q⟩
   ·exact ⟨_,getU_mem hi,q.symm⟩
   ·obtain ⟨x,hx,e⟩:=usumTo_key i z hz
    exact ⟨x,hx,e.trans q⟩
  ·have e:usumTo L (i+1)=usumTo L i:=by unfold usumTo;rw [List.take_of_length_le (by omega),List.take_of_length_le (by omega)]
   rw [e] at h
   exact usumTo_key i y h
end UdS
/-- what is not none, so far -/
def LeftU (w1 wr:World) (M:List Ud) (j:Nat) (A:Option Addr) (m c:Nat):Prop:=m=((M.take j).filter UdS.nzC).length∧Own wr w1.heap.size 95 4 A m c (udsC ((M.take j).filter UdS.nzC))∧Ext w1 wr
theorem LeftU.skip {w1 wr:World} {M:List Ud} {j m c:Nat} {A:Option Addr} {x:Ud} (h:LeftU w1 wr M j A m c) (hj:j<M.length) (hx:M.getD j Ud.zero=x) (hz:(x.d==0)=true):LeftU w1 wr M (j+1) A m c:=by
 have e:(M.take (j+1)).filter UdS.nzC=(M.take j).filter UdS.nzC:=by
  rw [takeU hj,hx,List.filter_append]
  have:[x].filter UdS.nzC=[]:=by simp [UdS.nzC,hz]
  rw [this,List.append_nil]
 unfold LeftU
 rw [e]
 exact h
theorem LeftU.more {w1 wr w2:World} {M:List Ud} {j m c m2 c2:Nat} {A A2:Option Addr} {x:Ud} (h:LeftU w1 wr M j A m c) (hj:j<M.length) (hx:M.getD j Ud.zero=x) (hz:(x.d==0)=false) (hm:m2=m+1)
  (o:Own w2 w1.heap.size 95 4 A2 m2 c2 (udsC ((M.take j).filter UdS.nzC)++udC x)) (X:Ext w1 w2):LeftU w1 w2 M (j+1) A2 m2 c2:=by
 have e:(M.take (j+1)).filter UdS.nzC=(M.take j).filter UdS.nzC++[x]:=by
  rw [takeU hj,hx,List.filter_append]
  have:[x].filter UdS.nzC=[x]:=by simp [UdS.nzC,hz]
  rw [this]
 unfold LeftU
 rw [e,List.length_append,udsC_append]
 exact ⟨by rw [hm,h.1];rfl,by rw [show udsC [x]=udC x by simp [udsC]];exact o,X⟩
def RefAtU (w wr:World) (L:List Ud) (i:Nat) (A:Option Addr) (m c:Nat):Prop := ∃ M,m=M.length∧Uin wr A c M∧M.map Ud.uv=UdS.usumTo L i∧(∀ y∈M, ∃ x∈L,UdLike y x)∧Ext w wr
theorem add_like {L M M4:List Ud} {x:Ud} (hx:x∈L) (h : ∀ y∈M, ∃ z∈L,UdLike y z) (h4 : ∀ y∈M4, ∃ z∈x :: M,UdLike y z) : ∀ y∈M4, ∃ z∈L,UdLike y z:=fun y hy=>by
 obtain ⟨z,hz,a1,a2,a3,a4⟩:=h4 y hy
 rcases List.mem_cons.1 hz with rfl | hz
 ·exact ⟨z,hx,a1,a2,a3,a4⟩
 ·obtain ⟨q,hq,b1,b2,b3,b4⟩:=h z hz
  exact ⟨q,hq,a1.trans b1,a2.trans b2,a3.trans b3,a4.trans b4⟩
set_option maxRecDepth 100000 in
set_option maxHeartbeats 8000000 in
theorem refSum10_own {V:List UV} (A:Option Addr) (c n:Nat) (L:List Ud) (w:World) (hV:Hid (UdS.sumV (L.map Ud.uv)=V)) (hn:Hid (n=L.length)) (h:Hid (Uin w A c L)) (h9:n≤1000000) (hin:Hid (∀ x∈L,UdS.InN x.uv)) (uL:Hid (∀ y∈L,U32 y.t.l∧y.t.l.length≤1000000)) :
  Calls Tryz.prog 24 #[.slice A n c] w (AddP w L V):=by
 have HR0:Hid (RefAtU w w L 0 none 0 0):=Lib.hid ⟨[],rfl,Uin.nil _,rfl,fun y hy=>(nomatch hy),Ext.refl w⟩
 go_enter Tryz.func24,Tryz.ntmps24
 go_wp2
 go_loopg [3,4] n (fun z u v wr => ∃ (i m c3:Nat) (A3:Option Addr),z=n - i∧i≤n∧m≤i∧u = .slice A3 m c3∧v = .int .i64 i∧Hid (RefAtU w wr L i A3 m c3))
 case atStart=>exact ⟨0,0,0,none,rfl,Nat.zero_le _,Nat.le_refl _,rfl,rfl,HR0⟩
 case round =>
  clear HR0
  obtain ⟨i,m,c3,A3,rfl,hi,hmi,rfl,rfl,HP⟩:=hrel
  by_cases hlt:i<n
  ·obtain ⟨M,hM,hC,hv,hp,X⟩:=HP.out
   have HPV:=Lib.hid hp
   have hil:i<L.length:=by rw [← hn.out];exact hlt
   obtain ⟨ad,rfl,p0,p1,p2,p3⟩:=(h.out.ext X).at hil
   have hm:=getU_mem hil
   obtain ⟨x,hx⟩ : ∃ x,L.getD i Ud.zero=x:=⟨_,rfl⟩
   rw [hx] at p0 p1 p2 p3 hm
   obtain ⟨nx,hnx⟩ : ∃ nx,nx=x.l.length:=⟨_,rfl⟩
   obtain ⟨tx,htx⟩ : ∃ tx,tx=x.t.l.length:=⟨_,rfl⟩
   rw [← hnx] at p0
   rw [← htx] at p2
   have HUX:=Lib.hid ((h.out.ls x hm).ext X)
   have HMC:=Lib.hid hC
   have HNX:=Lib.hid hnx
   have HTX:=Lib.hid htx
   have HMM:=Lib.hid hM
   have UX:Hid (U32 x.t.l):=Lib.hid (uL.out x hm).1
   have htx9:tx≤1000000:=by rw [htx];exact (uL.out x hm).2
   have HS:Hid (UdS.Srt M):=Lib.hid (UdS.Srt.of (by rw [hv];exact UdS.usumTo_srt hin.out i))
   have HML:Hid (∀ y∈M,U32 y.t.l∧y.t.l.length≤1000000):=Lib.hid (fun y hy=>by
    have:y.uv∈UdS.usumTo L i:=by rw [← hv];exact List.mem_map.2 ⟨y,hy,rfl⟩
    obtain ⟨z,hz,e⟩:=UdS.usumTo_key i _ this
    have e2:z.t.l=y.t.l:=congrArg (fun q:UK=>q.2.2) e
    rw [← e2]
    exact uL.out z hz)
   have HV:Hid (UdS.addV (M.map Ud.uv) x.uv=UdS.usumTo L (i+1)):=Lib.hid (by rw [UdS.usumTo_succ hil hx,hv])
   have HXX:=Lib.hid X
   have HXM:Hid (x∈L):=Lib.hid hm
   clear hM hC hv hp X hil hm hx hnx htx HP
   go_wp2_with (go_at_call 118;refine (radd10_any A3 c3 m M x nx tx _ HV HMM HNX HTX HMC HUX HS UX HML (by omega) htx9).mono ?_;rintro e w1 hadd;obtain ⟨A4,m4,c4,M4,rfl,hm4,o4,p4,hv4,X4⟩:=hadd;have hC4:=addp_uin o4 hm4 p4 HUX.out HMC.out.ls X4;have hml:m4≤i+1:=(by rw [hm4];have q:=congrArg List.length hv4;rw [List.length_map] at q;rw [q];exact UdS.usumTo_len L (i+1));have HP4:Hid (RefAtU w w1 L (i+1) A4 m4 c4):=Lib.hid ⟨M4,hm4,hC4,hv4,add_like HXM.out HPV.out p4,HXX.out.trans X4⟩;clear hm4 hC4 hv4 X4 o4 p4)
   go_roundg (n - (i+1))
   case measure=>omega
   case rel=>exact ⟨i+1,m4,c4,A4,rfl,by omega,hml,rfl,by go_num,HP4⟩
  ·obtain rfl:i=n:=by omega
   obtain ⟨M,hM,hC,hv,hp,X⟩:=HP.out
   have HPV:=Lib.hid hp
   clear hp
   obtain ⟨w1,hw1⟩ : ∃ w1:World,w1=wr:=⟨_,rfl⟩
   rw [← hw1] at hC X ⊢
   clear hw1
   have HM:=Lib.hid hM
   have HC:=Lib.hid hC
   have HMV:=Lib.hid hv
   have HX:=Lib.hid X
   have HL0:Hid (LeftU w1 w1 M 0 none 0 0):=Lib.hid ⟨rfl,Own.nil _ _ _ _,Ext.refl _⟩
   clear hM hC hv X HP
   go_wp2
   go_loopg [5,6] m (fun z u v wr => ∃ (j n5 c5:Nat) (A5:Option Addr),z=m - j∧j≤m∧n5≤j∧u = .slice A5 n5 c5∧v = .int .i64 j∧Hid (LeftU w1 wr M j A5 n5 c5))
   case atStart=>exact ⟨0,0,0,none,rfl,Nat.zero_le _,Nat.le_refl _,rfl,rfl,HL0⟩
   case round =>
    clear HL0
    obtain ⟨j,n5,c5,A5,rfl,hj,hnj,rfl,rfl,HQ⟩:=hrel
    by_cases hlt:j<m
    ·have hjl:j<M.length:=by rw [← HM.out];exact hlt
     obtain ⟨ad,rfl,p0,p1,p2,p3⟩:=(HC.out.ext HQ.out.2.2).at hjl
     obtain ⟨x,hx⟩ : ∃ x,M.getD j Ud.zero=x:=⟨_,rfl⟩
     rw [hx] at p0 p1 p2 p3
     obtain ⟨nx,hnx⟩ : ∃ nx,nx=x.l.length:=⟨_,rfl⟩
     obtain ⟨tx,htx⟩ : ∃ tx,tx=x.t.l.length:=⟨_,rfl⟩
     rw [← hnx] at p0
     rw [← htx] at p2
     have HJ:=Lib.hid hjl
     have HXJ:=Lib.hid hx
     have HXN:Hid (udC x=[.slice x.A nx x.c, .int .u64 x.t.e, .slice x.t.A tx x.t.c, .int .i64 x.d]):=Lib.hid (by rw [hnx,htx];rfl)
     clear hjl hx hnx htx
     cases hz:(x.d==0)
     ·have HZ:=Lib.hid hz
      go_wp2_with (at_builtin;refine wpList_append_two _ elem_ud w1.heap.size _ _ rfl rfl A5 n5 c5 (udsC ((M.take j).filter UdS.nzC)) rfl (Own.alloc HQ.out.2.1 _) (some ⟨wr.heap.size,0,none⟩) 1 1 [.slice x.A nx x.c, .int .u64 x.t.e, .slice x.t.A tx x.t.c, .int .i64 x.d] rfl (Sl.one wr #[.slice x.A nx x.c, .int .u64 x.t.e, .slice x.t.A tx x.t.c, .int .i64 x.d] 95 4 rfl) (by intro u hu;simp at hu;rcases hu with rfl | rfl | rfl | rfl<;>rfl) (by omega) (by decide) (by have:=Ext.size HQ.out.2.2;simp;omega) ?_;intro A6 c6 w6 o6 g6 h6;clear h6;have HQ6:=Lib.hid (LeftU.more (m2:=n5+1) HQ.out HJ.out HXJ.out HZ.out rfl (by rw [HXN.out];exact o6) (Ext.grown (Ext.alloc HQ.out.2.2 _) g6 (fun k e=>(HQ.out.2.1.lt k e).1)));clear o6 g6)
      go_roundg (m - (j+1))
      case measure=>omega
      case rel=>exact ⟨j+1,n5+1,c6,A6,rfl,by omega,by omega,rfl,by go_num,HQ6⟩
     ·have HQ6:=Lib.hid (HQ.out.skip HJ.out HXJ.out hz)
      go_wp2
      go_roundg (m - (j+1))
      case measure=>omega
      case rel=>exact ⟨j+1,n5,c5,A5,rfl,by omega,by omega,rfl,by go_num,HQ6⟩
    ·obtain rfl:j=m:=by omega
     have HE:Hid (AddP w L V (.returned (.slice A5 n5 c5)) wr):=Lib.hid (by
      obtain ⟨q1,q2,q3⟩:=HQ.out
      rw [List.take_of_length_le (by rw [← HM.out];exact Nat.le_refl _)] at q1 q2
      refine ⟨A5,n5,c5,M.filter UdS.nzC,rfl,q1,q2.mono HX.out.size,fun y hy=>HPV.out y (List.mem_filter.1 hy).1,?_,HX.out.trans q3⟩
      have e:M.map Ud.uv=UdS.sumAll (L.map Ud.uv):=by rw [HMV.out];unfold UdS.usumTo UdS.sumAll;rw [List.take_of_length_le (by rw [← hn.out];exact Nat.le_refl _)]
      rw [← hV.out]
      unfold UdS.sumV
      rw [← e,List.filter_map]
      rfl)
     go_wp2
     go_ret
     exact HE.out
theorem refSum10_any {V:List UV} (A:Option Addr) (c n:Nat) (L:List Ud) (w:World) (hV:Hid (UdS.sumV (L.map Ud.uv)=V)) (hn:Hid (n=L.length)) (h:Hid (Uin w A c L)) (h9:n≤1000000) (hin:Hid (∀ x∈L,UdS.InN x.uv)) (uL:Hid (∀ y∈L,U32 y.t.l∧y.t.l.length≤1000000)) :
  Calls Tryz.prog 24 #[.slice A n c] w (AddU w V):=(refSum10_own A c n L w hV hn h h9 hin uL).mono fun _ _ q=>q.toU h.out.ls
open Go.RowKit
def noTwo:Nat→Prop:=fun _=>False
section
variable {w0 w w':World} {M:List Hop} {i gt:Nat} {first:Int} {v v':TrV} {xa xb:Hv} {A1 A2:Option Addr} {n1 c1 n2 c2:Nat} {D1 D2 Q P:List Ud} {K:Nat→Prop} {all:List UV}
/-- TwoI, with its blocks and updates named -/
structure TwoK (w0 w:World) (M:List Hop) (i gt:Nat) (first:Int) (v:TrV) (xa xb:Hv) (A1:Option Addr) (n1 c1:Nat) (D1:List Ud) (A2:Option Addr) (n2 c2:Nat) (D2 P:List Ud) (K:Nat→Prop) (all:List UV):Prop where
 two:TwoI w0 w M i gt first v xa xb A1 n1 c1 D1 A2 n2 c2 D2 [] P
 s:Sho w0 w K gt v all (hopsLen M i)
 a:Tl w0 w K A1 n1 c1 D1
 b:Tl w0 w K A2 n2 c2 D2
 p : ∀ x∈P,TlE w K x
 d:ToldH xa first all (D1.map Ud.uv)
 e:ToldH xb first all (D2.map Ud.uv++P.map Ud.uv)
theorem TwoI.open (h:TwoI w0 w M i gt first v xa xb A1 n1 c1 D1 A2 n2 c2 D2 [] P) : ∃ K all,TwoK w0 w M i gt first v xa xb A1 n1 c1 D1 A2 n2 c2 D2 P K all:=by
 obtain ⟨K,all,s,a,b,_,p,d,e⟩:=h.m
 rw [List.map_nil,List.append_nil] at d
 exact ⟨K,all,h,s,a,b,p,d,e⟩
theorem TwoK.grow (h:TwoK w0 w M i gt first v xa xb A1 n1 c1 D1 A2 n2 c2 D2 P K all) (x:Ext w w'):TwoK w0 w' M i gt first v xa xb A1 n1 c1 D1 A2 n2 c2 D2 P K all:=⟨h.two.grow x,h.s.grow x,h.a.ext x,h.b.ext x,fun y hy=>(h.p y hy).ext x,h.d,h.e⟩
theorem TwoK.to {all':List UV} {B:Nat} (h:TwoK w0 w M i gt first v xa xb A1 n1 c1 D1 A2 n2 c2 D2 P K all) (kp:Kp w0 K w w') (s:Sho w0 w' K gt v' all' B) (hB:B≤hopsLen M (i+1)) (hs:v'.hs=v.hs) (d:ToldH xa first all' (D1.map Ud.uv)) (e:ToldH xb first all' (D2.map Ud.uv++P.map Ud.uv)) :
  TwoI w0 w' M (i+1) gt first v' xa xb A1 n1 c1 D1 A2 n2 c2 D2 [] P :=
 ⟨⟨K,all',s.more hB,h.a.kp kp,h.b.kp kp,fun x hx=>(nomatch hx),fun x hx=>(h.p x hx).kp kp,by rw [List.map_nil,List.append_nil];exact d,e⟩,h.two.ap,by rw [hs];exact h.two.ma,by rw [hs];exact h.two.mb,h.two.ne,⟨by have:=h.two.nn.1;omega,by have:=h.two.nn.2;omega⟩⟩
theorem TwoK.ins {q:Int × TrV} {L:List Ud} {n:Nat} (h:TwoK w0 w M i gt first v xa xb A1 n1 c1 D1 A2 n2 c2 D2 P K all) (hi:i<M.length) (hn:n=(M.getD i Hop.zero).L.length) (kp:Kp w0 K w w')
  (k:(q.1≠0∧Sho w0 w' K gt v all (hopsLen M i))∨(q.1=0∧Sho w0 w' K gt q.2 (all++L.map Ud.uv) (hopsLen M i+n+1)∧q.2.hs=v.hs∧v.up≤q.2.up ∧ ∀ x∈L.map Ud.uv,v.up≤x.1.2.1)) : ∃ v',TwoI w0 w' M (i+1) gt first v' xa xb A1 n1 c1 D1 A2 n2 c2 D2 [] P:=by
 have e:=hopsLen_succ hi
 rcases k with ⟨_,s⟩ | ⟨_,s,hs,_,hu⟩
 ·exact ⟨v,h.to kp s (by omega) rfl h.d h.e⟩
 ·have hl : ∀ x:Hv,x∈v.hs→x.begun=true → ∀ u∈L.map Ud.uv,x.seen≤u.1.2.1:=fun x hx b u hu'=>by
   have h1:=((h.s.tt.ok.hs x hx).2 b).2
   have h2:=hu u hu'
   omega
  exact ⟨q.2,h.to kp s (by omega) hs (h.d.grow (hl xa h.two.ma.1)) (h.e.grow (hl xb h.two.mb.1))⟩
theorem TwoK.work (h:TwoK w0 w M i gt first v xa xb A1 n1 c1 D1 A2 n2 c2 D2 P K all) (hi:i<M.length) (kp:Kp w0 K w w') (s:Sho w0 w' K gt v' all (hopsLen M i)) (hs:v'.hs=v.hs) : ∃ v',TwoI w0 w' M (i+1) gt first v' xa xb A1 n1 c1 D1 A2 n2 c2 D2 [] P :=
 ⟨v',h.to kp s (by rw [hopsLen_succ hi];omega) hs h.d h.e⟩
theorem next_g {t:TrV} {x:Hv}:(nextV t x).2.2.2.g=x.g∧(nextV t x).2.2.2.ended=x.ended:=by
 unfold nextV
 split
 ·exact ⟨rfl,rfl⟩
 ·split<;>exact ⟨rfl,rfl⟩
theorem setH_in {H:List Hv} {x y:Hv} (hx:x∈H) (hg:y.g=x.g):y∈setH H y:=List.mem_map.2 ⟨x,hx,by rw [if_pos hg.symm]⟩
theorem setH_old {H:List Hv} {x y:Hv} (hx:x∈H) (hg:x.g≠y.g):x∈setH H y:=List.mem_map.2 ⟨x,hx,by rw [if_neg hg]⟩
/-- a is told what has come -/
theorem TwoK.told {A:Option Addr} {m:Nat} {q:Int × List UV × Int × Hv} (h:TwoK w0 w M i gt first v xa xb A1 n1 c1 D1 A2 n2 c2 D2 P K all) (hf:0≤first∧first≤18446744073709551615) (hq:nextV v xa=q) (hB:hopsLen M i≤300) (hm:m=Q.length) (u:Uout w' w.heap.size A m Q) (hv:Q.map Ud.uv=q.2.1) (kp:Kp w0 K w w')
  (f : ∀ K':Nat→Prop,(∀ k,K' k→K k∨(w.heap.size≤k∧k<w'.heap.size))→Sho w0 w' K' gt { v with hs:=setH v.hs q.2.2.2 } all (hopsLen M i)) (hn:n1≤600 * i) :
  TwoI w0 w' M i gt first { v with hs:=setH v.hs q.2.2.2 } q.2.2.2 xb A1 n1 c1 D1 A2 n2 c2 D2 Q P:=by
 have k:=ToldH.next h.s.tt h.two.ma.1 h.two.ma.2 h.d hf
 have hg:=next_g (t:=v) (x:=xa)
 rw [hq] at k hg
 obtain ⟨_,k2,_,_⟩:=k
 have hgood : ∀ x∈Q,InU x:=uds_good hv fun u hu=>k2.good u (List.mem_append_right _ hu)
 have hlen:Q.length≤600:=by
  have e1:Q.length=q.2.1.length:=by rw [← hv,List.length_map]
  rw [e1, ← hq]
  have hall:=Nat.le_trans h.s.tt.all_len hB
  have h0:=out_len (allV v.s) xa.begun xa.seen
  have h1:=usumV_len (outV (allV v.s) xa.begun xa.seen)
  unfold nextV
  split
  ·exact Nat.zero_le _
  ·split
   ·exact Nat.zero_le _
   ·show (UdS.sumV (outV (allV v.s) xa.begun xa.seen)).length≤600
    omega
 refine ⟨⟨fun k=>K k∨(w.heap.size≤k∧k<w'.heap.size),all,f _ fun _ hk=>hk,(h.a.kp kp).wide fun _ hk => .inl hk,(h.b.kp kp).wide fun _ hk => .inl hk,tlE_new u (fun _ a b => .inr ⟨a,b⟩) hgood,fun x hx=>((h.p x hx).kp kp).wide fun _ hk => .inl hk,by rw [hv];exact k2,h.e⟩,h.two.ap,⟨setH_in h.two.ma.1 hg.1,by rw [hg.2];exact h.two.ma.2⟩,⟨setH_old h.two.mb.1 (by rw [hg.1];exact h.two.ne.symm),h.two.mb.2⟩,by rw [hg.1];exact h.two.ne,⟨by omega,h.two.nn.2⟩⟩
/-- the same, seen from b -/
theorem TwoK.told2 {A:Option Addr} {m:Nat} {q:Int × List UV × Int × Hv} (h:TwoK w0 w M i gt first v xa xb A1 n1 c1 D1 A2 n2 c2 D2 [] K all) (hf:0≤first∧first≤18446744073709551615) (hq:nextV v xa=q) (hB:hopsLen M i≤300) (hm:m=Q.length) (u:Uout w' w.heap.size A m Q) (hv:Q.map Ud.uv=q.2.1) (kp:Kp w0 K w w')
  (f : ∀ K':Nat→Prop,(∀ k,K' k→K k∨(w.heap.size≤k∧k<w'.heap.size))→Sho w0 w' K' gt { v with hs:=setH v.hs q.2.2.2 } all (hopsLen M i)) (hn:n1≤600 * i) :
  ∃ K',TwoK w0 w' M i gt first { v with hs:=setH v.hs q.2.2.2 } xb q.2.2.2 A2 n2 c2 D2 A1 n1 c1 D1 Q K' all∧Ukp w' K' A m Q:=by
 have k:=ToldH.next h.s.tt h.two.ma.1 h.two.ma.2 h.d hf
 rw [hq] at k
 obtain ⟨_,k2,_,_⟩:=k
 have hgood : ∀ x∈Q,InU x:=uds_good hv fun u hu=>k2.good u (List.mem_append_right _ hu)
 have he:=h.e
 rw [List.map_nil,List.append_nil] at he
 exact ⟨fun k=>K k∨(w.heap.size≤k∧k<w'.heap.size),⟨(h.told hf hq hB hm u hv kp f hn).turn,f _ fun _ hk=>hk,(h.b.kp kp).wide fun _ hk => .inl hk,(h.a.kp kp).wide fun _ hk => .inl hk,tlE_new u (fun _ a b => .inr ⟨a,b⟩) hgood,he,by rw [hv];exact k2⟩,(Ukp.new u).wide fun _ hk => .inr hk⟩
/-- up to where a is told -/
theorem TwoK.upto {q:Int × List UV × Int × Hv} (h:TwoK w0 w M i gt first v xa xb A1 n1 c1 D1 A2 n2 c2 D2 P K all) (hf:0≤first∧first≤18446744073709551615) (hq:nextV v xa=q):q.1=0∧q.2.2.1=max first v.up∧((q.2.2.2.begun=false∧v.up≤first)∨(q.2.2.2.begun=true∧q.2.2.2.seen=v.up∧first<v.up)):=by
 have k:=ToldH.next h.s.tt h.two.ma.1 h.two.ma.2 h.d hf
 rw [hq] at k
 obtain ⟨k1,_,k3,k4⟩:=k
 refine ⟨k1,?_,?_⟩
 ·rw [k3]
  split
  ·rename_i c
   have:=(h.d.no c.1).2
   omega
  ·rename_i c
   cases hb:xa.begun with
   | true =>
    have h1:=(h.d.yes hb).1
    have h2:=((h.s.tt.ok.hs xa h.two.ma.1).2 hb).2
    omega
   | false =>
    have h1:=(h.d.no hb).2
    have h2 : ¬ v.up≤xa.seen:=fun q=>c ⟨hb,q⟩
    omega
 ·rw [k4]
  split
  ·rename_i c
   have:=(h.d.no c.1).2
   exact .inl ⟨c.1,by omega⟩
  ·rename_i c
   refine .inr ⟨rfl,rfl,?_⟩
   cases hb:xa.begun with
   | true =>
    have h1:=(h.d.yes hb).1
    have h2:=((h.s.tt.ok.hs xa h.two.ma.1).2 hb).2
    omega
   | false =>
    have h1:=(h.d.no hb).2
    have h2 : ¬ v.up≤xa.seen:=fun q=>c ⟨hb,q⟩
    omega
/-- told up to the same: told the same -/
theorem TwoK.end (h:TwoK w0 w M i gt first v xa xb A1 n1 c1 D1 A2 n2 c2 D2 [] K all) {up:Int} (ha:(xa.begun=false∧up≤first)∨(xa.begun=true∧xa.seen=up∧first<up)) (hb:(xb.begun=false∧up≤first)∨(xb.begun=true∧xb.seen=up∧first<up)):UdS.sumV (D1.map Ud.uv)=UdS.sumV (D2.map Ud.uv):=by
 have he:=h.e
 rw [List.map_nil,List.append_nil] at he
 rcases ha with ⟨a1,a2⟩ | ⟨a1,a2,a3⟩
 ·rcases hb with ⟨b1,b2⟩ | ⟨b1,b2,b3⟩
  ·rw [(h.d.no a1).1,(he.no b1).1]
  ·omega
 ·rcases hb with ⟨b1,b2⟩ | ⟨b1,b2,b3⟩
  ·omega
  ·have d:=(h.d.yes a1).2
   have e:=(he.yes b1).2
   rw [a2] at d
   rw [b2] at e
   exact sum_same (d.trans e.symm) h.d.good he.good
structure TwoE (w0 w:World) (A1:Option Addr) (n1 c1:Nat) (D1:List Ud) (A2:Option Addr) (n2 c2:Nat) (D2:List Ud):Prop where
 la:n1=D1.length
 lb:n2=D2.length
 ua:Uin w A1 c1 D1
 ub:Uin w A2 c2 D2
 ia : ∀ x∈D1,InU x
 ib : ∀ x∈D2,InU x
 sm:UdS.sumV (D1.map Ud.uv)=UdS.sumV (D2.map Ud.uv)
 ex:Ext w0 w
theorem two_end {up:Int} (h:TwoI w0 w M i gt first v xa xb A1 n1 c1 D1 A2 n2 c2 D2 [] []) (ha:(xa.begun=false∧up≤first)∨(xa.begun=true∧xa.seen=up∧first<up)) (hb:(xb.begun=false∧up≤first)∨(xb.begun=true∧xb.seen=up∧first<up)):TwoE w0 w A1 n1 c1 D1 A2 n2 c2 D2:=by
 obtain ⟨K,all,k⟩:=h.open
 exact ⟨k.a.len,k.b.len,k.a.uin,k.b.uin,fun x hx=>(k.a.es x hx).good,fun x hx=>(k.b.es x hx).good,k.end ha hb,k.s.ext⟩
theorem TwoI.start {ga gb:Nat} (s:Sho w0 w noTwo gt ⟨newV,0,[newH ga first,newH gb first]⟩ [] 0) (hg:ga≠gb):TwoI w0 w M 0 gt first ⟨newV,0,[newH ga first,newH gb first]⟩ (newH ga first) (newH gb first) none 0 0 [] none 0 0 [] [] []:=by
 have t : ∀ g,ToldH (newH g first) first [] []:=fun g=>⟨fun u hu=>(nomatch hu),fun _=>⟨rfl,rfl⟩,fun b=>(nomatch b)⟩
 exact ⟨⟨_,[],by rw [hopsLen_zero];exact s,Tl.nil,Tl.nil,fun x hx=>(nomatch hx),fun x hx=>(nomatch hx),t ga,t gb⟩,fun k hk=>(nomatch hk),⟨List.mem_cons_self ..,rfl⟩,⟨List.mem_cons_of_mem _ (List.mem_singleton.2 rfl),rfl⟩,hg,⟨Nat.zero_le _,Nat.zero_le _⟩⟩
end
open Go.RowKit
theorem two_sl {w w':World} {A:Option Addr} {m:Nat} {Q:List Ud} (u:Uout w' w.heap.size A m Q) (hm:m=Q.length):Sl w' 4 A m m (udsC Q):=by
 have q:=u.uin.sl
 rwa [← hm] at q
theorem sho_h_lt {w0 w:World} {K:Nat→Prop} {g:Nat} {v:TrV} {all:List UV} {B:Nat} {x:Hv} (s:Sho w0 w K g v all B) (hx:x∈v.hs):x.g<w.heap.size:=by
 obtain ⟨R,t,h,e,_⟩:=s.r
 subst e
 exact (h.hs x hx).1.lt
set_option maxRecDepth 100000 in
set_option maxHeartbeats 16000000 in
theorem two_some (A:Option Addr) (n c:Nat) (M:List Hop) (first:Int) (w:World) (G:Good w) (hn:Hid (n=M.length)) (hM:Hid (Hin w A c M)) (hI:Hid (∀ x∈M,HopIn x)) (hb:Hid (∀ x∈M,x.L.length≤1048576)) (hmu:Hid (muchH M=false)) (hf:Hid (0≤first∧first≤18446744073709551615)) :
  Calls Tryz.prog 9 #[.slice A n c, .int .u64 first] w fun e w'=>e = .returned (.bool true)∧Ext w w':=by
 have HO:Hid (Hops M):=Lib.hid (hops_of hmu.out)
 have hcap:n≤300:=by
  have:=HO.out.len
  have h2:=hops_n M
  rw [hn.out]
  omega
 have m1:True:=trivial
 have hlz:newT.least≤first:=by
  have e:newT.least=0:=by kernel_rfl
  have:=hf.out.1
  omega
 have HLZ:=Lib.hid hlz
 have HLY:Hid (∀ g,({ newT with hs:=newT.hs++[newH g first] }:TrV).least≤first):=Lib.hid (fun g=>(minL_le _ _).2.1 _ (List.mem_map.2 ⟨newH g first,List.mem_filter.2 ⟨List.mem_append_right _ (List.mem_singleton.2 rfl),rfl⟩,rfl⟩))
 clear hlz
 go_enter Tryz.func9,Tryz.ntmps9
 go_wp2_with (first
  | (go_at_call 68;have mk:=m1;clear m1 mk;refine (much12_at A c n M _ hmu hn hM hb).mono ?_;rintro r v1 ⟨rfl,x1⟩;have X1:=Lib.hid x1;clear x1;have m2:True:=trivial)
  | (go_at_call 69;have mk:=m2;clear m2 mk;refine (known12_any _ (G.ext X1.out)).mono ?_;rintro r v2 ⟨rfl,x2⟩;have X2:=Lib.hid (X1.out.trans x2);clear x2;have m3:True:=trivial)
  | (go_at_call 70;have mk:=m3;clear m3 mk;refine (sho_new w _ noTwo X2 (Lib.hid (fun k hk=>hk.elim))).mono ?_;rintro r v3 ⟨gt,rfl,s3,x3⟩;have S3:=Lib.hid s3;clear s3 x3;have m4:True:=trivial)
  | (go_at_call 74;have mk:=m4;clear m4 mk;refine (sho_share first S3 hf.out.2).mono ?_;rintro r v4 ⟨k4,hres⟩;replace hres:=hres.resolve_left (fun q=>absurd q.1 (Int.not_lt.2 HLZ.out));obtain ⟨_,ga,b4,rfl,s4⟩:=hres;have S4:=Lib.hid s4;have HLT:Hid (ga<v4.heap.size):=Lib.hid (sho_h_lt (x:=newH ga first) s4 (List.mem_append_right _ (List.mem_singleton.2 rfl)));clear s4 k4 b4;have m5:True:=trivial)
  | (go_at_call 74;have mk:=m5;clear m5 mk;refine (sho_share first S4 hf.out.2).mono ?_;rintro r v5 ⟨k5,hres⟩;replace hres:=hres.resolve_left (fun q=>absurd q.1 (Int.not_lt.2 (HLY.out ga)));obtain ⟨_,gb,b5,rfl,s5⟩:=hres;have HH0:Hid (TwoI w v5 M 0 gt first ⟨newV,0,[newH ga first,newH gb first]⟩ (newH ga first) (newH gb first) none 0 0 [] none 0 0 [] [] []):=Lib.hid (TwoI.start s5 (by have:=HLT.out;omega));clear s5 k5 b5)
  | fail)
 go_loopg [10,11,12] n (fun z s10 s11 u wr => ∃ (i:Nat) (v:TrV) (xa xb:Hv) (A1:Option Addr) (n1 c1:Nat) (D1:List Ud) (A2:Option Addr) (n2 c2:Nat) (D2:List Ud),z=n - i∧i≤n∧s10 = .slice A1 n1 c1∧s11 = .slice A2 n2 c2∧u = .int .i64 i∧Hid (xa.g=ga∧xb.g=gb)∧Hid (n1≤600 * i∧n2≤600 * i)∧Hid (TwoI w wr M i gt first v xa xb A1 n1 c1 D1 A2 n2 c2 D2 [] []))
 case atStart=>exact ⟨0,_,_,_,none,0,0,[],none,0,0,[],rfl,Nat.zero_le _,rfl,rfl,rfl,Lib.hid ⟨rfl,rfl⟩,Lib.hid ⟨Nat.zero_le _,Nat.zero_le _⟩,HH0⟩
 case round =>
  clear HH0 S3 S4 X2 X1 HLZ HLY HLT
  obtain ⟨i,v,xa,xb,A1,n1,c1,D1,A2,n2,c2,D2,rfl,hi,rfl,rfl,rfl,HG,HN,HI⟩:=hrel
  have hnn:=HN.out
  by_cases hlt:i<n
  ·have hiM:i<M.length:=by rw [← hn.out];exact hlt
   have HIM:=Lib.hid hiM
   obtain ⟨x,hx⟩ : ∃ x,M.getD i Hop.zero=x:=⟨_,rfl⟩
   have hxm:x∈M:=hx ▸ getH_mem hiM
   have hle:=HO.out.at hiM
   rw [hx] at hle
   obtain ⟨ad,eA,q0,q1,q2,q3,q4⟩:=(hM.out.ext HI.out.ext).at hiM hx
   subst eA
   have HU:Hid (Uin w x.A x.c x.L):=Lib.hid (hM.out.ls x hxm)
   have HXI:Hid (HopIn x):=Lib.hid (hI.out x hxm)
   have HIN:Hid (∀ y∈x.L,InU y):=Lib.hid (HO.out.inU hxm HXI.out)
   have hk:=HXI.out.k
   have hxn:=HXI.out.n
   obtain ⟨xk,hxk⟩ : ∃ k,x.k=k:=⟨_,rfl⟩
   obtain ⟨nL,hnL⟩ : ∃ k,k=x.L.length:=⟨_,rfl⟩
   obtain ⟨xe,hee⟩ : ∃ k,x.e=k:=⟨_,rfl⟩
   obtain ⟨xn,hne⟩ : ∃ k,x.n=k:=⟨_,rfl⟩
   obtain ⟨xA,hxA⟩ : ∃ k,x.A=k:=⟨_,rfl⟩
   obtain ⟨xc,hxc⟩ : ∃ k,x.c=k:=⟨_,rfl⟩
   have HXE:Hid (0≤xe∧xe≤18446744073709551615):=Lib.hid (hee ▸ HXI.out.e)
   rw [hxk] at q0 hk
   rw [hxA,hxc, ← hnL] at q1
   rw [hee] at q2
   rw [hne] at q3 hxn
   rw [hxA,hxc] at HU
   rw [← hnL] at hle
   have HNL:=Lib.hid hnL
   have HNX:Hid (nL=(M.getD i Hop.zero).L.length):=Lib.hid (by rw [hx];exact hnL)
   have HLE:=Lib.hid hle
   clear hxA hxc hee hne hnL hx hxm hiM hle hxk HXI
   go_upto_block 2 with fail
   obtain ⟨wo,hwo⟩ : ∃ wo:World,wo=wr:=⟨_,rfl⟩
   rw [← hwo] at HI q0 q1 q2 q3 q4 ⊢
   clear hwo
   obtain ⟨xq,hxq⟩ : ∃ q,xk % 9=q:=⟨_,rfl⟩
   have hq9:0≤xq∧xq≤8:=by omega
   rw [hxq]
   clear hxq hk
   have hq:(xq=0∨xq=1)∨xq=2∨(xq=5∨xq=6)∨xq=7∨(¬ xq=0 ∧ ¬ xq=1 ∧ ¬ xq=2 ∧ ¬ xq=5 ∧ ¬ xq=6 ∧ ¬ xq=7):=by omega
   rcases hq with hq | hq | hq | hq | ⟨h0,h1,h2,h5,h6,h7⟩
   ·obtain ⟨K,all,hK⟩:=HI.out.open
    have HK:=Lib.hid hK
    clear hK
    obtain ⟨iv,hiv⟩ : ∃ q,tinsV v (x.L.map Ud.uv) xe=q:=⟨_,rfl⟩
    have HIV:=Lib.hid hiv
    clear hiv
    rcases hq with hq | hq<;>subst hq
    all_goals
     have X:Ext wo wo.drew:=(Ext.refl wo).drew
     have HKD:=Lib.hid (HK.out.grow X)
     have HSD:=Lib.hid HKD.out.s
     have Q1 : ∀ z:Xt wo.drew,z.W.cell? ⟨(ad.add (i * 5)).block,(ad.add (i * 5)).off+1,none⟩=some (.slice xA nL xc):=fun z=>(X.trans z.x).cell q1
     have Q2 : ∀ z:Xt wo.drew,z.W.cell? ⟨(ad.add (i * 5)).block,(ad.add (i * 5)).off+2,none⟩=some (.int .u64 xe):=fun z=>(X.trans z.x).cell q2
     go_upto_region 17 with fail
     refine wp_region_ord [0,0,0,6,14,30,0,0,192,448,960,2047] (.flo [0,1,2,3,4,5,6,7,8,9,10] (.one 11 (.fin))) (by kernel_rfl) (by kernel_rfl) (by intro _ _ d _ _ h;cases d<;>exact h) ?_
     (refine ord_flo (pick_cons rfl (pick_cons rfl (pick_cons rfl (pick_cons rfl (pick_cons rfl (pick_cons rfl (pick_cons rfl (pick_cons rfl (pick_cons rfl (pick_cons rfl (pick_cons rfl pick_nil))))))))))) ?_;(repeat (go_big_quiet_step (fail)));refine wpQuiet_nil ?_;show ordWalk _ _ _ _ _ _ _)
     clear Q1 Q2 X
     refine ord_one (pick_cons rfl pick_nil) ?_;intro K_ hK_
     go_wp2_with (first
      | (go_at_call 71;refine (sho_ins xA xc nL x.L xe HSD HIV HNL (Lib.hid (HU.out.ext HSD.out.ext)) HIN HXE (Lib.hid (by have:=HLE.out;omega)) (Lib.hid (G.ext HSD.out.ext))).mono ?_;rintro r w6 ⟨rfl,k6,h6⟩;have H6:=Lib.hid (HKD.out.ins HIM.out HNX.out k6 h6);clear k6 h6)
      | fail)
     refine ord_fin ?_
     go_wp2
     go_roundg (n - (i+1))
     case measure=>omega
     case rel =>
      obtain ⟨v9,h9⟩:=H6.out
      exact ⟨i+1,v9,xa,xb,A1,n1,c1,D1,A2,n2,c2,D2,by omega,by omega,rfl,rfl,by go_num,HG,Lib.hid ⟨by omega,by omega⟩,Lib.hid h9⟩
   ·subst hq
    obtain ⟨K,all,hK⟩:=HI.out.open
    have HK:=Lib.hid hK
    clear hK
    go_wp2_with (first
     | (go_at_call 72;refine (sho_work xn (Lib.hid HK.out.s) hxn.2).mono ?_;rintro r w6 ⟨rr,v6,rfl,_,k6,s6,e6,_,_⟩;have H6:=Lib.hid (HK.out.work HIM.out k6 s6 e6);clear k6 s6 e6)
     | fail)
    go_roundg (n - (i+1))
    case measure=>omega
    case rel =>
     obtain ⟨v9,h9⟩:=H6.out
     exact ⟨i+1,v9,xa,xb,A1,n1,c1,D1,A2,n2,c2,D2,by omega,by omega,rfl,rfl,by go_num,HG,Lib.hid ⟨by omega,by omega⟩,Lib.hid h9⟩
   ·obtain ⟨K,all,hK⟩:=HI.out.open
    have HK:=Lib.hid hK
    clear hK
    obtain ⟨⟨qe,ql,qt,qx⟩,hqv⟩ : ∃ q,nextV v xa=q:=⟨_,rfl⟩
    have HQV:=Lib.hid hqv
    have HQG:Hid (qx.g=xa.g):=Lib.hid (by have q:=(next_g (t:=v) (x:=xa)).1;rw [hqv] at q;exact q)
    have HBB:Hid (hopsLen M i≤300):=Lib.hid (by have:=HLE.out;omega)
    clear hqv
    rcases hq with hq | hq<;>subst hq
    all_goals
     have m1:True:=trivial
     go_wp2_with (first
      | (go_at_call 75;have mk:=m1;clear m1 mk;refine (sho_next ga (Lib.hid HG.out.1) HQV (Lib.hid HK.out.s) (Lib.hid HK.out.two.ma.1) (Lib.hid (by have:=HBB.out;omega)) (Lib.hid (G.ext HK.out.s.ext))).mono ?_;rintro r w6 ⟨A6,m6,Q6,rfl,hm6,u6,e6,k6,f6⟩;have HM6:=Lib.hid hm6;have HSL:=Lib.hid (two_sl u6 hm6);have HT:=Lib.hid (HK.out.told hf.out HQV.out HBB.out hm6 u6 e6 k6 f6 HN.out.1);have hm9:n1+m6≤600 * (i+1):=(by rw [hm6];exact HT.out.nn.1);have HO1:Hid (Own w6 w.heap.size 95 4 A1 n1 c1 (udsC D1)):=Lib.hid (by obtain ⟨_,_,_,a6,_⟩:=HT.out.m;exact a6.own);have hz6:=HT.out.ext.size;clear hm6 u6 e6 k6 f6;have m2:True:=trivial)
      | (at_builtin;have mk:=m2;clear m2 mk;refine wpList_append_two _ elem_ud w.heap.size _ _ rfl rfl A1 n1 c1 (udsC D1) rfl HO1.out A6 m6 m6 (udsC Q6) rfl HSL.out (udsC_one _) (by omega) (by decide) hz6 ?_;intro A7 c7 w7 o7 g7 h7;have HT7:=Lib.hid (HT.out.app HM6.out o7 g7 h7);clear o7 g7 h7)
      | fail)
     go_roundg (n - (i+1))
     case measure=>omega
     case rel=>exact ⟨i+1,_,_,_,_,_,_,_,_,_,_,_,by omega,by omega,rfl,rfl,by go_num,Lib.hid ⟨HQG.out.trans HG.out.1,HG.out.2⟩,Lib.hid ⟨hm9,by omega⟩,Lib.hid (HT7.out.next HIM.out)⟩
   ·subst hq
    obtain ⟨K,all,hK⟩:=HI.out.turn.open
    have HK:=Lib.hid hK
    clear hK
    obtain ⟨⟨qe,ql,qt,qx⟩,hqv⟩ : ∃ q,nextV v xb=q:=⟨_,rfl⟩
    have HQV:=Lib.hid hqv
    have HQG:Hid (qx.g=xb.g):=Lib.hid (by have q:=(next_g (t:=v) (x:=xb)).1;rw [hqv] at q;exact q)
    have HBB:Hid (hopsLen M i≤300):=Lib.hid (by have:=HLE.out;omega)
    clear hqv
    have m1:True:=trivial
    go_wp2_with (first
     | (go_at_call 75;have mk:=m1;clear m1 mk;refine (sho_next gb (Lib.hid HG.out.2) HQV (Lib.hid HK.out.s) (Lib.hid HK.out.two.ma.1) (Lib.hid (by have:=HBB.out;omega)) (Lib.hid (G.ext HK.out.s.ext))).mono ?_;rintro r w6 ⟨A6,m6,Q6,rfl,hm6,u6,e6,k6,f6⟩;have HM6:=Lib.hid hm6;have HSL:=Lib.hid (two_sl u6 hm6);have HT:=Lib.hid (HK.out.told hf.out HQV.out HBB.out hm6 u6 e6 k6 f6 HN.out.2);have hm9:n2+m6≤600 * (i+1):=(by rw [hm6];exact HT.out.nn.1);have HO1:Hid (Own w6 w.heap.size 95 4 A2 n2 c2 (udsC D2)):=Lib.hid (by obtain ⟨_,_,_,a6,_⟩:=HT.out.m;exact a6.own);have hz6:=HT.out.ext.size;clear hm6 u6 e6 k6 f6;have m2:True:=trivial)
     | (at_builtin;have mk:=m2;clear m2 mk;refine wpList_append_two _ elem_ud w.heap.size _ _ rfl rfl A2 n2 c2 (udsC D2) rfl HO1.out A6 m6 m6 (udsC Q6) rfl HSL.out (udsC_one _) (by omega) (by decide) hz6 ?_;intro A7 c7 w7 o7 g7 h7;have HT7:=Lib.hid (HT.out.app HM6.out o7 g7 h7);clear o7 g7 h7)
     | fail)
    go_roundg (n - (i+1))
    case measure=>omega
    case rel=>exact ⟨i+1,_,_,_,_,_,_,_,_,_,_,_,by omega,by omega,rfl,rfl,by go_num,Lib.hid ⟨HG.out.1,HQG.out.trans HG.out.2⟩,Lib.hid ⟨by omega,hm9⟩,Lib.hid (HT7.out.next HIM.out).turn⟩
   ·go_wp2
    go_roundg (n - (i+1))
    case measure=>omega
    case rel=>exact ⟨i+1,v,xa,xb,A1,n1,c1,D1,A2,n2,c2,D2,by omega,by omega,rfl,rfl,by go_num,HG,Lib.hid ⟨by omega,by omega⟩,Lib.hid (HI.out.next HIM.out)⟩
  ·obtain ⟨K,all,hK⟩:=HI.out.open
   have HK1:=Lib.hid hK
   obtain ⟨mt,hmt⟩ : ∃ t,max first v.up=t:=⟨_,rfl⟩
   obtain ⟨⟨qe,ql,qt,qx⟩,hqv⟩ : ∃ q,nextV v xa=q:=⟨_,rfl⟩
   have HQV1:=Lib.hid hqv
   have HQG:Hid (qx.g=xa.g):=Lib.hid (by have q:=(next_g (t:=v) (x:=xa)).1;rw [hqv] at q;exact q)
   obtain ⟨l1,l2,l3⟩:=hK.upto hf.out hqv
   obtain rfl:qe=0:=l1
   obtain rfl:qt=mt:=l2.trans hmt
   have HL1:=Lib.hid l3
   have HMT:=Lib.hid hmt
   have HBB:Hid (hopsLen M i≤300):=Lib.hid (by have h1:=hopsLen_le M i;have h2:=HO.out.len;omega)
   have hi9:i≤300:=by omega
   clear hK hqv l2 l3 hmt
   have m1:True:=trivial
   go_wp2_with (first
    | (go_at_call 75;have mk:=m1;clear m1 mk;refine (sho_next ga (Lib.hid HG.out.1) HQV1 (Lib.hid HK1.out.s) (Lib.hid HK1.out.two.ma.1) (Lib.hid (by have:=HBB.out;omega)) (Lib.hid (G.ext HK1.out.s.ext))).mono ?_;rintro r w6 ⟨A6,m6,Q6,rfl,hm6,u6,e6,k6,f6⟩;have HM6:=Lib.hid hm6;have HSL6:=Lib.hid (two_sl u6 hm6);have HT6:=Lib.hid (HK1.out.told2 hf.out HQV1.out HBB.out hm6 u6 e6 k6 f6 HN.out.1);clear hm6 u6 e6 k6 f6)
    | fail)
   obtain ⟨K2,hK,hU6⟩:=HT6.out
   have HU6:=Lib.hid hU6
   clear hU6
   have HK2:=Lib.hid hK
   obtain ⟨v2,hv2⟩ : ∃ v2:TrV,{ v with hs:=setH v.hs qx }=v2:=⟨_,rfl⟩
   have hup2:v2.up=v.up:=by rw [← hv2];rfl
   obtain ⟨⟨pe,pl,pt,px⟩,hqv⟩ : ∃ q,nextV { v with hs:=setH v.hs qx } xb=q:=⟨_,rfl⟩
   have HQV2:=Lib.hid hqv
   obtain ⟨l1,l2,l3⟩:=hK.upto hf.out hqv
   obtain rfl:pe=0:=l1
   obtain rfl:pt=qt:=l2.trans HMT.out
   have HL2:=Lib.hid l3
   clear hK hqv l2 l3 hup2 hv2
   have p1:True:=trivial
   go_wp2_with (first
    | (go_at_call 75;have mk:=p1;clear p1 mk;refine (sho_next gb (Lib.hid HG.out.2) HQV2 (Lib.hid HK2.out.s) (Lib.hid HK2.out.two.ma.1) (Lib.hid (by have:=HBB.out;omega)) (Lib.hid (G.ext HK2.out.s.ext))).mono ?_;rintro r w7 ⟨A7,m7,Q7,rfl,hm7,u7,e7,k7,f7⟩;have HM7:=Lib.hid hm7;have HU7:=Lib.hid u7;have HF7:Hid (∀ k,blk A7 m7=some k→blk A1 c1≠some k):=Lib.hid (fun k h1 h2=>by have q1:=(u7.own.lt k h1).1;have q2:=(HK2.out.b.own.lt k h2).2;omega);have HS67:Hid (Sl w7 4 A6 m6 m6 (udsC Q6)):=Lib.hid (by have q:=(HU6.out.kp k7).uin.sl;rwa [← HM6.out] at q);have HT7:=Lib.hid (HK2.out.told hf.out HQV2.out HBB.out hm7 u7 e7 k7 f7 HN.out.2).turn;have HO1:Hid (Own w7 w.heap.size 95 4 A1 n1 c1 (udsC D1)):=Lib.hid (by obtain ⟨_,_,_,a6,_⟩:=HT7.out.m;exact a6.own);have hm9:n1+m6≤600 * (i+1)∧n2+m7≤600 * (i+1):=(by rw [HM6.out,HM7.out];exact HT7.out.nn);have hz7:=HT7.out.ext.size;clear hm7 u7 e7 k7 f7;have p2:True:=trivial)
    | (at_builtin;have mk:=p2;clear p2 mk;refine wpList_append_two _ elem_ud w.heap.size _ _ rfl rfl A1 n1 c1 (udsC D1) rfl HO1.out A6 m6 m6 (udsC Q6) rfl HS67.out (udsC_one _) (by omega) (by decide) hz7 ?_;intro A8 c8 w8 o8 g8 h8;have HT8:=Lib.hid (HT7.out.app HM6.out o8 g8 h8).turn;have HS78:Hid (Sl w8 4 A7 m7 m7 (udsC Q7)):=Lib.hid (by have q:=(HU7.out.own.upd (grown_upd g8) HF7.out).sl;rwa [← HM7.out] at q);have HO2:Hid (Own w8 w.heap.size 95 4 A2 n2 c2 (udsC D2)):=Lib.hid (by obtain ⟨_,_,_,a6,_⟩:=HT8.out.m;exact a6.own);have hz8:=HT8.out.ext.size;clear o8 g8 h8;have p3:True:=trivial)
    | (at_builtin;have mk:=p3;clear p3 mk;refine wpList_append_two _ elem_ud w.heap.size _ _ rfl rfl A2 n2 c2 (udsC D2) rfl HO2.out A7 m7 m7 (udsC Q7) rfl HS78.out (udsC_one _) (by omega) (by decide) hz8 ?_;intro A9 c9 w9 o9 g9 h9;have HT9:=Lib.hid (HT8.out.app HM7.out o9 g9 h9).turn;clear o9 g9 h9;have p4:True:=trivial)
    | (go_at_call 24;have mk:=p4;clear p4 mk;have HE9:=Lib.hid (two_end HT9.out HL1.out HL2.out);refine (refSum10_any (V:=UdS.sumV ((D1++Q6).map Ud.uv)) A8 c8 (n1+m6) (D1++Q6) _ (Lib.hid rfl) (Lib.hid HE9.out.la) (Lib.hid HE9.out.ua) (by omega) (Lib.hid fun y hy=>(HE9.out.ia y hy).num) (Lib.hid fun y hy=>⟨(HE9.out.ia y hy).tu,Nat.le_trans (HE9.out.ia y hy).tn (by decide)⟩)).mono ?_;rintro r w10 ⟨A10,m10,c10,L10,rfl,hm10,u10,e10,x10⟩;have HM10:=Lib.hid hm10;have HU10:=Lib.hid u10;have HE10:=Lib.hid e10;have X10:=Lib.hid x10;clear hm10 u10 e10 x10;have p5:True:=trivial)
    | (go_at_call 24;have mk:=p5;clear p5 mk;refine (refSum10_any (V:=UdS.sumV ((D1++Q6).map Ud.uv)) A9 c9 (n2+m7) (D2++Q7) _ (Lib.hid HE9.out.sm.symm) (Lib.hid HE9.out.lb) (Lib.hid (HE9.out.ub.ext X10.out)) (by omega) (Lib.hid fun y hy=>(HE9.out.ib y hy).num) (Lib.hid fun y hy=>⟨(HE9.out.ib y hy).tu,Nat.le_trans (HE9.out.ib y hy).tn (by decide)⟩)).mono ?_;rintro r w11 ⟨A11,m11,c11,L11,rfl,hm11,u11,e11,x11⟩;have HM11:=Lib.hid hm11;have HU11:=Lib.hid u11;have HE11:=Lib.hid e11;have X11:=Lib.hid x11;clear hm11 u11 e11 x11;have p6:True:=trivial)
    | (go_at_call 23;have mk:=p6;clear p6 mk;refine (sameUps_any A10 A11 c10 c11 m10 m11 L10 L11 _ HM10 HM11 (Lib.hid (HU10.out.ext X11.out)) HU11 (Lib.hid (HE10.out.trans HE11.out.symm))).mono ?_;rintro r w12 ⟨rfl,x12⟩;have X12:=Lib.hid (((HE9.out.ex.trans X10.out).trans X11.out).trans x12);clear x12)
    | fail)
   go_ret
   exact ⟨rfl,X12.out⟩
set_option maxRecDepth 100000 in
set_option maxHeartbeats 4000000 in
theorem two_much (A:Option Addr) (n c:Nat) (M:List Hop) (first:Int) (w:World) (G:Good w) (hn:Hid (n=M.length)) (hM:Hid (Hin w A c M)) (hb:Hid (∀ x∈M,x.L.length≤1048576)) (hmu:Hid (muchH M=true)) :
  Calls Tryz.prog 9 #[.slice A n c, .int .u64 first] w fun e w'=>e = .returned (.bool true)∧Ext w w':=by
 have m1:True:=trivial
 go_enter Tryz.func9,Tryz.ntmps9
 go_wp2_with (first
  | (go_at_call 68;have mk:=m1;clear m1 mk;refine (much12_at A c n M _ hmu hn hM hb).mono ?_;rintro r v1 ⟨rfl,x1⟩;have X1:=Lib.hid x1;clear x1;have m2:True:=trivial)
  | (go_at_call 69;have mk:=m2;clear m2 mk;refine (known12_any _ (G.ext X1.out)).mono ?_;rintro r v2 ⟨rfl,x2⟩;have X2:=Lib.hid (X1.out.trans x2);clear x2)
  | fail)
 go_ret
 exact ⟨rfl,X2.out⟩
theorem shareTwo_any (A:Option Addr) (n c:Nat) (M:List Hop) (first:Int) (w:World) (G:Good w) (hn:Hid (n=M.length)) (hM:Hid (Hin w A c M)) (hI:Hid (∀ x∈M,HopIn x)) (hb:Hid (∀ x∈M,x.L.length≤1048576)) (hf:0≤first∧first≤18446744073709551615) :
  Calls Tryz.prog 9 #[.slice A n c, .int .u64 first] w fun e w'=>e = .returned (.bool true)∧Ext w w':=by
 cases h1:muchH M with
 | true=>exact two_much A n c M first w G hn hM hb (Lib.hid h1)
 | false=>exact two_some A n c M first w G hn hM hI hb (Lib.hid h1) (Lib.hid hf)
end Go.Proofs.YtdgbkpoickbidaaGreatDoor
