/- penstockref01.sign, Cmp: they answer what datum's answer. penstockref02.Cmp: what it answers of any two rows. penstockref02.Cmp, its answer a name. penstockref10: cmp, add. penstockref10: Sum. penstockref02.Add, Sum at rows with counts. Conditions: each theorem states its own. -/
import Derived.Test.YtdgbkpoickbidaaGreatDoorHr3
import Derived.Test.YtdgbkpoickbidaaGreatDoorHr15
import Derived.Deep.LoopGhost
import Derived.Test.YtdgbkpoickbidaaGreatDoorHr8
import Derived.Test.YtdgbkpoickbidaaGreatDoorHr6
namespace Go.Proofs.YtdgbkpoickbidaaGreatDoor
open Go.RowKit

def signI (l s:Bool):Int:=if l then -1 else if s then 0 else 1
set_option maxRecDepth 100000 in
set_option maxHeartbeats 400000 in
theorem sign_any (l s:Bool) (w:World):Calls Tryz.prog 219 #[.bool l, .bool s] w fun e w'=>e = .returned (.int .i64 (signI l s))∧w=w':=by
 cases l<;>cases s
 all_goals
  go_enter Tryz.func219,Tryz.ntmps219
  go_wp2
  go_ret
  exact ⟨rfl,rfl⟩
set_option maxRecDepth 100000 in
set_option maxHeartbeats 800000 in
theorem rcmp_klt (ka na kb nb:Int) (ba bb:Bool) (sa sb:ByteArray) (w:World) (h:ka<kb):Calls Tryz.prog 165 #[.agg #[.int .u8 (ka), .bool (ba), .int .i64 (na), .string (sa)], .agg #[.int .u8 (kb), .bool (bb), .int .i64 (nb), .string (sb)]] w fun e w'=>e = .returned (.int .i64 (-1))∧Ext w w':=by
 have z:(ka != kb)=true:=by simp;omega
 go_enter Tryz.func165,Tryz.ntmps165
 go_wp2_with (go_at_call 219;refine (sign_any _ _ _).mono ?_;rintro e w1 ⟨rfl,rfl⟩)
 go_ret
 exact ⟨rfl,((Ext.refl w).alloc _).alloc _⟩
set_option maxRecDepth 100000 in
set_option maxHeartbeats 800000 in
theorem rcmp_kgt (ka na kb nb:Int) (ba bb:Bool) (sa sb:ByteArray) (w:World) (h:kb<ka):Calls Tryz.prog 165 #[.agg #[.int .u8 (ka), .bool (ba), .int .i64 (na), .string (sa)], .agg #[.int .u8 (kb), .bool (bb), .int .i64 (nb), .string (sb)]] w fun e w'=>e = .returned (.int .i64 (1))∧Ext w w':=by
 have z:(ka != kb)=true:=by simp;omega
 have z2:decide (ka<kb)=false:=by simp;omega
 go_enter Tryz.func165,Tryz.ntmps165
 go_wp2_with (go_at_call 219;refine (sign_any _ _ _).mono ?_;rintro e w1 ⟨rfl,rfl⟩)
 go_ret
 exact ⟨rfl,((Ext.refl w).alloc _).alloc _⟩
set_option maxRecDepth 100000 in
set_option maxHeartbeats 800000 in
theorem rcmp_b_false_false (na nb:Int) (sa sb:ByteArray) (w:World)  : Calls Tryz.prog 165 #[.agg #[.int .u8 (2), .bool (false), .int .i64 (na), .string (sa)], .agg #[.int .u8 (2), .bool (false), .int .i64 (nb), .string (sb)]] w fun e w'=>e = .returned (.int .i64 (0))∧Ext w w':=by
 go_enter Tryz.func165,Tryz.ntmps165
 go_wp2_with (go_at_call 219;refine (sign_any _ _ _).mono ?_;rintro e w1 ⟨rfl,rfl⟩)
 go_ret
 exact ⟨rfl,((Ext.refl w).alloc _).alloc _⟩
set_option maxRecDepth 100000 in
set_option maxHeartbeats 800000 in
theorem rcmp_b_false_true (na nb:Int) (sa sb:ByteArray) (w:World)  : Calls Tryz.prog 165 #[.agg #[.int .u8 (2), .bool (false), .int .i64 (na), .string (sa)], .agg #[.int .u8 (2), .bool (true), .int .i64 (nb), .string (sb)]] w fun e w'=>e = .returned (.int .i64 (-1))∧Ext w w':=by
 go_enter Tryz.func165,Tryz.ntmps165
 go_wp2_with (go_at_call 219;refine (sign_any _ _ _).mono ?_;rintro e w1 ⟨rfl,rfl⟩)
 go_ret
 exact ⟨rfl,((Ext.refl w).alloc _).alloc _⟩
set_option maxRecDepth 100000 in
set_option maxHeartbeats 800000 in
theorem rcmp_b_true_false (na nb:Int) (sa sb:ByteArray) (w:World)  : Calls Tryz.prog 165 #[.agg #[.int .u8 (2), .bool (true), .int .i64 (na), .string (sa)], .agg #[.int .u8 (2), .bool (false), .int .i64 (nb), .string (sb)]] w fun e w'=>e = .returned (.int .i64 (1))∧Ext w w':=by
 go_enter Tryz.func165,Tryz.ntmps165
 go_wp2_with (go_at_call 219;refine (sign_any _ _ _).mono ?_;rintro e w1 ⟨rfl,rfl⟩)
 go_ret
 exact ⟨rfl,((Ext.refl w).alloc _).alloc _⟩
set_option maxRecDepth 100000 in
set_option maxHeartbeats 800000 in
theorem rcmp_b_true_true (na nb:Int) (sa sb:ByteArray) (w:World)  : Calls Tryz.prog 165 #[.agg #[.int .u8 (2), .bool (true), .int .i64 (na), .string (sa)], .agg #[.int .u8 (2), .bool (true), .int .i64 (nb), .string (sb)]] w fun e w'=>e = .returned (.int .i64 (0))∧Ext w w':=by
 go_enter Tryz.func165,Tryz.ntmps165
 go_wp2_with (go_at_call 219;refine (sign_any _ _ _).mono ?_;rintro e w1 ⟨rfl,rfl⟩)
 go_ret
 exact ⟨rfl,((Ext.refl w).alloc _).alloc _⟩
set_option maxRecDepth 100000 in
set_option maxHeartbeats 800000 in
theorem rcmp_nlt (na nb:Int) (ba bb:Bool) (sa sb:ByteArray) (w:World) (h:na<nb):Calls Tryz.prog 165 #[.agg #[.int .u8 (3), .bool (ba), .int .i64 (na), .string (sa)], .agg #[.int .u8 (3), .bool (bb), .int .i64 (nb), .string (sb)]] w fun e w'=>e = .returned (.int .i64 (-1))∧Ext w w':=by
 have z:(na==nb)=false:=by simp;omega
 go_enter Tryz.func165,Tryz.ntmps165
 go_wp2_with (go_at_call 219;refine (sign_any _ _ _).mono ?_;rintro e w1 ⟨rfl,rfl⟩)
 go_ret
 exact ⟨rfl,((Ext.refl w).alloc _).alloc _⟩
set_option maxRecDepth 100000 in
set_option maxHeartbeats 800000 in
theorem rcmp_neq (na:Int) (ba bb:Bool) (sa sb:ByteArray) (w:World)  : Calls Tryz.prog 165 #[.agg #[.int .u8 (3), .bool (ba), .int .i64 (na), .string (sa)], .agg #[.int .u8 (3), .bool (bb), .int .i64 (na), .string (sb)]] w fun e w'=>e = .returned (.int .i64 (0))∧Ext w w':=by
 have z2:decide (na<na)=false:=by simp
 go_enter Tryz.func165,Tryz.ntmps165
 go_wp2_with (go_at_call 219;refine (sign_any _ _ _).mono ?_;rintro e w1 ⟨rfl,rfl⟩)
 go_ret
 exact ⟨rfl,((Ext.refl w).alloc _).alloc _⟩
set_option maxRecDepth 100000 in
set_option maxHeartbeats 800000 in
theorem rcmp_ngt (na nb:Int) (ba bb:Bool) (sa sb:ByteArray) (w:World) (h:nb<na):Calls Tryz.prog 165 #[.agg #[.int .u8 (3), .bool (ba), .int .i64 (na), .string (sa)], .agg #[.int .u8 (3), .bool (bb), .int .i64 (nb), .string (sb)]] w fun e w'=>e = .returned (.int .i64 (1))∧Ext w w':=by
 have z:(na==nb)=false:=by simp;omega
 have z2:decide (na<nb)=false:=by simp;omega
 go_enter Tryz.func165,Tryz.ntmps165
 go_wp2_with (go_at_call 219;refine (sign_any _ _ _).mono ?_;rintro e w1 ⟨rfl,rfl⟩)
 go_ret
 exact ⟨rfl,((Ext.refl w).alloc _).alloc _⟩
set_option maxRecDepth 100000 in
set_option maxHeartbeats 800000 in
theorem rcmp_slt (na nb:Int) (ba bb:Bool) (sa sb:ByteArray) (w:World) (h:Op.bytesLess sa.toList sb.toList=true):Calls Tryz.prog 165 #[.agg #[.int .u8 (4), .bool (ba), .int .i64 (na), .string (sa)], .agg #[.int .u8 (4), .bool (bb), .int .i64 (nb), .string (sb)]] w fun e w'=>e = .returned (.int .i64 (-1))∧Ext w w':=by
 go_enter Tryz.func165,Tryz.ntmps165
 go_wp2_with (go_at_call 219;refine (sign_any _ _ _).mono ?_;rintro e w1 ⟨rfl,rfl⟩)
 go_ret
 exact ⟨rfl,((Ext.refl w).alloc _).alloc _⟩
set_option maxRecDepth 100000 in
set_option maxHeartbeats 800000 in
theorem rcmp_seq (na nb:Int) (ba bb:Bool) (sa sb:ByteArray) (w:World) (h:Op.bytesLess sa.toList sb.toList=false) (h2:(sa.toList==sb.toList)=true):Calls Tryz.prog 165 #[.agg #[.int .u8 (4), .bool (ba), .int .i64 (na), .string (sa)], .agg #[.int .u8 (4), .bool (bb), .int .i64 (nb), .string (sb)]] w fun e w'=>e = .returned (.int .i64 (0))∧Ext w w':=by
 go_enter Tryz.func165,Tryz.ntmps165
 go_wp2_with (go_at_call 219;refine (sign_any _ _ _).mono ?_;rintro e w1 ⟨rfl,rfl⟩)
 go_ret
 exact ⟨rfl,((Ext.refl w).alloc _).alloc _⟩
set_option maxRecDepth 100000 in
set_option maxHeartbeats 800000 in
theorem rcmp_sgt (na nb:Int) (ba bb:Bool) (sa sb:ByteArray) (w:World) (h:Op.bytesLess sa.toList sb.toList=false) (h2:(sa.toList==sb.toList)=false):Calls Tryz.prog 165 #[.agg #[.int .u8 (4), .bool (ba), .int .i64 (na), .string (sa)], .agg #[.int .u8 (4), .bool (bb), .int .i64 (nb), .string (sb)]] w fun e w'=>e = .returned (.int .i64 (1))∧Ext w w':=by
 go_enter Tryz.func165,Tryz.ntmps165
 go_wp2_with (go_at_call 219;refine (sign_any _ _ _).mono ?_;rintro e w1 ⟨rfl,rfl⟩)
 go_ret
 exact ⟨rfl,((Ext.refl w).alloc _).alloc _⟩
set_option maxRecDepth 100000 in
set_option maxHeartbeats 800000 in
theorem rcmp_oth (k:Int) (na nb:Int) (ba bb:Bool) (sa sb:ByteArray) (w:World) (h2 : ¬ k=2) (h3 : ¬ k=3) (h4 : ¬ k=4):Calls Tryz.prog 165 #[.agg #[.int .u8 (k), .bool (ba), .int .i64 (na), .string (sa)], .agg #[.int .u8 (k), .bool (bb), .int .i64 (nb), .string (sb)]] w fun e w'=>e = .returned (.int .i64 (0))∧Ext w w':=by
 have z:(k != k)=false:=by simp
 have z2:(k==2)=false:=by simpa using h2
 have z3:(k==3)=false:=by simpa using h3
 have z4:(k==4)=false:=by simpa using h4
 go_enter Tryz.func165,Tryz.ntmps165
 go_wp2
 go_ret
 exact ⟨rfl,((Ext.refl w).alloc _).alloc _⟩
theorem rdcmp_any (ka na kb nb:Int) (ba bb:Bool) (sa sb:ByteArray) (w:World):Calls Tryz.prog 165 #[.agg #[.int .u8 (ka), .bool (ba), .int .i64 (na), .string (sa)], .agg #[.int .u8 (kb), .bool (bb), .int .i64 (nb), .string (sb)]] w fun e w'=>e = .returned (.int .i64 (cmpD ⟨ka,ba,na,sa⟩ ⟨kb,bb,nb,sb⟩))∧Ext w w':=by
 unfold cmpD
 simp only
 by_cases h:ka=kb
 ·subst h
  rw [if_pos rfl]
  by_cases h2:ka=2
  ·subst h2
   rw [if_pos rfl]
   cases ba<;>cases bb
   ·exact rcmp_b_false_false na nb sa sb w
   ·exact rcmp_b_false_true na nb sa sb w
   ·exact rcmp_b_true_false na nb sa sb w
   ·exact rcmp_b_true_true na nb sa sb w
  rw [if_neg h2]
  by_cases h3:ka=3
  ·subst h3
   rw [if_pos rfl]
   rcases Int.lt_trichotomy na nb with h | h | h
   ·rw [cmpI_lt h];exact rcmp_nlt na nb ba bb sa sb w h
   ·subst h;rw [cmpI_self];exact rcmp_neq na ba bb sa sb w
   ·rw [cmpI_gt h];exact rcmp_ngt na nb ba bb sa sb w h
  rw [if_neg h3]
  by_cases h4:ka=4
  ·subst h4
   rw [if_pos rfl]
   unfold cmpS
   cases h1:Op.bytesLess sa.toList sb.toList
   ·cases h2:(sa.toList==sb.toList)
    ·exact rcmp_sgt na nb ba bb sa sb w h1 h2
    ·exact rcmp_seq na nb ba bb sa sb w h1 h2
   ·exact rcmp_slt na nb ba bb sa sb w h1
  rw [if_neg h4]
  exact rcmp_oth ka na nb ba bb sa sb w h2 h3 h4
 ·rw [if_neg h]
  rcases Int.lt_or_gt_of_ne h with h | h
  ·rw [cmpI_lt h];exact rcmp_klt ka na kb nb ba bb sa sb w h
  ·rw [cmpI_gt h];exact rcmp_kgt ka na kb nb ba bb sa sb w h
theorem rcmp_at {c:Int} (ka na kb nb:Int) (ba bb:Bool) (sa sb:ByteArray) (w:World) (h:Hid (cmpD ⟨ka,ba,na,sa⟩ ⟨kb,bb,nb,sb⟩=c)):Calls Tryz.prog 165 #[.agg #[.int .u8 (ka), .bool (ba), .int .i64 (na), .string (sa)], .agg #[.int .u8 (kb), .bool (bb), .int .i64 (nb), .string (sb)]] w fun e w'=>e = .returned (.int .i64 c)∧Ext w w':=h.out ▸ rdcmp_any ka na kb nb ba bb sa sb w
theorem rcmpD_lit {v:Int} (ka na kb nb:Int) (ba bb:Bool) (sa sb:ByteArray) (w:World) (h:Hid (cmpD ⟨ka,ba,na,sa⟩ ⟨kb,bb,nb,sb⟩=v)) :
  Calls Tryz.prog 165 #[.agg #[.int .u8 ka, .bool ba, .int .i64 na, .string sa], .agg #[.int .u8 kb, .bool bb, .int .i64 nb, .string sb]] w fun e w'=>e = .returned (.int .i64 v)∧Ext w w':=rcmp_at _ _ _ _ _ _ _ _ _ h
open Go.RowKit
set_option maxRecDepth 100000 in
set_option maxHeartbeats 4000000 in
theorem rowRCmp_any (A1 A2:Option Addr) (c1 c2 n1 n2:Nat) (l m:List Dat) (w:World) (e1:n1=l.length) (e2:n2=m.length) (h1:Rw w A1 c1 l) (h2:Rw w A2 c2 m) :
  Calls Tryz.prog 53 #[.slice A1 n1 c1, .slice A2 n2 c2] w fun e w'=>e = .returned (.int .i64 (cmpR l m))∧Ext w w':=by
 have E1:=Lib.hid e1
 have E2:=Lib.hid e2
 have hl1:=h1.le
 have hl2:=h2.le
 rw [← e1] at hl1
 rw [← e2] at hl2
 have H1:=Lib.hid h1
 have H2:=Lib.hid h2
 clear e1 e2 h1 h2
 go_enter Tryz.func53,Tryz.ntmps53
 go_wp2
 go_loopw [5] (fun v wr => ∃ i:Nat,i≤n1∧v = .int .i64 i∧Hid (i≤m.length∧cmpR (l.drop i) (m.drop i)=cmpR l m)∧Ext w wr) (fun v _=>n1 - (intOf v).toNat)
 case atStart=>exact ⟨0,Nat.zero_le _,rfl,Lib.hid ⟨Nat.zero_le _,rfl⟩,Ext.refl _⟩
 case round =>
  obtain ⟨i,hi,rfl,hr,er⟩:=hrel
  have hsz:=er.size
  by_cases hlt:i<n1
  ·by_cases hlt2:i<n2
   ·obtain ⟨a1,rfl,p0,p1,p2,p3⟩:=(H1.out.ext er).at (show i<l.length by rw [← E1.out];exact hlt)
    obtain ⟨d,hd⟩ : ∃ d,l.getD i Dat.zero=d:=⟨_,rfl⟩
    rw [hd] at p0 p1 p2 p3
    obtain ⟨a2,rfl,q0,q1,q2,q3⟩:=(H2.out.ext er).at (show i<m.length by rw [← E2.out];exact hlt2)
    obtain ⟨d2,hd2⟩ : ∃ d,m.getD i Dat.zero=d:=⟨_,rfl⟩
    rw [hd2] at q0 q1 q2 q3
    obtain ⟨v,hv⟩ : ∃ v,cmpD d d2=v:=⟨_,rfl⟩
    have HS:Hid (cmpR l m=if v=0 then cmpR (l.drop (i+1)) (m.drop (i+1)) else v):=Lib.hid (by rw [← hr.out.2,cmpR_drop (by rw [← E1.out];exact hlt) (by rw [← E2.out];exact hlt2),hd,hd2,hv])
    have HB:Hid (i+1≤m.length):=Lib.hid (by rw [← E2.out];exact hlt2)
    clear hd hd2 hr
    obtain ⟨ka,ba,na,sa⟩:=d
    obtain ⟨kb,bb,nb,sb⟩:=d2
    simp only at p0 p1 p2 p3 q0 q1 q2 q3
    have HV:=Lib.hid hv
    clear hv
    have X:Ext wr wr.drew:=(Ext.refl wr).drew
    have P0 : ∀ y:Xt wr.drew,y.W.cell? (a1.add (i * 4))=some (.int .u8 ka):=fun y=>(X.trans y.x).cell p0
    have P1 : ∀ y:Xt wr.drew,y.W.cell? ⟨(a1.add (i * 4)).block,(a1.add (i * 4)).off+1,none⟩=some (.bool ba):=fun y=>(X.trans y.x).cell p1
    have P2 : ∀ y:Xt wr.drew,y.W.cell? ⟨(a1.add (i * 4)).block,(a1.add (i * 4)).off+2,none⟩=some (.int .i64 na):=fun y=>(X.trans y.x).cell p2
    have P3 : ∀ y:Xt wr.drew,y.W.cell? ⟨(a1.add (i * 4)).block,(a1.add (i * 4)).off+3,none⟩=some (.string sa):=fun y=>(X.trans y.x).cell p3
    have Q0 : ∀ y:Xt wr.drew,y.W.cell? (a2.add (i * 4))=some (.int .u8 kb):=fun y=>(X.trans y.x).cell q0
    have Q1 : ∀ y:Xt wr.drew,y.W.cell? ⟨(a2.add (i * 4)).block,(a2.add (i * 4)).off+1,none⟩=some (.bool bb):=fun y=>(X.trans y.x).cell q1
    have Q2 : ∀ y:Xt wr.drew,y.W.cell? ⟨(a2.add (i * 4)).block,(a2.add (i * 4)).off+2,none⟩=some (.int .i64 nb):=fun y=>(X.trans y.x).cell q2
    have Q3 : ∀ y:Xt wr.drew,y.W.cell? ⟨(a2.add (i * 4)).block,(a2.add (i * 4)).off+3,none⟩=some (.string sb):=fun y=>(X.trans y.x).cell q3
    by_cases hv0:v=0
    ·subst hv0
     go_upto_region 4 with fail
     refine wp_region_ord [0,0,3,7,0,0,48,112,255,511] (.flo [0,1,2,3,4,5,6,7] (.one 8 (.flo [9] (.fin)))) (by kernel_rfl) (by kernel_rfl) (by intro _ _ d _ _ h;cases d<;>exact h) ?_
     (refine ord_flo (pick_cons rfl (pick_cons rfl (pick_cons rfl (pick_cons rfl (pick_cons rfl (pick_cons rfl (pick_cons rfl (pick_cons rfl pick_nil)))))))) ?_;(repeat (go_big_quiet_step (fail)));refine wpQuiet_nil ?_;show ordWalk _ _ _ _ _ _ _)
     refine ord_one (pick_cons rfl pick_nil) ?_;intro K_ hK_
     go_wp2_with (go_at_call 165;refine (rcmpD_lit _ _ _ _ _ _ _ _ _ HV).mono ?_;rintro e w1 ⟨rfl,x1⟩)
     (refine ord_flo (pick_cons rfl pick_nil) ?_;(repeat (go_big_quiet_step (fail)));refine wpQuiet_nil ?_;show ordWalk _ _ _ _ _ _ _)
     refine ord_fin ?_
     go_wp2
     go_roundw
     case rel=>exact ⟨i+1,by omega,by go_num,Lib.hid ⟨HB.out,by rw [HS.out];simp⟩,er.trans (X.trans x1)⟩
     case measure=>simp [intOf];omega
    ·have z:(v != 0)=true:=by simpa using hv0
     have HZ:=Lib.hid hv0
     clear hv0
     go_upto_region 4 with fail
     refine wp_region_ord [0,0,3,7,0,0,48,112,255,511] (.flo [0,1,2,3,4,5,6,7] (.one 8 (.flo [9] (.fin)))) (by kernel_rfl) (by kernel_rfl) (by intro _ _ d _ _ h;cases d<;>exact h) ?_
     (refine ord_flo (pick_cons rfl (pick_cons rfl (pick_cons rfl (pick_cons rfl (pick_cons rfl (pick_cons rfl (pick_cons rfl (pick_cons rfl pick_nil)))))))) ?_;(repeat (go_big_quiet_step (fail)));refine wpQuiet_nil ?_;show ordWalk _ _ _ _ _ _ _)
     refine ord_one (pick_cons rfl pick_nil) ?_;intro K_ hK_
     go_wp2_with (go_at_call 165;refine (rcmpD_lit _ _ _ _ _ _ _ _ _ HV).mono ?_;rintro e w1 ⟨rfl,x1⟩)
     (refine ord_flo (pick_cons rfl pick_nil) ?_;(repeat (go_big_quiet_step (fail)));refine wpQuiet_nil ?_;show ordWalk _ _ _ _ _ _ _)
     refine ord_fin ?_
     go_wp2
     go_ret
     exact ⟨(by rw [HS.out,if_neg HZ.out];rfl),er.trans (X.trans x1)⟩
   ·have HS:Hid (cmpR l m=1):=Lib.hid (by rw [← hr.out.2];exact cmpR_more (by rw [← E1.out];exact hlt) (by rw [← E2.out];omega))
    have h3:n2<n1:=by omega
    clear hr
    go_wp2
    go_ret
    exact ⟨(by rw [HS.out];rfl),er⟩
  ·have HS:Hid (cmpR l m=if i<m.length then -1 else 0):=Lib.hid (by rw [← hr.out.2];exact cmpR_end (by rw [← E1.out];omega))
   have HB:Hid (i≤m.length):=Lib.hid hr.out.1
   obtain rfl:i=n1:=by omega
   by_cases h2:i<n2
   ·have HT:Hid (cmpR l m = -1):=Lib.hid (by rw [HS.out,if_pos (by rw [← E2.out];exact h2)])
    clear HS hr
    go_wp2
    go_ret
    exact ⟨(by rw [HT.out];rfl),er⟩
   ·have HT:Hid (cmpR l m=0):=Lib.hid (by rw [HS.out,if_neg (by rw [← E2.out];exact h2)])
    have h3 : ¬ n2<i:=by have:=HB.out;rw [← E2.out] at this;omega
    clear HS hr
    go_wp2
    go_ret
    exact ⟨(by rw [HT.out];rfl),er⟩
open Go.RowKit
theorem rowRCmp_lit {v:Int} (A1 A2:Option Addr) (c1 c2 n1 n2:Nat) (l m:List Dat) (w:World) (hv:Hid (cmpR l m=v)) (e1:Hid (n1=l.length)) (e2:Hid (n2=m.length)) (h1:Hid (Rw w A1 c1 l)) (h2:Hid (Rw w A2 c2 m)) :
  Calls Tryz.prog 53 #[.slice A1 n1 c1, .slice A2 n2 c2] w fun e w'=>e = .returned (.int .i64 v)∧Ext w w':=hv.out ▸ rowRCmp_any A1 A2 c1 c2 n1 n2 l m w e1.out e2.out h1.out h2.out
open Go.RowKit
/-- what add hands back -/
def AddU (w:World) (V:List UV) (e:Ending) (w':World):Prop := ∃ A m c M,e = .returned (.slice A m c)∧m=M.length∧Uin w' A c M∧M.map Ud.uv=V∧Ext w w'
/-- y is x but for how often -/
def UdLike (y x:Ud):Prop:=y.A=x.A∧y.c=x.c∧y.l=x.l∧y.t=x.t
theorem UdLike.udr {w:World} {x y:Ud} (h:UdLike y x) (u:UdR w x):UdR w y:=by
 obtain ⟨e1,e2,e3,e4⟩:=h
 exact ⟨by rw [e1,e2,e3];exact u.r,by rw [e4];exact u.t⟩
theorem Uin.dropS {w:World} {A:Option Addr} {c n k:Nat} {L:List Ud} (h:Uin w A c L) (hn:n=L.length) (hk:k≤n):Sl w 4 (if c=k then A else A.map (·.add (k * 4))) (n - k) (c - k) (udsC (L.drop k)):=by
 have:=Sl.drop (k:=k) h.sl (by omega)
 rwa [udsC_drop, ← hn] at this
theorem Uin.takeS {w:World} {A:Option Addr} {c n k:Nat} {L:List Ud} (h:Uin w A c L) (hn:n=L.length) (hk:k≤n):Sl w 4 A k c (udsC (L.take k)):=by
 have:=Sl.take (k:=k) h.sl (by omega)
 rwa [udsC_take] at this
open Go.RowKit
namespace UdS
end UdS
/-- what is not none, so far -/
def LeftU (w1 wr:World) (M:List Ud) (j:Nat) (A:Option Addr) (m c:Nat):Prop:=m=((M.take j).filter UdS.nzC).length∧Own wr w1.heap.size 95 4 A m c (udsC ((M.take j).filter UdS.nzC))∧Ext w1 wr
theorem LeftU.skip {w1 wr:World} {M:List Ud} {j m c:Nat} {A:Option Addr} {x:Ud} (h:LeftU w1 wr M j A m c) (hj:j<M.length) (hx:M.getD j Ud.zero=x) (hz:(x.d==0)=true):LeftU w1 wr M (j+1) A m c:=by
 have e:(M.take (j+1)).filter UdS.nzC=(M.take j).filter UdS.nzC:=by
  rw [takeU hj,hx,List.filter_append]
  have:[x].filter UdS.nzC=[]:=by simp [UdS.nzC,hz]
  rw [this,List.append_nil]
 unfold LeftU
 rw [e]
 exact h
theorem LeftU.more {w1 wr w2:World} {M:List Ud} {j m c m2 c2:Nat} {A A2:Option Addr} {x:Ud} (h:LeftU w1 wr M j A m c) (hj:j<M.length) (hx:M.getD j Ud.zero=x) (hz:(x.d==0)=false) (hm:m2=m+1)
  (o:Own w2 w1.heap.size 95 4 A2 m2 c2 (udsC ((M.take j).filter UdS.nzC)++udC x)) (X:Ext w1 w2):LeftU w1 w2 M (j+1) A2 m2 c2:=by
 have e:(M.take (j+1)).filter UdS.nzC=(M.take j).filter UdS.nzC++[x]:=by
  rw [takeU hj,hx,List.filter_append]
  have:[x].filter UdS.nzC=[x]:=by simp [UdS.nzC,hz]
  rw [this]
 unfold LeftU
 rw [e,List.length_append,udsC_append]
 exact ⟨by rw [hm,h.1];rfl,by rw [show udsC [x]=udC x by simp [udsC]];exact o,X⟩
open Go.RowKit
theorem addV_split : ∀ (P R:List V) (x:V),(∀ y∈P,cmpV y x<0)→addV (P++R) x=P++addV R x
 | [],_,_,_=>rfl
 | y :: P,R,x,h=>by
  show (if cmpV y x<0 then y :: addV (P++R) x else _)=_
  rw [if_pos (h y (List.mem_cons_self ..)),addV_split P R x (fun z hz=>h z (List.mem_cons_of_mem _ hz))]
  rfl
theorem addV_eq (y x:V) (R:List V) (h:cmpV y x=0):addV (y :: R) x=(y.1,w64 (y.2+x.2)) :: R:=by
 show (if cmpV y x<0 then _ else if cmpV y x=0 then _ else _)=_
 rw [if_neg (by omega),if_pos h]
theorem addV_gt (y x:V) (R:List V) (h:0<cmpV y x):addV (y :: R) x=x :: y :: R:=by
 show (if cmpV y x<0 then _ else if cmpV y x=0 then _ else _)=_
 rw [if_neg (by omega),if_neg (by omega)]
/-- what Add hands back -/
def AddR (w:World) (R:List V) (e:Ending) (w':World):Prop := ∃ A m c M,e = .returned (.slice A m c)∧m=M.length∧Ctin w' A c M∧M.map valC=R∧Ext w w'
theorem ctsC_take : ∀ (L:List Ct) (k:Nat),(ctsC L).take (k * 2)=ctsC (L.take k)
 | [],k=>by simp [ctsC]
 | d :: l,0=>rfl
 | d :: l,k+1=>by
  unfold ctsC
  rw [List.flatMap_cons,List.take_succ_cons,List.flatMap_cons,List.take_append,show (ctC d).length=2 from rfl,List.take_of_length_le (show (ctC d).length≤(k+1) * 2 by rw [show (ctC d).length=2 from rfl];omega),show (k+1) * 2 - 2=k * 2 by omega]
  exact congrArg _ (ctsC_take l k)
theorem ctsC_drop : ∀ (L:List Ct) (k:Nat),(ctsC L).drop (k * 2)=ctsC (L.drop k)
 | [],k=>by simp [ctsC]
 | d :: l,0=>rfl
 | d :: l,k+1=>by
  unfold ctsC
  rw [List.flatMap_cons,List.drop_succ_cons,List.drop_append,show (ctC d).length=2 from rfl,List.drop_eq_nil_of_le (show (ctC d).length≤(k+1) * 2 by rw [show (ctC d).length=2 from rfl];omega),show (k+1) * 2 - 2=k * 2 by omega,List.nil_append]
  exact ctsC_drop l k
theorem Ctin.takeS {w:World} {A:Option Addr} {c n i:Nat} {L:List Ct} (h:Ctin w A c L) (hn:n=L.length) (hi:i≤n):Sl w 2 A i c (ctsC (L.take i)):=by
 have:=Sl.take (k:=i) h.sl (by omega)
 rwa [ctsC_take] at this
theorem Ctin.dropS {w:World} {A:Option Addr} {c n i:Nat} {L:List Ct} (h:Ctin w A c L) (hn:n=L.length) (hi:i≤n):Sl w 2 (if c=i then A else A.map (·.add (i * 2))) (n - i) (c - i) (ctsC (L.drop i)):=by
 have:=Sl.drop (k:=i) h.sl (by omega)
 rwa [ctsC_drop, ← hn] at this
theorem Ctin.drop0 {n i:Nat} {L:List Ct} (w:World) (A:Option Addr) (hn:n=L.length) (hi:n≤i):Sl w 2 A 0 0 (ctsC (L.drop i)):=by
 rw [List.drop_of_length_le (by omega)]
 exact ⟨rfl,Nat.le_refl _,Nat.zero_le _,fun _=>rfl,fun h=>absurd h (Nat.lt_irrefl _)⟩
theorem Ctin.drop3 {n i c:Nat} {L:List Ct} (w:World) (a:Addr) (hn:n=L.length) (hi:n≤i) (hc:c≤9223372036854775807):Sl w 2 (some a) 0 c (ctsC (L.drop i)):=by
 rw [List.drop_of_length_le (by omega)]
 exact ⟨rfl,Nat.zero_le _,by unfold maxLen;omega,(fun h=>nomatch h),fun h=>absurd h (Nat.lt_irrefl _)⟩
theorem Ctin.drop2 {w:World} {ad:Addr} {c n i:Nat} {L:List Ct} (h:Ctin w (some ad) c L) (hn:n=L.length) (hi:i≤n) (hc : ¬ c=i):Sl w 2 (some (ad.add (i * 2))) (n - i) (c - i) (ctsC (L.drop i)):=by
 have:=h.dropS hn hi
 rwa [if_neg hc] at this
/-- y is x but for how often -/
def CtLike (y x:Ct):Prop:=y.A=x.A∧y.c=x.c∧y.l=x.l
/-- the same, and where its rows come from -/
def AddRP (w:World) (L:List Ct) (rA:Option Addr) (rc:Nat) (rl:List Dat) (R:List V) (e:Ending) (w':World):Prop := ∃ A m c M,e = .returned (.slice A m c)∧m=M.length∧Ctin w' A c M∧(∀ y∈M,(∃ x∈L,CtLike y x)∨(y.A=rA∧y.c=rc∧y.l=rl))∧M.map valC=R∧Ext w w'
theorem AddRP.toR {w w':World} {L:List Ct} {rA:Option Addr} {rc:Nat} {rl:List Dat} {R:List V} {e:Ending} (h:AddRP w L rA rc rl R e w'):AddR w R e w':=by
 obtain ⟨A,m,c,M,e1,e2,i,_,v,x⟩:=h
 exact ⟨A,m,c,M,e1,e2,i,v,x⟩
theorem addR_mk {w w':World} {B m c:Nat} {A:Option Addr} {xs:List Value} {M L:List Ct} {rA:Option Addr} {rc:Nat} {rl:List Dat} {R:List V} (o:Own w' B 154 2 A m c xs) (hx:xs=ctsC M) (hm:m=M.length) (hr : ∀ x∈M,Rw w' x.A x.c x.l) (hp : ∀ y∈M,(∃ x∈L,CtLike y x)∨(y.A=rA∧y.c=rc∧y.l=rl)) (hv:M.map valC=R) (X:Ext w w'):AddRP w L rA rc rl R (.returned (.slice A m c)) w' :=
 ⟨A,m,c,M,rfl,hm,⟨by subst hx hm;exact o.sl,hr⟩,hp,hv,X⟩
/-- behind what is ahead of the row -/
theorem add_new {w w':World} {i n:Nat} {L:List Ct} {rA:Option Addr} {rc:Nat} {rl:List Dat} {k:Int} {A:Option Addr} {c:Nat} (h:Ctin w A c L) (hr:Rw w rA rc rl) (X:Ext w w') (hlt : ∀ y∈L.take i,cmpR y.l rl<0) (hgt : ∀ y R,L.drop i=y :: R→0<cmpR y.l rl) {B m c5:Nat} {A5:Option Addr}
  (hn:n=L.length) (hi:i≤n) (hm:m=n+1) (o:Own w' B 154 2 A5 m c5 (ctsC (L.take i)++[.slice rA rl.length rc, .int .i64 k]++ctsC (L.drop i))):AddRP w L rA rc rl (addV (L.map valC) (rl,k)) (.returned (.slice A5 m c5)) w':=by
 refine addR_mk (M:=L.take i++⟨rA,rc,rl,k⟩ :: L.drop i) o ?_ ?_ (fun x hx=>?_) (fun x hx=>?_) ?_ X
 ·rw [ctsC_append,List.append_assoc]
  rfl
 ·rw [List.length_append,List.length_cons,List.length_take,List.length_drop]
  omega
 ·rcases List.mem_append.1 hx with hx | hx
  ·exact (h.rows x (List.mem_of_mem_take hx)).ext X
  ·rcases List.mem_cons.1 hx with rfl | hx
   ·exact hr.ext X
   ·exact (h.rows x (List.mem_of_mem_drop hx)).ext X
 ·rcases List.mem_append.1 hx with hx | hx
  ·exact .inl ⟨x,List.mem_of_mem_take hx,rfl,rfl,rfl⟩
  ·rcases List.mem_cons.1 hx with rfl | hx
   ·exact .inr ⟨rfl,rfl,rfl⟩
   ·exact .inl ⟨x,List.mem_of_mem_drop hx,rfl,rfl,rfl⟩
 ·have e:L.map valC=(L.take i).map valC++(L.drop i).map valC:=by rw [← List.map_append,List.take_append_drop]
  rw [e,addV_split _ _ _ (fun y hy=>by obtain ⟨x,hx,rfl⟩:=List.mem_map.1 hy;exact hlt x hx),List.map_append,List.map_cons]
  congr 1
  cases hd:L.drop i with
  | nil=>rfl
  | cons y R =>
   rw [List.map_cons,addV_gt _ _ _ (show 0<cmpV (valC y) (rl,k) from hgt y R hd)]
   rfl
theorem add_old {w w':World} {i n:Nat} {L:List Ct} {x:Ct} {rA:Option Addr} {rc:Nat} {rl:List Dat} {k s:Int} {A:Option Addr} {c:Nat} (h:Ctin w A c L) (X:Ext w w') (hlt : ∀ y∈L.take i,cmpR y.l rl<0) (hx:L.getD i Ct.zero=x) (hc:cmpR x.l rl=0) (hs:w64 (x.k+k)=s) {B m c5:Nat} {A5:Option Addr}
  (hn:n=L.length) (hi:i<n) (hm:m=n) (o:Own w' B 154 2 A5 m c5 (ctsC (L.take i)++[.slice x.A x.l.length x.c, .int .i64 s]++ctsC (L.drop (i+1)))):AddRP w L rA rc rl (addV (L.map valC) (rl,k)) (.returned (.slice A5 m c5)) w':=by
 have hm':x∈L:=hx ▸ getD_mem (by omega)
 have hd:L.drop i=x :: L.drop (i+1):=by
  rw [List.drop_eq_getElem_cons (by omega)]
  congr 1
  rw [← hx,List.getD_eq_getElem?_getD,List.getElem?_eq_getElem (by omega)]
  rfl
 refine addR_mk (M:=L.take i++⟨x.A,x.c,x.l,s⟩ :: L.drop (i+1)) o ?_ ?_ (fun y hy=>?_) (fun y hy=>?_) ?_ X
 ·rw [ctsC_append,List.append_assoc]
  rfl
 ·rw [List.length_append,List.length_cons,List.length_take,List.length_drop]
  omega
 ·rcases List.mem_append.1 hy with hy | hy
  ·exact (h.rows y (List.mem_of_mem_take hy)).ext X
  ·rcases List.mem_cons.1 hy with rfl | hy
   ·exact (h.rows x hm').ext X
   ·exact (h.rows y (List.mem_of_mem_drop hy)).ext X
 ·rcases List.mem_append.1 hy with hy | hy
  ·exact .inl ⟨y,List.mem_of_mem_take hy,rfl,rfl,rfl⟩
  ·rcases List.mem_cons.1 hy with rfl | hy
   ·exact .inl ⟨x,hx ▸ getD_mem (by omega),rfl,rfl,rfl⟩
   ·exact .inl ⟨y,List.mem_of_mem_drop hy,rfl,rfl,rfl⟩
 ·have e:L.map valC=(L.take i).map valC++(L.drop i).map valC:=by rw [← List.map_append,List.take_append_drop]
  rw [e,addV_split _ _ _ (fun y hy=>by obtain ⟨x,hx,rfl⟩:=List.mem_map.1 hy;exact hlt x hx),List.map_append,List.map_cons,hd,List.map_cons,addV_eq _ _ _ (show cmpV (valC x) (rl,k)=0 from hc), ← hs]
  rfl
set_option maxRecDepth 100000 in
set_option maxHeartbeats 8000000 in
theorem add_own (A rA:Option Addr) (c rc n rn:Nat) (L:List Ct) (rl:List Dat) (k:Int) (w:World) (hn:n=L.length) (hrn:rn=rl.length) (h:Ctin w A c L) (hr:Rw w rA rc rl) (hs:n≤100000000) :
  Calls Tryz.prog 195 #[.slice A n c, .slice rA rn rc, .int .i64 k] w (AddRP w L rA rc rl (addV (L.map valC) (rl,k))):=by
 have hcn:=h.sl.cap
 rw [← hn] at hcn
 have HN:=Lib.hid hn
 have HRN:=Lib.hid hrn
 have H:=Lib.hid h
 have HR:=Lib.hid hr
 clear hn hrn h hr
 go_enter Tryz.func195,Tryz.ntmps195
 go_wp2
 go_loopw [7] (fun v wr => ∃ i:Nat,i≤n∧v = .int .i64 i∧Hid (∀ y∈L.take i,cmpR y.l rl<0)∧Ext w wr) (fun v _=>n - (intOf v).toNat)
 case atStart=>exact ⟨0,Nat.zero_le _,rfl,Lib.hid (fun y hy=>by simp at hy),Ext.refl _⟩
 case round =>
  obtain ⟨i,hi,rfl,HLT,er⟩:=hrel
  by_cases hlt:i<n
  ·have hil:i<L.length:=by rw [← HN.out];exact hlt
   have hcells:=(H.out.ext er).at hil
   have hm:=getD_mem hil
   obtain ⟨x,hx⟩ : ∃ x,L.getD i Ct.zero=x:=⟨_,rfl⟩
   rw [hx] at hcells hm
   obtain ⟨ad,eA,p0,p1⟩:=hcells
   subst eA
   obtain ⟨nx,hnx⟩ : ∃ nx,nx=x.l.length:=⟨_,rfl⟩
   rw [← hnx] at p0
   have HNX:=Lib.hid hnx
   have HX:=Lib.hid hx
   have HIL:=Lib.hid hil
   have HRX:=Lib.hid ((H.out.rows x hm).ext er)
   have HRR:=Lib.hid (HR.out.ext er)
   obtain ⟨v,hv⟩ : ∃ v,cmpR x.l rl=v:=⟨_,rfl⟩
   have HV:=Lib.hid hv
   have HD:Hid (L.drop i=x :: L.drop (i+1)):=Lib.hid (by
    rw [List.drop_eq_getElem_cons hil]
    congr 1
    rw [← hx,List.getD_eq_getElem?_getD,List.getElem?_eq_getElem hil]
    rfl)
   clear hil hm hx hnx hv
   have m1:True:=trivial
   by_cases hv0:v<0
   ·have zv:decide (v<0)=true:=by simpa using hv0
    go_wp2_with (go_at_call 53;refine (rowRCmp_lit x.A rA x.c rc nx rn x.l rl _ HV HNX HRN HRX HRR).mono ?_;rintro e w1 ⟨rfl,x1⟩)
    go_roundw
    case rel=>exact ⟨i+1,by omega,by go_num,Lib.hid (by rw [take_snocC HIL.out,HX.out];exact fun y hy=>by rcases List.mem_append.1 hy with q | q;exact HLT.out y q;rw [List.mem_singleton.1 q,HV.out];exact hv0),er.trans x1⟩
    case measure=>simp [intOf];omega
   ·have zv:decide (v<0)=false:=by simpa using hv0
    have hwr:=er.size
    by_cases hv1:v=0
    ·obtain ⟨s,hs⟩ : ∃ s,w64 (x.k+k)=s:=⟨_,rfl⟩
     have hs2:IntKind.i64.wrap (x.k+k)=s:=hs
     have HS:=Lib.hid hs
     subst hv1
     clear hs
     go_upto_region 7 with (first
      | (go_at_call 53;have mk:=m1;clear m1 mk;refine (rowRCmp_lit x.A rA x.c rc nx rn x.l rl _ HV HNX HRN (Lib.hid (HRX.out.ext (Ext.refl _))) (Lib.hid (HRR.out.ext (Ext.refl _)))).mono ?_;rintro e w1 ⟨rfl,x1⟩;have X1:=er.trans x1;have m2:True:=trivial)
      | (at_builtin;have mk:=m2;clear m2 mk;refine wpList_append_two _ elem_ct w1.heap.size _ _ rfl rfl none 0 0 [] rfl (Own.nil _ _ _ _) (some ad) i c (ctsC (L.take i)) rfl ((H.out.takeS HN.out hi).ext X1) (ctsC_one _) (by omega) (by decide) (Nat.le_refl _) ?_;intro A3 c3 w3 o3 g3 h3;clear h3;have y3:Ext w1 w3:=Ext.grown (Ext.refl _) g3 (fun k e=>nomatch e);have X3:=Ext.trans X1 y3;have O3:Hid (Own w3 w1.heap.size 154 2 A3 i c3 (ctsC (L.take i))):=Lib.hid (by have:=o3;rwa [Nat.zero_add,List.nil_append] at this);clear o3 g3;have q0:=Ext.cell (x1.trans y3) p0;have q1:=Ext.cell (x1.trans y3) p1;have m3:True:=trivial)
      | (go_at_call 53;have mk:=m3;clear m3 mk;refine (rowRCmp_lit x.A rA x.c rc nx rn x.l rl _ HV HNX HRN (Lib.hid (HRX.out.ext (x1.trans y3))) (Lib.hid (HRR.out.ext (x1.trans y3)))).mono ?_;rintro e w4 ⟨rfl,x4⟩;have X4:=X3.trans x4;have O4:=Lib.hid (O3.out.ext x4);have m4:True:=trivial))
     have p0':=Ext.cell (x1.trans (y3.trans x4)) p0
     have p1':=Ext.cell (x1.trans (y3.trans x4)) p1
     have XE:Ext w4 w4.drew:=(Ext.refl w4).drew
     have P0 : ∀ z:Xt w4.drew,z.W.cell? (ad.add (i * 2))=some (.slice x.A nx x.c):=fun z=>(XE.trans z.x).cell p0'
     have P1 : ∀ z:Xt w4.drew,z.W.cell? ⟨(ad.add (i * 2)).block,(ad.add (i * 2)).off+1,none⟩=some (.int .i64 x.k):=fun z=>(XE.trans z.x).cell p1'
     clear p0 p1 p0' p1'
     refine wp_region_ord [0,0,0,6,14,30,0,0,192,448,960,0,4032,8190,16382,32767,65535] (.pur [0] (.flo [1,2,3,4,5,6,7,8,9,10,11,12,13] (.one 14 (.one 15 (.flo [16] (.fin)))))) (by kernel_rfl) (by kernel_rfl) (by intro _ _ d _ _ h;cases d<;>exact h) ?_
     (refine ord_pur (pick_cons rfl pick_nil) ?_;(repeat (go_big_quiet_step (fail)));refine wpQuiet_nil ?_;show ordWalk _ _ _ _ _ _ _)
     (refine ord_flo (pick_cons rfl (pick_cons rfl (pick_cons rfl (pick_cons rfl (pick_cons rfl (pick_cons rfl (pick_cons rfl (pick_cons rfl (pick_cons rfl (pick_cons rfl (pick_cons rfl (pick_cons rfl (pick_cons rfl pick_nil))))))))))))) ?_;(repeat (go_big_quiet_step (fail)));refine wpQuiet_nil ?_;show ordWalk _ _ _ _ _ _ _)
     refine ord_one (pick_cons rfl pick_nil) ?_;intro K_ hK_
     go_wp2
     refine ord_one (pick_cons rfl pick_nil) ?_;intro K_ hK_
     go_wp2_with (at_builtin;refine wpList_append_two _ elem_ct w1.heap.size _ _ rfl rfl A3 i c3 (ctsC (L.take i)) rfl (O4.out.drew.alloc _) (some ⟨w4.heap.size,0,none⟩) 1 1 [.slice x.A nx x.c, .int .i64 s] rfl (sl_ct _ _ _ _) (by intro u hu;simp at hu;rcases hu with rfl | rfl<;>rfl) (by omega) (by decide) (by have:=y3.size;have:=x4.size;simp;omega) ?_;intro A5 c5 w5 o5 g5 h5;clear h5;have X5:Ext w w5:=Ext.grown (X4.drew.alloc _) g5 (fun k e=>Nat.le_trans X1.size (O4.out.lt k e).1);have y5:Ext w1 w5:=Ext.grown ((y3.trans x4).drew.alloc _) g5 (fun k e=>(O4.out.lt k e).1);have O5:=Lib.hid o5;clear o5 g5)
     go_simp
     (refine ord_flo (pick_cons rfl pick_nil) ?_;(repeat (go_big_quiet_step (fail)));refine wpQuiet_nil ?_;show ordWalk _ _ _ _ _ _ _)
     refine ord_fin ?_
     by_cases hci:c=i+1
     ·subst hci
      have m5:True:=trivial
      go_wp2_with (at_builtin;have mk:=m5;clear m5 mk;refine wpList_append_two _ elem_ct w1.heap.size _ _ rfl rfl A5 (i+1) c5 _ rfl O5.out _ _ _ _ rfl (Sl.ext (Ctin.drop0 w _ HN.out (show n≤i+1 by omega)) X5) (ctsC_one _) (by omega) (by decide) y5.size ?_;intro A6 c6 w6 o6 g6 h6;clear h6;have X6:Ext w w6:=Ext.grown X5 g6 (fun k e=>Nat.le_trans X1.size (O5.out.lt k e).1);have HE:Hid (AddRP w L rA rc rl (addV (L.map valC) (rl,k)) (.returned (.slice A6 (i+1) c6)) w6):=Lib.hid (add_old H.out X6 HLT.out HX.out HV.out HS.out HN.out hlt (by omega) (by have:=o6;rwa [HNX.out] at this));clear o6 g6)
      go_ret
      exact HE.out
     ·have m5:True:=trivial
      go_wp2_with (at_builtin;have mk:=m5;clear m5 mk;refine wpList_append_two _ elem_ct w1.heap.size _ _ rfl rfl A5 (i+1) c5 _ rfl O5.out _ _ _ _ rfl (Sl.ext (H.out.drop2 HN.out hlt hci) X5) (ctsC_one _) (by omega) (by decide) y5.size ?_;intro A6 c6 w6 o6 g6 h6;clear h6;have X6:Ext w w6:=Ext.grown X5 g6 (fun k e=>Nat.le_trans X1.size (O5.out.lt k e).1);have HE:Hid (AddRP w L rA rc rl (addV (L.map valC) (rl,k)) (.returned (.slice A6 (i+1+(n - (i+1))) c6)) w6):=Lib.hid (add_old H.out X6 HLT.out HX.out HV.out HS.out HN.out hlt (by omega) (by have:=o6;rwa [HNX.out] at this));clear o6 g6)
      go_ret
      exact HE.out
    ·have hg:Hid (∀ y R,L.drop i=y :: R→0<cmpR y.l rl):=Lib.hid (fun y R e=>by rw [HD.out] at e;injection e with e1 e2;rw [← e1,HV.out];omega)
     have zv1:(v==0)=false:=by simpa using hv1
     by_cases hci:c=i
     ·exfalso;omega
     ·go_wp2_with (first
       | (go_at_call 53;have mk:=m1;clear m1 mk;refine (rowRCmp_lit x.A rA x.c rc nx rn x.l rl _ HV HNX HRN (Lib.hid (HRX.out.ext (Ext.refl _))) (Lib.hid (HRR.out.ext (Ext.refl _)))).mono ?_;rintro e w1 ⟨rfl,x1⟩;have X1:=er.trans x1;have m2:True:=trivial)
       | (at_builtin;have mk:=m2;clear m2 mk;refine wpList_append_two _ elem_ct w1.heap.size _ _ rfl rfl none 0 0 [] rfl (Own.nil _ _ _ _) (some ad) i c (ctsC (L.take i)) rfl ((H.out.takeS HN.out hi).ext X1) (ctsC_one _) (by omega) (by decide) (Nat.le_refl _) ?_;intro A3 c3 w3 o3 g3 h3;clear h3;have y3:Ext w1 w3:=Ext.grown (Ext.refl _) g3 (fun k e=>nomatch e);have X3:=Ext.trans X1 y3;have O3:Hid (Own w3 w1.heap.size 154 2 A3 i c3 (ctsC (L.take i))):=Lib.hid (by have:=o3;rwa [Nat.zero_add,List.nil_append] at this);clear o3 g3;have q0:=Ext.cell (x1.trans y3) p0;have q1:=Ext.cell (x1.trans y3) p1;have m3:True:=trivial)
       | (go_at_call 53;have mk:=m3;clear m3 mk;refine (rowRCmp_lit x.A rA x.c rc nx rn x.l rl _ HV HNX HRN (Lib.hid (HRX.out.ext (x1.trans y3))) (Lib.hid (HRR.out.ext (x1.trans y3)))).mono ?_;rintro e w4 ⟨rfl,x4⟩;have X4:=X3.trans x4;have O4:=Lib.hid (O3.out.ext x4);have m4:True:=trivial)
       | (at_builtin;have mk:=m4;clear m4 mk;refine wpList_append_two _ elem_ct w1.heap.size _ _ rfl rfl A3 i c3 (ctsC (L.take i)) rfl (O4.out.alloc _) (some ⟨w4.heap.size,0,none⟩) 1 1 [.slice rA rn rc, .int .i64 k] rfl (sl_ct _ _ _ _) (by intro u hu;simp at hu;rcases hu with rfl | rfl<;>rfl) (by omega) (by decide) (by have:=Ext.size (y3.trans x4);simp;omega) ?_;intro A5 c5 w5 o5 g5 h5;clear h5;have X5:Ext w w5:=Ext.grown (Ext.alloc X4 _) g5 (fun k e=>Nat.le_trans (Ext.size X1) (O4.out.lt k e).1);have y5:Ext w1 w5:=Ext.grown (Ext.alloc (y3.trans x4) _) g5 (fun k e=>(O4.out.lt k e).1);have O5:=Lib.hid o5;clear o5 g5;have m5:True:=trivial)
       | (at_builtin;have mk:=m5;clear m5 mk;refine wpList_append_two _ elem_ct w1.heap.size _ _ rfl rfl A5 (i+1) c5 _ rfl O5.out _ _ _ _ rfl (Sl.ext (H.out.drop2 HN.out hi hci) X5) (ctsC_one _) (by omega) (by decide) y5.size ?_;intro A6 c6 w6 o6 g6 h6;clear h6;have X6:Ext w w6:=Ext.grown X5 g6 (fun k e=>Nat.le_trans X1.size (O5.out.lt k e).1);have HE:Hid (AddRP w L rA rc rl (addV (L.map valC) (rl,k)) (.returned (.slice A6 (i+1+(n - i)) c6)) w6):=Lib.hid (add_new H.out HR.out X6 HLT.out hg.out HN.out hi (by omega) (by have:=o6;rwa [HRN.out] at this));clear o6 g6))
      go_ret
      exact HE.out
  ·obtain rfl:i=n:=by omega
   have hg:Hid (∀ y R,L.drop i=y :: R→0<cmpR y.l rl):=Lib.hid (fun y R e=>by rw [List.drop_of_length_le (by rw [← HN.out];exact Nat.le_refl _)] at e;exact nomatch e)
   have hwr:=er.size
   have X1:Ext w wr:=er
   obtain ⟨w1,hw1⟩ : ∃ w1:World,w1=wr:=⟨_,rfl⟩
   rw [← hw1] at X1 ⊢
   clear hw1
   have m2:True:=trivial
   have m4:True:=trivial
   cases A with
   | none =>
    obtain rfl:c=0:=H.out.sl.2.2.2.1 rfl
    obtain rfl:i=0:=by omega
    go_wp2_with (first
     | (at_builtin;have mk:=m2;clear m2 mk;refine wpList_append_two _ elem_ct w1.heap.size _ _ rfl rfl none 0 0 [] rfl (Own.nil _ _ _ _) none 0 0 (ctsC (L.take 0)) rfl ((H.out.takeS HN.out hi).ext X1) (ctsC_one _) (by omega) (by decide) (Nat.le_refl _) ?_;intro A3 c3 w3 o3 g3 h3;clear h3;have y3:Ext w1 w3:=Ext.grown (Ext.refl _) g3 (fun k e=>nomatch e);have X3:=Ext.trans X1 y3;have O3:Hid (Own w3 w1.heap.size 154 2 A3 0 c3 (ctsC (L.take 0))):=Lib.hid (by have:=o3;rwa [Nat.zero_add,List.nil_append] at this);clear o3 g3;have O4:=O3;have m3:True:=trivial)
     | (at_builtin;have mk:=m3;clear m3 mk;refine wpList_append_two _ elem_ct w1.heap.size _ _ rfl rfl A3 0 c3 (ctsC (L.take 0)) rfl (O4.out.alloc _) (some ⟨w3.heap.size,0,none⟩) 1 1 [.slice rA rn rc, .int .i64 k] rfl (sl_ct _ _ _ _) (by intro u hu;simp at hu;rcases hu with rfl | rfl<;>rfl) (by omega) (by decide) (by have:=Ext.size y3;simp;omega) ?_;intro A5 c5 w5 o5 g5 h5;clear h5;have X5:Ext w w5:=Ext.grown (Ext.alloc X3 _) g5 (fun k e=>Nat.le_trans (Ext.size X1) (O4.out.lt k e).1);have y5:Ext w1 w5:=Ext.grown (Ext.alloc y3 _) g5 (fun k e=>(O4.out.lt k e).1);have O5:=Lib.hid o5;clear o5 g5;have m5:True:=trivial)
     | (at_builtin;have mk:=m5;clear m5 mk;refine wpList_append_two _ elem_ct w1.heap.size _ _ rfl rfl A5 1 c5 _ rfl O5.out _ _ _ _ rfl (Sl.ext (Ctin.drop0 w _ HN.out (Nat.le_refl 0)) X5) (ctsC_one _) (by omega) (by decide) y5.size ?_;intro A6 c6 w6 o6 g6 h6;clear h6;have X6:Ext w w6:=Ext.grown X5 g6 (fun k e=>Nat.le_trans X1.size (O5.out.lt k e).1);have HE:Hid (AddRP w L rA rc rl (addV (L.map valC) (rl,k)) (.returned (.slice A6 1 c6)) w6):=Lib.hid (add_new H.out HR.out X6 HLT.out hg.out HN.out (Nat.le_refl _) (by omega) (by have:=o6;rwa [HRN.out] at this));clear o6 g6))
    go_ret
    exact HE.out
   | some ad =>
    by_cases hci:i=c
    ·subst hci
     go_wp2_with (first
      | (at_builtin;have mk:=m2;clear m2 mk;refine wpList_append_two _ elem_ct w1.heap.size _ _ rfl rfl none 0 0 [] rfl (Own.nil _ _ _ _) (some ad) i i (ctsC (L.take i)) rfl ((H.out.takeS HN.out hi).ext X1) (ctsC_one _) (by omega) (by decide) (Nat.le_refl _) ?_;intro A3 c3 w3 o3 g3 h3;clear h3;have y3:Ext w1 w3:=Ext.grown (Ext.refl _) g3 (fun k e=>nomatch e);have X3:=Ext.trans X1 y3;have O3:Hid (Own w3 w1.heap.size 154 2 A3 i c3 (ctsC (L.take i))):=Lib.hid (by have:=o3;rwa [Nat.zero_add,List.nil_append] at this);clear o3 g3;have O4:=O3;have m3:True:=trivial)
      | (at_builtin;have mk:=m3;clear m3 mk;refine wpList_append_two _ elem_ct w1.heap.size _ _ rfl rfl A3 i c3 (ctsC (L.take i)) rfl (O4.out.alloc _) (some ⟨w3.heap.size,0,none⟩) 1 1 [.slice rA rn rc, .int .i64 k] rfl (sl_ct _ _ _ _) (by intro u hu;simp at hu;rcases hu with rfl | rfl<;>rfl) (by omega) (by decide) (by have:=Ext.size y3;simp;omega) ?_;intro A5 c5 w5 o5 g5 h5;clear h5;have X5:Ext w w5:=Ext.grown (Ext.alloc X3 _) g5 (fun k e=>Nat.le_trans (Ext.size X1) (O4.out.lt k e).1);have y5:Ext w1 w5:=Ext.grown (Ext.alloc y3 _) g5 (fun k e=>(O4.out.lt k e).1);have O5:=Lib.hid o5;clear o5 g5;have m5:True:=trivial)
      | (at_builtin;have mk:=m5;clear m5 mk;refine wpList_append_two _ elem_ct w1.heap.size _ _ rfl rfl A5 (i+1) c5 _ rfl O5.out _ _ _ _ rfl (Sl.ext (Ctin.drop0 w _ HN.out (Nat.le_refl _)) X5) (ctsC_one _) (by omega) (by decide) y5.size ?_;intro A6 c6 w6 o6 g6 h6;clear h6;have X6:Ext w w6:=Ext.grown X5 g6 (fun k e=>Nat.le_trans X1.size (O5.out.lt k e).1);have HE:Hid (AddRP w L rA rc rl (addV (L.map valC) (rl,k)) (.returned (.slice A6 (i+1) c6)) w6):=Lib.hid (add_new H.out HR.out X6 HLT.out hg.out HN.out (Nat.le_refl _) (by omega) (by have:=o6;rwa [HRN.out] at this));clear o6 g6))
     go_ret
     exact HE.out
    ·have hci2 : ¬ c=i:=fun q=>hci q.symm
     go_wp2_with (first
      | (at_builtin;have mk:=m2;clear m2 mk;refine wpList_append_two _ elem_ct w1.heap.size _ _ rfl rfl none 0 0 [] rfl (Own.nil _ _ _ _) (some ad) i c (ctsC (L.take i)) rfl ((H.out.takeS HN.out hi).ext X1) (ctsC_one _) (by omega) (by decide) (Nat.le_refl _) ?_;intro A3 c3 w3 o3 g3 h3;clear h3;have y3:Ext w1 w3:=Ext.grown (Ext.refl _) g3 (fun k e=>nomatch e);have X3:=Ext.trans X1 y3;have O3:Hid (Own w3 w1.heap.size 154 2 A3 i c3 (ctsC (L.take i))):=Lib.hid (by have:=o3;rwa [Nat.zero_add,List.nil_append] at this);clear o3 g3;have O4:=O3;have m3:True:=trivial)
      | (at_builtin;have mk:=m3;clear m3 mk;refine wpList_append_two _ elem_ct w1.heap.size _ _ rfl rfl A3 i c3 (ctsC (L.take i)) rfl (O4.out.alloc _) (some ⟨w3.heap.size,0,none⟩) 1 1 [.slice rA rn rc, .int .i64 k] rfl (sl_ct _ _ _ _) (by intro u hu;simp at hu;rcases hu with rfl | rfl<;>rfl) (by omega) (by decide) (by have:=Ext.size y3;simp;omega) ?_;intro A5 c5 w5 o5 g5 h5;clear h5;have X5:Ext w w5:=Ext.grown (Ext.alloc X3 _) g5 (fun k e=>Nat.le_trans (Ext.size X1) (O4.out.lt k e).1);have y5:Ext w1 w5:=Ext.grown (Ext.alloc y3 _) g5 (fun k e=>(O4.out.lt k e).1);have O5:=Lib.hid o5;clear o5 g5;have m5:True:=trivial)
      | (at_builtin;have mk:=m5;clear m5 mk;refine wpList_append_two _ elem_ct w1.heap.size _ _ rfl rfl A5 (i+1) c5 _ rfl O5.out _ _ _ _ rfl (Sl.ext (Ctin.drop3 w _ HN.out (Nat.le_refl _) (by omega)) X5) (ctsC_one _) (by omega) (by decide) y5.size ?_;intro A6 c6 w6 o6 g6 h6;clear h6;have X6:Ext w w6:=Ext.grown X5 g6 (fun k e=>Nat.le_trans X1.size (O5.out.lt k e).1);have HE:Hid (AddRP w L rA rc rl (addV (L.map valC) (rl,k)) (.returned (.slice A6 (i+1) c6)) w6):=Lib.hid (add_new H.out HR.out X6 HLT.out hg.out HN.out (Nat.le_refl _) (by omega) (by have:=o6;rwa [HRN.out] at this));clear o6 g6))
     go_ret
     exact HE.out

/-- the list of an answer, and where it lies -/
def SumRP (w:World) (L:List Ct) (R:List V) (e:Ending) (w':World):Prop := ∃ A m c M,e = .returned (.slice A m c)∧m=M.length∧Own w' w.heap.size 154 2 A m c (ctsC M)∧(∀ y∈M, ∃ x∈L,CtLike y x)∧M.map valC=R∧Ext w w'
theorem SumRP.toR {w w':World} {L:List Ct} {R:List V} {e:Ending} (h:SumRP w L R e w') (hL : ∀ x∈L,Rw w x.A x.c x.l):AddR w R e w':=by
 obtain ⟨A,m,c,M,e1,e2,o,p,v,x⟩:=h
 refine ⟨A,m,c,M,e1,e2,⟨by rw [← e2];exact o.sl,fun y hy=>?_⟩,v,x⟩
 obtain ⟨z,hz,q1,q2,q3⟩:=p y hy
 rw [q1,q2,q3]
 exact (hL z hz).ext x
theorem addV_len : ∀ (R:List V) (x:V),(addV R x).length≤R.length+1
 | [],_=>Nat.le_refl _
 | y :: R,x=>by
  unfold addV
  split
  ·rw [List.length_cons,List.length_cons];have:=addV_len R x;omega
  ·split
   ·rw [List.length_cons,List.length_cons];omega
   ·rw [List.length_cons,List.length_cons];omega
def sumTo (L:List Ct) (i:Nat):List V:=((L.take i).map valC).foldl addV []
theorem sumTo_succ {L:List Ct} {i:Nat} {x:Ct} (hi:i<L.length) (hx:L.getD i Ct.zero=x):sumTo L (i+1)=addV (sumTo L i) (x.l,x.k):=by
 unfold sumTo
 rw [take_snocC hi,hx,List.map_append,List.foldl_append]
 rfl
theorem sumTo_len (L:List Ct) : ∀ i,(sumTo L i).length≤i
 | 0=>by unfold sumTo;simp
 | i+1=>by
  have ih:=sumTo_len L i
  by_cases hi:i<L.length
  ·rw [sumTo_succ hi rfl]
   have:=addV_len (sumTo L i) ((L.getD i Ct.zero).l,(L.getD i Ct.zero).k)
   omega
  ·have e:sumTo L (i+1)=sumTo L i:=by unfold sumTo;rw [List.take_of_length_le (by omega),List.take_of_length_le (by omega)]
   rw [e];omega
def RefAt (w wr:World) (L:List Ct) (i:Nat) (A:Option Addr) (m c:Nat):Prop := ∃ M,m=M.length∧Ctin wr A c M∧M.map valC=sumTo L i∧(∀ y∈M, ∃ x∈L,CtLike y x)∧Ext w wr
/-- what is not none, so far -/
def LeftAt (w1 wr:World) (M:List Ct) (j:Nat) (A:Option Addr) (m c:Nat):Prop:=m=((M.take j).filter nzC).length∧Own wr w1.heap.size 154 2 A m c (ctsC ((M.take j).filter nzC))∧Ext w1 wr
theorem LeftAt.skip {w1 wr:World} {M:List Ct} {j m c:Nat} {A:Option Addr} {x:Ct} (h:LeftAt w1 wr M j A m c) (hj:j<M.length) (hx:M.getD j Ct.zero=x) (hz:(x.k==0)=true):LeftAt w1 wr M (j+1) A m c:=by
 have e:(M.take (j+1)).filter nzC=(M.take j).filter nzC:=by
  rw [take_snocC hj,hx,List.filter_append]
  have:[x].filter nzC=[]:=by simp [nzC,hz]
  rw [this,List.append_nil]
 unfold LeftAt
 rw [e]
 exact h
theorem LeftAt.more {w1 wr w2:World} {M:List Ct} {j m c m2 c2:Nat} {A A2:Option Addr} {x:Ct} (h:LeftAt w1 wr M j A m c) (hj:j<M.length) (hx:M.getD j Ct.zero=x) (hz:(x.k==0)=false) (hm:m2=m+1)
  (o:Own w2 w1.heap.size 154 2 A2 m2 c2 (ctsC ((M.take j).filter nzC)++[.slice x.A x.l.length x.c, .int .i64 x.k])) (X:Ext w1 w2):LeftAt w1 w2 M (j+1) A2 m2 c2:=by
 have e:(M.take (j+1)).filter nzC=(M.take j).filter nzC++[x]:=by
  rw [take_snocC hj,hx,List.filter_append]
  have:[x].filter nzC=[x]:=by simp [nzC,hz]
  rw [this]
 unfold LeftAt
 rw [e,List.length_append,ctsC_append]
 exact ⟨by rw [hm,h.1];rfl,o,X⟩
theorem ct_like {L M M4:List Ct} {x:Ct} (hx:x∈L) (h : ∀ y∈M, ∃ z∈L,CtLike y z) (h4 : ∀ y∈M4,(∃ z∈M,CtLike y z)∨(y.A=x.A∧y.c=x.c∧y.l=x.l)) : ∀ y∈M4, ∃ z∈L,CtLike y z:=fun y hy=>by
 rcases h4 y hy with ⟨z,hz,a1,a2,a3⟩ | q
 ·obtain ⟨u,hu,b1,b2,b3⟩:=h z hz
  exact ⟨u,hu,a1.trans b1,a2.trans b2,a3.trans b3⟩
 ·exact ⟨x,hx,q⟩
set_option maxRecDepth 100000 in
set_option maxHeartbeats 8000000 in
theorem refSum_own (A:Option Addr) (c n:Nat) (L:List Ct) (w:World) (hn:n=L.length) (h:Ctin w A c L) (hs:n≤1000000) :
  Calls Tryz.prog 120 #[.slice A n c] w (SumRP w L (sumV (L.map valC))):=by
 have HN:=Lib.hid hn
 have H:=Lib.hid h
 have HR0:Hid (RefAt w w L 0 none 0 0):=Lib.hid ⟨[],rfl,⟨Sl.nil w 2,fun x hx=>(nomatch hx)⟩,rfl,fun x hx=>(nomatch hx),Ext.refl w⟩
 clear hn h
 go_enter Tryz.func120,Tryz.ntmps120
 go_wp2
 go_loopg [3,4] n (fun z u v wr => ∃ (i m c3:Nat) (A3:Option Addr),z=n - i∧i≤n∧m≤i∧u = .slice A3 m c3∧v = .int .i64 i∧Hid (RefAt w wr L i A3 m c3))
 case atStart=>exact ⟨0,0,0,none,rfl,Nat.zero_le _,Nat.le_refl _,rfl,rfl,HR0⟩
 case round =>
  clear HR0
  obtain ⟨i,m,c3,A3,rfl,hi,hmi,rfl,rfl,HP⟩:=hrel
  by_cases hlt:i<n
  ·obtain ⟨M,hM,hC,hv,hp,X⟩:=HP.out
   have HPV:=Lib.hid hp
   have hil:i<L.length:=by rw [← HN.out];exact hlt
   obtain ⟨ad,rfl,p0,p1⟩:=(H.out.ext X).at hil
   have hm:=getD_mem hil
   obtain ⟨x,hx⟩ : ∃ x,L.getD i Ct.zero=x:=⟨_,rfl⟩
   rw [hx] at p0 p1 hm
   obtain ⟨nx,hnx⟩ : ∃ nx,nx=x.l.length:=⟨_,rfl⟩
   rw [← hnx] at p0
   have XE:Ext wr wr.drew:=(Ext.refl wr).drew
   have HRX:=Lib.hid (((H.out.rows x hm).ext X).ext XE)
   have HMC:=Lib.hid (hC.ext XE)
   have HNX:=Lib.hid hnx
   have HMM:=Lib.hid hM
   have HV:Hid (addV (M.map valC) (x.l,x.k)=sumTo L (i+1)):=Lib.hid (by rw [sumTo_succ hil hx,hv])
   have HXX:=Lib.hid (X.trans XE)
   have P0 : ∀ z:Xt wr.drew,z.W.cell? (ad.add (i * 2))=some (.slice x.A nx x.c):=fun z=>(XE.trans z.x).cell p0
   have P1 : ∀ z:Xt wr.drew,z.W.cell? ⟨(ad.add (i * 2)).block,(ad.add (i * 2)).off+1,none⟩=some (.int .i64 x.k):=fun z=>(XE.trans z.x).cell p1
   have HXM:Hid (x∈L):=Lib.hid hm
   clear hM hC hv hp X hil hm hx hnx HP
   go_upto_region 5 with fail
   refine wp_region_ord [0,0,0,6,14,30,0,0,192,448,960,2047,4095] (.flo [0,1,2,3,4,5,6,7,8,9,10] (.one 11 (.flo [12] (.fin)))) (by kernel_rfl) (by kernel_rfl) (by intro _ _ d _ _ h;cases d<;>exact h) ?_
   (refine ord_flo (pick_cons rfl (pick_cons rfl (pick_cons rfl (pick_cons rfl (pick_cons rfl (pick_cons rfl (pick_cons rfl (pick_cons rfl (pick_cons rfl (pick_cons rfl (pick_cons rfl pick_nil))))))))))) ?_;(repeat (go_big_quiet_step (fail)));refine wpQuiet_nil ?_;show ordWalk _ _ _ _ _ _ _)
   refine ord_one (pick_cons rfl pick_nil) ?_;intro K_ hK_
   go_wp2_with (go_at_call 195;refine (add_own A3 x.A c3 x.c m nx M x.l x.k _ HMM.out HNX.out HMC.out HRX.out (by omega)).mono ?_;rintro e w1 ⟨A4,m4,c4,M4,rfl,hm4,hC4,hp4,hv4,X4⟩;have hml:m4≤i+1:=(by rw [hm4];have q:=congrArg List.length hv4;rw [List.length_map,HV.out] at q;rw [q];exact sumTo_len L (i+1));have HP4:Hid (RefAt w w1 L (i+1) A4 m4 c4):=Lib.hid ⟨M4,hm4,hC4,by rw [hv4,HV.out],ct_like HXM.out HPV.out hp4,HXX.out.trans X4⟩;clear hm4 hC4 hv4 X4 hp4)
   (refine ord_flo (pick_cons rfl pick_nil) ?_;(repeat (go_big_quiet_step (fail)));refine wpQuiet_nil ?_;show ordWalk _ _ _ _ _ _ _)
   refine ord_fin ?_
   go_wp2
   go_roundg (n - (i+1))
   case measure=>omega
   case rel=>exact ⟨i+1,m4,c4,A4,rfl,by omega,hml,rfl,by go_num,HP4⟩
  ·obtain rfl:i=n:=by omega
   obtain ⟨M,hM,hC,hv,hp,X⟩:=HP.out
   have HPV:=Lib.hid hp
   clear hp
   obtain ⟨w1,hw1⟩ : ∃ w1:World,w1=wr:=⟨_,rfl⟩
   rw [← hw1] at hC X ⊢
   clear hw1
   have HM:=Lib.hid hM
   have HC:=Lib.hid hC
   have HV:=Lib.hid hv
   have HX:=Lib.hid X
   have HL0:Hid (LeftAt w1 w1 M 0 none 0 0):=Lib.hid ⟨rfl,Own.nil _ _ _ _,Ext.refl _⟩
   clear hM hC hv X HP
   go_wp2
   go_loopg [5,6] m (fun z u v wr => ∃ (j n5 c5:Nat) (A5:Option Addr),z=m - j∧j≤m∧n5≤j∧u = .slice A5 n5 c5∧v = .int .i64 j∧Hid (LeftAt w1 wr M j A5 n5 c5))
   case atStart=>exact ⟨0,0,0,none,rfl,Nat.zero_le _,Nat.le_refl _,rfl,rfl,HL0⟩
   case round =>
    clear HL0
    obtain ⟨j,n5,c5,A5,rfl,hj,hnj,rfl,rfl,HQ⟩:=hrel
    by_cases hlt:j<m
    ·have hjl:j<M.length:=by rw [← HM.out];exact hlt
     obtain ⟨ad,rfl,p0,p1⟩:=(HC.out.ext HQ.out.2.2).at hjl
     have hm:=getD_mem hjl
     obtain ⟨x,hx⟩ : ∃ x,M.getD j Ct.zero=x:=⟨_,rfl⟩
     rw [hx] at p0 p1 hm
     obtain ⟨nx,hnx⟩ : ∃ nx,nx=x.l.length:=⟨_,rfl⟩
     rw [← hnx] at p0
     have HJ:=Lib.hid hjl
     have HXJ:=Lib.hid hx
     have HNX:=Lib.hid hnx
     clear hjl hx hm hnx
     cases hz:(x.k==0)
     ·have HZ:=Lib.hid hz
      go_wp2_with (at_builtin;refine wpList_append_two _ elem_ct w1.heap.size _ _ rfl rfl A5 n5 c5 (ctsC ((M.take j).filter nzC)) rfl (Own.alloc HQ.out.2.1 _) (some ⟨wr.heap.size,0,none⟩) 1 1 [.slice x.A nx x.c, .int .i64 x.k] rfl (sl_ct _ _ _ _) (by intro u hu;simp at hu;rcases hu with rfl | rfl<;>rfl) (by omega) (by decide) (by have:=Ext.size HQ.out.2.2;simp;omega) ?_;intro A6 c6 w6 o6 g6 h6;clear h6;have HQ6:=Lib.hid (LeftAt.more (m2:=n5+1) HQ.out HJ.out HXJ.out HZ.out rfl (by have:=o6;rwa [HNX.out] at this) (Ext.grown (Ext.alloc HQ.out.2.2 _) g6 (fun k e=>(HQ.out.2.1.lt k e).1)));clear o6 g6)
      go_roundg (m - (j+1))
      case measure=>omega
      case rel=>exact ⟨j+1,n5+1,c6,A6,rfl,by omega,by omega,rfl,by go_num,HQ6⟩
     ·have HQ6:=Lib.hid (HQ.out.skip HJ.out HXJ.out hz)
      go_wp2
      go_roundg (m - (j+1))
      case measure=>omega
      case rel=>exact ⟨j+1,n5,c5,A5,rfl,by omega,by omega,rfl,by go_num,HQ6⟩
    ·obtain rfl:j=m:=by omega
     have HE:Hid (SumRP w L (sumV (L.map valC)) (.returned (.slice A5 n5 c5)) wr):=Lib.hid (by
      obtain ⟨q1,q2,q3⟩:=HQ.out
      rw [List.take_of_length_le (by rw [← HM.out];exact Nat.le_refl _)] at q1 q2
      refine ⟨_,_,_,M.filter nzC,rfl,q1,q2.mono HX.out.size,fun y hy=>HPV.out y (List.mem_filter.1 hy).1,?_,HX.out.trans q3⟩
      have e:M.map valC=sumAll (L.map valC):=by rw [HV.out];unfold sumTo sumAll;rw [List.take_of_length_le (by rw [← HN.out];exact Nat.le_refl _)]
      unfold sumV
      rw [← e,List.filter_map]
      rfl)
     go_wp2
     go_ret
     exact HE.out
end Go.Proofs.YtdgbkpoickbidaaGreatDoor
