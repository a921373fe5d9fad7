/- slices.symMergeCmpFunc at updates: two sorted lists, side by side, are merged; those that are alike stay in their order. slices.insertionSortCmpFunc at updates: the walk. slices.SortStableFunc at fewer than 20 updates. slices.SortStableFunc at updates. delta.Sum: what it answers. (*join.Join).Len. Conditions: each theorem states its own. -/
import Derived.Test.YtdgbkpoickbidaaHz6
import Derived.Test.YtdgbkpoickbidaaHz5
import Derived.Deep.LoopGhost
import Derived.Test.YtdgbkpoickbidaaHz3
namespace Go.Proofs.Ytdgbkpoickbidaa.UdS
open Go.RowKit

def GenIn (L:List Ud) (nn p lo hi s r:Nat):Prop:=(lo<s → ¬ cmpC (L.getD (nn - s) Ud.zero) (L.getD (s - 1) Ud.zero)<0)∧(r<hi→cmpC (L.getD (p - r) Ud.zero) (L.getD r Ud.zero)<0)
set_option maxRecDepth 100000 in
set_option maxHeartbeats 16000000 in
theorem symGen_any (N:Nat) (IH:Hid (SymIH N)) (B g c n a m b:Nat) (P X Y Q:List Ud) (w:World) (hlen:X.length+Y.length≤N+1) (h2X:2≤X.length) (h2Y:2≤Y.length) (ha:a=P.length) (hm:m=a+X.length) (hb:b=m+Y.length) (hn:n=(P++(X++(Y++Q))).length) (hX:SortedC X) (hY:SortedC Y)
  (h:Arr w B g c (P++(X++(Y++Q)))) (hr:Rws w g (X++Y)) (hbig:n≤1000000000) :
  Calls Try.prog 67 #[.slice (some ⟨g,0,none⟩) n c, .int .i64 a, .int .i64 m, .int .i64 b, .func (.func 40) #[] #[]] w (SymRes B g c P (X++Y) Q w):=by
 obtain ⟨L,hL⟩ : ∃ L,L=P++(X++(Y++Q)):=⟨_,rfl⟩
 have hbn:b≤n:=by rw [hb,hm,ha,hn];simp only [List.length_append];omega
 obtain ⟨mid,hmid⟩ : ∃ q,q=(a+b) / 2:=⟨_,rfl⟩
 obtain ⟨nn,hnn⟩ : ∃ q,q=mid+m:=⟨_,rfl⟩
 obtain ⟨p,hp⟩ : ∃ p,nn=p+1:=⟨nn - 1,by omega⟩
 have HA:=Lib.hid ha
 have HB:=Lib.hid hb
 have HM:=Lib.hid hm
 have HL:=Lib.hid hL
 have HX:=Lib.hid hX
 have HY:=Lib.hid hY
 have HR:=Lib.hid hr
 have HMID:=Lib.hid hmid
 have HNN:=Lib.hid hnn
 have HPP:=Lib.hid hp
 have HLEN:=Lib.hid hlen
 have HN0:=Lib.hid hn
 have HN:Hid (n=L.length):=Lib.hid (by rw [hL];exact hn)
 have H:Hid (Arr w B g c L):=Lib.hid (by rw [hL];exact h)
 have e1:((m:Int) - (a:Int)==1)=false:=by rw [beq_eq_false_iff_ne];omega
 have e2:((b:Int) - (m:Int)==1)=false:=by rw [beq_eq_false_iff_ne];omega
 have e3:((a:Int)+(b:Int)) / 2=(mid:Int):=by omega
 have e4:(mid:Int)+(m:Int)=(nn:Int):=by omega
 have e5:(nn:Int) - 1=(p:Int):=by omega
 have ham:a+2≤m:=by omega
 have hmb:m+2≤b:=by omega
 have ha1:2 * mid≤a+b:=by omega
 have ha2:a+b≤2 * mid+1:=by omega
 have hp1:mid+m≤p+1:=by omega
 have hp2:p+1≤mid+m:=by omega
 have hnp:nn≤p+1:=by omega
 have hpn:p+1≤nn:=by omega
 clear hlen h2X h2Y ha hm hb hn hX hY h hr hL hmid hnn hp
 go_enter Try.func67,Try.ntmps67
 by_cases hc:mid<m
 ·obtain ⟨lo,hlo⟩ : ∃ lo,lo=nn - b:=⟨_,rfl⟩
  have e6:(nn:Int) - (b:Int)=(lo:Int):=by omega
  have HC:Hid (mid<m∧lo=nn - b):=Lib.hid ⟨hc,hlo⟩
  have hl1:nn≤lo+b:=by omega
  have hl2:lo+b≤nn:=by omega
  clear hlo
  go_wp2
  go_loopg [20,21] (mid - lo) (fun z u v wr => ∃ s r:Nat,z=r - s∧u = .int .i64 s∧v = .int .i64 r∧lo≤s∧s≤r∧r≤mid∧Hid (GenIn L nn p lo mid s r)∧Ext w wr)
  case atStart=>exact ⟨lo,mid,rfl,rfl,rfl,Nat.le_refl _,by omega,Nat.le_refl _,Lib.hid ⟨fun h=>absurd h (Nat.lt_irrefl _),fun h=>absurd h (Nat.lt_irrefl _)⟩,Ext.refl _⟩
  case round =>
   obtain ⟨s,r,rfl,rfl,rfl,h1,h2,h3,HO,er⟩:=hrel
   by_cases hlt:s<r
   ·obtain ⟨q,hq⟩ : ∃ q,q=(s+r) / 2:=⟨_,rfl⟩
    have hqi:s≤q:=by omega
    have hqj:q<r:=by omega
    have hqq:((s:Int)+(r:Int)) / 2=(q:Int):=by omega
    obtain ⟨t,ht⟩ : ∃ t,t=p - q:=⟨_,rfl⟩
    have hpq:(p:Int) - (q:Int)=(t:Int):=by omega
    have hqm:a≤q∧q<m:=by omega
    have htm:m≤t∧t<b:=by omega
    have hqn:q<n:=by omega
    have htn:t<n:=by omega
    have hA:=H.out.ext er
    obtain ⟨px0,px1,px2,px3⟩:=hA.at (i:=q) (by rw [← HN.out];exact hqn)
    obtain ⟨py0,py1,py2,py3⟩:=hA.at (i:=t) (by rw [← HN.out];exact htn)
    have hmx:L.getD q Ud.zero∈X++Y:=List.mem_append_left _ (by
     rw [HL.out]
     exact mem_mid (by rw [← HA.out];exact hqm.1) (by rw [← HA.out, ← HM.out];exact hqm.2))
    have hmy:L.getD t Ud.zero∈X++Y:=List.mem_append_right _ (by
     rw [HL.out]
     have:=mem_mid (P:=P++X) (X:=Y) (R:=Q) (i:=t) (by rw [List.length_append, ← HA.out, ← HM.out];exact htm.1) (by rw [List.length_append, ← HA.out, ← HM.out, ← HB.out];exact htm.2)
     rwa [List.append_assoc] at this)
    obtain ⟨x,hx⟩ : ∃ x,x=L.getD q Ud.zero:=⟨_,rfl⟩
    obtain ⟨y,hy⟩ : ∃ y,y=L.getD t Ud.zero:=⟨_,rfl⟩
    rw [← hx] at px0 px1 px2 px3 hmx
    rw [← hy] at py0 py1 py2 py3 hmy
    have HXQ:=Lib.hid hx
    have HYQ:=Lib.hid hy
    have HT:=Lib.hid ht
    obtain ⟨nx,hnx⟩ : ∃ nx,nx=x.l.length:=⟨_,rfl⟩
    obtain ⟨tx,htx⟩ : ∃ tx,tx=x.t.l.length:=⟨_,rfl⟩
    obtain ⟨ny,hny⟩ : ∃ ny,ny=y.l.length:=⟨_,rfl⟩
    obtain ⟨ty,hty⟩ : ∃ ty,ty=y.t.l.length:=⟨_,rfl⟩
    rw [← hnx] at px0;rw [← htx] at px2
    rw [← hny] at py0;rw [← hty] at py2
    have HNX:=Lib.hid hnx
    have HTX:=Lib.hid htx
    have HNY:=Lib.hid hny
    have HTY:=Lib.hid hty
    have XE:Ext wr wr.drew:=(Ext.refl wr).drew
    have HRX:=Lib.hid (((HR.out x hmx).1.ext er).ext XE)
    have HRY:=Lib.hid (((HR.out y hmy).1.ext er).ext XE)
    obtain ⟨v,hv⟩ : ∃ v,cmpC y x=v:=⟨_,rfl⟩
    have HV:=Lib.hid hv
    have PY0 : ∀ z:Xt wr.drew,z.W.cell? ⟨g,t * 4,none⟩=some (.slice y.A ny y.c):=fun z=>(XE.trans z.x).cell py0
    have PY1 : ∀ z:Xt wr.drew,z.W.cell? ⟨g,t * 4+1,none⟩=some (.int .u64 y.t.e):=fun z=>(XE.trans z.x).cell py1
    have PY2 : ∀ z:Xt wr.drew,z.W.cell? ⟨g,t * 4+2,none⟩=some (.slice y.t.A ty y.t.c):=fun z=>(XE.trans z.x).cell py2
    have PY3 : ∀ z:Xt wr.drew,z.W.cell? ⟨g,t * 4+3,none⟩=some (.int .i64 y.d):=fun z=>(XE.trans z.x).cell py3
    have PX0 : ∀ z:Xt wr.drew,z.W.cell? ⟨g,q * 4,none⟩=some (.slice x.A nx x.c):=fun z=>(XE.trans z.x).cell px0
    have PX1 : ∀ z:Xt wr.drew,z.W.cell? ⟨g,q * 4+1,none⟩=some (.int .u64 x.t.e):=fun z=>(XE.trans z.x).cell px1
    have PX2 : ∀ z:Xt wr.drew,z.W.cell? ⟨g,q * 4+2,none⟩=some (.slice x.t.A tx x.t.c):=fun z=>(XE.trans z.x).cell px2
    have PX3 : ∀ z:Xt wr.drew,z.W.cell? ⟨g,q * 4+3,none⟩=some (.int .i64 x.d):=fun z=>(XE.trans z.x).cell px3
    clear hA hx hy hmx hmy hnx hny htx hty hv hq ht
    by_cases hv0:v<0
    ·have zv:decide (v<0)=true:=by simpa using hv0
     go_upto_region 35 with fail
     refine wp_region_ord [0,0,0,0,12,30,62,0,0,384,896,2047,4095,8191] (.flo [0,1,2,3,4,5,6,7,8,9,10] (.one 11 (.flo [12,13] (.fin)))) (by kernel_rfl) (by kernel_rfl) (by intro _ _ d _ _ h;cases d<;>exact h) ?_
     (refine ord_flo (pick_cons rfl (pick_cons rfl (pick_cons rfl (pick_cons rfl (pick_cons rfl (pick_cons rfl (pick_cons rfl (pick_cons rfl (pick_cons rfl (pick_cons rfl (pick_cons rfl pick_nil))))))))))) ?_;(repeat (go_big_quiet_step (fail)));refine wpQuiet_nil ?_;show ordWalk _ _ _ _ _ _ _)
     refine ord_one (pick_cons rfl pick_nil) ?_;intro K_ hK_
     go_wp2_with (go_at_call 40;refine (order_any y x ny nx ty tx v _ HV HNY HNX HTY HTX HRY HRX).mono ?_;rintro e w1 ⟨rfl,x1⟩)
     (refine ord_flo (pick_cons rfl (pick_cons rfl pick_nil)) ?_;(repeat (go_big_quiet_step (fail)));refine wpQuiet_nil ?_;show ordWalk _ _ _ _ _ _ _)
     refine ord_fin ?_
     go_wp2
     go_roundg (q - s)
     case measure=>omega
     case rel=>exact ⟨s,q,rfl,rfl,rfl,h1,hqi,by omega,Lib.hid ⟨HO.out.1,fun _=>by rw [← HT.out, ← HYQ.out, ← HXQ.out];show cmpC y x<0;rw [HV.out];exact hv0⟩,er.trans (XE.trans x1)⟩
    ·have zv:decide (v<0)=false:=by simpa using hv0
     go_upto_region 35 with fail
     refine wp_region_ord [0,0,0,0,12,30,62,0,0,384,896,2047,4095,8191] (.flo [0,1,2,3,4,5,6,7,8,9,10] (.one 11 (.flo [12,13] (.fin)))) (by kernel_rfl) (by kernel_rfl) (by intro _ _ d _ _ h;cases d<;>exact h) ?_
     (refine ord_flo (pick_cons rfl (pick_cons rfl (pick_cons rfl (pick_cons rfl (pick_cons rfl (pick_cons rfl (pick_cons rfl (pick_cons rfl (pick_cons rfl (pick_cons rfl (pick_cons rfl pick_nil))))))))))) ?_;(repeat (go_big_quiet_step (fail)));refine wpQuiet_nil ?_;show ordWalk _ _ _ _ _ _ _)
     refine ord_one (pick_cons rfl pick_nil) ?_;intro K_ hK_
     go_wp2_with (go_at_call 40;refine (order_any y x ny nx ty tx v _ HV HNY HNX HTY HTX HRY HRX).mono ?_;rintro e w1 ⟨rfl,x1⟩)
     (refine ord_flo (pick_cons rfl (pick_cons rfl pick_nil)) ?_;(repeat (go_big_quiet_step (fail)));refine wpQuiet_nil ?_;show ordWalk _ _ _ _ _ _ _)
     refine ord_fin ?_
     go_wp2
     go_roundg (r - (q+1))
     case measure=>omega
     case rel=>exact ⟨q+1,r,rfl,by go_num,rfl,by omega,by omega,h3,Lib.hid ⟨fun _=>by rw [show nn - (q+1)=t by have:=HT.out;omega,Nat.add_sub_cancel, ← HYQ.out, ← HXQ.out];show ¬ cmpC y x<0;rw [HV.out];omega,HO.out.2⟩,er.trans (XE.trans x1)⟩
   ·obtain rfl:s=r:=by omega
    obtain ⟨X1,X2,Y1,Y2,k1,k2,k3,k4,k5,k6,k7⟩:=sym_split HL.out HA.out HM.out HB.out HMID.out HNN.out HPP.out (.inl ⟨HC.out.1,HC.out.2,rfl⟩) h1 h3 HO.out.1 HO.out.2
    obtain ⟨en,hen⟩ : ∃ en,en=nn - s:=⟨_,rfl⟩
    have e7:(nn:Int) - (s:Int)=(en:Int):=by omega
    have hsb:s≤b:=by omega
    have henb:en≤b:=by omega
    have HF:Hid (SymF N g n a m b mid en s P X X1 X2 Y Y1 Y2 Q w):=Lib.hid ⟨k1,k2,HA.out,k3,HM.out,HB.out,by rw [hen];exact k4,k5,HMID.out,HN0.out,HX.out,HY.out,HR.out,k6,k7,hbig,HLEN.out,by have:=HM.out;have:=HB.out;omega⟩
    have HA1:Hid (Arr wr B g c (P++(X++(Y++Q)))):=Lib.hid (by have:=H.out.ext er;rwa [HL.out] at this)
    have HUP:Hid (w.grownBy wr (some g)):=Lib.hid (upd_ext er g)
    clear k1 k2 k3 k4 k5 k6 k7 hen HO
    obtain ⟨f1,f2,f3,f4,f5,f6⟩:=HF.out.flags
    rw [show (0<X2.length)=(0<X2.length∧True) by simp] at f1 f5
    rw [show (0<Y1.length)=(0<Y1.length∧True) by simp] at f2 f4
    rw [show (0<X1.length)=(0<X1.length∧True) by simp] at f3
    rw [show (0<Y2.length)=(0<Y2.length∧True) by simp] at f6
    by_cases b1:0<X1.length∧True
    ·have B1:=Lib.hid b1
     clear b1
     by_cases b2:0<X2.length∧True
     ·have B2:=Lib.hid b2
      clear b2
      by_cases b3:0<Y1.length∧True
      ·have B3:=Lib.hid b3
       clear b3
       by_cases b4:0<Y2.length∧True
       ·have B4:=Lib.hid b4
        clear b4
        have s1:=f1.2 B2.out
        have s2:=f2.2 B3.out
        have s3:=f3.2 B1.out
        have s4:=f4.2 B3.out
        have s5:=f5.2 B2.out
        have s6:=f6.2 B4.out
        clear f1 f2 f3 f4 f5 f6
        go_wp2_with (first | (go_at_call 76;refine (HF.out.rot HA1.out HUP.out B2.out.1 B3.out.1).mono ?_;rintro e w2 ⟨rfl,q2⟩;have HS:=Lib.hid q2;clear q2) | (go_at_call 67;refine (HF.out.right IH.out HMD.out B2.out.1 B4.out.1).mono ?_;rintro e w4 ⟨rfl,q4⟩;have HE:=Lib.hid q4;clear q4) | (go_at_call 67;refine (HF.out.left IH.out HS.out B1.out.1 B3.out.1).mono ?_;rintro e w3 ⟨rfl,q3⟩;have HMD:=Lib.hid q3;clear q3))
        all_goals go_end0
        all_goals exact ⟨rfl,HE.out⟩
       ·have B4:=Lib.hid b4
        clear b4
        have s1:=f1.2 B2.out
        have s2:=f2.2 B3.out
        have s3:=f3.2 B1.out
        have s4:=f4.2 B3.out
        have s5:=f5.2 B2.out
        have s6:=fun q=>B4.out (f6.1 q)
        clear f1 f2 f3 f4 f5 f6
        go_wp2_with (first | (go_at_call 76;refine (HF.out.rot HA1.out HUP.out B2.out.1 B3.out.1).mono ?_;rintro e w2 ⟨rfl,q2⟩;have HS:=Lib.hid q2;clear q2) | (go_at_call 67;refine (HF.out.left IH.out HS.out B1.out.1 B3.out.1).mono ?_;rintro e w3 ⟨rfl,q3⟩;have HMD:=Lib.hid q3;clear q3))
        all_goals go_end0
        all_goals exact HF.out.right0 HMD.out (.inr fun q=>B4.out ⟨q,trivial⟩)
      ·have B3:=Lib.hid b3
       clear b3
       by_cases b4:0<Y2.length∧True
       ·have B4:=Lib.hid b4
        clear b4
        have s1:=f1.2 B2.out
        have s2:=fun q=>B3.out (f2.1 q)
        have s3:=f3.2 B1.out
        have s4:=fun q=>B3.out (f4.1 q)
        have s5:=f5.2 B2.out
        have s6:=f6.2 B4.out
        clear f1 f2 f3 f4 f5 f6
        have HS:Hid (SymAt B g c P X1 Y1 X2 Y2 Q w wr):=Lib.hid (HF.out.still HA1.out HUP.out (.inr fun q=>B3.out ⟨q,trivial⟩))
        go_wp2_with (go_at_call 67;refine (HF.out.right IH.out (HF.out.left0 HS.out (.inr fun q=>B3.out ⟨q,trivial⟩)) B2.out.1 B4.out.1).mono ?_;rintro e w4 ⟨rfl,q4⟩;have HE:=Lib.hid q4;clear q4)
        all_goals go_end0
        all_goals exact ⟨rfl,HE.out⟩
       ·have B4:=Lib.hid b4
        clear b4
        exfalso
        have h1 : ¬ 0<Y1.length:=fun q=>B3.out ⟨q,trivial⟩
        have h2 : ¬ 0<Y2.length:=fun q=>B4.out ⟨q,trivial⟩
        have h3:=HF.out.lens
        have h4:=HM.out
        have h5:=HB.out
        omega
     ·have B2:=Lib.hid b2
      clear b2
      by_cases b3:0<Y1.length∧True
      ·have B3:=Lib.hid b3
       clear b3
       by_cases b4:0<Y2.length∧True
       ·have B4:=Lib.hid b4
        clear b4
        have s1:=fun q=>B2.out (f1.1 q)
        have s2:=f2.2 B3.out
        have s3:=f3.2 B1.out
        have s4:=f4.2 B3.out
        have s5:=fun q=>B2.out (f5.1 q)
        have s6:=f6.2 B4.out
        clear f1 f2 f3 f4 f5 f6
        have HS:Hid (SymAt B g c P X1 Y1 X2 Y2 Q w wr):=Lib.hid (HF.out.still HA1.out HUP.out (.inl fun q=>B2.out ⟨q,trivial⟩))
        go_wp2_with (go_at_call 67;refine (HF.out.left IH.out HS.out B1.out.1 B3.out.1).mono ?_;rintro e w3 ⟨rfl,q3⟩;have HMD:=Lib.hid q3;clear q3)
        all_goals go_end0
        all_goals exact HF.out.right0 HMD.out (.inl fun q=>B2.out ⟨q,trivial⟩)
       ·have B4:=Lib.hid b4
        clear b4
        have s1:=fun q=>B2.out (f1.1 q)
        have s2:=f2.2 B3.out
        have s3:=f3.2 B1.out
        have s4:=f4.2 B3.out
        have s5:=fun q=>B2.out (f5.1 q)
        have s6:=fun q=>B4.out (f6.1 q)
        clear f1 f2 f3 f4 f5 f6
        have HS:Hid (SymAt B g c P X1 Y1 X2 Y2 Q w wr):=Lib.hid (HF.out.still HA1.out HUP.out (.inl fun q=>B2.out ⟨q,trivial⟩))
        go_wp2_with (go_at_call 67;refine (HF.out.left IH.out HS.out B1.out.1 B3.out.1).mono ?_;rintro e w3 ⟨rfl,q3⟩;have HMD:=Lib.hid q3;clear q3)
        all_goals go_end0
        all_goals exact HF.out.right0 HMD.out (.inl fun q=>B2.out ⟨q,trivial⟩)
      ·have B3:=Lib.hid b3
       clear b3
       by_cases b4:0<Y2.length∧True
       ·have B4:=Lib.hid b4
        clear b4
        have s1:=fun q=>B2.out (f1.1 q)
        have s2:=fun q=>B3.out (f2.1 q)
        have s3:=f3.2 B1.out
        have s4:=fun q=>B3.out (f4.1 q)
        have s5:=fun q=>B2.out (f5.1 q)
        have s6:=f6.2 B4.out
        clear f1 f2 f3 f4 f5 f6
        have HS:Hid (SymAt B g c P X1 Y1 X2 Y2 Q w wr):=Lib.hid (HF.out.still HA1.out HUP.out (.inl fun q=>B2.out ⟨q,trivial⟩))
        go_wp2
        all_goals go_end0
        all_goals exact HF.out.right0 (HF.out.left0 HS.out (.inr fun q=>B3.out ⟨q,trivial⟩)) (.inl fun q=>B2.out ⟨q,trivial⟩)
       ·have B4:=Lib.hid b4
        clear b4
        exfalso
        have h1 : ¬ 0<Y1.length:=fun q=>B3.out ⟨q,trivial⟩
        have h2 : ¬ 0<Y2.length:=fun q=>B4.out ⟨q,trivial⟩
        have h3:=HF.out.lens
        have h4:=HM.out
        have h5:=HB.out
        omega
    ·have B1:=Lib.hid b1
     clear b1
     by_cases b2:0<X2.length∧True
     ·have B2:=Lib.hid b2
      clear b2
      by_cases b3:0<Y1.length∧True
      ·have B3:=Lib.hid b3
       clear b3
       by_cases b4:0<Y2.length∧True
       ·have B4:=Lib.hid b4
        clear b4
        have s1:=f1.2 B2.out
        have s2:=f2.2 B3.out
        have s3:=fun q=>B1.out (f3.1 q)
        have s4:=f4.2 B3.out
        have s5:=f5.2 B2.out
        have s6:=f6.2 B4.out
        clear f1 f2 f3 f4 f5 f6
        go_wp2_with (first | (go_at_call 76;refine (HF.out.rot HA1.out HUP.out B2.out.1 B3.out.1).mono ?_;rintro e w2 ⟨rfl,q2⟩;have HS:=Lib.hid q2;clear q2) | (go_at_call 67;refine (HF.out.right IH.out (HF.out.left0 HS.out (.inl fun q=>B1.out ⟨q,trivial⟩)) B2.out.1 B4.out.1).mono ?_;rintro e w4 ⟨rfl,q4⟩;have HE:=Lib.hid q4;clear q4))
        all_goals go_end0
        all_goals exact ⟨rfl,HE.out⟩
       ·have B4:=Lib.hid b4
        clear b4
        have s1:=f1.2 B2.out
        have s2:=f2.2 B3.out
        have s3:=fun q=>B1.out (f3.1 q)
        have s4:=f4.2 B3.out
        have s5:=f5.2 B2.out
        have s6:=fun q=>B4.out (f6.1 q)
        clear f1 f2 f3 f4 f5 f6
        go_wp2_with (go_at_call 76;refine (HF.out.rot HA1.out HUP.out B2.out.1 B3.out.1).mono ?_;rintro e w2 ⟨rfl,q2⟩;have HS:=Lib.hid q2;clear q2)
        all_goals go_end0
        all_goals exact HF.out.right0 (HF.out.left0 HS.out (.inl fun q=>B1.out ⟨q,trivial⟩)) (.inr fun q=>B4.out ⟨q,trivial⟩)
      ·have B3:=Lib.hid b3
       clear b3
       by_cases b4:0<Y2.length∧True
       ·have B4:=Lib.hid b4
        clear b4
        have s1:=f1.2 B2.out
        have s2:=fun q=>B3.out (f2.1 q)
        have s3:=fun q=>B1.out (f3.1 q)
        have s4:=fun q=>B3.out (f4.1 q)
        have s5:=f5.2 B2.out
        have s6:=f6.2 B4.out
        clear f1 f2 f3 f4 f5 f6
        have HS:Hid (SymAt B g c P X1 Y1 X2 Y2 Q w wr):=Lib.hid (HF.out.still HA1.out HUP.out (.inr fun q=>B3.out ⟨q,trivial⟩))
        go_wp2_with (go_at_call 67;refine (HF.out.right IH.out (HF.out.left0 HS.out (.inl fun q=>B1.out ⟨q,trivial⟩)) B2.out.1 B4.out.1).mono ?_;rintro e w4 ⟨rfl,q4⟩;have HE:=Lib.hid q4;clear q4)
        all_goals go_end0
        all_goals exact ⟨rfl,HE.out⟩
       ·have B4:=Lib.hid b4
        clear b4
        exfalso
        have h1 : ¬ 0<Y1.length:=fun q=>B3.out ⟨q,trivial⟩
        have h2 : ¬ 0<Y2.length:=fun q=>B4.out ⟨q,trivial⟩
        have h3:=HF.out.lens
        have h4:=HM.out
        have h5:=HB.out
        omega
     ·have B2:=Lib.hid b2
      clear b2
      by_cases b3:0<Y1.length∧True
      ·have B3:=Lib.hid b3
       clear b3
       by_cases b4:0<Y2.length∧True
       ·have B4:=Lib.hid b4
        clear b4
        exfalso
        have h1 : ¬ 0<X1.length:=fun q=>B1.out ⟨q,trivial⟩
        have h2 : ¬ 0<X2.length:=fun q=>B2.out ⟨q,trivial⟩
        have h3:=HF.out.lens
        have h4:=HM.out
        have h5:=HB.out
        omega
       ·have B4:=Lib.hid b4
        clear b4
        exfalso
        have h1 : ¬ 0<X1.length:=fun q=>B1.out ⟨q,trivial⟩
        have h2 : ¬ 0<X2.length:=fun q=>B2.out ⟨q,trivial⟩
        have h3:=HF.out.lens
        have h4:=HM.out
        have h5:=HB.out
        omega
      ·have B3:=Lib.hid b3
       clear b3
       by_cases b4:0<Y2.length∧True
       ·have B4:=Lib.hid b4
        clear b4
        exfalso
        have h1 : ¬ 0<X1.length:=fun q=>B1.out ⟨q,trivial⟩
        have h2 : ¬ 0<X2.length:=fun q=>B2.out ⟨q,trivial⟩
        have h3:=HF.out.lens
        have h4:=HM.out
        have h5:=HB.out
        omega
       ·have B4:=Lib.hid b4
        clear b4
        exfalso
        have h1 : ¬ 0<X1.length:=fun q=>B1.out ⟨q,trivial⟩
        have h2 : ¬ 0<X2.length:=fun q=>B2.out ⟨q,trivial⟩
        have h3:=HF.out.lens
        have h4:=HM.out
        have h5:=HB.out
        omega
 ·have HC:Hid (m≤mid):=Lib.hid (by omega)
  go_wp2
  go_loopg [20,21] (m - a) (fun z u v wr => ∃ s r:Nat,z=r - s∧u = .int .i64 s∧v = .int .i64 r∧a≤s∧s≤r∧r≤m∧Hid (GenIn L nn p a m s r)∧Ext w wr)
  case atStart=>exact ⟨a,m,rfl,rfl,rfl,Nat.le_refl _,by omega,Nat.le_refl _,Lib.hid ⟨fun h=>absurd h (Nat.lt_irrefl _),fun h=>absurd h (Nat.lt_irrefl _)⟩,Ext.refl _⟩
  case round =>
   obtain ⟨s,r,rfl,rfl,rfl,h1,h2,h3,HO,er⟩:=hrel
   by_cases hlt:s<r
   ·obtain ⟨q,hq⟩ : ∃ q,q=(s+r) / 2:=⟨_,rfl⟩
    have hqi:s≤q:=by omega
    have hqj:q<r:=by omega
    have hqq:((s:Int)+(r:Int)) / 2=(q:Int):=by omega
    obtain ⟨t,ht⟩ : ∃ t,t=p - q:=⟨_,rfl⟩
    have hpq:(p:Int) - (q:Int)=(t:Int):=by omega
    have hqm:a≤q∧q<m:=by omega
    have htm:m≤t∧t<b:=by omega
    have hqn:q<n:=by omega
    have htn:t<n:=by omega
    have hA:=H.out.ext er
    obtain ⟨px0,px1,px2,px3⟩:=hA.at (i:=q) (by rw [← HN.out];exact hqn)
    obtain ⟨py0,py1,py2,py3⟩:=hA.at (i:=t) (by rw [← HN.out];exact htn)
    have hmx:L.getD q Ud.zero∈X++Y:=List.mem_append_left _ (by
     rw [HL.out]
     exact mem_mid (by rw [← HA.out];exact hqm.1) (by rw [← HA.out, ← HM.out];exact hqm.2))
    have hmy:L.getD t Ud.zero∈X++Y:=List.mem_append_right _ (by
     rw [HL.out]
     have:=mem_mid (P:=P++X) (X:=Y) (R:=Q) (i:=t) (by rw [List.length_append, ← HA.out, ← HM.out];exact htm.1) (by rw [List.length_append, ← HA.out, ← HM.out, ← HB.out];exact htm.2)
     rwa [List.append_assoc] at this)
    obtain ⟨x,hx⟩ : ∃ x,x=L.getD q Ud.zero:=⟨_,rfl⟩
    obtain ⟨y,hy⟩ : ∃ y,y=L.getD t Ud.zero:=⟨_,rfl⟩
    rw [← hx] at px0 px1 px2 px3 hmx
    rw [← hy] at py0 py1 py2 py3 hmy
    have HXQ:=Lib.hid hx
    have HYQ:=Lib.hid hy
    have HT:=Lib.hid ht
    obtain ⟨nx,hnx⟩ : ∃ nx,nx=x.l.length:=⟨_,rfl⟩
    obtain ⟨tx,htx⟩ : ∃ tx,tx=x.t.l.length:=⟨_,rfl⟩
    obtain ⟨ny,hny⟩ : ∃ ny,ny=y.l.length:=⟨_,rfl⟩
    obtain ⟨ty,hty⟩ : ∃ ty,ty=y.t.l.length:=⟨_,rfl⟩
    rw [← hnx] at px0;rw [← htx] at px2
    rw [← hny] at py0;rw [← hty] at py2
    have HNX:=Lib.hid hnx
    have HTX:=Lib.hid htx
    have HNY:=Lib.hid hny
    have HTY:=Lib.hid hty
    have XE:Ext wr wr.drew:=(Ext.refl wr).drew
    have HRX:=Lib.hid (((HR.out x hmx).1.ext er).ext XE)
    have HRY:=Lib.hid (((HR.out y hmy).1.ext er).ext XE)
    obtain ⟨v,hv⟩ : ∃ v,cmpC y x=v:=⟨_,rfl⟩
    have HV:=Lib.hid hv
    have PY0 : ∀ z:Xt wr.drew,z.W.cell? ⟨g,t * 4,none⟩=some (.slice y.A ny y.c):=fun z=>(XE.trans z.x).cell py0
    have PY1 : ∀ z:Xt wr.drew,z.W.cell? ⟨g,t * 4+1,none⟩=some (.int .u64 y.t.e):=fun z=>(XE.trans z.x).cell py1
    have PY2 : ∀ z:Xt wr.drew,z.W.cell? ⟨g,t * 4+2,none⟩=some (.slice y.t.A ty y.t.c):=fun z=>(XE.trans z.x).cell py2
    have PY3 : ∀ z:Xt wr.drew,z.W.cell? ⟨g,t * 4+3,none⟩=some (.int .i64 y.d):=fun z=>(XE.trans z.x).cell py3
    have PX0 : ∀ z:Xt wr.drew,z.W.cell? ⟨g,q * 4,none⟩=some (.slice x.A nx x.c):=fun z=>(XE.trans z.x).cell px0
    have PX1 : ∀ z:Xt wr.drew,z.W.cell? ⟨g,q * 4+1,none⟩=some (.int .u64 x.t.e):=fun z=>(XE.trans z.x).cell px1
    have PX2 : ∀ z:Xt wr.drew,z.W.cell? ⟨g,q * 4+2,none⟩=some (.slice x.t.A tx x.t.c):=fun z=>(XE.trans z.x).cell px2
    have PX3 : ∀ z:Xt wr.drew,z.W.cell? ⟨g,q * 4+3,none⟩=some (.int .i64 x.d):=fun z=>(XE.trans z.x).cell px3
    clear hA hx hy hmx hmy hnx hny htx hty hv hq ht
    by_cases hv0:v<0
    ·have zv:decide (v<0)=true:=by simpa using hv0
     go_upto_region 35 with fail
     refine wp_region_ord [0,0,0,0,12,30,62,0,0,384,896,2047,4095,8191] (.flo [0,1,2,3,4,5,6,7,8,9,10] (.one 11 (.flo [12,13] (.fin)))) (by kernel_rfl) (by kernel_rfl) (by intro _ _ d _ _ h;cases d<;>exact h) ?_
     (refine ord_flo (pick_cons rfl (pick_cons rfl (pick_cons rfl (pick_cons rfl (pick_cons rfl (pick_cons rfl (pick_cons rfl (pick_cons rfl (pick_cons rfl (pick_cons rfl (pick_cons rfl pick_nil))))))))))) ?_;(repeat (go_big_quiet_step (fail)));refine wpQuiet_nil ?_;show ordWalk _ _ _ _ _ _ _)
     refine ord_one (pick_cons rfl pick_nil) ?_;intro K_ hK_
     go_wp2_with (go_at_call 40;refine (order_any y x ny nx ty tx v _ HV HNY HNX HTY HTX HRY HRX).mono ?_;rintro e w1 ⟨rfl,x1⟩)
     (refine ord_flo (pick_cons rfl (pick_cons rfl pick_nil)) ?_;(repeat (go_big_quiet_step (fail)));refine wpQuiet_nil ?_;show ordWalk _ _ _ _ _ _ _)
     refine ord_fin ?_
     go_wp2
     go_roundg (q - s)
     case measure=>omega
     case rel=>exact ⟨s,q,rfl,rfl,rfl,h1,hqi,by omega,Lib.hid ⟨HO.out.1,fun _=>by rw [← HT.out, ← HYQ.out, ← HXQ.out];show cmpC y x<0;rw [HV.out];exact hv0⟩,er.trans (XE.trans x1)⟩
    ·have zv:decide (v<0)=false:=by simpa using hv0
     go_upto_region 35 with fail
     refine wp_region_ord [0,0,0,0,12,30,62,0,0,384,896,2047,4095,8191] (.flo [0,1,2,3,4,5,6,7,8,9,10] (.one 11 (.flo [12,13] (.fin)))) (by kernel_rfl) (by kernel_rfl) (by intro _ _ d _ _ h;cases d<;>exact h) ?_
     (refine ord_flo (pick_cons rfl (pick_cons rfl (pick_cons rfl (pick_cons rfl (pick_cons rfl (pick_cons rfl (pick_cons rfl (pick_cons rfl (pick_cons rfl (pick_cons rfl (pick_cons rfl pick_nil))))))))))) ?_;(repeat (go_big_quiet_step (fail)));refine wpQuiet_nil ?_;show ordWalk _ _ _ _ _ _ _)
     refine ord_one (pick_cons rfl pick_nil) ?_;intro K_ hK_
     go_wp2_with (go_at_call 40;refine (order_any y x ny nx ty tx v _ HV HNY HNX HTY HTX HRY HRX).mono ?_;rintro e w1 ⟨rfl,x1⟩)
     (refine ord_flo (pick_cons rfl (pick_cons rfl pick_nil)) ?_;(repeat (go_big_quiet_step (fail)));refine wpQuiet_nil ?_;show ordWalk _ _ _ _ _ _ _)
     refine ord_fin ?_
     go_wp2
     go_roundg (r - (q+1))
     case measure=>omega
     case rel=>exact ⟨q+1,r,rfl,by go_num,rfl,by omega,by omega,h3,Lib.hid ⟨fun _=>by rw [show nn - (q+1)=t by have:=HT.out;omega,Nat.add_sub_cancel, ← HYQ.out, ← HXQ.out];show ¬ cmpC y x<0;rw [HV.out];omega,HO.out.2⟩,er.trans (XE.trans x1)⟩
   ·obtain rfl:s=r:=by omega
    obtain ⟨X1,X2,Y1,Y2,k1,k2,k3,k4,k5,k6,k7⟩:=sym_split HL.out HA.out HM.out HB.out HMID.out HNN.out HPP.out (.inr ⟨HC.out,rfl,rfl⟩) h1 h3 HO.out.1 HO.out.2
    obtain ⟨en,hen⟩ : ∃ en,en=nn - s:=⟨_,rfl⟩
    have e7:(nn:Int) - (s:Int)=(en:Int):=by omega
    have hsb:s≤b:=by omega
    have henb:en≤b:=by omega
    have HF:Hid (SymF N g n a m b mid en s P X X1 X2 Y Y1 Y2 Q w):=Lib.hid ⟨k1,k2,HA.out,k3,HM.out,HB.out,by rw [hen];exact k4,k5,HMID.out,HN0.out,HX.out,HY.out,HR.out,k6,k7,hbig,HLEN.out,by have:=HM.out;have:=HB.out;omega⟩
    have HA1:Hid (Arr wr B g c (P++(X++(Y++Q)))):=Lib.hid (by have:=H.out.ext er;rwa [HL.out] at this)
    have HUP:Hid (w.grownBy wr (some g)):=Lib.hid (upd_ext er g)
    clear k1 k2 k3 k4 k5 k6 k7 hen HO
    obtain ⟨f1,f2,f3,f4,f5,f6⟩:=HF.out.flags
    rw [show (0<X2.length)=(0<X2.length∧True) by simp] at f1 f5
    rw [show (0<Y1.length)=(0<Y1.length∧True) by simp] at f2 f4
    rw [show (0<X1.length)=(0<X1.length∧True) by simp] at f3
    rw [show (0<Y2.length)=(0<Y2.length∧True) by simp] at f6
    by_cases b1:0<X1.length∧True
    ·have B1:=Lib.hid b1
     clear b1
     by_cases b2:0<X2.length∧True
     ·have B2:=Lib.hid b2
      clear b2
      by_cases b3:0<Y1.length∧True
      ·have B3:=Lib.hid b3
       clear b3
       by_cases b4:0<Y2.length∧True
       ·have B4:=Lib.hid b4
        clear b4
        have s1:=f1.2 B2.out
        have s2:=f2.2 B3.out
        have s3:=f3.2 B1.out
        have s4:=f4.2 B3.out
        have s5:=f5.2 B2.out
        have s6:=f6.2 B4.out
        clear f1 f2 f3 f4 f5 f6
        go_wp2_with (first | (go_at_call 76;refine (HF.out.rot HA1.out HUP.out B2.out.1 B3.out.1).mono ?_;rintro e w2 ⟨rfl,q2⟩;have HS:=Lib.hid q2;clear q2) | (go_at_call 67;refine (HF.out.right IH.out HMD.out B2.out.1 B4.out.1).mono ?_;rintro e w4 ⟨rfl,q4⟩;have HE:=Lib.hid q4;clear q4) | (go_at_call 67;refine (HF.out.left IH.out HS.out B1.out.1 B3.out.1).mono ?_;rintro e w3 ⟨rfl,q3⟩;have HMD:=Lib.hid q3;clear q3))
        all_goals go_end0
        all_goals exact ⟨rfl,HE.out⟩
       ·have B4:=Lib.hid b4
        clear b4
        have s1:=f1.2 B2.out
        have s2:=f2.2 B3.out
        have s3:=f3.2 B1.out
        have s4:=f4.2 B3.out
        have s5:=f5.2 B2.out
        have s6:=fun q=>B4.out (f6.1 q)
        clear f1 f2 f3 f4 f5 f6
        go_wp2_with (first | (go_at_call 76;refine (HF.out.rot HA1.out HUP.out B2.out.1 B3.out.1).mono ?_;rintro e w2 ⟨rfl,q2⟩;have HS:=Lib.hid q2;clear q2) | (go_at_call 67;refine (HF.out.left IH.out HS.out B1.out.1 B3.out.1).mono ?_;rintro e w3 ⟨rfl,q3⟩;have HMD:=Lib.hid q3;clear q3))
        all_goals go_end0
        all_goals exact HF.out.right0 HMD.out (.inr fun q=>B4.out ⟨q,trivial⟩)
      ·have B3:=Lib.hid b3
       clear b3
       by_cases b4:0<Y2.length∧True
       ·have B4:=Lib.hid b4
        clear b4
        have s1:=f1.2 B2.out
        have s2:=fun q=>B3.out (f2.1 q)
        have s3:=f3.2 B1.out
        have s4:=fun q=>B3.out (f4.1 q)
        have s5:=f5.2 B2.out
        have s6:=f6.2 B4.out
        clear f1 f2 f3 f4 f5 f6
        have HS:Hid (SymAt B g c P X1 Y1 X2 Y2 Q w wr):=Lib.hid (HF.out.still HA1.out HUP.out (.inr fun q=>B3.out ⟨q,trivial⟩))
        go_wp2_with (go_at_call 67;refine (HF.out.right IH.out (HF.out.left0 HS.out (.inr fun q=>B3.out ⟨q,trivial⟩)) B2.out.1 B4.out.1).mono ?_;rintro e w4 ⟨rfl,q4⟩;have HE:=Lib.hid q4;clear q4)
        all_goals go_end0
        all_goals exact ⟨rfl,HE.out⟩
       ·have B4:=Lib.hid b4
        clear b4
        exfalso
        have h1 : ¬ 0<Y1.length:=fun q=>B3.out ⟨q,trivial⟩
        have h2 : ¬ 0<Y2.length:=fun q=>B4.out ⟨q,trivial⟩
        have h3:=HF.out.lens
        have h4:=HM.out
        have h5:=HB.out
        omega
     ·have B2:=Lib.hid b2
      clear b2
      by_cases b3:0<Y1.length∧True
      ·have B3:=Lib.hid b3
       clear b3
       by_cases b4:0<Y2.length∧True
       ·have B4:=Lib.hid b4
        clear b4
        have s1:=fun q=>B2.out (f1.1 q)
        have s2:=f2.2 B3.out
        have s3:=f3.2 B1.out
        have s4:=f4.2 B3.out
        have s5:=fun q=>B2.out (f5.1 q)
        have s6:=f6.2 B4.out
        clear f1 f2 f3 f4 f5 f6
        have HS:Hid (SymAt B g c P X1 Y1 X2 Y2 Q w wr):=Lib.hid (HF.out.still HA1.out HUP.out (.inl fun q=>B2.out ⟨q,trivial⟩))
        go_wp2_with (go_at_call 67;refine (HF.out.left IH.out HS.out B1.out.1 B3.out.1).mono ?_;rintro e w3 ⟨rfl,q3⟩;have HMD:=Lib.hid q3;clear q3)
        all_goals go_end0
        all_goals exact HF.out.right0 HMD.out (.inl fun q=>B2.out ⟨q,trivial⟩)
       ·have B4:=Lib.hid b4
        clear b4
        have s1:=fun q=>B2.out (f1.1 q)
        have s2:=f2.2 B3.out
        have s3:=f3.2 B1.out
        have s4:=f4.2 B3.out
        have s5:=fun q=>B2.out (f5.1 q)
        have s6:=fun q=>B4.out (f6.1 q)
        clear f1 f2 f3 f4 f5 f6
        have HS:Hid (SymAt B g c P X1 Y1 X2 Y2 Q w wr):=Lib.hid (HF.out.still HA1.out HUP.out (.inl fun q=>B2.out ⟨q,trivial⟩))
        go_wp2_with (go_at_call 67;refine (HF.out.left IH.out HS.out B1.out.1 B3.out.1).mono ?_;rintro e w3 ⟨rfl,q3⟩;have HMD:=Lib.hid q3;clear q3)
        all_goals go_end0
        all_goals exact HF.out.right0 HMD.out (.inl fun q=>B2.out ⟨q,trivial⟩)
      ·have B3:=Lib.hid b3
       clear b3
       by_cases b4:0<Y2.length∧True
       ·have B4:=Lib.hid b4
        clear b4
        have s1:=fun q=>B2.out (f1.1 q)
        have s2:=fun q=>B3.out (f2.1 q)
        have s3:=f3.2 B1.out
        have s4:=fun q=>B3.out (f4.1 q)
        have s5:=fun q=>B2.out (f5.1 q)
        have s6:=f6.2 B4.out
        clear f1 f2 f3 f4 f5 f6
        have HS:Hid (SymAt B g c P X1 Y1 X2 Y2 Q w wr):=Lib.hid (HF.out.still HA1.out HUP.out (.inl fun q=>B2.out ⟨q,trivial⟩))
        go_wp2
        all_goals go_end0
        all_goals exact HF.out.right0 (HF.out.left0 HS.out (.inr fun q=>B3.out ⟨q,trivial⟩)) (.inl fun q=>B2.out ⟨q,trivial⟩)
       ·have B4:=Lib.hid b4
        clear b4
        exfalso
        have h1 : ¬ 0<Y1.length:=fun q=>B3.out ⟨q,trivial⟩
        have h2 : ¬ 0<Y2.length:=fun q=>B4.out ⟨q,trivial⟩
        have h3:=HF.out.lens
        have h4:=HM.out
        have h5:=HB.out
        omega
    ·have B1:=Lib.hid b1
     clear b1
     by_cases b2:0<X2.length∧True
     ·have B2:=Lib.hid b2
      clear b2
      by_cases b3:0<Y1.length∧True
      ·have B3:=Lib.hid b3
       clear b3
       by_cases b4:0<Y2.length∧True
       ·have B4:=Lib.hid b4
        clear b4
        have s1:=f1.2 B2.out
        have s2:=f2.2 B3.out
        have s3:=fun q=>B1.out (f3.1 q)
        have s4:=f4.2 B3.out
        have s5:=f5.2 B2.out
        have s6:=f6.2 B4.out
        clear f1 f2 f3 f4 f5 f6
        go_wp2_with (first | (go_at_call 76;refine (HF.out.rot HA1.out HUP.out B2.out.1 B3.out.1).mono ?_;rintro e w2 ⟨rfl,q2⟩;have HS:=Lib.hid q2;clear q2) | (go_at_call 67;refine (HF.out.right IH.out (HF.out.left0 HS.out (.inl fun q=>B1.out ⟨q,trivial⟩)) B2.out.1 B4.out.1).mono ?_;rintro e w4 ⟨rfl,q4⟩;have HE:=Lib.hid q4;clear q4))
        all_goals go_end0
        all_goals exact ⟨rfl,HE.out⟩
       ·have B4:=Lib.hid b4
        clear b4
        have s1:=f1.2 B2.out
        have s2:=f2.2 B3.out
        have s3:=fun q=>B1.out (f3.1 q)
        have s4:=f4.2 B3.out
        have s5:=f5.2 B2.out
        have s6:=fun q=>B4.out (f6.1 q)
        clear f1 f2 f3 f4 f5 f6
        go_wp2_with (go_at_call 76;refine (HF.out.rot HA1.out HUP.out B2.out.1 B3.out.1).mono ?_;rintro e w2 ⟨rfl,q2⟩;have HS:=Lib.hid q2;clear q2)
        all_goals go_end0
        all_goals exact HF.out.right0 (HF.out.left0 HS.out (.inl fun q=>B1.out ⟨q,trivial⟩)) (.inr fun q=>B4.out ⟨q,trivial⟩)
      ·have B3:=Lib.hid b3
       clear b3
       by_cases b4:0<Y2.length∧True
       ·have B4:=Lib.hid b4
        clear b4
        have s1:=f1.2 B2.out
        have s2:=fun q=>B3.out (f2.1 q)
        have s3:=fun q=>B1.out (f3.1 q)
        have s4:=fun q=>B3.out (f4.1 q)
        have s5:=f5.2 B2.out
        have s6:=f6.2 B4.out
        clear f1 f2 f3 f4 f5 f6
        have HS:Hid (SymAt B g c P X1 Y1 X2 Y2 Q w wr):=Lib.hid (HF.out.still HA1.out HUP.out (.inr fun q=>B3.out ⟨q,trivial⟩))
        go_wp2_with (go_at_call 67;refine (HF.out.right IH.out (HF.out.left0 HS.out (.inl fun q=>B1.out ⟨q,trivial⟩)) B2.out.1 B4.out.1).mono ?_;rintro e w4 ⟨rfl,q4⟩;have HE:=Lib.hid q4;clear q4)
        all_goals go_end0
        all_goals exact ⟨rfl,HE.out⟩
       ·have B4:=Lib.hid b4
        clear b4
        exfalso
        have h1 : ¬ 0<Y1.length:=fun q=>B3.out ⟨q,trivial⟩
        have h2 : ¬ 0<Y2.length:=fun q=>B4.out ⟨q,trivial⟩
        have h3:=HF.out.lens
        have h4:=HM.out
        have h5:=HB.out
        omega
     ·have B2:=Lib.hid b2
      clear b2
      by_cases b3:0<Y1.length∧True
      ·have B3:=Lib.hid b3
       clear b3
       by_cases b4:0<Y2.length∧True
       ·have B4:=Lib.hid b4
        clear b4
        exfalso
        have h1 : ¬ 0<X1.length:=fun q=>B1.out ⟨q,trivial⟩
        have h2 : ¬ 0<X2.length:=fun q=>B2.out ⟨q,trivial⟩
        have h3:=HF.out.lens
        have h4:=HM.out
        have h5:=HB.out
        omega
       ·have B4:=Lib.hid b4
        clear b4
        exfalso
        have h1 : ¬ 0<X1.length:=fun q=>B1.out ⟨q,trivial⟩
        have h2 : ¬ 0<X2.length:=fun q=>B2.out ⟨q,trivial⟩
        have h3:=HF.out.lens
        have h4:=HM.out
        have h5:=HB.out
        omega
      ·have B3:=Lib.hid b3
       clear b3
       by_cases b4:0<Y2.length∧True
       ·have B4:=Lib.hid b4
        clear b4
        exfalso
        have h1 : ¬ 0<X1.length:=fun q=>B1.out ⟨q,trivial⟩
        have h2 : ¬ 0<X2.length:=fun q=>B2.out ⟨q,trivial⟩
        have h3:=HF.out.lens
        have h4:=HM.out
        have h5:=HB.out
        omega
       ·have B4:=Lib.hid b4
        clear b4
        exfalso
        have h1 : ¬ 0<X1.length:=fun q=>B1.out ⟨q,trivial⟩
        have h2 : ¬ 0<X2.length:=fun q=>B2.out ⟨q,trivial⟩
        have h3:=HF.out.lens
        have h4:=HM.out
        have h5:=HB.out
        omega
theorem symM_all (N:Nat):SymIH N:=by
 induction N with
 | zero=>exact fun B g c n a m b P X Y Q w h hx hy=>absurd h (by omega)
 | succ N ih =>
  intro B g c n a m b P X Y Q w hl hx hy ha hm hb hn sX sY h hr hbig
  by_cases h1:X.length=1
  ·obtain ⟨x,t,rfl⟩:=cons_of hx
   have ht:t=[]:=List.eq_nil_of_length_eq_zero (by rw [List.length_cons] at h1;omega)
   subst ht
   exact symOne_any B g c n a m b P Y Q x w ha (by rw [hm];rfl) hb hn sY h hr hbig
  ·by_cases h2:Y.length=1
   ·obtain ⟨y,t,rfl⟩:=cons_of hy
    have ht:t=[]:=List.eq_nil_of_length_eq_zero (by rw [List.length_cons] at h2;omega)
    subst ht
    exact symLast_any B g c n a m b P X Q y w ha hm (by rw [hb];rfl) hn sX (by omega) h hr hbig
   ·exact symGen_any N (Lib.hid ih) B g c n a m b P X Y Q w hl (by omega) (by omega) ha hm hb hn sX sY h hr hbig
open Go.RowKit
theorem snoc_cases {α:Type} (s:List α):s=[] ∨ ∃ t y,s=t++[y]:=by
 rcases List.eq_nil_or_concat s with h | ⟨t,y,h⟩
 ·exact .inl h
 ·exact .inr ⟨t,y,by rw [h,List.concat_eq_append]⟩
theorem InsIn.ext {B g c a:Nat} {P S T Q D':List Ud} {x:Ud} {w wi wz:World} {j:Nat} {s1 s2:List Ud} (h:InsIn B g c a P S T Q D' x w wi j s1 s2) (hz:Ext wi wz):InsIn B g c a P S T Q D' x w wz j s1 s2 :=
 ⟨h.1,h.2.1,h.2.2.1,h.2.2.2.1.ext hz,h.2.2.2.2.1.trans (upd_ext hz g),h.2.2.2.2.2.ext hz⟩
theorem ins_step {B g c a q:Nat} {P S T Q D':List Ud} {x:Ud} {w wi:World} {j:Nat} {t s2:List Ud} {y:Ud} (h:InsIn B g c a P S T Q D' x w wi j (t++[y]) s2) (hv:cmpC x y<0) (ha:a=P.length) (hq:q=a+t.length) {nx ny tx ty:Nat} (hx:nx=x.l.length) (hy:ny=y.l.length) (hx2:tx=x.t.l.length) (hy2:ty=y.t.l.length) :
  InsIn B g c a P S T Q D' x w (put4 (put4 wi g (q+1) y ny ty) g q x nx tx) q t (y :: s2):=by
 subst hx hy hx2 hy2
 obtain ⟨h1,h2,h3,h4,h5,h6⟩:=h
 have e:P++(t++[y]++x :: (s2++(T++Q)))=(P++t)++y :: x :: (s2++(T++Q)):=by simp
 rw [e] at h4
 have h7:=h4.swap (q:=q) (by rw [List.length_append];omega)
 have hu:wi.grownBy (put4 (put4 wi g (q+1) y y.l.length y.t.l.length) g q x x.l.length x.t.l.length) (some g):=upd_swap
 refine ⟨hq,by rw [h2];simp,fun z hz=>?_,?_,h5.trans hu,h6.upd hu⟩
 ·rcases List.mem_cons.1 hz with rfl | hz
  ·exact hv
  ·exact h3 z hz
 ·have e2:P++(t++x :: (y :: s2++(T++Q)))=(P++t)++x :: y :: (s2++(T++Q)):=by simp
  rw [e2]
  exact h7
theorem ins_exit {B g c a:Nat} {P S T Q D D':List Ud} {x:Ud} {w wo wi:World} {i j:Nat} {s1 s2:List Ud} (ho:InsOut B g c a P S Q w wo i D D' (x :: T)) (h:InsIn B g c a P S T Q D' x wo wi j s1 s2) (hl : ∀ y,s1.getLast?=some y → ¬ cmpC x y<0) {wz:World} (hz:Ext wi wz) :
  InsOut B g c a P S Q w wz (i+1) (D++[x]) (s1++x :: s2) T:=by
 obtain ⟨o1,o2,o3,o4,o5,o6⟩:=ho
 obtain ⟨h1,h2,h3,h4,h5,h6⟩:=h
 subst h2
 refine ⟨by rw [o1];simp,by rw [List.length_append,List.length_singleton];omega,o3.insert cmpC_tot h3 hl,?_,(o5.trans h5).trans (upd_ext hz g),(h6.sub (fun z hz=>List.mem_cons_of_mem _ hz)).ext hz⟩
 have e:P++(s1++x :: s2++(T++Q))=P++(s1++x :: (s2++(T++Q))):=by simp
 rw [e]
 exact h4.ext hz
set_option maxRecDepth 100000 in
set_option maxHeartbeats 8000000 in
theorem insSort_some (B g c n a b:Nat) (P S0 Q:List Ud) (x0:Ud) (w:World) (ha:a=P.length) (hb:b=P.length+(S0.length+1)) (hn:n=(P++(x0 :: S0++Q)).length) (h:Arr w B g c (P++(x0 :: S0++Q))) (hr:Rws w g (x0 :: S0)) :
  Calls Try.prog 66 #[.slice (some ⟨g,0,none⟩) n c, .int .i64 a, .int .i64 b, .func (.func 40) #[] #[]] w fun e w'=>e = .returned (.tuple #[]) ∧ ∃ S',Stable cmpC (x0 :: S0) S'∧Arr w' B g c (P++(S'++Q))∧w.grownBy w' (some g):=by
 obtain ⟨S,hS⟩ : ∃ S,S=x0 :: S0:=⟨_,rfl⟩
 have hnm:=h.le
 rw [← hn] at hnm
 have hbn:b≤n:=by
  rw [hb,hn]
  simp only [List.length_append,List.length_cons]
  omega
 have HA:=Lib.hid ha
 have HB:=Lib.hid hb
 have HN:=Lib.hid hn
 have hab:a+1≤b:=by omega
 have HO:Hid (InsOut B g c a P S Q w w (a+1) [x0] [x0] S0):=Lib.hid ⟨hS,rfl,Stable.one x0,by rw [List.singleton_append, ← List.cons_append];exact h,World.grownBy.refl w _,by rw [hS];exact hr⟩
 have HSL:Hid (b=a+S.length):=Lib.hid (by rw [hS,List.length_cons];omega)
 rw [← hS]
 clear ha hb hn h hr hS
 go_enter Try.func66,Try.ntmps66
 go_wp2
 go_loopg [8] (b - (a+1)) (fun z v wo => ∃ (i:Nat) (D D' T:List Ud),z=b - i∧i≤b∧v = .int .i64 i∧Hid (InsOut B g c a P S Q w wo i D D' T))
 case atStart=>exact ⟨a+1,[x0],[x0],S0,rfl,hab,by simp,HO⟩
 case round =>
  obtain ⟨i,D,D',T,rfl,hi,rfl,HI⟩:=hrel
  clear HO
  obtain ⟨wo,hwo⟩ : ∃ wo:World,wo=wr:=⟨_,rfl⟩
  rw [← hwo] at HI ⊢
  clear hwo
  by_cases hlt:i<b
  ·obtain ⟨x,T,rfl⟩ : ∃ x T',T=x :: T':=by
    cases T with
    | nil =>
     obtain ⟨q1,q2,_⟩:=HI.out
     have:=HSL.out
     rw [q1,List.append_nil] at this
     omega
    | cons x T=>exact ⟨x,T,rfl⟩
   have HII:Hid (InsIn B g c a P S T Q D' x wo wo i D' []):=Lib.hid (by
    obtain ⟨q1,q2,q3,q4,q5,q6⟩:=HI.out
    refine ⟨by rw [stable_len q3];exact q2,(List.append_nil _).symm,fun y hy=>(nomatch hy),by rw [List.nil_append];exact q4,World.grownBy.refl wo _,fun z hz=>?_⟩
    rcases List.mem_cons.1 hz with rfl | hz
    ·exact q6 z (by rw [q1];simp)
    ·exact q6 z hz)
   go_wp2
   go_loopg [9] D'.length (fun z v wi => ∃ (j:Nat) (s1 s2:List Ud),z=s1.length∧v = .int .i64 j∧j≤i∧Hid (InsIn B g c a P S T Q D' x wo wi j s1 s2))
   case atStart=>exact ⟨i,D',[],rfl,rfl,Nat.le_refl _,HII⟩
   case round =>
    obtain ⟨j,s1,s2,rfl,rfl,hj,HJ⟩:=hrel
    clear HII
    obtain ⟨wi,hwi⟩ : ∃ wi:World,wi=wr:=⟨_,rfl⟩
    rw [← hwi] at HJ ⊢
    clear hwi
    rcases snoc_cases s1 with rfl | ⟨t,y,rfl⟩
    ·have hja:j=a:=by have:=HJ.out.1;simpa using this
     subst hja
     go_upto_region 4 with fail
     refine wp_region_ord [0,0,3,7,15,15,15,111,239,15,15,1039,3599,7695,16383,32767,65535] (.flo [0,1,2,3,4,5,6,7,8,9,10,11,12,13] (.one 14 (.flo [15,16] (.fin)))) (by kernel_rfl) (by kernel_rfl) (by intro _ _ d _ _ h;cases d<;>exact h) ?_
     (refine ord_flo (pick_cons rfl (pick_cons rfl (pick_cons rfl (pick_cons rfl (pick_cons rfl (pick_cons rfl (pick_cons rfl (pick_cons rfl (pick_cons rfl (pick_cons rfl (pick_cons rfl (pick_cons rfl (pick_cons rfl (pick_cons rfl pick_nil)))))))))))))) ?_;(repeat (go_big_quiet_step (fail)));refine wpQuiet_nil ?_;show ordWalk _ _ _ _ _ _ _)
     refine ord_one (pick_cons rfl pick_nil) ?_;intro K_ hK_
     go_wp2
     (refine ord_flo (pick_cons rfl (pick_cons rfl pick_nil)) ?_;(repeat (go_big_quiet_step (fail)));refine wpQuiet_nil ?_;show ordWalk _ _ _ _ _ _ _)
     refine ord_fin ?_
     go_wp2
     go_roundg (b - (i+1))
     case measure=>omega
     case rel=>exact ⟨i+1,D++[x],_,T,rfl,by omega,by go_num,Lib.hid (ins_exit HI.out HJ.out (fun y hy=>(nomatch hy)) ((Ext.refl wi).drew))⟩
    ·obtain ⟨q,hq⟩ : ∃ q,q=a+t.length:=⟨_,rfl⟩
     have hjq:j=q+1:=by have:=HJ.out.1;rw [List.length_append,List.length_singleton] at this;omega
     subst hjq
     have hqP:q=(P++t).length:=by rw [List.length_append, ← HA.out];exact hq
     have e:P++(t++[y]++x :: (s2++(T++Q)))=(P++t)++y :: x :: (s2++(T++Q)):=by simp
     have hArr:=HJ.out.2.2.2.1
     rw [e] at hArr
     obtain ⟨⟨py0,py1,py2,py3⟩,px0,px1,px2,px3⟩:=Arr.two (s2:=[]) hArr hqP
     have f0:=hArr.free ((q+1) * 4)
     have f0b:=hArr.free ((q+1) * 4+1)
     have f1:=hArr.free ((q+1) * 4+2)
     have f1b:=hArr.free ((q+1) * 4+3)
     have f2:=hArr.free (q * 4)
     have f2b:=hArr.free (q * 4+1)
     have f3:=hArr.free (q * 4+2)
     have f3b:=hArr.free (q * 4+3)
     have hrx:=HJ.out.2.2.2.2.2 x (List.mem_cons_self ..)
     have hry:=HJ.out.2.2.2.2.2 y (List.mem_cons_of_mem _ (by
      obtain ⟨o1,o2,o3,_⟩:=HI.out
      have hd:y∈D':=by rw [HJ.out.2.1];simp
      rw [o1]
      exact List.mem_append_left _ ((o3.mem cmpC_tot y).1 hd)))
     have za:decide ((a:Int)<(q:Int)+1)=true:=by simp;omega
     have hqa2:a≤q:=by omega
     have hqn:q+1<n:=by omega
     have hjb:q+1≤i:=hj
     obtain ⟨v,hv⟩ : ∃ v,cmpC x y=v:=⟨_,rfl⟩
     obtain ⟨nx,hnx⟩ : ∃ nx,nx=x.l.length:=⟨_,rfl⟩
     obtain ⟨tx,htx⟩ : ∃ tx,tx=x.t.l.length:=⟨_,rfl⟩
     obtain ⟨ny,hny⟩ : ∃ ny,ny=y.l.length:=⟨_,rfl⟩
     obtain ⟨ty,hty⟩ : ∃ ty,ty=y.t.l.length:=⟨_,rfl⟩
     rw [← hnx] at px0;rw [← htx] at px2
     rw [← hny] at py0;rw [← hty] at py2
     have X:Ext wi wi.drew:=(Ext.refl wi).drew
     have HRX:=Lib.hid hrx.1
     have HRY:=Lib.hid hry.1
     have HNX:=Lib.hid hnx
     have HTX:=Lib.hid htx
     have HNY:=Lib.hid hny
     have HTY:=Lib.hid hty
     have HQ:=Lib.hid hq
     have HQP:=Lib.hid hqP
     have hArr0:=Lib.hid hArr
     have HV:Hid (cmpC x y=v):=Lib.hid hv
     have PY0 : ∀ z:Xt wi.drew,z.W.cell? ⟨g,q * 4,none⟩=some (.slice y.A ny y.c):=fun z=>(X.trans z.x).cell py0
     have PY1 : ∀ z:Xt wi.drew,z.W.cell? ⟨g,q * 4+1,none⟩=some (.int .u64 y.t.e):=fun z=>(X.trans z.x).cell py1
     have PY2 : ∀ z:Xt wi.drew,z.W.cell? ⟨g,q * 4+2,none⟩=some (.slice y.t.A ty y.t.c):=fun z=>(X.trans z.x).cell py2
     have PY3 : ∀ z:Xt wi.drew,z.W.cell? ⟨g,q * 4+3,none⟩=some (.int .i64 y.d):=fun z=>(X.trans z.x).cell py3
     have PX0 : ∀ z:Xt wi.drew,z.W.cell? ⟨g,(q+1) * 4,none⟩=some (.slice x.A nx x.c):=fun z=>(X.trans z.x).cell px0
     have PX1 : ∀ z:Xt wi.drew,z.W.cell? ⟨g,(q+1) * 4+1,none⟩=some (.int .u64 x.t.e):=fun z=>(X.trans z.x).cell px1
     have PX2 : ∀ z:Xt wi.drew,z.W.cell? ⟨g,(q+1) * 4+2,none⟩=some (.slice x.t.A tx x.t.c):=fun z=>(X.trans z.x).cell px2
     have PX3 : ∀ z:Xt wi.drew,z.W.cell? ⟨g,(q+1) * 4+3,none⟩=some (.int .i64 x.d):=fun z=>(X.trans z.x).cell px3
     clear hrx hry hnx hny htx hty hv hArr e hqP py0 py1 px0 px1 hq hj
     by_cases hv0:v<0
     ·have zv:decide (v<0)=true:=by simpa using hv0
      have HV0:Hid (cmpC x y<0):=Lib.hid (by show cmpC x y<0;rw [HV.out];exact hv0)
      go_upto_region 4 with fail
      refine wp_region_ord [0,0,3,7,15,15,15,111,239,15,15,1039,3599,7695,16383,32767,65535] (.flo [0,1,2,3,4,5,6,7,8,9,10,11,12,13] (.one 14 (.flo [15,16] (.fin)))) (by kernel_rfl) (by kernel_rfl) (by intro _ _ d _ _ h;cases d<;>exact h) ?_
      (refine ord_flo (pick_cons rfl (pick_cons rfl (pick_cons rfl (pick_cons rfl (pick_cons rfl (pick_cons rfl (pick_cons rfl (pick_cons rfl (pick_cons rfl (pick_cons rfl (pick_cons rfl (pick_cons rfl (pick_cons rfl (pick_cons rfl pick_nil)))))))))))))) ?_;(repeat (go_big_quiet_step (fail)));refine wpQuiet_nil ?_;show ordWalk _ _ _ _ _ _ _)
      refine ord_one (pick_cons rfl pick_nil) ?_;intro K_ hK_
      go_wp2_with (go_at_call 40;refine (order_any x y nx ny tx ty v _ HV HNX HNY HTX HTY (Lib.hid (HRX.out.ext X)) (Lib.hid (HRY.out.ext X))).mono ?_;rintro e w1 ⟨rfl,x1⟩)
      (refine ord_flo (pick_cons rfl (pick_cons rfl pick_nil)) ?_;(repeat (go_big_quiet_step (fail)));refine wpQuiet_nil ?_;show ordWalk _ _ _ _ _ _ _)
      refine ord_fin ?_
      have HA1:=Lib.hid (hArr0.out.ext (X.trans x1))
      obtain ⟨⟨py0,py1,py2,py3⟩,px0,px1,px2,px3⟩:=Arr.two (s2:=[]) HA1.out HQP.out
      rw [← HNX.out] at px0;rw [← HTX.out] at px2
      rw [← HNY.out] at py0;rw [← HTY.out] at py2
      have f0:=HA1.out.free ((q+1) * 4)
      have f0b:=HA1.out.free ((q+1) * 4+1)
      have f1:=HA1.out.free ((q+1) * 4+2)
      have f1b:=HA1.out.free ((q+1) * 4+3)
      have f2:=HA1.out.free (q * 4)
      have f2b:=HA1.out.free (q * 4+1)
      have f3:=HA1.out.free (q * 4+2)
      have f3b:=HA1.out.free (q * 4+3)
      have X1:Ext w1 w1.drew:=(Ext.refl w1).drew
      have PY0 : ∀ z:Xt w1.drew,z.W.cell? ⟨g,q * 4,none⟩=some (.slice y.A ny y.c):=fun z=>(X1.trans z.x).cell py0
      have PY1 : ∀ z:Xt w1.drew,z.W.cell? ⟨g,q * 4+1,none⟩=some (.int .u64 y.t.e):=fun z=>(X1.trans z.x).cell py1
      have PY2 : ∀ z:Xt w1.drew,z.W.cell? ⟨g,q * 4+2,none⟩=some (.slice y.t.A ty y.t.c):=fun z=>(X1.trans z.x).cell py2
      have PY3 : ∀ z:Xt w1.drew,z.W.cell? ⟨g,q * 4+3,none⟩=some (.int .i64 y.d):=fun z=>(X1.trans z.x).cell py3
      have PX0 : ∀ z:Xt w1.drew,z.W.cell? ⟨g,(q+1) * 4,none⟩=some (.slice x.A nx x.c):=fun z=>(X1.trans z.x).cell px0
      have PX1 : ∀ z:Xt w1.drew,z.W.cell? ⟨g,(q+1) * 4+1,none⟩=some (.int .u64 x.t.e):=fun z=>(X1.trans z.x).cell px1
      have PX2 : ∀ z:Xt w1.drew,z.W.cell? ⟨g,(q+1) * 4+2,none⟩=some (.slice x.t.A tx x.t.c):=fun z=>(X1.trans z.x).cell px2
      have PX3 : ∀ z:Xt w1.drew,z.W.cell? ⟨g,(q+1) * 4+3,none⟩=some (.int .i64 x.d):=fun z=>(X1.trans z.x).cell px3
      go_upto_region 6 with fail
      refine wp_region_ord [0,0,0,0,8,0,0,64,224,480,0,0,3072,7168,16355,32739,65535,131071] (.flo [0,1,5,6,7,8,9,10,11,12,13,14] (.pur [2,3,4] (.one 15 (.flo [16] (.one 17 (.fin)))))) (by kernel_rfl) (by kernel_rfl) (by intro _ _ d _ _ h;cases d<;>exact h) ?_
      (refine ord_flo (pick_cons rfl (pick_cons rfl (pick_cons rfl (pick_cons rfl (pick_cons rfl (pick_cons rfl (pick_cons rfl (pick_cons rfl (pick_cons rfl (pick_cons rfl (pick_cons rfl (pick_cons rfl pick_nil)))))))))))) ?_;(repeat (go_big_quiet_step (fail)));refine wpQuiet_nil ?_;show ordWalk _ _ _ _ _ _ _)
      (refine ord_pur (pick_cons rfl (pick_cons rfl (pick_cons rfl pick_nil))) ?_;(repeat (go_big_quiet_step (fail)));refine wpQuiet_nil ?_;show ordWalk _ _ _ _ _ _ _)
      refine ord_one (pick_cons rfl pick_nil) ?_;intro K_ hK_
      go_wp2
      (refine ord_flo (pick_cons rfl pick_nil) ?_;(repeat (go_big_quiet_step (fail)));refine wpQuiet_nil ?_;show ordWalk _ _ _ _ _ _ _)
      refine ord_one (pick_cons rfl pick_nil) ?_;intro K_ hK_
      go_wp2
      refine ord_fin ?_
      go_wp2
      go_roundg t.length
      case measure=>simp
      case rel=>exact ⟨q,t,y :: s2,rfl,by go_num,by omega,Lib.hid ((ins_step (HJ.out.ext (X.trans x1)) HV0.out HA.out HQ.out HNX.out HNY.out HTX.out HTY.out).ext (Ext.refl _).drew)⟩
     ·have zv:decide (v<0)=false:=by simpa using hv0
      have HV0:Hid (¬ cmpC x y<0):=Lib.hid (by show ¬ cmpC x y<0;rw [HV.out];exact hv0)
      go_upto_region 4 with fail
      refine wp_region_ord [0,0,3,7,15,15,15,111,239,15,15,1039,3599,7695,16383,32767,65535] (.flo [0,1,2,3,4,5,6,7,8,9,10,11,12,13] (.one 14 (.flo [15,16] (.fin)))) (by kernel_rfl) (by kernel_rfl) (by intro _ _ d _ _ h;cases d<;>exact h) ?_
      (refine ord_flo (pick_cons rfl (pick_cons rfl (pick_cons rfl (pick_cons rfl (pick_cons rfl (pick_cons rfl (pick_cons rfl (pick_cons rfl (pick_cons rfl (pick_cons rfl (pick_cons rfl (pick_cons rfl (pick_cons rfl (pick_cons rfl pick_nil)))))))))))))) ?_;(repeat (go_big_quiet_step (fail)));refine wpQuiet_nil ?_;show ordWalk _ _ _ _ _ _ _)
      refine ord_one (pick_cons rfl pick_nil) ?_;intro K_ hK_
      go_wp2_with (go_at_call 40;refine (order_any x y nx ny tx ty v _ HV HNX HNY HTX HTY (Lib.hid (HRX.out.ext X)) (Lib.hid (HRY.out.ext X))).mono ?_;rintro e w1 ⟨rfl,x1⟩)
      (refine ord_flo (pick_cons rfl (pick_cons rfl pick_nil)) ?_;(repeat (go_big_quiet_step (fail)));refine wpQuiet_nil ?_;show ordWalk _ _ _ _ _ _ _)
      refine ord_fin ?_
      go_wp2
      go_roundg (b - (i+1))
      case measure=>omega
      case rel=>exact ⟨i+1,D++[x],_,T,rfl,by omega,by go_num,Lib.hid (ins_exit HI.out HJ.out (fun z hz=>by simp only [List.getLast?_append,List.getLast?_singleton,Option.some_or] at hz;injection hz with hz;rw [← hz];exact Int.not_lt.2 HV0.out) (X.trans x1))⟩
  ·obtain rfl:i=b:=by omega
   have HT:Hid (T=[]):=Lib.hid (by
    obtain ⟨q1,q2,_⟩:=HI.out
    have:=HSL.out
    rw [q1,List.length_append] at this
    exact List.eq_nil_of_length_eq_zero (by omega))
   go_wp2
   go_end0
   obtain ⟨q1,q2,q3,q4,q5,q6⟩:=HI.out
   rw [HT.out] at q1 q4
   rw [List.append_nil] at q1
   exact ⟨rfl,D',by rw [q1];exact q3,q4,q5⟩
open Go.RowKit
/-- what a sort leaves behind -/
def Sorted (B g c:Nat) (L:List Ud) (w:World) (e:Ending) (w':World):Prop:=e = .returned (.tuple #[]) ∧ ∃ L',Stable cmpC L L'∧Arr w' B g c L'∧w.grownBy w' (some g)
set_option maxRecDepth 100000 in
set_option maxHeartbeats 800000 in
theorem insSort_none (A:Option Addr) (n c a b:Nat) (w:World) (h:b≤a) (ha:a≤1000000000) :
  Calls Try.prog 66 #[.slice A n c, .int .i64 a, .int .i64 b, .func (.func 40) #[] #[]] w fun e w'=>e = .returned (.tuple #[])∧w=w':=by
 have h1 : ¬ (a:Int)+1<b:=by omega
 go_enter Try.func66,Try.ntmps66
 go_wp2
 go_loop [8] (fun v=>v = .int .i64 ((a:Int)+1)) (fun _=>0)
 case atStart=>rfl
 case round =>
  subst hrel
  go_wp2
  go_end0
  exact ⟨rfl,rfl⟩
open Go.RowKit
/-- blocks sorted up to a -/
def Pass1 (B g c:Nat) (L:List Ud) (w wr:World) (a:Nat) (S T:List Ud):Prop :=
 S.length=a∧a+T.length=L.length∧(∀ x∈T,x∈L)∧(∀ T',Bks cmpC 20 T T'→Bks cmpC 20 L (S++T'))∧Arr wr B g c (S++T)∧w.grownBy wr (some g)
theorem Pass1.step {B g c a:Nat} {L:List Ud} {w wr w1:World} {S T1 T2 Z:List Ud} (h:Pass1 B g c L w wr a S (T1++T2)) (h1:T1.length=20) (hz:Stable cmpC T1 Z) (ha:Arr w1 B g c (S++(Z++T2))) (hg:wr.grownBy w1 (some g)):Pass1 B g c L w w1 (a+20) (S++Z) T2:=by
 obtain ⟨q1,q2,q3,q4,q5,q6⟩:=h
 have lz:=stable_len hz
 rw [List.length_append] at q2
 refine ⟨by rw [List.length_append];omega,by omega,fun x hx=>q3 x (List.mem_append_right _ hx),fun T' hT=>?_,by rw [List.append_assoc];exact ha,q6.trans hg⟩
 rw [List.append_assoc]
 exact q4 (Z++T') (.more T1 Z T2 T' h1 hz hT)
theorem Pass1.last {B g c a:Nat} {L:List Ud} {w wr w1:World} {S T Z:List Ud} (h:Pass1 B g c L w wr a S T) (h1:T.length≤20) (hz:Stable cmpC T Z) (ha:Arr w1 B g c (S++Z)) (hg:wr.grownBy w1 (some g)):Bks cmpC 20 L (S++Z)∧Arr w1 B g c (S++Z)∧w.grownBy w1 (some g) :=
 ⟨h.2.2.2.1 Z (.last T Z h1 hz),ha,h.2.2.2.2.2.trans hg⟩
/-- blocks of so many, sorted -/
def Pass2 (B g c s:Nat) (L:List Ud) (w wr:World) (S:List Ud):Prop:=Bks cmpC s L S∧Arr wr B g c S∧w.grownBy wr (some g)
/-- two by two merged, up to a -/
def Pass3 (B g c s:Nat) (L:List Ud) (w wr:World) (a:Nat) (D O R:List Ud):Prop :=
 D.length=a∧a+R.length=L.length∧Bks cmpC s O R∧(∀ x∈R,x∈L)∧(∀ R',Bks cmpC (2 * s) O R'→Bks cmpC (2 * s) L (D++R'))∧Arr wr B g c (D++R)∧w.grownBy wr (some g)
theorem bks_len {s:Nat} {O S:List Ud} (h:Bks cmpC s O S):S.length=O.length:=h.len stable_len
theorem Pass2.start {B g c s:Nat} {L:List Ud} {w wr:World} {S:List Ud} (h:Pass2 B g c s L w wr S):Pass3 B g c s L w wr 0 [] L S :=
 ⟨rfl,by rw [bks_len h.1,Nat.zero_add],h.1,fun x hx=>(h.1.mem cmpC_tot x).1 hx,fun _ h=>h,h.2.1,h.2.2⟩
theorem Pass3.step {B g c s a:Nat} {L:List Ud} {w wr w1:World} {D O1 O2 O3 S1 S2 S3 Z:List Ud} (h:Pass3 B g c s L w wr a D (O1++(O2++O3)) (S1++(S2++S3))) (l1:O1.length=s) (l2:O2.length=s) (s1:Stable cmpC O1 S1) (s2:Stable cmpC O2 S2) (h3:Bks cmpC s O3 S3)
  (hz:Stable cmpC (S1++S2) Z) (ha:Arr w1 B g c (D++(Z++S3))) (hg:wr.grownBy w1 (some g)):Pass3 B g c s L w w1 (a+2 * s) (D++Z) O3 S3:=by
 obtain ⟨q1,q2,q3,q4,q5,q6,q7⟩:=h
 have e1:=stable_len s1
 have e2:=stable_len s2
 have lz:=stable_len hz
 rw [List.length_append] at lz
 simp only [List.length_append] at q2
 refine ⟨by rw [List.length_append];omega,by omega,h3,fun x hx=>q4 x (List.mem_append_right _ (List.mem_append_right _ hx)),fun R' hR=>?_,by rw [List.append_assoc];exact ha,q7.trans hg⟩
 have:=q5 (Z++R') (by
  rw [← List.append_assoc]
  exact .more (O1++O2) Z O3 R' (by rw [List.length_append];omega) (Stable.join s1 s2 hz) hR)
 rwa [List.append_assoc]
theorem Pass3.rest {B g c s a:Nat} {L:List Ud} {w wr w1:World} {D O1 O2 S1 S2 Z:List Ud} (h:Pass3 B g c s L w wr a D (O1++O2) (S1++S2)) (hl:(O1++O2).length≤2 * s) (s1:Stable cmpC O1 S1) (s2:Stable cmpC O2 S2)
  (hz:Stable cmpC (S1++S2) Z) (ha:Arr w1 B g c (D++(Z++[]))) (hg:wr.grownBy w1 (some g)):Pass2 B g c (2 * s) L w w1 (D++Z):=by
 obtain ⟨q1,q2,q3,q4,q5,q6,q7⟩:=h
 exact ⟨q5 Z (.last _ Z hl (Stable.join s1 s2 hz)),by rwa [List.append_nil] at ha,q7.trans hg⟩
theorem Pass3.none {B g c s a:Nat} {L:List Ud} {w wr:World} {D O R:List Ud} (h:Pass3 B g c s L w wr a D O R) (hs:0<s) (hl:O.length≤s):Pass2 B g c (2 * s) L w wr (D++R):=by
 obtain ⟨q1,q2,q3,q4,q5,q6,q7⟩:=h
 exact ⟨q5 R (.last O R (by omega) (q3.all cmpC_tot hs hl)),q6,q7⟩
set_option maxRecDepth 100000 in
set_option maxHeartbeats 16000000 in
theorem stable_any (B g c n:Nat) (L:List Ud) (w:World) (hn:n=L.length) (hbig:n≤1000000000) (h:Arr w B g c L) (hr:Rws w g L) :
  Calls Try.prog 56 #[.slice (some ⟨g,0,none⟩) n c, .int .i64 n, .func (.func 40) #[] #[]] w (Sorted B g c L w):=by
 have HR:=Lib.hid hr
 have HN:=Lib.hid hn
 have HP0:Hid (Pass1 B g c L w w 0 [] L):=Lib.hid ⟨rfl,Nat.zero_add _,fun _ h=>h,fun _ h=>h,h,World.grownBy.refl w _⟩
 clear h hr hn
 go_enter Try.func56,Try.ntmps56
 go_wp2
 go_loopg [7,8] n (fun z u v wr => ∃ (a:Nat) (S T:List Ud),z=n - a∧a≤n∧u = .int .i64 a∧v = .int .i64 ((a+20:Nat):Int)∧Hid (Pass1 B g c L w wr a S T))
 case atStart=>exact ⟨0,[],L,rfl,Nat.zero_le _,rfl,by go_num,HP0⟩
 case round =>
  obtain ⟨a,S,T,rfl,han,rfl,rfl,HJ⟩:=hrel
  clear HP0
  by_cases hlt:a+20≤n
  ·obtain ⟨T1,T2,rfl,ht⟩:=cut_at T 20 (by have:=HJ.out.2.1;have:=HN.out;omega)
   obtain ⟨x0,S0,rfl⟩:=cons_of (l:=T1) (by omega)
   have HT:=Lib.hid ht
   clear ht
   have zl:((a+20:Nat):Int)≤(n:Int):=by omega
   go_wp2_with (go_at_call 66;refine (insSort_some B g c n a (a+20) S S0 T2 x0 _ HJ.out.1.symm (by have:=HJ.out.1;have:=HT.out;rw [List.length_cons] at this;omega) (by have:=HJ.out;have e1:=this.1;have e2:=this.2.1;have e3:=HN.out;rw [List.length_append,e1];omega) HJ.out.2.2.2.2.1 ((HR.out.upd HJ.out.2.2.2.2.2).sub fun x hx=>HJ.out.2.2.1 x (List.mem_append_left _ hx))).mono ?_;rintro e w1 ⟨rfl,Z,s1,s2,s3⟩;have HJ1:=Lib.hid (HJ.out.step HT.out s1 s2 s3);clear s1 s2 s3)
   go_roundg (n - (a+20))
   case measure=>omega
   case rel=>exact ⟨a+20,S++Z,T2,rfl,hlt,by go_num,by go_num,HJ1⟩
  ·have zl : ¬ ((a+20:Nat):Int)≤(n:Int):=by omega
   have HX : ∃ P:World→Prop,(∀ w1,P w1 → ∃ S1,Pass2 B g c 20 L w w1 S1)∧Calls Try.prog 66 #[.slice (some ⟨g,0,none⟩) n c, .int .i64 a, .int .i64 n, .func (.func 40) #[] #[]] wr fun e w'=>e = .returned (.tuple #[])∧P w':=by
    refine ⟨fun w1 => ∃ S1,Pass2 B g c 20 L w w1 S1,fun _ h=>h,?_⟩
    have hl:=HJ.out.2.1
    rw [← HN.out] at hl
    by_cases ht:0<T.length
    ·obtain ⟨x0,S0,rfl⟩:=cons_of ht
     refine (insSort_some B g c n a n S S0 [] x0 wr HJ.out.1.symm (by have:=HJ.out.1;rw [List.length_cons] at hl;omega) (by rw [List.append_nil,List.length_append,HJ.out.1];exact hl.symm) (by rw [List.append_nil];exact HJ.out.2.2.2.2.1) ((HR.out.upd HJ.out.2.2.2.2.2).sub fun x hx=>HJ.out.2.2.1 x hx)).mono ?_
     rintro e w1 ⟨rfl,Z,s1,s2,s3⟩
     rw [List.append_nil] at s2
     exact ⟨rfl,_,HJ.out.last (by omega) s1 s2 s3⟩
    ·have e:T=[]:=nil_or ht
     subst e
     refine (insSort_none _ n c a n wr (by rw [List.length_nil] at hl;omega) (by omega)).mono ?_
     rintro e w1 ⟨rfl,rfl⟩
     exact ⟨rfl,_,HJ.out.last (Nat.zero_le _) Stable.nil HJ.out.2.2.2.2.1 (World.grownBy.refl _ _)⟩
   obtain ⟨PP,hp1,hp2⟩:=HX
   have HP1:=Lib.hid hp1
   have HP2:=Lib.hid hp2
   clear hp1 hp2
   go_wp2_with (go_at_call 66;refine HP2.out.mono ?_;rintro e w1 ⟨rfl,s1⟩;obtain ⟨S1,s2⟩:=HP1.out _ s1;have HS:=Lib.hid s2;clear s1 s2)
   clear HP1 HP2
   go_loopg [6,7,8] (n - 20) (fun z u v t wr => ∃ (s:Nat) (S:List Ud),z=n - s∧0<s∧s≤3000000000∧u = .int .i64 s∧Hid (Pass2 B g c s L w wr S))
   case atStart=>exact ⟨20,S1,rfl,by omega,by omega,rfl,HS⟩
   case round =>
    obtain ⟨s,S,rfl,hs0,hs9,rfl,HQ⟩:=hrel
    clear HS HJ
    obtain ⟨wo,hwo⟩ : ∃ wo:World,wo=wr:=⟨_,rfl⟩
    rw [← hwo] at HQ ⊢
    clear hwo
    by_cases hsn:s<n
    ·have HQ3:=Lib.hid HQ.out.start
     go_wp2
     go_loopg [7,8] n (fun z u v wr => ∃ (a:Nat) (D O R:List Ud),z=n - a∧a≤n∧u = .int .i64 a∧v = .int .i64 ((a+2 * s:Nat):Int)∧Hid (Pass3 B g c s L w wr a D O R))
     case atStart=>exact ⟨0,[],L,S,rfl,Nat.zero_le _,rfl,by go_num,HQ3⟩
     case round =>
      obtain ⟨a,D,O,R,rfl,han,rfl,rfl,HI⟩:=hrel
      clear HQ3
      have hOl:O.length=R.length:=(bks_len HI.out.2.2.1).symm
      have hRl:a+R.length=n:=by rw [HN.out];exact HI.out.2.1
      by_cases hlt:a+2 * s≤n
      ·obtain ⟨O1,S1,O2,S2,O3,S3,rfl,rfl,l1,l2,s1,s2,s3⟩:=HI.out.2.2.1.two hs0 (by omega)
       obtain ⟨ms,hms⟩ : ∃ q,q=a+s:=⟨_,rfl⟩
       have zm:(a:Int)+(s:Int)=(ms:Int):=by omega
       have e1:=stable_len s1
       have e2:=stable_len s2
       have HG:=Lib.hid (And.intro l1 (And.intro l2 (And.intro s1 (And.intro s2 s3))))
       have HE:=Lib.hid (And.intro e1 (And.intro e2 hms))
       have hmn:ms≤n:=by omega
       clear l1 l2 s1 s2 s3 e1 e2 hOl hRl hms
       have zl:((a+2 * s:Nat):Int)≤(n:Int):=by omega
       go_wp2_with (go_at_call 67;refine (symM_all (S1.length+S2.length) B g c n a ms (a+2 * s) D S1 S2 S3 _ (Nat.le_refl _) (by have:=HE.out;have:=HG.out;omega) (by have:=HE.out;have:=HG.out;omega) HI.out.1.symm (by have:=HE.out;have:=HG.out;omega) (by have:=HE.out;have:=HG.out;omega) (by have:=HI.out.2.1;have:=HI.out.1;have:=HN.out;rw [List.length_append];omega) HG.out.2.2.1.sorted HG.out.2.2.2.1.sorted HI.out.2.2.2.2.2.1 ((HR.out.upd HI.out.2.2.2.2.2.2).sub fun x hx=>HI.out.2.2.2.1 x (by rcases List.mem_append.1 hx with hx | hx<;>simp [hx])) hbig).mono ?_;rintro e w1 ⟨rfl,Z,z1,z2,z3⟩;have HI1:=Lib.hid (HI.out.step HG.out.1 HG.out.2.1 HG.out.2.2.1 HG.out.2.2.2.1 HG.out.2.2.2.2 z1 z2 z3);clear z1 z2 z3)
       go_roundg (n - (a+2 * s))
       case measure=>omega
       case rel=>exact ⟨a+2 * s,D++Z,O3,S3,rfl,hlt,by go_num,by go_num,HI1⟩
      ·have zl : ¬ ((a+2 * s:Nat):Int)≤(n:Int):=by omega
       obtain ⟨ms,hms⟩ : ∃ q,q=a+s:=⟨_,rfl⟩
       have zm:(a:Int)+(s:Int)=(ms:Int):=by omega
       by_cases hm:a+s<n
       ·obtain ⟨O1,S1,O2,S2,rfl,rfl,l1,s1,s2⟩:=HI.out.2.2.1.rest cmpC_tot hs0 (by omega) (by omega)
        have e1:=stable_len s1
        have e2:=stable_len s2
        have HO:Hid ((O1++O2).length≤2 * s):=Lib.hid (by omega)
        have HG:=Lib.hid (And.intro l1 (And.intro s1 s2))
        have HE:=Lib.hid (And.intro e1 (And.intro e2 (And.intro hRl hms)))
        have zn:(ms:Int)<(n:Int):=by omega
        clear l1 s1 s2 e1 e2 hOl hRl hms
        go_wp2_with (go_at_call 67;refine (symM_all (S1.length+S2.length) B g c n a ms n D S1 S2 [] _ (Nat.le_refl _) (by have:=HE.out;have:=HG.out;omega) (by have:=HE.out;have:=HG.out;simp only [List.length_append] at *;omega) HI.out.1.symm (by have:=HE.out;have:=HG.out;omega) (by have:=HE.out;have:=HG.out;simp only [List.length_append] at *;omega) (by have:=HI.out.2.1;have:=HI.out.1;have:=HN.out;rw [List.append_nil,List.length_append];omega) HG.out.2.1.sorted HG.out.2.2.sorted (by rw [List.append_nil];exact HI.out.2.2.2.2.2.1) ((HR.out.upd HI.out.2.2.2.2.2.2).sub fun x hx=>HI.out.2.2.2.1 x hx) hbig).mono ?_;rintro e w1 ⟨rfl,Z,z1,z2,z3⟩;have HI1:=Lib.hid (HI.out.rest HO.out HG.out.2.1 HG.out.2.2 z1 z2 z3);clear z1 z2 z3)
        go_roundg (n - 2 * s)
        case measure=>omega
        case rel=>exact ⟨2 * s,D++Z,rfl,by omega,by omega,by go_num,HI1⟩
       ·have zn : ¬ (ms:Int)<(n:Int):=by omega
        have HI1:=Lib.hid (HI.out.none hs0 (by omega))
        have hmb:ms≤2000000000:=by omega
        clear hOl hRl hms
        go_wp2
        go_roundg (n - 2 * s)
        case measure=>omega
        case rel=>exact ⟨2 * s,D++R,rfl,by omega,by omega,by go_num,HI1⟩
    ·have HE:Hid (Sorted B g c L w (.returned (.tuple #[])) wo):=Lib.hid ⟨rfl,S,HQ.out.1.all cmpC_tot hs0 (by rw [← HN.out];omega),HQ.out.2.1,HQ.out.2.2⟩
     go_wp2
     go_end0
     exact HE.out
set_option maxRecDepth 100000 in
set_option maxHeartbeats 800000 in
theorem sortStable_any (B g c n:Nat) (L:List Ud) (w:World) (hn:n=L.length) (hbig:n≤1000000000) (h:Arr w B g c L) (hr:Rws w g L) :
  Calls Try.prog 39 #[.slice (some ⟨g,0,none⟩) n c, .func (.func 40) #[] #[]] w (Sorted B g c L w):=by
 have H:=Lib.hid h
 have HR:=Lib.hid hr
 have HN:=Lib.hid hn
 clear h hr hn
 go_enter Try.func39,Try.ntmps39
 go_wp2_with (go_at_call 56;refine (stable_any B g c n L _ HN.out hbig H.out HR.out).mono ?_;rintro e w1 ⟨rfl,s1⟩;have S1:=Lib.hid s1;clear s1)
 go_end0
 exact ⟨rfl,S1.out⟩
end Go.Proofs.Ytdgbkpoickbidaa.UdS
namespace Go.Proofs.Ytdgbkpoickbidaa
open Go.RowKit

namespace UdS
set_option maxRecDepth 100000 in
set_option maxHeartbeats 400000 in
theorem clip_any (A:Option Addr) (n c:Nat) (w:World) (hn:n≤c) (hc:c≤9223372036854775807) :
  Calls Try.prog 42 #[.slice A n c] w fun e w'=>e = .returned (.slice A n n)∧w=w':=by
 go_enter Try.func42,Try.ntmps42
 cases A with
 | none =>
  go_wp2
  go_ret
  exact ⟨by simp,rfl⟩
 | some a =>
  go_wp2
  go_ret
  exact ⟨by simp,rfl⟩
set_option maxRecDepth 100000 in
set_option maxHeartbeats 400000 in
theorem sortNone_any (A:Option Addr) (c:Nat) (w:World) :
  Calls Try.prog 39 #[.slice A 0 c, .func (.func 40) #[] #[]] w fun e w'=>e = .returned (.tuple #[])∧w=w':=by
 have hs : ∀ W:World,Calls Try.prog 56 #[.slice A 0 c, .int .i64 0, .func (.func 40) #[] #[]] W fun e w'=>e = .returned (.tuple #[])∧W=w':=fun W=>by
  go_enter Try.func56,Try.ntmps56
  go_wp2
  go_loop [7,8] (fun u v=>u = .int .i64 0∧v = .int .i64 20) (fun _ _=>0)
  case atStart=>exact ⟨rfl,rfl⟩
  case round =>
   obtain ⟨rfl,rfl⟩:=hrel
   go_wp2_with (go_at_call 66;refine (insSort_none _ 0 c 0 0 _ (Nat.le_refl _) (by decide)).mono ?_;rintro e w1 ⟨rfl,rfl⟩)
   go_loop [6,7,8] (fun u v z=>u = .int .i64 20) (fun _ _ _=>0)
   case atStart=>rfl
   case round =>
    subst hrel
    go_wp2
    go_end0
    exact ⟨rfl,rfl⟩
 go_enter Try.func39,Try.ntmps39
 go_wp2_with (go_at_call 56;refine (hs _).mono ?_;rintro e w1 ⟨rfl,rfl⟩)
 go_end0
 exact ⟨rfl,rfl⟩
set_option maxRecDepth 100000 in
set_option maxHeartbeats 400000 in
theorem delNone_any (A:Option Addr) (c:Nat) (w:World) :
  Calls Try.prog 43 #[.slice A 0 c, .func (.func 44) #[] #[]] w fun e w'=>e = .returned (.slice A 0 c)∧w=w':=by
 have hs : ∀ W:World,Calls Try.prog 60 #[.slice A 0 c, .func (.func 44) #[] #[]] W fun e w'=>e = .returned (.int .i64 (-1))∧W=w':=fun W=>by
  go_enter Try.func60,Try.ntmps60
  go_wp2
  go_loop [8] (fun v=>v = .int .i64 0) (fun _=>0)
  case atStart=>rfl
  case round =>
   subst hrel
   go_wp2
   go_ret
   exact ⟨rfl,rfl⟩
 go_enter Try.func43,Try.ntmps43
 go_wp2_with (go_at_call 60;refine (hs _).mono ?_;rintro e w1 ⟨rfl,rfl⟩)
 go_ret
 exact ⟨rfl,rfl⟩
set_option maxRecDepth 100000 in
set_option maxHeartbeats 4000000 in
theorem dsum_none (A:Option Addr) (c:Nat) (w:World) (h:Hid (Uin w A c [])) :
  Calls Try.prog 24 #[.slice A 0 c] w (DSumRes w []):=by
 have hn:Hid ((0:Nat)=([]:List Ud).length):=Lib.hid rfl
 go_enter Try.func24,Try.ntmps24
 go_wp2_with (first
  | (go_at_call 38;refine (clone_ups A 0 c [] _ hn h (by decide)).mono ?_;rintro r w1 ⟨A1,c1,rfl,o1,x1⟩;have X1:=Lib.hid x1;clear o1 x1)
  | (go_at_call 39;refine (sortNone_any A1 c1 _).mono ?_;rintro e w2 ⟨rfl,rfl⟩)
  | fail)
 go_loop [4,13] (fun u v=>u = .slice none 0 0∧v = .int .i64 0) (fun _ _=>0)
 case atStart=>exact ⟨rfl,rfl⟩
 case round =>
  obtain ⟨rfl,rfl⟩:=hrel
  go_wp2_with (first
   | (go_at_call 43;refine (delNone_any none 0 _).mono ?_;rintro e w2 ⟨rfl,rfl⟩)
   | (go_at_call 42;refine (clip_any none 0 0 _ (Nat.le_refl _) (by decide)).mono ?_;rintro e w3 ⟨rfl,rfl⟩)
   | fail)
  go_ret
  exact ⟨none,0,[],by simp,rfl,Uout.nil _ _,rfl,X1.out⟩
set_option maxRecDepth 100000 in
set_option maxHeartbeats 16000000 in
theorem dsum_some (A:Option Addr) (c n:Nat) (L:List Ud) (w:World) (h0:0<n) (hn:Hid (n=L.length)) (h:Hid (Uin w A c L)) (h9:n≤1000000) (hin:Hid (∀ x∈L,InN x.uv)) (hr:Hid (∀ x∈L,x.l.length≤1000000000∧x.t.l.length≤1000000000)) :
  Calls Try.prog 24 #[.slice A n c] w (DSumRes w L):=by
 have m1:True:=trivial
 go_enter Try.func24,Try.ntmps24
 go_wp2_with (first
  | (go_at_call 38;have mk:=m1;clear m1 mk;refine (clone_ups A n c L _ hn h h9).mono ?_;rintro r w1 ⟨A1,c1,rfl,o1,x1⟩;have hf:=o1.form h0;obtain ⟨g,eA,hb,hg1,hg2,_,_⟩:=hf;subst eA;have HAr:Hid (Arr w1 w.heap.size g c1 L):=Lib.hid ⟨by rw [← hn.out];exact o1,by have:=o1.le.1;omega⟩;have HRw:Hid (Rws w1 g L):=Lib.hid (Rws.of h.out.ls x1 hg1);have X1:=Lib.hid x1;have HG:=Lib.hid hg1;clear o1 x1 hb hg1 hg2;have m2:True:=trivial)
  | (go_at_call 39;have mk:=m2;clear m2 mk;refine (sortStable_any w.heap.size g c1 n L _ hn.out (by omega) HAr.out HRw.out).mono ?_;rintro e w2 ⟨rfl,S,st,ar,up⟩;have HST:=Lib.hid st;have HSL:Hid (n=S.length):=Lib.hid (by rw [stable_len st];exact hn.out);have HMem:Hid (∀ x∈S,x∈L):=Lib.hid (fun x hx=>(st.mem cmpC_tot x).1 hx);have X2:Hid (Ext w w2):=Lib.hid (X1.out.grown up (fun k e=>by cases e;exact HG.out));have HS:Hid (Uin w2 (some ⟨g,0,none⟩) c1 S):=Lib.hid ⟨ar.1.sl,fun x hx=>((HRw.out.upd up) x (HMem.out x hx)).1⟩;have hgw:w.heap.size≤w2.heap.size:=X2.out.size;clear st ar up)
  | fail)
 have HSI:Hid (∀ x∈S,InN x.uv):=Lib.hid (fun x hx=>hin.out x (HMem.out x hx))
 have HSR:Hid (∀ x∈S,x.l.length≤1000000000∧x.t.l.length≤1000000000):=Lib.hid (fun x hx=>hr.out x (HMem.out x hx))
 have HP0:Hid (DSumAt w w2 S w2 0 none 0 []):=Lib.hid ⟨Uout.nil _ _,rfl,Nat.le_refl _,Ext.refl _,X2.out⟩
 clear h hr
 go_loopg [4,13] n (fun z u v wr => ∃ (i m:Nat) (A2:Option Addr) (c2:Nat) (O:List Ud),z=n - i∧i≤n∧m≤i∧u = .slice A2 m c2∧v = .int .i64 i∧Hid (m=O.length)∧Hid (∀ k,blk A2 c2=some k→w2.heap.size≤k)∧Hid (DSumAt w w2 S wr i A2 c2 O))
 case atStart=>exact ⟨0,0,none,0,[],rfl,Nat.zero_le _,Nat.le_refl _,rfl,rfl,Lib.hid rfl,Lib.hid (fun k hk=>nomatch hk),HP0⟩
 case round =>
  clear HP0
  obtain ⟨i,m,A2,c2,O,rfl,hi,hmi,rfl,rfl,HM,HLo,HP⟩:=hrel
  by_cases hlt:i<n
  ·have hil:i<S.length:=by rw [← HSL.out];exact hlt
   obtain ⟨ad,eA,p0,p1,p2,p3⟩:=(HS.out.ext HP.out.ext).at hil
   cases eA
   rw [show (⟨g,0,none⟩:Addr).add (i * 4)=⟨g,i * 4,none⟩ from by unfold Addr.add;split<;>simp_all] at p0 p1 p2 p3
   have hmm:=getU_mem hil
   obtain ⟨x,hx⟩ : ∃ x,S.getD i Ud.zero=x:=⟨_,rfl⟩
   rw [hx] at p0 p1 p2 p3 hmm
   obtain ⟨nx,hnx⟩ : ∃ nx,nx=x.l.length:=⟨_,rfl⟩
   obtain ⟨tx,htx⟩ : ∃ tx,tx=x.t.l.length:=⟨_,rfl⟩
   rw [← hnx] at p0
   rw [← htx] at p2
   have HNX:=Lib.hid hnx
   have HTX:=Lib.hid htx
   have HX:=Lib.hid hx
   have HIL:=Lib.hid hil
   have hnx9:nx≤1000000000:=by rw [hnx];exact (HSR.out x hmm).1
   have htx9:tx≤1000000000:=by rw [htx];exact (HSR.out x hmm).2
   have HUX:Hid (∀ W,Ext w2 W→UdR W x):=Lib.hid (fun W q=>(HS.out.ls x hmm).ext q)
   obtain ⟨wb,hwb⟩ : ∃ z,z=wr.alloc (.cells #[.slice x.A nx x.c, .int .u64 x.t.e, .slice x.t.A tx x.t.c, .int .i64 x.d] 51):=⟨_,rfl⟩
   have XB:Ext wr wb:=by rw [hwb];exact (Ext.refl wr).alloc _
   have BX:Hid (Bk wb wr.heap.size 51 #[.slice x.A nx x.c, .int .u64 x.t.e, .slice x.t.A tx x.t.c, .int .i64 x.d]):=Lib.hid (by rw [hwb];exact Bk.new _ _ _)
   have HB:Hid (DSumAt w w2 S wb i A2 c2 O):=Lib.hid (HP.out.mono XB)
   clear hil hmm hx hnx htx
   go_upto_region 7 with fail
   rw [← hwb]
   clear hwb p0 p1 p2 p3
   obtain ⟨gu,hgu⟩ : ∃ k,k=wr.heap.size:=⟨_,rfl⟩
   rw [← hgu] at BX ⊢
   clear hgu
   have X:Ext wb wb.drew:=(Ext.refl wb).drew
   have q0 : ∀ z:Xt wb.drew,z.W.cell? ⟨gu,0,none⟩=some (.slice x.A nx x.c):=fun z=>(BX.out.ext (X.trans z.x)).cell 0
   have q1 : ∀ z:Xt wb.drew,z.W.cell? ⟨gu,1,none⟩=some (.int .u64 x.t.e):=fun z=>(BX.out.ext (X.trans z.x)).cell 1
   have q2 : ∀ z:Xt wb.drew,z.W.cell? ⟨gu,2,none⟩=some (.slice x.t.A tx x.t.c):=fun z=>(BX.out.ext (X.trans z.x)).cell 2
   have q3 : ∀ z:Xt wb.drew,z.W.cell? ⟨gu,3,none⟩=some (.int .i64 x.d):=fun z=>(BX.out.ext (X.trans z.x)).cell 3
   cases i with
   | zero =>
    have HOn:Hid (O=[] ∨ ∃ M y,O=M++[y] ∧ ¬ kcmp y.k x.k=0):=Lib.hid (.inl (List.eq_nil_of_length_eq_zero (by rw [← HM.out];omega)))
    refine wp_region_ord [0,1,3,7,7,23,63,127,7,511,1023,2047] (.flo [0,1,2,3,4,5,6,7,8] (.one 9 (.flo [10,11] (.fin)))) (by kernel_rfl) (by kernel_rfl) (by intro _ _ d _ _ h;cases d<;>exact h) ?_
    (refine ord_flo (pick_cons rfl (pick_cons rfl (pick_cons rfl (pick_cons rfl (pick_cons rfl (pick_cons rfl (pick_cons rfl (pick_cons rfl (pick_cons rfl pick_nil))))))))) ?_;(repeat (go_big_quiet_step (fail)));refine wpQuiet_nil ?_;show ordWalk _ _ _ _ _ _ _)
    refine ord_one (pick_cons rfl pick_nil) ?_;intro K_ hK_
    go_wp2
    (refine ord_flo (pick_cons rfl (pick_cons rfl pick_nil)) ?_;(repeat (go_big_quiet_step (fail)));refine wpQuiet_nil ?_;show ordWalk _ _ _ _ _ _ _)
    refine ord_fin ?_
    have HB:=Lib.hid (HB.out.mono X)
    obtain ⟨w3,hw3⟩ : ∃ w3,w3=wb.drew:=⟨_,rfl⟩
    have BX:=Lib.hid (BX.out.ext X)
    rw [← hw3] at HB BX ⊢
    clear hw3 q0 q1 q2 q3 X
    have BX0:=BX.out.cell 0
    have BX1:=BX.out.cell 1
    have BX2:=BX.out.cell 2
    have BX3:=BX.out.cell 3
    have HUW:=Lib.hid (HUX.out _ HB.out.ext)
    have hw3:w.heap.size≤w3.heap.size:=Nat.le_trans hgw HB.out.ext.size
    have m5:True:=trivial
    go_wp2_with (first
     | (go_at_call 41;have mk:=m5;clear m5 mk;refine (ucopied_any x nx tx _ HNX HTX HUW hnx9 htx9).mono ?_;rintro e w4 ⟨A4,c4,B4,b4,rfl,o4,t4,x4⟩;have O4:=Lib.hid o4;have T4:=Lib.hid t4;have X4:=Lib.hid x4;have hw4:w.heap.size≤(w4.alloc (.cells (#[.slice A4 nx c4, .int .u64 x.t.e, .slice B4 tx b4, .int .i64 x.d]:Array Value) 51)).heap.size:=(by have:=x4.size;simp;omega);clear o4 t4 x4;have m6:True:=trivial)
     | (at_builtin;have mk:=m6;clear m6 mk;refine wpList_append_two _ elem_ud w.heap.size _ _ rfl rfl A2 m c2 (udsC O) rfl (by have:=(HB.out.out.ext X4.out).own.alloc (.cells (#[.slice A4 nx c4, .int .u64 x.t.e, .slice B4 tx b4, .int .i64 x.d]:Array Value) 51);rwa [← HM.out] at this) (some ⟨w4.heap.size,0,none⟩) 1 1 [.slice A4 nx c4, .int .u64 x.t.e, .slice B4 tx b4, .int .i64 x.d] rfl (Sl.one w4 #[.slice A4 nx c4, .int .u64 x.t.e, .slice B4 tx b4, .int .i64 x.d] 51 4 rfl) (by intro u hu;simp at hu;rcases hu with rfl | rfl | rfl | rfl<;>rfl) (by omega) (by decide) hw4 ?_;intro A6 c6 w6 o6 g6 h6;have HN6:Hid (DSumAt w w2 S w6 (0+1) A6 c6 (O++[⟨A4,c4,x.l,⟨x.t.e,B4,b4,x.t.l⟩,x.d⟩])):=Lib.hid ⟨Uout.push HB.out.out X4.out (x:=⟨A4,c4,x.l,⟨x.t.e,B4,b4,x.t.l⟩,x.d⟩) (by have:=O4.out;rwa [HNX.out] at this) (by have:=T4.out;rwa [HTX.out] at this) hw3 _ (by have:=o6;rw [HM.out,HNX.out,HTX.out] at this;exact this) g6,dkeep_is HB.out.is HIL.out HX.out HOn.out rfl,by rw [List.length_append, ← HM.out];show m+1≤_;omega,((HB.out.ext.trans X4.out).alloc _).grown g6 (fun k hk=>HLo.out k hk),X2.out⟩;have HL6:Hid (∀ k,blk A6 c6=some k→w2.heap.size≤k):=Lib.hid (fun k hk=>by rcases h6 with ⟨e1,e2⟩ | ⟨e1,_⟩;(subst e1 e2;exact HLo.out k hk);(rw [e1] at hk;injection hk with hk;have q1:=HB.out.ext.size;have q2:=X4.out.size;have q3:=((Ext.refl w4).alloc (.cells (#[.slice A4 nx c4, .int .u64 x.t.e, .slice B4 tx b4, .int .i64 x.d]:Array Value) 51)).size;omega));clear o6 g6 h6)
     | fail)
    go_roundg (n - (0+1))
    case measure=>omega
    case rel=>exact ⟨0+1,m+1,A6,c6,_,rfl,by omega,by omega,rfl,by go_num,Lib.hid (by rw [List.length_append,HM.out];rfl),HL6,HN6⟩
   | succ j =>
    have hjl:j<S.length:=by have:=HIL.out;omega
    obtain ⟨ad,eA,s0,s1,s2,s3⟩:=(HS.out.ext (HB.out.ext.trans X)).at hjl
    cases eA
    rw [show (⟨g,0,none⟩:Addr).add (j * 4)=⟨g,j * 4,none⟩ from by unfold Addr.add;split<;>simp_all] at s0 s1 s2 s3
    have hms:=getU_mem hjl
    obtain ⟨M,y,hOM,hkk⟩:=dlast HST.out.sorted HSI.out HB.out.is hjl
    obtain ⟨s,hs⟩ : ∃ s,S.getD j Ud.zero=s:=⟨_,rfl⟩
    rw [hs] at s0 s1 s2 s3 hms hkk
    obtain ⟨ns,hns⟩ : ∃ ns,ns=s.l.length:=⟨_,rfl⟩
    obtain ⟨ts,hts⟩ : ∃ ts,ts=s.t.l.length:=⟨_,rfl⟩
    rw [← hns] at s0
    rw [← hts] at s2
    have HNS:=Lib.hid hns
    have HTS:=Lib.hid hts
    have HUS:Hid (∀ W,Ext w2 W→UdR W s):=Lib.hid (fun W q=>(HS.out.ls s hms).ext q)
    have S0 : ∀ z:Xt wb.drew,z.W.cell? ⟨g,j * 4,none⟩=some (.slice s.A ns s.c):=fun z=>z.x.cell s0
    have S1 : ∀ z:Xt wb.drew,z.W.cell? ⟨g,j * 4+1,none⟩=some (.int .u64 s.t.e):=fun z=>z.x.cell s1
    have S2 : ∀ z:Xt wb.drew,z.W.cell? ⟨g,j * 4+2,none⟩=some (.slice s.t.A ts s.t.c):=fun z=>z.x.cell s2
    have S3 : ∀ z:Xt wb.drew,z.W.cell? ⟨g,j * 4+3,none⟩=some (.int .i64 s.d):=fun z=>z.x.cell s3
    obtain ⟨v,hv⟩ : ∃ v,cmpC s x=v:=⟨_,rfl⟩
    have HV:=Lib.hid hv
    have HKK:Hid (kcmp y.k x.k=0↔v=0):=Lib.hid (by rw [← hv];exact hkk x)
    have HOM:=Lib.hid hOM
    have HU1:=Lib.hid (HUS.out _ (HB.out.ext.trans X))
    have HU2:=Lib.hid (HUX.out _ (HB.out.ext.trans X))
    have za:decide ((0:Int)<(j:Int)+1)=true:=decide_eq_true (by omega)
    clear hs hms hns hts hv hOM hkk hjl s0 s1 s2 s3
    by_cases hv0:v=0
    ·have HC:Hid (kcmp y.k x.k=0):=Lib.hid (HKK.out.2 hv0)
     subst hv0
     clear HKK
     refine wp_region_ord [0,1,3,7,7,23,63,127,7,511,1023,2047] (.flo [0,1,2,3,4,5,6,7,8] (.one 9 (.flo [10,11] (.fin)))) (by kernel_rfl) (by kernel_rfl) (by intro _ _ d _ _ h;cases d<;>exact h) ?_
     (refine ord_flo (pick_cons rfl (pick_cons rfl (pick_cons rfl (pick_cons rfl (pick_cons rfl (pick_cons rfl (pick_cons rfl (pick_cons rfl (pick_cons rfl pick_nil))))))))) ?_;(repeat (go_big_quiet_step (fail)));refine wpQuiet_nil ?_;show ordWalk _ _ _ _ _ _ _)
     refine ord_one (pick_cons rfl pick_nil) ?_;intro K_ hK_
     go_wp2_with (go_at_call 40;refine (order_any s x ns nx ts tx 0 _ HV HNS HNX HTS HTX HU1 HU2).mono ?_;rintro e w3 ⟨rfl,x3⟩)
     (refine ord_flo (pick_cons rfl (pick_cons rfl pick_nil)) ?_;(repeat (go_big_quiet_step (fail)));refine wpQuiet_nil ?_;show ordWalk _ _ _ _ _ _ _)
     refine ord_fin ?_
     have HB:=Lib.hid (HB.out.mono (X.trans x3))
     have BX:=Lib.hid (BX.out.ext (X.trans x3))
     clear q0 q1 q2 q3 S0 S1 S2 S3 x3
     obtain ⟨p,hp⟩ : ∃ p,p=M.length:=⟨_,rfl⟩
     have hmp:m=p+1:=by rw [HM.out,HOM.out,List.length_append,hp];rfl
     subst hmp
     have HPL:=Lib.hid hp
     have hob:=HB.out.out.own
     have hof:=hob.form (by rw [← HM.out];omega)
     obtain ⟨g2,eA2,hb2,hg2,_,hc2,hf2⟩:=hof
     subst eA2
     have hg3:w2.heap.size≤g2:=HLo.out g2 hb2
     have hyy:(udsC O)[p * 4+3]?=some (.int .i64 y.d):=by
      rw [udsC_at O p 3 (by rw [← HM.out];omega) (by omega),HOM.out,List.getD_eq_getElem?_getD,List.getElem?_append_right (by rw [hp];exact Nat.le_refl _),hp,Nat.sub_self]
      rfl
     have y3:=hc2 _ _ hyy
     have f3:=hf2 (p * 4+3)
     have u3:=BX.out.cell 3
     obtain ⟨sm,hsm⟩ : ∃ sm,w64 (y.d+x.d)=sm:=⟨_,rfl⟩
     have hsm2:IntKind.i64.wrap (y.d+x.d)=sm:=hsm
     have HSM:=Lib.hid hsm
     have X3:Ext w3 w3.drew:=(Ext.refl w3).drew
     have Y3 : ∀ z:Xt w3.drew,z.W.cell? ⟨g2,p * 4+3,none⟩=some (.int .i64 y.d):=fun z=>(X3.trans z.x).cell y3
     have U3 : ∀ z:Xt w3.drew,z.W.cell? ⟨gu,3,none⟩=some (.int .i64 x.d):=fun z=>(X3.trans z.x).cell u3
     have HB3:Hid (DSumAt w w2 S (w3.setCell ⟨g2,p * 4+3,none⟩ (.int .i64 sm)) (j+1+1) (some ⟨g2,0,none⟩) c2 (M++[⟨y.A,y.c,y.l,y.t,sm⟩])):=Lib.hid (DSumAt.join (by have:=HB.out;rwa [HOM.out] at this) HIL.out HX.out HC.out HPL.out HSM.out hg3)
     clear hyy hp hsm hob hc2 hf2 hb2
     go_upto_region 8 with fail
     refine wp_region_ord [0,0,2,6,15,31,63,0,128,511,1023,2047,4095] (.flo [0,1,2,3,4,5,6,7,8,9,10,11] (.one 12 (.fin))) (by kernel_rfl) (by kernel_rfl) (by intro _ _ d _ _ h;cases d<;>exact h) ?_
     (refine ord_flo (pick_cons rfl (pick_cons rfl (pick_cons rfl (pick_cons rfl (pick_cons rfl (pick_cons rfl (pick_cons rfl (pick_cons rfl (pick_cons rfl (pick_cons rfl (pick_cons rfl (pick_cons rfl pick_nil)))))))))))) ?_;(repeat (go_big_quiet_step (fail)));refine wpQuiet_nil ?_;show ordWalk _ _ _ _ _ _ _)
     refine ord_one (pick_cons rfl pick_nil) ?_;intro K_ hK_
     go_wp2
     refine ord_fin ?_
     go_wp2
     go_roundg (n - (j+1+1))
     case measure=>omega
     case rel=>exact ⟨j+1+1,p+1,some ⟨g2,0,none⟩,c2,_,rfl,by omega,by omega,rfl,by go_num,Lib.hid (by rw [List.length_append,HPL.out];rfl),HLo,Lib.hid (HB3.out.mono (Ext.refl _).drew)⟩
    ·have zv:(v==0)=false:=by simpa using hv0
     have HOn:Hid (O=[] ∨ ∃ M y,O=M++[y] ∧ ¬ kcmp y.k x.k=0):=Lib.hid (.inr ⟨M,y,HOM.out,fun q=>hv0 (HKK.out.1 q)⟩)
     refine wp_region_ord [0,1,3,7,7,23,63,127,7,511,1023,2047] (.flo [0,1,2,3,4,5,6,7,8] (.one 9 (.flo [10,11] (.fin)))) (by kernel_rfl) (by kernel_rfl) (by intro _ _ d _ _ h;cases d<;>exact h) ?_
     (refine ord_flo (pick_cons rfl (pick_cons rfl (pick_cons rfl (pick_cons rfl (pick_cons rfl (pick_cons rfl (pick_cons rfl (pick_cons rfl (pick_cons rfl pick_nil))))))))) ?_;(repeat (go_big_quiet_step (fail)));refine wpQuiet_nil ?_;show ordWalk _ _ _ _ _ _ _)
     refine ord_one (pick_cons rfl pick_nil) ?_;intro K_ hK_
     go_wp2_with (go_at_call 40;refine (order_any s x ns nx ts tx v _ HV HNS HNX HTS HTX HU1 HU2).mono ?_;rintro e w3 ⟨rfl,x3⟩)
     (refine ord_flo (pick_cons rfl (pick_cons rfl pick_nil)) ?_;(repeat (go_big_quiet_step (fail)));refine wpQuiet_nil ?_;show ordWalk _ _ _ _ _ _ _)
     refine ord_fin ?_
     have HB:=Lib.hid (HB.out.mono (X.trans x3))
     have BX:=Lib.hid (BX.out.ext (X.trans x3))
     clear q0 q1 q2 q3 S0 S1 S2 S3 x3 X
     have BX0:=BX.out.cell 0
     have BX1:=BX.out.cell 1
     have BX2:=BX.out.cell 2
     have BX3:=BX.out.cell 3
     have HUW:=Lib.hid (HUX.out _ HB.out.ext)
     have hw3:w.heap.size≤w3.heap.size:=Nat.le_trans hgw HB.out.ext.size
     have m5:True:=trivial
     go_wp2_with (first
      | (go_at_call 41;have mk:=m5;clear m5 mk;refine (ucopied_any x nx tx _ HNX HTX HUW hnx9 htx9).mono ?_;rintro e w4 ⟨A4,c4,B4,b4,rfl,o4,t4,x4⟩;have O4:=Lib.hid o4;have T4:=Lib.hid t4;have X4:=Lib.hid x4;have hw4:w.heap.size≤(w4.alloc (.cells (#[.slice A4 nx c4, .int .u64 x.t.e, .slice B4 tx b4, .int .i64 x.d]:Array Value) 51)).heap.size:=(by have:=x4.size;simp;omega);clear o4 t4 x4;have m6:True:=trivial)
      | (at_builtin;have mk:=m6;clear m6 mk;refine wpList_append_two _ elem_ud w.heap.size _ _ rfl rfl A2 m c2 (udsC O) rfl (by have:=(HB.out.out.ext X4.out).own.alloc (.cells (#[.slice A4 nx c4, .int .u64 x.t.e, .slice B4 tx b4, .int .i64 x.d]:Array Value) 51);rwa [← HM.out] at this) (some ⟨w4.heap.size,0,none⟩) 1 1 [.slice A4 nx c4, .int .u64 x.t.e, .slice B4 tx b4, .int .i64 x.d] rfl (Sl.one w4 #[.slice A4 nx c4, .int .u64 x.t.e, .slice B4 tx b4, .int .i64 x.d] 51 4 rfl) (by intro u hu;simp at hu;rcases hu with rfl | rfl | rfl | rfl<;>rfl) (by omega) (by decide) hw4 ?_;intro A6 c6 w6 o6 g6 h6;have HN6:Hid (DSumAt w w2 S w6 ((j+1)+1) A6 c6 (O++[⟨A4,c4,x.l,⟨x.t.e,B4,b4,x.t.l⟩,x.d⟩])):=Lib.hid ⟨Uout.push HB.out.out X4.out (x:=⟨A4,c4,x.l,⟨x.t.e,B4,b4,x.t.l⟩,x.d⟩) (by have:=O4.out;rwa [HNX.out] at this) (by have:=T4.out;rwa [HTX.out] at this) hw3 _ (by have:=o6;rw [HM.out,HNX.out,HTX.out] at this;exact this) g6,dkeep_is HB.out.is HIL.out HX.out HOn.out rfl,by rw [List.length_append, ← HM.out];show m+1≤_;omega,((HB.out.ext.trans X4.out).alloc _).grown g6 (fun k hk=>HLo.out k hk),X2.out⟩;have HL6:Hid (∀ k,blk A6 c6=some k→w2.heap.size≤k):=Lib.hid (fun k hk=>by rcases h6 with ⟨e1,e2⟩ | ⟨e1,_⟩;(subst e1 e2;exact HLo.out k hk);(rw [e1] at hk;injection hk with hk;have q1:=HB.out.ext.size;have q2:=X4.out.size;have q3:=((Ext.refl w4).alloc (.cells (#[.slice A4 nx c4, .int .u64 x.t.e, .slice B4 tx b4, .int .i64 x.d]:Array Value) 51)).size;omega));clear o6 g6 h6)
      | fail)
     go_roundg (n - ((j+1)+1))
     case measure=>omega
     case rel=>exact ⟨(j+1)+1,m+1,A6,c6,_,rfl,by omega,by omega,rfl,by go_num,Lib.hid (by rw [List.length_append,HM.out];rfl),HL6,HN6⟩
  ·obtain rfl:i=n:=by omega
   obtain ⟨j,rfl⟩ : ∃ j,i=j+1:=⟨i - 1,by omega⟩
   obtain ⟨M,y,hOM,_⟩:=dlast HST.out.sorted HSI.out HP.out.is (show j<S.length by rw [← HSL.out];omega)
   have hm0:0<m:=by rw [HM.out,hOM];simp
   have hob:=HP.out.out.own
   have hof:=hob.form (by rw [← HM.out];exact hm0)
   obtain ⟨g2,eA2,hb2,hg2,_,_,_⟩:=hof
   subst eA2
   have hmc:m≤c2:=by have:=hob.le.1;rwa [← HM.out] at this
   have hc9:c2≤9223372036854775807:=hob.le.2
   have HArr:Hid (Arr wr w.heap.size g2 c2 O):=Lib.hid ⟨hob,by omega⟩
   have HV:Hid ((O.filter nzC).map Ud.uv=sumV (L.map Ud.uv)):=Lib.hid (dsum_val hin.out HST.out (by have:=HP.out.is;rwa [List.take_of_length_le (by rw [← HSL.out];exact Nat.le_refl _)] at this))
   have HXE:Hid (Ext w wr):=Lib.hid (X2.out.trans HP.out.ext)
   have HG2:=Lib.hid hg2
   clear hOM hob hb2 hg2
   have m3:True:=trivial
   go_wp2_with (first
    | (go_at_call 43;have mk:=m3;clear m3 mk;refine (deleteFunc_any w.heap.size g2 c2 m O _ HM.out HArr.out).mono ?_;rintro e w5 ⟨m5,rfl,hm5,ar5,up5⟩;have HD:Hid (Uout w5 w.heap.size (some ⟨g2,0,none⟩) c2 (O.filter nzC)):=Lib.hid (Uout.del HP.out.out nzC ar5 up5);have X5:Hid (Ext w w5):=Lib.hid (HXE.out.grown up5 (fun k e=>by cases e;exact HG2.out));have HM5:=Lib.hid hm5;have hm5c:m5≤c2:=(by rw [hm5];exact ar5.1.le.1);clear hm5 ar5 up5;have m4:True:=trivial)
    | (go_at_call 42;have mk:=m4;clear m4 mk;refine (clip_any (some ⟨g2,0,none⟩) m5 c2 _ hm5c hc9).mono ?_;rintro e w6 ⟨rfl,rfl⟩)
    | fail)
   go_ret
   exact ⟨some ⟨g2,0,none⟩,m5,O.filter nzC,by simp,HM5.out,by have:=HD.out.clip;rwa [← HM5.out] at this,HV.out,X5.out⟩
theorem dsum_any (A:Option Addr) (c n:Nat) (L:List Ud) (w:World) (hn:Hid (n=L.length)) (h:Hid (Uin w A c L)) (h9:n≤1000000) (hin:Hid (∀ x∈L,InN x.uv)) (hr:Hid (∀ x∈L,x.l.length≤1000000000∧x.t.l.length≤1000000000)) :
  Calls Try.prog 24 #[.slice A n c] w (DSumRes w L):=by
 rcases Nat.eq_zero_or_pos n with h0 | h0
 ·subst h0
  have e:L=[]:=List.eq_nil_of_length_eq_zero hn.out.symm
  subst e
  exact dsum_none A c w h
 ·exact dsum_some A c n L w h0 hn h h9 hin hr
end UdS
open Go.RowKit
/-- a side of such updates -/
structure SdG (w:World) (s:SdM) (T:List UV):Prop where
 r:SdR w s
 v:SdV s T
 g : ∀ u∈T,GoodJ 32 u
 n:T.length≤100000
theorem SdG.ext {w w':World} {s:SdM} {T:List UV} (h:SdG w s T) (x:Ext w w'):SdG w' s T:=⟨h.r.ext x,h.v,h.g,h.n⟩
theorem SdG.len {w:World} {s:SdM} {T:List UV} (h:SdG w s T):(s.r++s.E.flatMap Ls.l).length=T.length:=by
 have:=h.v.all.length_eq
 rwa [List.length_map] at this
theorem SdG.mem {w:World} {s:SdM} {T:List UV} (h:SdG w s T) {M:List Ud} (hp:M.Perm (s.r++s.E.flatMap Ls.l)) : ∀ x∈M,GoodJ 32 x.uv∧UdO w x:=fun x hx=>by
 have hm:=hp.mem_iff.1 hx
 refine ⟨h.g _ (h.v.all.mem_iff.1 (List.mem_map.2 ⟨x,hm,rfl⟩)),?_⟩
 rcases List.mem_append.1 hm with q | q
 ·exact h.r.rs.el x q
 ·obtain ⟨y,hy,hx2⟩:=List.mem_flatMap.1 q
  exact (h.r.es y hy).el x hx2
theorem SdG.sum {w:World} {s:SdM} {T:List UV} (h:SdG w s T) {M:List Ud} (hp:M.Perm (s.r++s.E.flatMap Ls.l)):UdS.sumV (M.map Ud.uv)=UdS.sumV T:=sumJ_perm ((hp.map _).trans h.v.all) h.g
/-- the join's block -/
def joinC (a b:SdM) (ca am cb bm:Nat):Array Value := #[.slice a.CA ca a.cc, .map (some a.mb), .slice a.A am a.c, .slice b.CA cb b.cc, .map (some b.mb), .slice b.A bm b.c]
/-- all, summed: how long -/
theorem sum_len {s:SdM} {T:List UV} {w1:World} (hs:SdG w1 s T) {A:Option Addr} {n c:Nat} {M:List Ud} (hn:n=M.length) (o:Own w1 0 51 4 A n c (udsC M)) (hp:M.Perm (s.r++s.E.flatMap Ls.l)) :
  Calls Try.prog 24 #[.slice A n c] w1 fun e w'=>(∃ A',e = .returned (.slice A' (UdS.sumV T).length (UdS.sumV T).length))∧Ext w1 w':=by
 have hm:=hs.mem hp
 have hl:M.length≤100000:=by rw [hp.length_eq,hs.len];exact hs.n
 refine (UdS.dsum_any A c n M w1 (Lib.hid hn) (Lib.hid ⟨by rw [← hn];exact o.sl,fun x hx=>(hm x hx).2.udr⟩) (by omega) (Lib.hid fun x hx=>(hm x hx).1.num) (Lib.hid fun x hx=>⟨by have:=(hm x hx).1.rl;show x.l.length≤_;exact Nat.le_trans this (by omega),by have:=(hm x hx).1.tl;show x.t.l.length≤_;exact Nat.le_trans this (by omega)⟩)).mono ?_
 rintro e w2 ⟨A2,m,R,rfl,hmR,_,hv,x2⟩
 have e2:m=(UdS.sumV T).length:=by rw [hmR, ← hs.sum hp, ← hv,List.length_map]
 exact ⟨⟨A2,by rw [e2]⟩,x2⟩
set_option maxRecDepth 100000 in
set_option maxHeartbeats 4000000 in
theorem len_any (jb ca am cb bm:Nat) (a b:SdM) (Ta Tb:List UV) (w:World) (hj:Hid (Bk w jb 65 (joinC a b ca am cb bm))) (ham:Hid (am=a.r.length)) (hbm:Hid (bm=b.r.length)) (ha:Hid (SdG w a Ta)) (hb:Hid (SdG w b Tb)) :
  Calls Try.prog 13 #[.pointer (some ⟨jb,0,none⟩)] w fun e w'=>e = .returned (.int .i64 ((UdS.sumV Ta).length+(UdS.sumV Tb).length))∧Ext w w':=by
 have sum_le : ∀ T:List UV,(UdS.sumV T).length≤T.length:=fun T=>by
  have h1 : ∀ (R:List UV) (x:UV),(UdS.addV R x).length≤R.length+1:=fun R x=>by
   induction R with
   | nil=>exact Nat.le_refl _
   | cons y R ih =>
    unfold UdS.addV
    repeat' split
    all_goals first | (simp only [List.length_cons];omega) | (simp;omega) | simp
  have h2 : ∀ (D R:List UV),(D.foldl UdS.addV R).length≤R.length+D.length:=fun D=>by
   induction D with
   | nil=>exact fun R=>Nat.le_refl _
   | cons y D ih =>
    intro R
    have q1:=ih (UdS.addV R y)
    have q2:=h1 R y
    rw [List.foldl_cons,List.length_cons]
    omega
  have:=h2 T []
  rw [List.length_nil,Nat.zero_add] at this
  exact Nat.le_trans (List.length_filter_le _ _) this
 have la:(UdS.sumV Ta).length≤100000:=Nat.le_trans (sum_le Ta) ha.out.n
 have lb:(UdS.sumV Tb).length≤100000:=Nat.le_trans (sum_le Tb) hb.out.n
 have lar:am≤100000:=by
  have q1:=ha.out.len
  have q2:=ha.out.n
  rw [List.length_append] at q1
  rw [ham.out];omega
 have lbr:bm≤100000:=by
  have q1:=hb.out.len
  have q2:=hb.out.n
  rw [List.length_append] at q1
  rw [hbm.out];omega
 obtain ⟨na,hna⟩ : ∃ na,(UdS.sumV Ta).length=na:=⟨_,rfl⟩
 obtain ⟨nb,hnb⟩ : ∃ nb,(UdS.sumV Tb).length=nb:=⟨_,rfl⟩
 rw [hna] at la ⊢
 rw [hnb] at lb ⊢
 have HNA:=Lib.hid hna
 have HNB:=Lib.hid hnb
 clear hna hnb sum_le
 have xd:Ext w w.drew:=(Ext.refl w).drew
 have hwr:IntKind.i64.wrap ((na:Int)+(nb:Int))=(na:Int)+(nb:Int):=IntWalk.i64_in _ (by omega)
 have hw64:wrap64 ((na:Int)+(nb:Int))=(na:Int)+(nb:Int):=by unfold wrap64;omega
 go_enter Try.func13,Try.ntmps13
 go_upto_region 1 with fail
 refine wp_region_ord [0,1,3,7,15,31,0,64,192,479,991,2015,4095,8191] (.flo [0,1,2] (.pur [6,7,8] (.one 3 (.one 4 (.pur [5] (.one 9 (.one 10 (.flo [11,12,13] (.fin))))))))) (by kernel_rfl) (by kernel_rfl) (by intro _ _ d _ _ h;cases d<;>exact h) ?_
 (refine ord_flo (pick_cons rfl (pick_cons rfl (pick_cons rfl pick_nil))) ?_;(repeat (go_big_quiet_step (fail)));refine wpQuiet_nil ?_;show ordWalk _ _ _ _ _ _ _)
 (refine ord_pur (pick_cons rfl (pick_cons rfl (pick_cons rfl pick_nil))) ?_;(repeat (go_big_quiet_step (fail)));refine wpQuiet_nil ?_;show ordWalk _ _ _ _ _ _ _)
 refine ord_one (pick_cons rfl pick_nil) ?_;intro K_ hK_
 go_wp2_with (go_at_call 30;refine (all_any jb 0 am a w.drew ((Bk.ext hj.out xd).cell 1) ((Bk.ext hj.out xd).cell 2) ham (Lib.hid (ha.out.r.ext xd)) (Lib.hid (by rw [ha.out.len];exact ha.out.n)) lar).mono ?_;rintro e w1 ⟨A1,n1,c1,M1,rfl,hn1,o1,p1,x1⟩;have O1:=Lib.hid o1;have P1:=Lib.hid p1;have X1:=Lib.hid (xd.trans x1);have HN1:=Lib.hid hn1;clear o1 p1 x1 hn1)
 refine ord_one (pick_cons rfl pick_nil) ?_;intro K_ hK_
 go_wp2_with (go_at_call 24;refine (sum_len (ha.out.ext X1.out) HN1.out (O1.out.mono (Nat.zero_le _)) P1.out).mono ?_;rw [HNA.out];rintro e w2 ⟨⟨A2,rfl⟩,x2⟩;have X2:=Lib.hid (X1.out.trans x2);clear x2)
 (refine ord_pur (pick_cons rfl pick_nil) ?_;(repeat (go_big_quiet_step (fail)));refine wpQuiet_nil ?_;show ordWalk _ _ _ _ _ _ _)
 refine ord_one (pick_cons rfl pick_nil) ?_;intro K_ hK_
 go_wp2_with (go_at_call 30;refine (all_any jb 3 bm b w2 ((Bk.ext hj.out X2.out).cell 4) ((Bk.ext hj.out X2.out).cell 5) hbm (Lib.hid (hb.out.r.ext X2.out)) (Lib.hid (by rw [hb.out.len];exact hb.out.n)) lbr).mono ?_;rintro e w3 ⟨A3,n3,c3,M3,rfl,hn3,o3,p3,x3⟩;have O3:=Lib.hid o3;have P3:=Lib.hid p3;have X3:=Lib.hid (X2.out.trans x3);have HN3:=Lib.hid hn3;clear o3 p3 x3 hn3)
 refine ord_one (pick_cons rfl pick_nil) ?_;intro K_ hK_
 go_wp2_with (go_at_call 24;refine (sum_len (hb.out.ext X3.out) HN3.out (O3.out.mono (Nat.zero_le _)) P3.out).mono ?_;rw [HNB.out];rintro e w4 ⟨⟨A4,rfl⟩,x4⟩;have X4:=Lib.hid (X3.out.trans x4);clear x4)
 (refine ord_flo (pick_cons rfl (pick_cons rfl (pick_cons rfl pick_nil))) ?_;(repeat (go_big_quiet_step (fail)));refine wpQuiet_nil ?_;show ordWalk _ _ _ _ _ _ _)
 refine ord_fin ?_
 go_wp2
 go_ret
 exact ⟨rfl,X4.out⟩
end Go.Proofs.Ytdgbkpoickbidaa
