/- ShareReads: the walk. Conditions: each theorem states its own. -/
import Derived.Test.YtdgbkpoickbidaaGreatDoorHr17
namespace Go.Proofs.YtdgbkpoickbidaaGreatDoor
open Go.RowKit

theorem rd_sl {w w':World} {A:Option Addr} {m:Nat} {Q:List Ud} (u:Uout w' w.heap.size A m Q) (hm:m=Q.length):Sl w' 4 A m m (udsC Q):=by
 have q:=u.uin.sl
 rwa [← hm] at q
set_option maxRecDepth 100000 in
set_option maxHeartbeats 16000000 in
theorem reads_some (A:Option Addr) (n c:Nat) (M:List Hop) (first:Int) (w:World) (G:Good w) (hn:Hid (n=M.length)) (hM:Hid (Hin w A c M)) (hI:Hid (∀ x∈M,HopIn x)) (hb:Hid (∀ x∈M,x.L.length≤1048576)) (hmu:Hid (muchH M=false)) (hf:Hid (0≤first∧first≤18446744073709551615)) :
  Calls Tryz.prog 8 #[.slice A n c, .int .u64 first] w fun e w'=>e = .returned (.bool true)∧Ext w w':=by
 have HO:Hid (Hops M):=Lib.hid (hops_of hmu.out)
 have hcap:n≤300:=by
  have:=HO.out.len
  have h2:=hops_n M
  rw [hn.out]
  omega
 have m1:True:=trivial
 go_enter Tryz.func8,Tryz.ntmps8
 go_wp2_with (first
  | (go_at_call 68;have mk:=m1;clear m1 mk;refine (much12_at A c n M _ hmu hn hM hb).mono ?_;rintro r v1 ⟨rfl,x1⟩;have X1:=Lib.hid x1;clear x1;have m2:True:=trivial)
  | (go_at_call 69;have mk:=m2;clear m2 mk;refine (known12_any _ (G.ext X1.out)).mono ?_;rintro r v2 ⟨rfl,x2⟩;have X2:=Lib.hid (X1.out.trans x2);clear x2;have m3:True:=trivial)
  | (go_at_call 70;have mk:=m3;clear m3 mk;refine (sho_new w _ (fun _=>False) X2 (Lib.hid (fun k hk=>hk.elim))).mono ?_;rintro r v3 ⟨gt,rfl,s3,x3⟩;have HH0:=Lib.hid (RdI.start (M:=M) (first:=first) s3);clear s3 x3)
  | fail)
 go_loopg [6,7,8,9,10] n (fun z s6 s7 s8 s9 u wr => ∃ (i:Nat) (v:TrV) (hx:Option Hv) (upto:Int) (A1:Option Addr) (n1 c1:Nat) (L:List Ud) (A2:Option Addr) (n2 c2:Nat) (D:List Ud) (K:Nat→Prop),z=n - i∧i≤n∧s6 = .slice A1 n1 c1∧s7 = .slice A2 n2 c2∧s8=hptr hx∧s9 = .int .u64 upto∧u = .int .i64 i∧Hid (n2≤600 * i)∧Hid (RdI w wr M i gt first v hx upto A1 n1 c1 L A2 n2 c2 D K))
 case atStart=>exact ⟨0,_,none,first,none,0,0,[],none,0,0,[],_,rfl,Nat.zero_le _,rfl,rfl,rfl,rfl,rfl,Lib.hid (Nat.zero_le _),HH0⟩
 case round =>
  clear HH0 X2 X1
  obtain ⟨i,v,hx,upto,A1,n1,c1,L,A2,n2,c2,D,K,rfl,hi,rfl,rfl,rfl,rfl,rfl,HN,HI⟩:=hrel
  by_cases hlt:i<n
  ·have hiM:i<M.length:=by rw [← hn.out];exact hlt
   have HIM:=Lib.hid hiM
   obtain ⟨x,hx'⟩ : ∃ x,M.getD i Hop.zero=x:=⟨_,rfl⟩
   have hxm:x∈M:=hx' ▸ getH_mem hiM
   have hle:=HO.out.at hiM
   rw [hx'] at hle
   obtain ⟨ad,eA,q0,q1,q2,q3,q4⟩:=(hM.out.ext HI.out.s.ext).at hiM hx'
   subst eA
   have HU:Hid (Uin w x.A x.c x.L):=Lib.hid (hM.out.ls x hxm)
   have HXI:Hid (HopIn x):=Lib.hid (hI.out x hxm)
   have HIN:Hid (∀ y∈x.L,InU y):=Lib.hid (HO.out.inU hxm HXI.out)
   have hk:=HXI.out.k
   have hxn:=HXI.out.n
   obtain ⟨xk,hxk⟩ : ∃ k,x.k=k:=⟨_,rfl⟩
   obtain ⟨nL,hnL⟩ : ∃ k,k=x.L.length:=⟨_,rfl⟩
   obtain ⟨xe,hee⟩ : ∃ k,x.e=k:=⟨_,rfl⟩
   obtain ⟨xn,hne⟩ : ∃ k,x.n=k:=⟨_,rfl⟩
   obtain ⟨xb,hxb⟩ : ∃ k,x.b=k:=⟨_,rfl⟩
   obtain ⟨xA,hxA⟩ : ∃ k,x.A=k:=⟨_,rfl⟩
   obtain ⟨xc,hxc⟩ : ∃ k,x.c=k:=⟨_,rfl⟩
   have HXE:Hid (0≤xe∧xe≤18446744073709551615):=Lib.hid (hee ▸ HXI.out.e)
   rw [hxk] at q0 hk
   rw [hxA,hxc, ← hnL] at q1
   rw [hee] at q2
   rw [hne] at q3 hxn
   rw [hxb] at q4
   rw [hxA,hxc] at HU
   rw [← hnL] at hle
   have HNL:=Lib.hid hnL
   have HNX:Hid (nL=(M.getD i Hop.zero).L.length):=Lib.hid (by rw [hx'];exact hnL)
   have HLE:=Lib.hid hle
   clear hxA hxc hee hne hnL hx' hxm hiM hle hxk HXI hxb
   go_upto_block 2 with fail
   obtain ⟨wo,hwo⟩ : ∃ wo,wo=wr.alloc (.cells #[.int .u8 xk, .slice xA nL xc, .int .u64 xe, .int .i64 xn, .int .u8 xb] 114):=⟨_,rfl⟩
   obtain ⟨go,hgo⟩ : ∃ g,g=wr.heap.size:=⟨_,rfl⟩
   have BO:Hid (Bk wo go 114 #[.int .u8 xk, .slice xA nL xc, .int .u64 xe, .int .i64 xn, .int .u8 xb]):=Lib.hid (by rw [hwo,hgo];exact Bk.new _ _ _)
   have XO:Hid (Ext wr wo):=Lib.hid (by rw [hwo];exact (Ext.refl _).alloc _)
   have HI2:=Lib.hid (HI.out.cell (go:=go) XO.out (by omega) BO.out.lt)
   have HFA:Hid (∀ k,blk A2 c2=some k→k≠go):=Lib.hid (fun k hk=>by have:=(HI.out.d.own.lt k hk).2;omega)
   obtain ⟨xq,hxq⟩ : ∃ q,xk % 9=q:=⟨_,rfl⟩
   have hq9:0≤xq∧xq≤8:=by omega
   have HXQ:=Lib.hid hxq
   have HKK:=Lib.hid hk
   rw [hxq, ← hwo, ← hgo]
   clear hwo hgo hxq hk q0 q1 q2 q3 q4
   go_cut [6,7,8,9] (fun s6 s7 s8 s9 wx => ∃ (v:TrV) (hx:Option Hv) (upto:Int) (A1:Option Addr) (n1 c1:Nat) (L:List Ud) (A2:Option Addr) (n2 c2:Nat) (D:List Ud) (K:Nat→Prop),s6 = .slice A1 n1 c1∧s7 = .slice A2 n2 c2∧s8=hptr hx∧s9 = .int .u64 upto∧n2≤600 * (i+1)∧RdI w wx M (i+1) gt first v hx upto A1 n1 c1 L A2 n2 c2 D K)
   case first =>
    have hq:(xq=0∨xq=1)∨xq=2∨(xq=3∨xq=4)∨xq=5∨(¬ xq=0 ∧ ¬ xq=1 ∧ ¬ xq=2 ∧ ¬ xq=3 ∧ ¬ xq=4 ∧ ¬ xq=5):=by omega
    have c0:wo.cell? ⟨go,0,none⟩=some (.int .u8 xk):=BO.out.cell 0
    have c1':wo.cell? ⟨go,1,none⟩=some (.slice xA nL xc):=BO.out.cell 1
    have c2':wo.cell? ⟨go,2,none⟩=some (.int .u64 xe):=BO.out.cell 2
    have c3':wo.cell? ⟨go,3,none⟩=some (.int .i64 xn):=BO.out.cell 3
    have hn2:=HN.out
    have HS:=Lib.hid HI2.out.s
    rcases hq with hq | hq | hq | hq | ⟨h0,h1,h2,h3,h4,h5⟩
    ·obtain ⟨⟨ie,iv⟩,hiv⟩ : ∃ q,tinsV v (x.L.map Ud.uv) xe=q:=⟨_,rfl⟩
     have HIV:=Lib.hid hiv
     have hn1:n1≤300:=by have q1:=HI.out.s.tt.n;rw [List.length_map] at q1;have q2:=hopsLen_le M i;have q3:=HO.out.len;have q4:=HI.out.len;omega
     have hz0:=HI2.out.s.ext.size
     clear hiv
     by_cases hie:ie=0
     ·subst hie
      rcases hq with hq | hq<;>subst hq
      all_goals
       have m1:True:=trivial
       go_wp2_with (first
        | (go_at_call 71;have mk:=m1;clear m1 mk;refine (sho_ins (q:=(0,iv)) xA xc nL x.L xe HS HIV HNL (Lib.hid (HU.out.ext HS.out.ext)) HIN HXE (Lib.hid (by have:=HLE.out;omega)) (Lib.hid (G.ext HS.out.ext))).mono ?_;rintro r w6 ⟨rfl,k6,h6⟩;have H6:=Lib.hid (or_two h6 rfl);have K6:=Lib.hid k6;have C6:w6.cell? ⟨go,1,none⟩=some (.slice xA nL xc):=(BO.out.upd k6 (fun q=>q.2 (.inr rfl))).cell 1;have HA6:Hid (Own w6 w.heap.size 95 4 A1 n1 c1 (udsC L)):=Lib.hid (HI2.out.a.upd k6 fun k hk q=>q.2 (HI2.out.ak k hk));have hz6:w.heap.size≤w6.heap.size:=Nat.le_trans hz0 k6.size;clear k6 h6;have m2:True:=trivial)
        | (at_builtin;have mk:=m2;clear m2 mk;refine wpList_append_two _ elem_ud w.heap.size _ _ rfl rfl A1 n1 c1 (udsC L) rfl HA6.out xA nL xc (udsC x.L) rfl (by have q:=(HU.out.ext H6.out.1.ext).sl;rwa [← HNL.out] at q) (udsC_one _) (by have:=HLE.out;omega) (by decide) hz6 ?_;intro A7 c7 w7 o7 g7 h7;have HT7:=Lib.hid (HI2.out.ins HIM.out HNL.out HNX.out (fun y hy=>⟨HU.out.ls y hy,HIN.out y hy⟩) K6.out H6.out.1 H6.out.2.1 H6.out.2.2.2 o7 g7 h7);clear o7 g7 h7)
        | fail)
       go_meet
       case rel =>
        obtain ⟨K9,h9⟩:=HT7.out
        exact ⟨_,_,_,_,_,_,_,_,_,_,_,K9,rfl,rfl,rfl,rfl,by omega,h9⟩
     ·have hiz:(ie==0)=false:=by simp [hie]
      have HIE:=Lib.hid hie
      clear hie
      rcases hq with hq | hq<;>subst hq
      all_goals
       go_wp2_with (first
        | (go_at_call 71;refine (sho_ins (q:=(ie,iv)) xA xc nL x.L xe HS HIV HNL (Lib.hid (HU.out.ext HS.out.ext)) HIN HXE (Lib.hid (by have:=HLE.out;omega)) (Lib.hid (G.ext HS.out.ext))).mono ?_;rintro r w6 ⟨rfl,k6,h6⟩;have H6:=Lib.hid ((HI2.out.to k6 (h6.resolve_right fun q=>HIE.out q.1).2 rfl).next HIM.out);clear k6 h6)
        | fail)
       go_meet
       case rel=>exact ⟨_,_,_,_,_,_,_,_,_,_,_,_,rfl,rfl,rfl,rfl,by omega,H6.out⟩
    ·subst hq
     go_wp2_with (first
      | (go_at_call 72;refine (sho_work xn HS hxn.2).mono ?_;rintro r w6 ⟨rr,v6,rfl,_,k6,s6,e6,_,_⟩;have H6:=Lib.hid ((HI2.out.to k6 s6 e6).next HIM.out);clear k6 s6 e6)
      | fail)
     go_meet
     case rel=>exact ⟨_,_,_,_,_,_,_,_,_,_,_,_,rfl,rfl,rfl,rfl,by omega,H6.out⟩
    ·obtain ⟨iv,hiv⟩ : ∃ q,allowT v xe=q:=⟨_,rfl⟩
     have HIV:=Lib.hid hiv
     clear hiv
     rcases hq with hq | hq<;>subst hq
     all_goals
      go_wp2_with (first
       | (go_at_call 73;refine (sho_allow xe HIV HS HXE.out.2).mono ?_;rintro r w6 ⟨rfl,k6,s6,e6,_⟩;have H6:=Lib.hid ((HI2.out.to k6 s6 e6).next HIM.out);clear k6 s6 e6)
       | fail)
      go_meet
      case rel=>exact ⟨_,_,_,_,_,_,_,_,_,_,_,_,rfl,rfl,rfl,rfl,by omega,H6.out⟩
    ·subst hq
     cases hx with
     | none =>
      rw [show hptr none = .pointer none from rfl]
      by_cases hl:first<v.least
      ·have HL:=Lib.hid hl
       clear hl
       go_wp2_with (first
        | (go_at_call 74;refine (sho_share first HS hf.out.2).mono ?_;rintro r w6 ⟨k6,hres⟩;replace hres:=hres.resolve_right (fun q=>q.1 HL.out);obtain ⟨_,rfl,s6⟩:=hres;have H6:=Lib.hid ((HI2.out.to k6 s6 rfl).next HIM.out);clear k6 s6)
        | fail)
       go_meet
       case rel=>exact ⟨_,none,_,_,_,_,_,_,_,_,_,_,rfl,rfl,rfl,rfl,by omega,H6.out⟩
      ·have HL:Hid (v.least≤first):=Lib.hid (by omega)
       clear hl
       go_wp2_with (first
        | (go_at_call 74;refine (sho_share first HS hf.out.2).mono ?_;rintro r w6 ⟨k6,hres⟩;replace hres:=hres.resolve_left (fun q=>absurd q.1 (Int.not_lt.2 HL.out));obtain ⟨_,gh,b6,rfl,s6⟩:=hres;have H6:=Lib.hid ((HI2.out.share k6 s6).next HIM.out);clear k6 s6 b6)
        | fail)
       go_meet
       case rel=>exact ⟨_,some (newH gh first),_,_,_,_,_,_,_,_,_,_,rfl,rfl,rfl,rfl,by omega,H6.out⟩
     | some y =>
      rw [show hptr (some y) = .pointer (some ⟨y.g,0,none⟩) from rfl]
      go_wp2
      go_meet
      case rel=>exact ⟨_,some y,_,_,_,_,_,_,_,_,_,_,rfl,rfl,rfl,rfl,by omega,HI2.out.next HIM.out⟩
    ·cases hx with
     | none =>
      rw [show hptr none = .pointer none from rfl]
      go_wp2
      go_roundg (n - (i+1))
      case measure=>omega
      case rel=>exact ⟨i+1,_,none,_,_,_,_,_,_,_,_,_,_,by omega,by omega,rfl,rfl,rfl,rfl,by go_num,Lib.hid (by omega),Lib.hid (HI2.out.next HIM.out)⟩
     | some y =>
      rw [show hptr (some y) = .pointer (some ⟨y.g,0,none⟩) from rfl]
      obtain ⟨gy,hgy⟩ : ∃ g,y.g=g:=⟨_,rfl⟩
      have HGY:=Lib.hid hgy
      rw [hgy]
      obtain ⟨⟨qe,ql,qt,qx⟩,hqv⟩ : ∃ q,nextV v y=q:=⟨_,rfl⟩
      have HQV:=Lib.hid hqv
      obtain ⟨p1,p2⟩:=HI2.out.pre hf.out hqv
      obtain rfl:qe=0:=p1
      have hle : ¬ qt<upto:=Int.not_lt.2 p2
      have HMY:=Lib.hid (HI2.out.yes y rfl).1
      have HBB:Hid (hopsLen M i≤300):=Lib.hid (by have:=HLE.out;omega)
      have hi9:i≤300:=by omega
      clear hqv hgy p2
      have hk:=HKK.out
      by_cases h7:xq=7
      ·subst h7
       have b7:(xk % 9==7)=true:=by rw [HXQ.out];rfl
       have b7':xk % 9=7:=HXQ.out
       have m1:True:=trivial
       go_wp2_with (first
        | (go_at_call 75;have mk:=m1;clear m1 mk;refine (sho_next gy HGY HQV HS HMY (Lib.hid (by have:=HBB.out;omega)) (Lib.hid (G.ext HS.out.ext))).mono ?_;rintro r w6 ⟨A6,m6,Q6,rfl,hm6,u6,e6,k6,f6⟩;have HT:=Lib.hid (HI2.out.tell hf.out HQV.out HBB.out hm6 u6 e6 k6 f6 HN.out);have HSL:=Lib.hid (rd_sl u6 hm6);have B6:=Lib.hid (BO.out.upd k6 (fun q=>q.2 (.inr rfl)));have hm9:n2+m6≤600 * (i+1):=HT.out.2.2.2.1;have hz6:=HT.out.2.2.2.2.2.1;clear hm6 u6 e6 k6 f6;have m2:True:=trivial)
        | (at_builtin;have mk:=m2;clear m2 mk;refine wpList_append_two _ elem_ud w.heap.size _ _ rfl rfl A2 n2 c2 (udsC D) rfl HT.out.2.2.2.2.1 A6 m6 m6 (udsC Q6) rfl HSL.out (udsC_one _) (by omega) (by decide) hz6 ?_;intro A7 c7 w7 o7 g7 h7;have HT7:=Lib.hid (HT.out.2.2.2.2.2.2 A7 c7 w7 o7 g7 h7);have B7:=B6.out.upd (grown_upd g7) (fun q=>HFA.out _ q rfl);have C70:w7.cell? ⟨go,0,none⟩=some (.int .u8 xk):=B7.cell 0;have C72:w7.cell? ⟨go,2,none⟩=some (.int .u64 xe):=B7.cell 2;obtain ⟨K7,H7_⟩:=HT7.out;have H7:=Lib.hid H7_;have HGX:Hid (qx.g=gy):=Lib.hid (HT.out.2.2.1.trans HGY.out);have HMX:=Lib.hid (H7_.yes qx rfl).1;obtain ⟨iv,hiv⟩ : ∃ q,hallowT { v with hs:=setH v.hs qx } qx xe=q:=⟨_,rfl⟩;have HIV:=Lib.hid hiv;clear o7 g7 h7 B7 H7_ hiv;have m3:True:=trivial)
        | (go_at_call 76;have mk:=m3;clear m3 mk;refine (sho_hallow gy xe HGX HIV (Lib.hid H7.out.s) HMX HXE.out.1).mono ?_;rintro r w8 ⟨rfl,k8,s8,_⟩;have H8:=Lib.hid (H7.out.hallow (n:=xe) k8 (by rw [HIV.out];exact s8));clear k8 s8)
        | fail)
       go_meet
       case rel =>
        obtain ⟨y9,g9,h9⟩:=H8.out
        exact ⟨_,some y9,_,_,_,_,_,_,_,_,_,_,rfl,rfl,(by show _=Value.pointer (some ⟨y9.g,0,none⟩);rw [g9,HGX.out]),rfl,hm9,h9.next HIM.out⟩
      ·have b7:(xk % 9==7)=false:=by rw [HXQ.out];simp [h7]
       have b7' : ¬ xk % 9=7:=by rw [HXQ.out];exact h7
       have m1:True:=trivial
       go_wp2_with (first
        | (go_at_call 75;have mk:=m1;clear m1 mk;refine (sho_next gy HGY HQV HS HMY (Lib.hid (by have:=HBB.out;omega)) (Lib.hid (G.ext HS.out.ext))).mono ?_;rintro r w6 ⟨A6,m6,Q6,rfl,hm6,u6,e6,k6,f6⟩;have HT:=Lib.hid (HI2.out.tell hf.out HQV.out HBB.out hm6 u6 e6 k6 f6 HN.out);have HSL:=Lib.hid (rd_sl u6 hm6);have B6:=Lib.hid (BO.out.upd k6 (fun q=>q.2 (.inr rfl)));have hm9:n2+m6≤600 * (i+1):=HT.out.2.2.2.1;have hz6:=HT.out.2.2.2.2.2.1;clear hm6 u6 e6 k6 f6;have m2:True:=trivial)
        | (at_builtin;have mk:=m2;clear m2 mk;refine wpList_append_two _ elem_ud w.heap.size _ _ rfl rfl A2 n2 c2 (udsC D) rfl HT.out.2.2.2.2.1 A6 m6 m6 (udsC Q6) rfl HSL.out (udsC_one _) (by omega) (by decide) hz6 ?_;intro A7 c7 w7 o7 g7 h7;have HT7:=Lib.hid (HT.out.2.2.2.2.2.2 A7 c7 w7 o7 g7 h7);have B7:=B6.out.upd (grown_upd g7) (fun q=>HFA.out _ q rfl);have C70:w7.cell? ⟨go,0,none⟩=some (.int .u8 xk):=B7.cell 0;have HGX:Hid (qx.g=gy):=Lib.hid (HT.out.2.2.1.trans HGY.out);clear o7 g7 h7 B7)
        | fail)
       go_meet
       case rel =>
        obtain ⟨K9,h9⟩:=HT7.out
        exact ⟨_,some qx,_,_,_,_,_,_,_,_,_,K9,rfl,rfl,(by show _=Value.pointer (some ⟨qx.g,0,none⟩);rw [HGX.out]),rfl,hm9,h9.next HIM.out⟩
   case rest =>
    clear HI2 HI HN BO XO HFA HU HIN HNL HNX HLE HXE hq9 hxn HXQ HKK
    obtain ⟨v,hx,upto,A1,n1,c1,L,A2,n2,c2,D,K,rfl,rfl,rfl,rfl,hn2,hI9⟩:=hcut
    have HN:=Lib.hid hn2
    have HI:=Lib.hid hI9
    have hnL:n1≤300:=by have q1:=hI9.s.tt.n;rw [List.length_map] at q1;have q2:=hopsLen_le M (i+1);have q3:=HO.out.len;have q4:=hI9.len;omega
    have hn9:n2≤180600:=by omega
    clear hI9 hn2
    obtain ⟨fw,hfw⟩ : ∃ k,IntKind.u64.wrap (first+20)=k:=⟨_,rfl⟩
    have hfw2:(fw=first+20∧first+20≤18446744073709551615)∨fw<first:=by have:=hf.out;rw [IntKind.wrap_u64] at hfw;omega
    cases hx with
    | none =>
     rw [show hptr none = .pointer none from rfl]
     go_wp2
     go_loopg [15] 20 (fun z u wq => ∃ (j:Nat) (k:Int),z=20 - j∧j≤20∧Hid (k=first+j)∧k≤18446744073709551615∧first≤k∧u = .int .u64 k∧Hid (RdI w wq M (i+1) gt first v none upto A1 n1 c1 L A2 n2 c2 D K))
     case atStart=>exact ⟨0,first,rfl,by omega,Lib.hid (by omega),hf.out.2,Int.le_refl _,rfl,HI⟩
     case round =>
      obtain ⟨j,k,rfl,hj,HKJ,hk9,hfk,rfl,HQ⟩:=hrel
      go_wp2
      go_roundg (n - (i+1))
      case measure=>omega
      case rel=>exact ⟨i+1,v,none,upto,A1,n1,c1,L,A2,n2,c2,D,K,by omega,by omega,rfl,rfl,rfl,rfl,by go_num,HN,HQ⟩
    | some y =>
     rw [show hptr (some y) = .pointer (some ⟨y.g,0,none⟩) from rfl]
     go_wp2
     go_loopg [15] 20 (fun z u wq => ∃ (j:Nat) (k:Int),z=20 - j∧j≤20∧Hid (k=first+j)∧k≤18446744073709551615∧first≤k∧u = .int .u64 k∧Hid (RdI w wq M (i+1) gt first v (some y) upto A1 n1 c1 L A2 n2 c2 D K))
     case atStart=>exact ⟨0,first,rfl,by omega,Lib.hid (by omega),hf.out.2,Int.le_refl _,rfl,HI⟩
     case round =>
      obtain ⟨j,k,rfl,hj,HKJ,hk9,hfk,rfl,HQ⟩:=hrel
      by_cases hku:k<upto
      ·by_cases hkf:k<fw
       ·have hj20:j<20:=by have:=HKJ.out;omega
        have hwk:IntKind.u64.wrap (k+1)=k+1:=by have h0:=hf.out.1;rw [IntKind.wrap_u64];omega
        have hk1:k+1≤18446744073709551615:=by omega
        have HASK:=Lib.hid (HQ.out.ask hf.out hfk hku)
        obtain ⟨U,hU⟩ : ∃ U,sumV (atV (L.map Ud.uv) (k,[]))=U:=⟨_,rfl⟩
        have HU1:=Lib.hid hU
        have HU2:Hid (sumV (atV (D.map Ud.uv) (k,[]))=U):=Lib.hid (HASK.out.trans hU)
        have HLL:Hid (n1=L.length):=Lib.hid HQ.out.len
        have HLD:Hid (n2=D.length):=Lib.hid HQ.out.d.len
        clear hU HASK
        go_wp2
        obtain ⟨wt,hwt⟩ : ∃ wt,wt=wr.alloc (.cells #[.int .u64 k, .slice none 0 0] 26):=⟨_,rfl⟩
        obtain ⟨gm,hgm⟩ : ∃ g,g=wr.heap.size:=⟨_,rfl⟩
        have BT:Hid (Bk wt gm 26 #[.int .u64 k, .slice none 0 0]):=Lib.hid (by rw [hwt,hgm];exact Bk.new _ _ _)
        have XB:Hid (Ext wr wt):=Lib.hid (by rw [hwt];exact (Ext.refl _).alloc _)
        rw [← hwt, ← hgm]
        clear hwt hgm
        have X:Ext wt wt.drew:=(Ext.refl _).drew
        have Q0 : ∀ y:Xt wt.drew,y.W.cell? ⟨gm,0,none⟩=some (.int .u64 k):=fun y=>(BT.out.ext (X.trans y.x)).cell 0
        have Q1 : ∀ y:Xt wt.drew,y.W.cell? ⟨gm,1,none⟩=some (.slice none 0 0):=fun y=>(BT.out.ext (X.trans y.x)).cell 1
        refine wp_region_ord [0,0,3,0,0,31,63,127] (.flo [0,1,3,4] (.ext 2 (.one 5 (.one 6 (.flo [7] (.fin)))))) (by kernel_rfl) (by kernel_rfl) (by intro _ _ d _ _ h;cases d<;>exact h) ?_
        (refine ord_flo (pick_cons rfl (pick_cons rfl (pick_cons rfl (pick_cons rfl pick_nil)))) ?_;(repeat (go_big_quiet_step (fail)));refine wpQuiet_nil ?_;show ordWalk _ _ _ _ _ _ _)
        refine ord_ext (pick_cons rfl pick_nil) ?_;intro K_ hK_
        go_wp2_with (go_at_call 26;refine (refAt10_any (U:=U) A2 c2 n2 D k none 0 0 [] _ HU2 HLD (Lib.hid (HQ.out.d.uin.ext (XB.out.trans X))) (by omega) (Lib.hid (Sl.nil _ _))).mono ?_;rintro r w4 ⟨A4,n4,c4,R4,rfl,h4,i4,e4,x4⟩;have HN4:=Lib.hid h4;have HR4:=Lib.hid i4;have HE4:=Lib.hid e4;have X4:=Lib.hid x4;clear h4 i4 e4 x4)
        refine ordNext.mk X4.out ?_
        refine ord_one (pick_cons rfl pick_nil) ?_;intro K_ hK_
        go_wp2_with (go_at_call 26;refine (refAt10_any (U:=U) A1 c1 n1 L k none 0 0 [] _ HU1 HLL (Lib.hid (HQ.out.uin.ext ((XB.out.trans X).trans X4.out))) (by omega) (Lib.hid (Sl.nil _ _))).mono ?_;rintro r w5 ⟨A5,n5,c5,R5,rfl,h5,i5,e5,x5⟩;have HN5:=Lib.hid h5;have HR5:=Lib.hid i5;have HE5:=Lib.hid e5;have X5:=Lib.hid x5;clear h5 i5 e5 x5)
        refine ord_one (pick_cons rfl pick_nil) ?_;intro K_ hK_
        go_wp2_with (go_at_call 25;refine (sameCts_any A4 A5 c4 c5 n4 n5 R4 R5 _ HN4.out HN5.out (HR4.out.ext X5.out) HR5.out (HE4.out.trans HE5.out.symm)).mono ?_;rintro r w6 ⟨rfl,x6⟩;have HQ6:=Lib.hid (HQ.out.grow ((((XB.out.trans X).trans X4.out).trans X5.out).trans x6));clear x6)
        (refine ord_flo (pick_cons rfl pick_nil) ?_;(repeat (go_big_quiet_step (fail)));refine wpQuiet_nil ?_;show ordWalk _ _ _ _ _ _ _)
        refine ord_fin ?_
        go_wp2
        go_roundg (20 - (j+1))
        case measure=>omega
        case rel=>exact ⟨j+1,k+1,by omega,by omega,Lib.hid (by have:=HKJ.out;omega),hk1,by omega,by first | rfl | rw [hwk],HQ6⟩
       ·go_wp2
        go_roundg (n - (i+1))
        case measure=>omega
        case rel=>exact ⟨i+1,v,some y,upto,A1,n1,c1,L,A2,n2,c2,D,K,by omega,by omega,rfl,rfl,rfl,rfl,by go_num,HN,HQ⟩
      ·go_wp2
       go_roundg (n - (i+1))
       case measure=>omega
       case rel=>exact ⟨i+1,v,some y,upto,A1,n1,c1,L,A2,n2,c2,D,K,by omega,by omega,rfl,rfl,rfl,rfl,by go_num,HN,HQ⟩
  ·go_wp2
   go_ret
   exact ⟨rfl,HI.out.s.ext⟩
set_option maxRecDepth 100000 in
set_option maxHeartbeats 4000000 in
theorem reads_much (A:Option Addr) (n c:Nat) (M:List Hop) (first:Int) (w:World) (G:Good w) (hn:Hid (n=M.length)) (hM:Hid (Hin w A c M)) (hb:Hid (∀ x∈M,x.L.length≤1048576)) (hmu:Hid (muchH M=true)) :
  Calls Tryz.prog 8 #[.slice A n c, .int .u64 first] w fun e w'=>e = .returned (.bool true)∧Ext w w':=by
 have m1:True:=trivial
 go_enter Tryz.func8,Tryz.ntmps8
 go_wp2_with (first
  | (go_at_call 68;have mk:=m1;clear m1 mk;refine (much12_at A c n M _ hmu hn hM hb).mono ?_;rintro r v1 ⟨rfl,x1⟩;have X1:=Lib.hid x1;clear x1;have m2:True:=trivial)
  | (go_at_call 69;have mk:=m2;clear m2 mk;refine (known12_any _ (G.ext X1.out)).mono ?_;rintro r v2 ⟨rfl,x2⟩;have X2:=Lib.hid (X1.out.trans x2);clear x2)
  | fail)
 go_ret
 exact ⟨rfl,X2.out⟩
theorem shareReads_any (A:Option Addr) (n c:Nat) (M:List Hop) (first:Int) (w:World) (G:Good w) (hn:Hid (n=M.length)) (hM:Hid (Hin w A c M)) (hI:Hid (∀ x∈M,HopIn x)) (hb:Hid (∀ x∈M,x.L.length≤1048576)) (hf:0≤first∧first≤18446744073709551615) :
  Calls Tryz.prog 8 #[.slice A n c, .int .u64 first] w fun e w'=>e = .returned (.bool true)∧Ext w w':=by
 cases h1:muchH M with
 | true=>exact reads_much A n c M first w G hn hM hb (Lib.hid h1)
 | false=>exact reads_some A n c M first w G hn hM hI hb (Lib.hid h1) (Lib.hid hf)
end Go.Proofs.YtdgbkpoickbidaaGreatDoor
