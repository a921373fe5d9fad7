/- A spine's begin, pay: what they answer and leave. A spine's pay. A spine's All. A spine's end: the pair is put together. The plain law of sums of sums of updates. Lists of updates that say the same of every set of keys; sums of such lists. A spine's value: what holds of it at all times. A spine's value stays one that may be. A spine's Work. What a spine says stays the same under Work. The plain law of sums of sums. Conditions: each theorem states its own. -/
import Derived.Test.YtdgbkpoickbidaaGreatDoorHr11
import Derived.Test.YtdgbkpoickbidaaGreatDoorHr10
import Derived.Test.YtdgbkpoickbidaaGreatDoorHr7
import Derived.Test.YtdgbkpoickbidaaGreatDoorHr4
namespace Go.Proofs.YtdgbkpoickbidaaGreatDoor
open Go.RowKit

/-- the last pair that is due, below place k -/
def findDue:Nat→List (List UV)→Option Nat
 | 0,_=>none
 | k+1,bs=>if (bs.getD k []).length≤2 * (bs.getD (k+1) []).length then some k else findDue k bs
def beginV (s:SV):SV × Bool :=
 match s.un with
 | some _=>(s,true)
 | none=>match findDue (s.bs.length - 1) s.bs with
  | some i=>({ s with un:=some (i,(s.bs.getD i []).length+(s.bs.getD (i+1) []).length) },true)
  | none=>(s,false)
/-- what begin, pay, end leave -/
def SpStep (w:World) (R:Nat→Prop) (gs:Nat) (n:Nat) (b:Bool) (s:SV) (e:Ending) (w':World):Prop := ∃ m',e = .returned (.tuple #[.int .i64 n, .bool b])∧SpR w' (Rg R w w') gs m'∧m'.v=s∧Upd R w w'
theorem SpStep.stay {w w':World} {R:Nat→Prop} {gs n:Nat} {m:SpM} {b:Bool} {e:Ending} (h:SpR w R gs m) (x:Ext w w') (he:e = .returned (.tuple #[.int .i64 n, .bool b])):SpStep w R gs n b m.v e w':=⟨m,he,(h.ext x).wide fun _ _ hk => .inl hk,rfl,Upd.ext x⟩
theorem getB_v {l:List Bt} {i:Nat} (h:i<l.length):((l.map Bt.v).getD i []).length=(getB l i).l.length:=by
 unfold getB
 rw [List.getD_eq_getElem?_getD,List.getD_eq_getElem?_getD,List.getElem?_map,List.getElem?_eq_getElem h]
 show ((l[i].l).map Ud.uv).length=_
 rw [List.length_map]
 rfl
section
variable {w w1 w3:World} {R:Nat→Prop} {gs:Nat} {m:SpM}
/-- a pair is put -/
theorem SpR.put_p (h:SpR w R gs m) (x:Ext w w1) {g i left:Nat} (hb:Bk w1 g 270 #[(getB m.bs i).p,(getB m.bs (i+1)).p, .int .i64 left]) (hg:w.heap.size≤g) (hi:i+1<m.bs.length) :
  SpR (w1.setCell ⟨gs,1,none⟩ (.pointer (some ⟨g,0,none⟩))) (Rg R w (w1.setCell ⟨gs,1,none⟩ (.pointer (some ⟨g,0,none⟩)))) gs { m with un:=some ⟨g,i,left⟩ }∧Upd R w (w1.setCell ⟨gs,1,none⟩ (.pointer (some ⟨g,0,none⟩))):=by
 have hz:(w1.setCell ⟨gs,1,none⟩ (.pointer (some ⟨g,0,none⟩))).heap.size=w1.heap.size:=by simp
 have hb1:=h.bk.ext x
 have k:=(h.b.ext x).wide (R':=Rg R w (w1.setCell ⟨gs,1,none⟩ (.pointer (some ⟨g,0,none⟩)))) fun k _ hk => .inl hk
 have b1:SpB w1 (Rg R w (w1.setCell ⟨gs,1,none⟩ (.pointer (some ⟨g,0,none⟩)))) { m with un:=some ⟨g,i,left⟩ }:=⟨k.ow,k.ro,k.bt,k.nd,fun p hp=>by
  injection hp with hp
  subst hp
  exact ⟨hb, .inr ⟨hg,by rw [hz];exact hb.lt⟩,hi⟩,k.sn,k.up⟩
 exact ⟨⟨hb1.set 1 _, .inl h.rg,b1.head hb1 1 _⟩,(Upd.ext x).setCell (.inl h.rg) _⟩
/-- what is left to be paid is put -/
theorem SpR.put_left (h:SpR w R gs m) {p:Pr} (hp:m.un=some p) (left:Nat) :
  SpR (w.setCell ⟨p.g,2,none⟩ (.int .i64 left)) (Rg R w (w.setCell ⟨p.g,2,none⟩ (.int .i64 left))) gs { m with un:=some ⟨p.g,p.i,left⟩ }∧Upd R w (w.setCell ⟨p.g,2,none⟩ (.int .i64 left)):=by
 have hu:=h.b.un p hp
 have x:Upd (fun k=>k=p.g) w (w.setCell ⟨p.g,2,none⟩ (.int .i64 left)):=(Upd.refl (fun k=>k=p.g) w).setCell (p:=⟨p.g,2,none⟩) (.inl rfl) _
 have hS : ∀ k,k<w.heap.size→k=p.g→Own_ w k:=fun k _ e=>by subst e;exact .inr (.inr hu.bk.ty)
 have hng:gs≠p.g:=fun e=>absurd ((e ▸ h.bk.ty:Ty w p.g _).ne hu.bk.ty) (by decide)
 have hR : ∀ k,k<(w.setCell ⟨p.g,2,none⟩ (.int .i64 left)).heap.size→R k→Rg R w (w.setCell ⟨p.g,2,none⟩ (.int .i64 left)) k:=fun k _ hk => .inl hk
 refine ⟨SpR.wide ⟨?_,h.rg,⟨h.b.ow.upd x fun k hk e=>?_,h.b.ro,fun b hb=>(h.b.bt b hb).safe x hS,h.b.nd,fun q hq=>?_,h.b.sn.safe x hS,h.b.up.safe x hS⟩⟩ hR,(Upd.refl R w).setCell (.inl hu.rg) _⟩
 ·have hd:=h.bk.upd x hng
  unfold headC at hd
  rw [hp] at hd
  exact hd
 ·subst e
  exact absurd ((h.b.ow.ty hk).ne hu.bk.ty) (by decide)
 ·injection hq with hq
  subst hq
  exact ⟨hu.bk.set 2 _,hu.rg,hu.lt⟩
end
theorem Own.lit {w:World} {B s n c:Nat} {e:TypeId} {A:Option Addr} {xs:List Value} (h:Own w B e s A n c xs) (hn:0<n) : ∃ g,A=some ⟨g,0,none⟩:=by
 rcases h.2 with ⟨_,h2⟩ | ⟨g,cur,rfl,_⟩
 ·omega
 ·exact ⟨g,rfl⟩
set_option maxRecDepth 100000 in
set_option maxHeartbeats 2000000 in
theorem begin_some (gs n:Nat) (m:SpM) (p:Pr) (R:Nat→Prop) (w:World) (hp:m.un=some p) (HM:Hid (SpR w R gs m)):Calls Tryz.prog 160 #[.pointer (some ⟨gs,0,none⟩), .int .i64 n] w (SpStep w R gs n true m.v):=by
 have c1:w.cell? ⟨gs,1,none⟩=some (.pointer (some ⟨p.g,0,none⟩)):=by have:=HM.out.bk.cell 1;unfold headC at this;rw [hp] at this;exact this
 go_enter Tryz.func160,Tryz.ntmps160
 go_wp2
 go_returns
 exact SpStep.stay HM.out (Ext.refl w) rfl
set_option maxRecDepth 100000 in
set_option maxHeartbeats 4000000 in
theorem begin_none (gs n:Nat) (m:SpM) (R:Nat→Prop) (w:World) (hp:m.un=none) (HM:Hid (SpR w R gs m)) (h9:m.bs.length≤1000000) (hA0:Hid (∀ b∈m.bs,b.l.length≤1000000)):Calls Tryz.prog 160 #[.pointer (some ⟨gs,0,none⟩), .int .i64 n] w (SpStep w R gs n (beginV m.v).2 (beginV m.v).1):=by
 obtain ⟨N,hN⟩ : ∃ N,N=m.bs.length:=⟨_,rfl⟩
 obtain ⟨mA,hmA⟩ : ∃ a,m.A=a:=⟨_,rfl⟩
 have HC:Hid (∀ W,Ext w W→W.cell? ⟨gs,0,none⟩=some (.slice mA N m.c)∧W.cell? ⟨gs,1,none⟩=some (.pointer none)∧W.frozen? ⟨gs,1,none⟩=false):=Lib.hid (fun W x=>by
  have hb:=HM.out.bk.ext x
  have h0:=hb.cell 0
  have h1:=hb.cell 1
  unfold headC at h0 h1
  rw [hp] at h1
  rw [hmA, ← hN] at h0
  exact ⟨h0,h1,hb.free 1⟩)
 obtain ⟨c0,c1,_⟩:=HC.out w (Ext.refl w)
 rw [← hN] at h9
 have HN:=Lib.hid hN
 have HB:=Lib.hid HM.out.b
 obtain ⟨q,hq⟩ : ∃ q,beginV m.v=q:=⟨_,rfl⟩
 rw [hq]
 have HQ:=Lib.hid hq
 have HP:=Lib.hid hp
 clear hN hq hp
 rcases Nat.eq_zero_or_pos N with hz | hz
 ·subst hz
  have hb:m.bs=[]:=List.eq_nil_of_length_eq_zero HN.out.symm
  have hq:Hid (q=(m.v,false)):=Lib.hid (by rw [← HQ.out];unfold beginV SpM.v;rw [HP.out,hb];rfl)
  go_enter Tryz.func160,Tryz.ntmps160
  go_wp2
  refine wp_loop_rounds 1 ?_
  rw [rounds_succ]
  go_wp2
  go_returns
  rw [hq.out]
  exact SpStep.stay HM.out (Ext.refl w) rfl
 ·have hN2:((N:Int) - 2)=((N - 1:Nat):Int) - 1:=by omega
  have hv:m.v.bs.length=N:=by rw [HN.out];exact List.length_map ..
  have HV:=Lib.hid hv
  have hw:IntKind.i64.wrap ((N:Int) - 2)=(N:Int) - 2:=IntWalk.i64_in _ (by omega)
  clear hv c0 c1
  obtain ⟨c0,c1,_⟩:=HC.out w (Ext.refl w)
  go_enter Tryz.func160,Tryz.ntmps160
  go_wp2
  go_loopg [6] (N - 1) (fun z u wr => ∃ k:Nat,z=k∧k≤N - 1∧u = .int .i64 ((k:Int) - 1)∧Hid (findDue (N - 1) m.v.bs=findDue k m.v.bs)∧Hid (Ext w wr))
  case atStart=>exact ⟨N - 1,rfl,Nat.le_refl _,(by first | rfl | rw [hN2]),Lib.hid rfl,Lib.hid (Ext.refl w)⟩
  case round =>
   obtain ⟨k,hzk,hk,rfl,HF,HX⟩:=hrel
   clear c0 c1
   cases k with
   | zero =>
    have hq:Hid (q=(m.v,false)):=Lib.hid (by rw [← HQ.out];unfold beginV;rw [show m.v.un=none by unfold SpM.v;rw [HP.out];rfl,HV.out,HF.out];rfl)
    go_wp2
    go_returns
    rw [hq.out]
    exact SpStep.stay HM.out HX.out rfl
   | succ j =>
    have e:((j+1:Nat):Int) - 1=j:=by omega
    rw [e]
    clear e
    have hj:j+1<N:=by omega
    have hj0:j<m.bs.length:=by rw [← HN.out];omega
    have hj1:j+1<m.bs.length:=by rw [← HN.out];omega
    have HX1:Hid (Ext w wr.drew):=Lib.hid HX.out.drew
    obtain ⟨ad,hA,p0,p1⟩:=(HB.out.ext HX1.out).at hj0
    obtain ⟨ad',hA',r0,r1⟩:=(HB.out.ext HX1.out).at hj1
    obtain ⟨gl,hgl⟩:=(HB.out.ow).lit (by omega)
    obtain rfl:ad=⟨gl,0,none⟩:=Option.some.inj (hA.symm.trans hgl)
    obtain rfl:ad'=⟨gl,0,none⟩:=Option.some.inj (hA'.symm.trans hgl)
    obtain rfl:mA=some ⟨gl,0,none⟩:=hmA.symm.trans hA
    rw [Addr.add_lit,Nat.zero_add] at p0 r0
    clear hgl
    have l0:=hA0.out _ (getB_mem hj0)
    have l1:=hA0.out _ (getB_mem hj1)
    have v0:=getB_v hj0
    have v1:=getB_v hj1
    clear hA hA'
    obtain ⟨a,ha⟩ : ∃ a,getB m.bs j=a:=⟨_,rfl⟩
    obtain ⟨b,hb⟩ : ∃ b,getB m.bs (j+1)=b:=⟨_,rfl⟩
    rw [ha] at p0 p1 l0 v0
    rw [hb] at r0 r1 l1 v1
    have HA:=Lib.hid ha
    have HB':=Lib.hid hb
    obtain ⟨na,hna⟩ : ∃ k,k=a.l.length:=⟨_,rfl⟩
    obtain ⟨nb,hnb⟩ : ∃ k,k=b.l.length:=⟨_,rfl⟩
    rw [← hna] at p1 l0 v0
    rw [← hnb] at r1 l1 v1
    have HNA:=Lib.hid hna
    have HNB:=Lib.hid hnb
    have V0:=Lib.hid v0
    have V1:=Lib.hid v1
    have C0 : ∀ y:Xt wr.drew,y.W.cell? ⟨gs,0,none⟩=some (.slice (some ⟨gl,0,none⟩) N m.c):=fun y=>(HC.out _ (HX1.out.trans y.x)).1
    have P0 : ∀ y:Xt wr.drew,y.W.cell? ⟨gl,j,none⟩=some a.p:=fun y=>y.x.cell p0
    have R0 : ∀ y:Xt wr.drew,y.W.cell? ⟨gl,j+1,none⟩=some b.p:=fun y=>y.x.cell r0
    clear ha hb hna hnb v0 v1 p0 r0 hj0 hj1
    go_upto_region 6 with fail
    refine wp_region_ord [0,1,3,7,0,31,63,0,128,384,896,0,2048,8064,16256,127,65535] (.flo [0,1,2,3,4,5,6,7,8,9,10,11,12,13,14,15,16] (.fin)) (by kernel_rfl) (by kernel_rfl) (by intro _ _ d _ _ h;cases d<;>exact h) ?_
    (refine ord_flo (pick_cons rfl (pick_cons rfl (pick_cons rfl (pick_cons rfl (pick_cons rfl (pick_cons rfl (pick_cons rfl (pick_cons rfl (pick_cons rfl (pick_cons rfl (pick_cons rfl (pick_cons rfl (pick_cons rfl (pick_cons rfl (pick_cons rfl (pick_cons rfl (pick_cons rfl pick_nil))))))))))))))))) ?_;(repeat (go_big_quiet_step (fail)));refine wpQuiet_nil ?_;show ordWalk _ _ _ _ _ _ _)
    refine ord_fin ?_
    clear C0 P0 R0
    have w2:IntKind.i64.wrap (2 * (nb:Int))=((2 * nb:Nat):Int):=by
     have e:(2 * (nb:Int))=((2 * nb:Nat):Int):=by omega
     rw [e];exact IntWalk.i64_in _ (by omega)
    have w3:IntKind.i64.wrap ((na:Int)+(nb:Int))=(na:Int)+(nb:Int):=IntWalk.i64_in _ (by omega)
    by_cases hdue:na≤2 * nb
    ·have hdz:(na:Int)≤((2 * nb:Nat):Int):=by omega
     have hq:Hid (q=({ m.v with un:=some (j,na+nb) },true)):=Lib.hid (by
      have hf:findDue (j+1) m.v.bs=some j:=by
       show (if (m.v.bs.getD j []).length≤2 * (m.v.bs.getD (j+1) []).length then some j else findDue j m.v.bs)=_
       rw [if_pos]
       show ((m.bs.map Bt.v).getD j []).length≤2 * ((m.bs.map Bt.v).getD (j+1) []).length
       rw [V0.out,V1.out]
       exact hdue
      rw [← HQ.out]
      unfold beginV
      rw [show m.v.un=none by unfold SpM.v;rw [HP.out];rfl,HV.out,HF.out,hf]
      show ({ m.v with un:=some (j,((m.bs.map Bt.v).getD j []).length+((m.bs.map Bt.v).getD (j+1) []).length) },true)=_
      rw [V0.out,V1.out])
     have XW:Hid (Ext w (wr.alloc (.cells #[a.p,b.p, .int .i64 ((na:Int)+(nb:Int))] 270)).drew):=Lib.hid ((HX.out.alloc _).drew)
     obtain ⟨_,k1,f1⟩:=HC.out _ XW.out
     have BK:Hid (Bk (wr.alloc (.cells #[a.p,b.p, .int .i64 ((na:Int)+(nb:Int))] 270)).drew wr.heap.size 270 #[(getB m.bs j).p,(getB m.bs (j+1)).p, .int .i64 ((na+nb:Nat):Int)]):=Lib.hid (by rw [HA.out,HB'.out,Int.natCast_add];exact (Bk.new wr _ _))
     have HPP:=Lib.hid (HM.out.put_p XW.out BK.out HX.out.size (by rw [← HN.out];exact hj))
     go_wp2_with (first
      | (go_at_call 163;refine (bsize_any a na _ HNA p1).mono ?_;rintro r w1 ⟨rfl,rfl⟩)
      | (go_at_call 163;refine (bsize_any b nb _ HNB r1).mono ?_;rintro r w1 ⟨rfl,rfl⟩)
      | fail)
     go_returns
     rw [hq.out]
     exact ⟨_,rfl,HPP.out.1,rfl,HPP.out.2⟩
    ·have hdz : ¬ (na:Int)≤((2 * nb:Nat):Int):=by omega
     go_wp2_with (first
      | (go_at_call 163;refine (bsize_any a na _ HNA p1).mono ?_;rintro r w1 ⟨rfl,rfl⟩)
      | (go_at_call 163;refine (bsize_any b nb _ HNB r1).mono ?_;rintro r w1 ⟨rfl,rfl⟩)
      | fail)
     go_roundg j
     case measure=>omega
     case rel =>
      refine ⟨j,rfl,by omega,by go_num,Lib.hid ?_,HX1⟩
      rw [HF.out]
      show (if (m.v.bs.getD j []).length≤2 * (m.v.bs.getD (j+1) []).length then some j else findDue j m.v.bs)=_
      rw [if_neg]
      show ¬ ((m.bs.map Bt.v).getD j []).length≤2 * ((m.bs.map Bt.v).getD (j+1) []).length
      rw [V0.out,V1.out]
      exact hdue
open Go.RowKit
set_option maxRecDepth 100000 in
set_option maxHeartbeats 2000000 in
theorem pay_any (gs n:Nat) (m:SpM) (p:Pr) (R:Nat→Prop) (w:World) (hp:m.un=some p) (HM:Hid (SpR w R gs m)) (hn9:n≤9223372036854775807) (hl9:p.left≤1000000000) :
  Calls Tryz.prog 161 #[.pointer (some ⟨gs,0,none⟩), .int .i64 n] w (SpStep w R gs (n - min n p.left) true { m.v with un:=some (p.i,p.left - min n p.left) }):=by
 have HPP:=Lib.hid (HM.out.put_left hp (p.left - min n p.left))
 obtain ⟨pg,pi,pl⟩:=p
 have c1:w.cell? ⟨gs,1,none⟩=some (.pointer (some ⟨pg,0,none⟩)):=by have:=HM.out.bk.cell 1;unfold headC at this;rw [hp] at this;exact this
 have hu:=HM.out.b.un _ hp
 have k2:w.cell? ⟨pg,2,none⟩=some (.int .i64 pl):=hu.bk.cell 2
 have f2:=hu.bk.free 2
 have l2:=hu.bk.lt
 simp only at HPP l2 f2 hl9 ⊢
 obtain ⟨k,hk⟩ : ∃ k,min n pl=k:=⟨_,rfl⟩
 rw [hk] at HPP ⊢
 have hkn:k≤n:=by omega
 have hkl:k≤pl:=by omega
 have hm1:min (n:Int) (pl:Int)=(k:Int):=by omega
 have hm2:(if (pl:Int)<(n:Int) then (pl:Int) else (n:Int))=(k:Int):=by split<;>omega
 have hw1:IntKind.i64.wrap ((pl:Int) - (k:Int))=((pl - k:Nat):Int):=by rw [← Int.natCast_sub hkl];exact IntWalk.i64_in _ (by omega)
 have hw2:IntKind.i64.wrap ((n:Int) - (k:Int))=((n - k:Nat):Int):=by rw [← Int.natCast_sub hkn];exact IntWalk.i64_in _ (by omega)
 clear hu hk hkn hkl hn9 hl9
 have hv:Hid ({ m with un:=some ⟨pg,pi,pl - k⟩:SpM }.v={ m.v with un:=some (pi,pl - k) }):=Lib.hid rfl
 go_enter Tryz.func161,Tryz.ntmps161
 go_wp2
 go_returns
 exact ⟨_,rfl,HPP.out.1,hv.out,HPP.out.2⟩
open Go.RowKit
def allV (s:SV):List UV:=if s.S=[] then [] else UdS.sumV (s.bs.flatten.map (advK s.S))
theorem dadv_nil {w w':World} (x:Ext w w'):DAdvRes w [] (.returned (.slice none 0 0)) w':=⟨none,0,[],rfl,rfl,Uout.nil _ _,rfl,x⟩
theorem dadv_back {w w1 w':World} {V:List UV} {e:Ending} (h:DAdvRes w1 V e w') (x:Ext w w1):DAdvRes w V e w':=by
 obtain ⟨A,m,R,e1,e2,o,v,x2⟩:=h
 exact ⟨A,m,R,e1,e2,o.mono x.size,v,x.trans x2⟩
theorem SpR.uin {w w':World} {R:Nat→Prop} {gs:Nat} {m:SpM} {A:Option Addr} {n c:Nat} (h:SpR w R gs m) (x:Ext w w') (hn:n=(allB m.bs).length) (s:Sl w' 4 A n c (udsC (allB m.bs))):Uin w' A c (allB m.bs) :=
 ⟨hn ▸ s,fun y hy=>by
  obtain ⟨b,hb,hxb⟩:=List.mem_flatMap.1 hy
  exact ((h.b.bt b hb).u.uin.ls y hxb).ext x⟩
set_option maxRecDepth 100000 in
set_option maxHeartbeats 2000000 in
theorem spAll_any {V:List UV} (gs:Nat) (m:SpM) (R:Nat→Prop) (w:World) (hV:Hid (allV m.v=V)) (HM:Hid (SpR w R gs m)) (ok:Hid (SpOk m)) :
  Calls Tryz.prog 48 #[.pointer (some ⟨gs,0,none⟩)] w (DAdvRes w V):=by
 obtain ⟨nS,hnS⟩ : ∃ k,k=m.S.length:=⟨_,rfl⟩
 have HNS:=Lib.hid hnS
 have HC:Hid (∀ W,Ext w W→W.cell? ⟨gs,2,none⟩=some (.slice m.sA nS m.sc)):=Lib.hid (fun W x=>by have:=(HM.out.bk.ext x).cell 2;rw [hnS];exact this)
 have HTS:Hid (Tin w m.sA m.sc m.S):=Lib.hid HM.out.b.sn.t.tin
 have c2:=HC.out w (Ext.refl w)
 clear hnS
 rcases Nat.eq_zero_or_pos nS with h0 | h0
 ·subst h0
  have HV:Hid (V=[]):=Lib.hid (by rw [← hV.out];unfold allV;rw [if_pos];show m.S.map Tm.v=[];rw [List.eq_nil_of_length_eq_zero HNS.out.symm];rfl)
  clear hV
  go_enter Tryz.func48,Tryz.ntmps48
  go_wp2
  go_ret
  rw [HV.out]
  exact dadv_nil (Ext.refl w)
 ·have h0z : ¬ ((nS:Int)=0):=by omega
  have HV:Hid (UdS.sumV (((allB m.bs).map Ud.uv).map (advK (m.S.map Tm.v)))=V):=Lib.hid (by
   rw [← hV.out,allB_v]
   unfold allV
   rw [if_neg]
   ·rfl
   ·intro e
    have e2:=congrArg List.length e
    have:=HNS.out
    simp [SpM.v] at e2
    rw [e2] at this
    simp at this
    omega)
  clear hV
  go_enter Tryz.func48,Tryz.ntmps48
  go_upto_region 3 with fail
  clear c2
  have X:Ext w w.drew:=(Ext.refl w).drew
  have P2 : ∀ y:Xt w.drew,y.W.cell? ⟨gs,2,none⟩=some (.slice m.sA nS m.sc):=fun y=>HC.out _ (X.trans y.x)
  refine wp_region_ord [0,1,0,4,12,28,63,127] (.flo [0,2,3,4,5] (.ext 1 (.one 6 (.flo [7] (.fin))))) (by kernel_rfl) (by kernel_rfl) (by intro _ _ d _ _ h;cases d<;>exact h) ?_
  (refine ord_flo (pick_cons rfl (pick_cons rfl (pick_cons rfl (pick_cons rfl (pick_cons rfl pick_nil))))) ?_;(repeat (go_big_quiet_step (fail)));refine wpQuiet_nil ?_;show ordWalk _ _ _ _ _ _ _)
  refine ord_ext (pick_cons rfl pick_nil) ?_;intro K_ hK_
  go_wp2_with (go_at_call 159;refine (contents_any gs m R _ (Lib.hid (HM.out.ext X)) ok.out.nb ok.out.na).mono ?_;rintro r w4 ⟨A4,n4,c4,rfl,e4,o4,x4⟩;have HN4:=Lib.hid e4;have HO4:=Lib.hid o4;have X4:=Lib.hid x4;clear e4 o4 x4)
  refine ordNext.mk X4.out ?_
  refine ord_one (pick_cons rfl pick_nil) ?_;intro K_ hK_
  go_wp2_with (go_at_call 18;refine (dadv_any A4 c4 n4 (allB m.bs) m.sA m.sc nS m.S _ HV HN4 (Lib.hid (HM.out.uin (X.trans X4.out) HN4.out HO4.out.sl)) (by rw [HN4.out];exact ok.out.na) (Lib.hid ok.out.ins) HNS (Lib.hid ((HTS.out.ext X).ext X4.out)) (Lib.hid ok.out.ss) (by rw [HNS.out];exact ok.out.fs)).mono ?_;rintro r w5 hres;have HR:=Lib.hid hres;obtain ⟨A5,m5,R5,rfl,h5⟩:=hres;clear h5)
  (refine ord_flo (pick_cons rfl pick_nil) ?_;(repeat (go_big_quiet_step (fail)));refine wpQuiet_nil ?_;show ordWalk _ _ _ _ _ _ _)
  refine ord_fin ?_
  go_wp2
  go_ret
  exact dadv_back HR.out (X.trans X4.out)
open Go.RowKit
/-- what the pair comes to -/
def bothV (s:SV) (i:Nat):List UV:=UdS.sumV ((s.bs.getD i []++s.bs.getD (i+1) []).map (advK s.S))
def endV (s:SV):SV :=
 match s.un with
 | none=>s
 | some (i,_)=>{ s with bs:=s.bs.take i++(if bothV s i=[] then [] else [bothV s i])++s.bs.drop (i+2),un:=none }
set_option maxRecDepth 100000 in
set_option maxHeartbeats 2000000 in
theorem end_left (gs n:Nat) (m:SpM) (p:Pr) (R:Nat→Prop) (w:World) (hp:m.un=some p) (HM:Hid (SpR w R gs m)) (hl:0<p.left):Calls Tryz.prog 162 #[.pointer (some ⟨gs,0,none⟩), .int .i64 n] w (SpStep w R gs n true m.v):=by
 obtain ⟨pg,pi,pl⟩:=p
 have c1:w.cell? ⟨gs,1,none⟩=some (.pointer (some ⟨pg,0,none⟩)):=by have:=HM.out.bk.cell 1;unfold headC at this;rw [hp] at this;exact this
 have k2:w.cell? ⟨pg,2,none⟩=some (.int .i64 pl):=(HM.out.b.un _ hp).bk.cell 2
 have hlz:(0:Int)<(pl:Int):=by simp only at hl;omega
 go_enter Tryz.func162,Tryz.ntmps162
 go_wp2
 go_returns
 exact SpStep.stay HM.out (Ext.refl w) rfl
section
variable {w wE:World} {R R':Nat→Prop} {gs:Nat} {m:SpM}
/-- a spine's list is another one -/
theorem SpR.relist {bs':List Bt} {A:Option Addr} {c:Nat} (h:SpR w R gs m) (hR : ∀ k,k<wE.heap.size→R k→R' k) (x:Upd (fun k=>LBlk m k∨k=gs) w wE)
  (bk:Bk wE gs 192 #[.slice A bs'.length c, .pointer none, .slice m.sA m.S.length m.sc, .slice m.uA m.U.length m.uc]) (o:Own wE 0 195 1 A bs'.length c (bs'.map Bt.p)) (hA:A=m.A∧c=m.c)
  (hb : ∀ b∈bs',b∈m.bs∨BtR wE R' b) (nd:(bs'.map Bt.g).Nodup):SpR wE R' gs { m with A:=A,c:=c,bs:=bs',un:=none }:=by
 have hS : ∀ k,k<w.heap.size→(LBlk m k∨k=gs)→Own_ w k:=fun k _ hk=>hk.elim h.own_ fun e=>by subst e;exact .inl h.bk.ty
 have hz:=x.size
 refine ⟨bk,hR _ bk.lt h.rg,o,fun k hk=>?_,fun b hb'=>?_,nd,(fun p hp=>by cases hp),(h.b.sn.safe x hS).wide hR,(h.b.up.safe x hS).wide hR⟩
 ·exact hR k (o.lt k hk).2 (h.b.ro k (by rw [← hA.1, ← hA.2];exact hk))
 ·rcases hb b hb' with q | q
  ·exact ((h.b.bt b q).safe x hS).wide hR
  ·exact q
end
theorem split2 {l:List Bt} {i:Nat} (h:i+1<l.length):l=l.take i++getB l i :: getB l (i+1) :: l.drop (i+2):=by
 have h0:i<l.length:=by omega
 have e1:l.drop i=getB l i :: l.drop (i+1):=by
  unfold getB
  rw [List.drop_eq_getElem_cons h0,List.getD_eq_getElem?_getD,List.getElem?_eq_getElem h0]
  rfl
 have e2:l.drop (i+1)=getB l (i+1) :: l.drop (i+2):=by
  unfold getB
  rw [List.drop_eq_getElem_cons h,List.getD_eq_getElem?_getD,List.getElem?_eq_getElem h]
  rfl
 rw [← e2, ← e1,List.take_append_drop]
theorem two_le {l:List Bt} {i:Nat} (h:i+1<l.length):(getB l i).l.length+(getB l (i+1)).l.length≤(allB l).length:=by
 have e:=congrArg (fun x=>(allB x).length) (split2 h)
 simp only [allB,List.flatMap_append,List.flatMap_cons,List.length_append] at e ⊢
 omega
theorem set_midB {l:List Bt} {i:Nat} (h:i+1<l.length) (x:Bt):(l.take (i+1)++l.drop (i+2)).set i x=l.take i++x :: l.drop (i+2):=by
 have hl:(l.take i).length=i:=by rw [List.length_take];omega
 rw [take_b (by omega),List.append_assoc,List.set_append_right _ _ (by omega),hl,Nat.sub_self]
 rfl
theorem nodup_midB {l:List Bt} {i q:Nat} {A:Option Addr} {c:Nat} {L:List Ud} (nd:(l.map Bt.g).Nodup) (hq : ∀ b∈l,b.g<q):((l.take i++⟨q,A,c,L⟩ :: l.drop (i+2)).map Bt.g).Nodup:=by
 have hs:(l.take i++l.drop (i+2)).Sublist l:=by
  have h2:(l.drop (i+2)).Sublist (l.drop i):=by
   rw [← List.drop_drop]
   exact List.drop_sublist _ _
  have:=(List.Sublist.refl (l.take i)).append h2
  rwa [List.take_append_drop] at this
 have n1:((l.take i++l.drop (i+2)).map Bt.g).Nodup:=nd.sublist (hs.map _)
 have hp:((l.take i++⟨q,A,c,L⟩ :: l.drop (i+2)).map Bt.g).Perm (q :: (l.take i++l.drop (i+2)).map Bt.g):=(List.perm_middle (a:=(⟨q,A,c,L⟩:Bt)) (l₁:=l.take i) (l₂:=l.drop (i+2))).map Bt.g
 rw [hp.nodup_iff,List.nodup_cons]
 refine ⟨fun hm=>?_,n1⟩
 obtain ⟨b,hb,e⟩:=List.mem_map.1 hm
 have:=hq b (hs.subset hb)
 omega
theorem nodup_cut {l:List Bt} {i:Nat} (nd:(l.map Bt.g).Nodup):((l.take i++l.drop (i+2)).map Bt.g).Nodup:=by
 have h2:(l.drop (i+2)).Sublist (l.drop i):=by
  rw [← List.drop_drop]
  exact List.drop_sublist _ _
 have hs:=(List.Sublist.refl (l.take i)).append h2
 rw [List.take_append_drop] at hs
 exact nd.sublist (hs.map _)
theorem cut_mid {l:List Bt} {i:Nat} (h:i≤l.length) {x:Bt}:(l.take i++x :: l.drop (i+2)).take i++(l.take i++x :: l.drop (i+2)).drop (i+1)=l.take i++l.drop (i+2):=by
 have hl:(l.take i).length=i:=by rw [List.length_take];omega
 rw [List.take_append_of_le_length (by omega),List.take_of_length_le (by omega),List.drop_append,List.drop_of_length_le (by omega),hl,List.nil_append]
 rw [show i+1 - i=1 by omega]
 rfl
theorem delB_at (g c n i j:Nat) (iz jz:Int) (xs:List Value) (w:World) (hi:Hid (iz=i)) (hj:Hid (jz=j)) (h:Hid (Own w 0 195 1 (some ⟨g,0,none⟩) n c xs)) (h1:Hid (∀ u∈xs,u.oneCell'=true)) (hij:i<j) (hjn:j≤n) :
  Calls Tryz.prog 216 #[.slice (some ⟨g,0,none⟩) n c, .int .i64 iz, .int .i64 jz] w fun e w'=>e = .returned (.slice (some ⟨g,0,none⟩) (i+(n - j)) c)∧Own w' 0 195 1 (some ⟨g,0,none⟩) (i+(n - j)) c (xs.take i++xs.drop j)∧w.grownBy w' (some g):=by
 rw [hi.out,hj.out]
 exact delB_any g c n i j xs w h h1 hij hjn
theorem getB_map {l:List Bt} {i:Nat} (h:i<l.length):(l.map Bt.v).getD i []=(getB l i).v:=by
 unfold getB
 rw [List.getD_eq_getElem?_getD,List.getD_eq_getElem?_getD,List.getElem?_map,List.getElem?_eq_getElem h]
 rfl
theorem bp_one (l:List Bt) : ∀ u∈l.map Bt.p,u.oneCell'=true:=fun u hu=>by
 obtain ⟨b,_,rfl⟩:=List.mem_map.1 hu
 rfl
set_option maxRecDepth 100000 in
set_option maxHeartbeats 4000000 in
theorem end_zero (gs n:Nat) (m:SpM) (p:Pr) (R:Nat→Prop) (w:World) (hp:m.un=some p) (HM:Hid (SpR w R gs m)) (ok:Hid (SpOk m)) (hl:p.left=0):Calls Tryz.prog 162 #[.pointer (some ⟨gs,0,none⟩), .int .i64 n] w (SpStep w R gs n true (endV m.v)):=by
 have hu:=HM.out.b.un _ hp
 obtain ⟨pg,i,pl⟩:=p
 simp only at hl
 subst hl
 have hlt:i+1<m.bs.length:=hu.lt
 obtain ⟨g,hg⟩:=HM.out.b.ow.lit (by omega)
 obtain ⟨N,hN⟩ : ∃ N,N=m.bs.length:=⟨_,rfl⟩
 obtain ⟨a,ha⟩ : ∃ a,getB m.bs i=a:=⟨_,rfl⟩
 obtain ⟨b,hb⟩ : ∃ b,getB m.bs (i+1)=b:=⟨_,rfl⟩
 have HAm:Hid (a∈m.bs):=Lib.hid (ha ▸ getB_mem (by omega))
 have HBm:Hid (b∈m.bs):=Lib.hid (hb ▸ getB_mem hlt)
 obtain ⟨na,hna⟩ : ∃ k,k=a.l.length:=⟨_,rfl⟩
 obtain ⟨nb,hnb⟩ : ∃ k,k=b.l.length:=⟨_,rfl⟩
 obtain ⟨nS,hnS⟩ : ∃ k,k=m.S.length:=⟨_,rfl⟩
 have HG:Hid (∀ W,Ext w W→W.cell? ⟨gs,0,none⟩=some (.slice (some ⟨g,0,none⟩) N m.c)∧W.cell? ⟨gs,1,none⟩=some (.pointer (some ⟨pg,0,none⟩))∧W.cell? ⟨gs,2,none⟩=some (.slice m.sA nS m.sc)):=Lib.hid (fun W x=>by
  have hb:=HM.out.bk.ext x
  have h0:=hb.cell 0
  have h1:=hb.cell 1
  have h2:=hb.cell 2
  unfold headC at h0 h1 h2
  rw [hg, ← hN] at h0
  rw [hp] at h1
  rw [← hnS] at h2
  exact ⟨h0,h1,h2⟩)
 have HPR:Hid (∀ W,Ext w W→W.cell? ⟨pg,0,none⟩=some a.p∧W.cell? ⟨pg,1,none⟩=some b.p∧W.cell? ⟨pg,2,none⟩=some (.int .i64 0)):=Lib.hid (fun W x=>by
  have hb':=hu.bk.ext x
  have h0:=hb'.cell 0
  have h1:=hb'.cell 1
  have h2:=hb'.cell 2
  simp only [ha,hb] at h0 h1
  exact ⟨h0,h1,h2⟩)
 have HBC:Hid (∀ W,Ext w W→W.cell? ⟨a.g,0,none⟩=some (.slice a.A na a.c)∧W.cell? ⟨b.g,0,none⟩=some (.slice b.A nb b.c)):=Lib.hid (fun W x=>by
  have h0:=((HM.out.b.bt a HAm.out).bk.ext x).cell 0
  have h1:=((HM.out.b.bt b HBm.out).bk.ext x).cell 0
  rw [hna,hnb]
  exact ⟨h0,h1⟩)
 obtain ⟨_,c1,_⟩:=HG.out w (Ext.refl w)
 obtain ⟨_,_,k2⟩:=HPR.out w (Ext.refl w)
 have HN:=Lib.hid hN
 have Hg:=Lib.hid hg
 have Ha:=Lib.hid ha
 have Hb:=Lib.hid hb
 have HNA:=Lib.hid hna
 have HNB:=Lib.hid hnb
 have HNS:=Lib.hid hnS
 have HI:Hid (i<m.bs.length):=Lib.hid (by omega)
 have HLT:=Lib.hid hlt
 have HP:=Lib.hid hp
 have HND:Hid ((m.bs.map Bt.g).Nodup):=Lib.hid HM.out.b.nd
 have HSL:Hid (Sl w 1 (some ⟨g,0,none⟩) N m.c (m.bs.map Bt.p)):=Lib.hid (by have:=HM.out.b.ow.sl;rw [hg, ← hN] at this;exact this)
 have HGK:Hid ((getB m.bs i).g=a.g):=Lib.hid (by rw [ha])
 clear hu hN ha hb hna hnb hnS hg hlt hp
 go_enter Tryz.func162,Tryz.ntmps162
 go_upto_region 4 with fail
 have X:Ext w w.drew:=(Ext.refl w).drew
 have C0 : ∀ y:Xt w.drew,y.W.cell? ⟨gs,0,none⟩=some (.slice (some ⟨g,0,none⟩) N m.c):=fun y=>(HG.out _ (X.trans y.x)).1
 have P0 : ∀ y:Xt w.drew,y.W.cell? ⟨pg,0,none⟩=some a.p:=fun y=>(HPR.out _ (X.trans y.x)).1
 refine wp_region_ord [0,1,3,7,0,16,48,112,255,511] (.flo [0,1,2,3,4,5,6,7] (.one 8 (.flo [9] (.fin)))) (by kernel_rfl) (by kernel_rfl) (by intro _ _ d _ _ h;cases d<;>exact h) ?_
 (refine ord_flo (pick_cons rfl (pick_cons rfl (pick_cons rfl (pick_cons rfl (pick_cons rfl (pick_cons rfl (pick_cons rfl (pick_cons rfl pick_nil)))))))) ?_;(repeat (go_big_quiet_step (fail)));refine wpQuiet_nil ?_;show ordWalk _ _ _ _ _ _ _)
 refine ord_one (pick_cons rfl pick_nil) ?_;intro K_ hK_
 go_wp2_with (go_at_call 214;refine (indexB_any (some ⟨g,0,none⟩) m.c N m.bs i a.g _ HGK HN HI HND (Lib.hid (HSL.out.ext X)) (Lib.hid (fun b hb=>⟨_,(HM.out.b.bt b hb).bk.ext X⟩))).mono ?_;rintro r w1 ⟨rfl,rfl⟩)
 clear C0 P0
 (refine ord_flo (pick_cons rfl pick_nil) ?_;(repeat (go_big_quiet_step (fail)));refine wpQuiet_nil ?_;show ordWalk _ _ _ _ _ _ _)
 refine ord_fin ?_
 go_wp2
 obtain ⟨wa,hwa⟩ : ∃ wa,wa=w.drew:=⟨_,rfl⟩
 rw [← hwa] at X ⊢
 clear hwa c1 k2
 have XA:=Lib.hid X
 clear X
 have X:Ext w wa.drew:=XA.out.drew
 have P0 : ∀ y:Xt wa.drew,y.W.cell? ⟨pg,0,none⟩=some a.p:=fun y=>(HPR.out _ (X.trans y.x)).1
 have P1 : ∀ y:Xt wa.drew,y.W.cell? ⟨pg,1,none⟩=some b.p:=fun y=>(HPR.out _ (X.trans y.x)).2.1
 have C2 : ∀ y:Xt wa.drew,y.W.cell? ⟨gs,2,none⟩=some (.slice m.sA nS m.sc):=fun y=>(HG.out _ (X.trans y.x)).2.2
 have A0 : ∀ y:Xt wa.drew,y.W.cell? ⟨a.g,0,none⟩=some (.slice a.A na a.c):=fun y=>(HBC.out _ (X.trans y.x)).1
 have B0 : ∀ y:Xt wa.drew,y.W.cell? ⟨b.g,0,none⟩=some (.slice b.A nb b.c):=fun y=>(HBC.out _ (X.trans y.x)).2
 have HU1:Hid (Uout w 0 a.A a.c a.l):=Lib.hid (HM.out.b.bt a HAm.out).u
 have HU2:Hid (Uout w 0 b.A b.c b.l):=Lib.hid (HM.out.b.bt b HBm.out).u
 have HSA:Hid (Sl w 4 a.A na a.c (udsC a.l)):=Lib.hid (by rw [HNA.out];exact HU1.out.own.sl)
 have HSB:Hid (Sl w 4 b.A nb b.c (udsC b.l)):=Lib.hid (by rw [HNB.out];exact HU2.out.own.sl)
 have hle:na+nb≤1000000:=by
  have h2:=two_le HLT.out
  rw [Ha.out,Hb.out, ← HNA.out, ← HNB.out] at h2
  exact Nat.le_trans h2 ok.out.na
 have HXB:Hid (Ext w (wa.alloc (.cells #[.slice a.A na a.c, .slice b.A nb b.c] 22)).drew):=Lib.hid ((XA.out.alloc _).drew)
 have HIN:Hid (∀ x∈a.l++b.l,InU x):=Lib.hid (fun x hx=>ok.out.ins x (by
  rcases List.mem_append.1 hx with q | q
  ·exact List.mem_flatMap.2 ⟨a,HAm.out,q⟩
  ·exact List.mem_flatMap.2 ⟨b,HBm.out,q⟩))
 obtain ⟨V,hV⟩ : ∃ V,UdS.sumV (((a.l++b.l).map Ud.uv).map (advK (m.S.map Tm.v)))=V:=⟨_,rfl⟩
 have HV:=Lib.hid hV
 clear hV X
 refine wp_region_ord [0,1,3,7,15,31,63,0,128,384,896,1920,3968,8064,16383,32767,0,65536,196608,458752,1048575,2097151] (.flo [0,1,2,3,4,5,6,7,8,9,10,11,12,13,16,17,18,19] (.ext 14 (.ext 15 (.one 20 (.flo [21] (.fin)))))) (by kernel_rfl) (by kernel_rfl) (by intro _ _ d _ _ h;cases d<;>exact h) ?_
 (refine ord_flo (pick_cons rfl (pick_cons rfl (pick_cons rfl (pick_cons rfl (pick_cons rfl (pick_cons rfl (pick_cons rfl (pick_cons rfl (pick_cons rfl (pick_cons rfl (pick_cons rfl (pick_cons rfl (pick_cons rfl (pick_cons rfl (pick_cons rfl (pick_cons rfl (pick_cons rfl (pick_cons rfl pick_nil)))))))))))))))))) ?_;(repeat (go_big_quiet_step (fail)));refine wpQuiet_nil ?_;show ordWalk _ _ _ _ _ _ _)
 refine ord_ext (pick_cons rfl pick_nil) ?_;intro K_ hK_
 go_wp2
 refine ordNext.mk ((Ext.refl _).alloc _) ?_
 clear P0 P1 C2 A0 B0
 refine ord_ext (pick_cons rfl pick_nil) ?_;intro K_ hK_
 go_wp2_with (go_at_call 215;refine (concat_any wa.heap.size na nb a.c b.c a.A b.A a.l b.l _ (Lib.hid (by exact Bk.new wa _ _)) HNA HNB (Lib.hid (HSA.out.ext HXB.out)) (Lib.hid (HSB.out.ext HXB.out)) hle).mono ?_;rintro r w4 ⟨A4,n4,c4,rfl,e4,o4,x4⟩;have HN4:=Lib.hid e4;have HO4:=Lib.hid o4;have X4:=Lib.hid x4;clear e4 o4 x4)
 refine ordNext.mk X4.out ?_
 have HX4:Hid (Ext w w4):=Lib.hid (HXB.out.trans X4.out)
 have HU4:Hid (Uin w4 A4 c4 (a.l++b.l)):=Lib.hid ⟨HN4.out ▸ HO4.out.sl,fun x hx=>by
  rcases List.mem_append.1 hx with q | q
  ·exact (HU1.out.uin.ls x q).ext HX4.out
  ·exact (HU2.out.uin.ls x q).ext HX4.out⟩
 refine ord_one (pick_cons rfl pick_nil) ?_;intro K_ hK_
 go_wp2_with (go_at_call 18;refine (dadv_any A4 c4 n4 (a.l++b.l) m.sA m.sc nS m.S _ HV HN4 HU4 (by rw [HN4.out,List.length_append, ← HNA.out, ← HNB.out];exact hle) HIN HNS (Lib.hid (HM.out.b.sn.t.tin.ext HX4.out)) (Lib.hid ok.out.ss) (by rw [HNS.out];exact ok.out.fs)).mono ?_;rintro r w5 ⟨A5,m5,R5,rfl,hm5,hu5,hv5,hx5⟩;have HM5:=Lib.hid hm5;have HU5:=Lib.hid (hu5.mono HX4.out.size);have HV5:=Lib.hid hv5;have HX5:=Lib.hid (HX4.out.trans hx5);clear hm5 hu5 hv5 hx5)
 (refine ord_flo (pick_cons rfl pick_nil) ?_;(repeat (go_big_quiet_step (fail)));refine wpQuiet_nil ?_;show ordWalk _ _ _ _ _ _ _)
 refine ord_fin ?_
 clear HXB HU1 HU2 HIN X4 HO4 HU4 hle HSA HSB
 have HS5:Hid (SpR w5 R gs m):=Lib.hid (HM.out.ext HX5.out)
 have hi9:i+2≤1000000:=by have h1:=HLT.out;have h2:=ok.out.nb;omega
 have hiN:i+2≤N:=by rw [HN.out];exact HLT.out
 have HLG:Hid (LBlk m g):=Lib.hid (by
  show blk m.A m.c=some g
  rw [Hg.out]
  have h1:=HM.out.b.ow.le.1
  obtain ⟨q,hq⟩ : ∃ q,m.c=q+1:=⟨m.c - 1,by have:=HLT.out;omega⟩
  rw [hq]
  rfl)
 have HOW:Hid (Own w5 0 195 1 (some ⟨g,0,none⟩) N m.c (m.bs.map Bt.p)):=Lib.hid (by have:=HS5.out.b.ow;rw [Hg.out, ← HN.out] at this;exact this)
 obtain ⟨K,hK⟩ : ∃ K,i+1+(N - (i+2))=K:=⟨_,rfl⟩
 have hKN:K+1=N:=by omega
 obtain ⟨LB,hLB⟩ : ∃ LB,LB=m.bs.take (i+1)++m.bs.drop (i+2):=⟨_,rfl⟩
 have HLB:=Lib.hid hLB
 have HKN:=Lib.hid hKN
 have hLK:Hid (LB.length=K):=Lib.hid (by rw [hLB,List.length_append,List.length_take,List.length_drop, ← HN.out];omega)
 obtain ⟨c0,_,_⟩:=HG.out w5 HX5.out
 clear hLB
 go_upto_region 7 with (go_at_call 216;refine (delB_at g m.c N (i+1) (i+2) _ _ (m.bs.map Bt.p) _ (Lib.hid (by omega)) (Lib.hid (by omega)) HOW (Lib.hid (bp_one _)) (by omega) hiN).mono ?_;rintro r w6 ⟨rfl,o6,g6⟩;rw [hK] at o6 ⊢;have HO6:=Lib.hid o6;have HG6:=Lib.hid g6;have b6:=HS5.out.bk.upd ((Upd.refl (LBlk m) w5).grown g6 (fun k e => .inl (by cases e;exact HLG.out))) HS5.out.not_gs;have c6:=b6.cell 0;have f6:=b6.free 0;have l6:=b6.lt;have HB6:=Lib.hid b6;clear o6 g6 b6)
 obtain ⟨w7,hw7⟩ : ∃ w7,w7=w6.setCell ⟨gs,0,none⟩ (.slice (some ⟨g,0,none⟩) K m.c):=⟨_,rfl⟩
 rw [← hw7]
 have HU7:Hid (Upd (fun k=>LBlk m k∨k=gs) w5 w7):=Lib.hid (by
  rw [hw7]
  exact (((Upd.refl (LBlk m) w5).grown HG6.out (fun k e => .inl (by cases e;exact HLG.out))).mono fun k _ hk => .inl hk).setCell (p:=⟨gs,0,none⟩) (.inl (.inr rfl)) _)
 have hgg:blk (some (⟨g,0,none⟩:Addr)) m.c≠some gs:=fun e=>HS5.out.not_gs (by show blk m.A m.c=some gs;rw [Hg.out];exact e)
 have HGG:=Lib.hid hgg
 have HB7:Hid (Bk w7 gs 192 #[.slice (some ⟨g,0,none⟩) K m.c,unV m.un, .slice m.sA m.S.length m.sc, .slice m.uA m.U.length m.uc]):=Lib.hid (by rw [hw7];exact HB6.out.set 0 _)
 have HO7:Hid (Own w7 0 195 1 (some ⟨g,0,none⟩) K m.c (LB.map Bt.p)):=Lib.hid (by
  rw [hw7]
  have:=HO6.out.far (p:=⟨gs,0,none⟩) hgg (.slice (some ⟨g,0,none⟩) K m.c)
  rwa [← List.map_take, ← List.map_drop, ← List.map_append, ← HLB.out] at this)
 clear hw7 c6 f6 l6 c0 hgg
 have c7:w7.cell? ⟨gs,0,none⟩=some (.slice (some ⟨g,0,none⟩) K m.c):=HB7.out.cell 0
 have iK:i<K:=by omega
 obtain ⟨v8,k8⟩ : ∃ v,(w7.alloc (.cells #[.slice A5 m5 m5] 197)).cell? ⟨g,i,none⟩=some v:=by
  obtain ⟨g',e1,_,_,_,h5,_⟩:=(HO7.out.alloc (.cells #[.slice A5 m5 m5] 197)).form (by omega)
  cases e1
  exact ⟨_,h5 i _ (getB_p (by rw [hLK.out];exact iK))⟩
 have f8:(w7.alloc (.cells #[.slice A5 m5 m5] 197)).frozen? ⟨g,i,none⟩=false:=by
  obtain ⟨g',e1,_,_,_,_,h6⟩:=(HO7.out.alloc (.cells #[.slice A5 m5 m5] 197)).form (by omega)
  cases e1
  exact h6 i
 have l8:g<(w7.alloc (.cells #[.slice A5 m5 m5] 197)).heap.size:=by
  obtain ⟨g',e1,_,_,h4,_,_⟩:=(HO7.out.alloc (.cells #[.slice A5 m5 m5] 197)).form (by omega)
  cases e1
  exact h4
 go_upto_region 8 with fail
 obtain ⟨w9,hw9⟩ : ∃ w9,w9=(w7.alloc (.cells #[.slice A5 m5 m5] 197)).setCell ⟨g,i,none⟩ (.pointer (some ⟨w7.heap.size,0,none⟩)):=⟨_,rfl⟩
 rw [← hw9]
 have HU9:Hid (Upd (fun k=>LBlk m k∨k=gs) w5 w9):=Lib.hid (by
  rw [hw9]
  exact (HU7.out.alloc _).setCell (p:=⟨g,i,none⟩) (.inl (.inl HLG.out)) _)
 have hgn:g≠w7.heap.size:=fun e=>by
  obtain ⟨g',e1,_,_,h4,_,_⟩:=HO7.out.form (by omega)
  cases e1
  omega
 have hggs:g≠gs:=fun e=>HS5.out.not_gs (e ▸ HLG.out)
 have HB9:Hid (Bk w9 gs 192 #[.slice (some ⟨g,0,none⟩) K m.c,unV m.un, .slice m.sA m.S.length m.sc, .slice m.uA m.U.length m.uc]):=Lib.hid (by
  have x:Upd (fun k=>k=g) w7 w9:=by rw [hw9];exact ((Upd.refl (fun k=>k=g) w7).alloc _).setCell (p:=⟨g,i,none⟩) (.inl rfl) _
  exact HB7.out.upd x fun e=>hggs e.symm)
 have HN9:Hid (Bk w9 w7.heap.size 197 #[.slice A5 R5.length m5]):=Lib.hid (by
  have x:Upd (fun k=>k=g) (w7.alloc (.cells #[.slice A5 m5 m5] 197)) w9:=by rw [hw9];exact (Upd.refl (fun k=>k=g) _).setCell (p:=⟨g,i,none⟩) (.inl rfl) _
  rw [← HM5.out]
  exact (Bk.new w7 _ _).upd x fun e=>hgn e.symm)
 have HO9:Hid (Own w9 0 195 1 (some ⟨g,0,none⟩) K m.c ((LB.set i ⟨w7.heap.size,A5,m5,R5⟩).map Bt.p)):=Lib.hid (by
  rw [hw9,List.map_set]
  exact (HO7.out.alloc _).put i _)
 have HZ9:Hid (w.heap.size≤w7.heap.size∧w7.heap.size<w9.heap.size):=Lib.hid ⟨Nat.le_trans HX5.out.size HU7.out.size,HN9.out.lt⟩
 clear hw9 k8 f8 l8 c7 hgn
 have HGS:Hid (g≠gs):=Lib.hid hggs
 have HNT:Hid (¬ Own_ w5 gs→False):=Lib.hid fun h=>h (.inl HS5.out.bk.ty)
 have HVE:Hid (m.v.un=some (i,0)):=Lib.hid (by unfold SpM.v;rw [HP.out];rfl)
 have HBV:Hid (bothV m.v i=V):=Lib.hid (by
  rw [← HV.out]
  unfold bothV
  congr 1
  have e1:m.v.bs.getD i []=a.v:=by rw [← Ha.out];exact getB_map HI.out
  have e2:m.v.bs.getD (i+1) []=b.v:=by rw [← Hb.out];exact getB_map HLT.out
  rw [e1,e2]
  rw [show (a.l++b.l).map Ud.uv=a.v++b.v from List.map_append]
  rfl)
 have HMID:Hid (LB.set i ⟨w7.heap.size,A5,m5,R5⟩=m.bs.take i++⟨w7.heap.size,A5,m5,R5⟩ :: m.bs.drop (i+2)):=Lib.hid (by rw [HLB.out];exact set_midB HLT.out _)
 have HGE:Hid (∀ b∈m.bs,b.g<w7.heap.size):=Lib.hid (fun b hb=>Nat.lt_of_lt_of_le (HS5.out.b.bt b hb).bk.lt HU7.out.size)
 have HRG:Hid (∀ wE:World, ∀ k,k<wE.heap.size→R k→Rg R w wE k):=Lib.hid (fun _ k _ hk => .inl hk)
 have HUW:Hid (∀ wE,Upd (fun k=>LBlk m k∨k=gs) w5 wE→Upd R w wE):=Lib.hid (fun wE x=>(Upd.ext HX5.out).trans (x.mono fun k _ hk=>hk.elim (HS5.out.b.ro k) fun e=>e ▸ HS5.out.rg))
 have HBT:Hid (∀ wE,Upd (fun k=>k=gs) w9 wE→BtR wE (Rg R w wE) ⟨w7.heap.size,A5,m5,R5⟩):=Lib.hid (fun wE x=>by
  have hx:Upd (fun k=>LBlk m k∨k=gs) w5 wE:=HU9.out.trans (x.mono fun k _ e => .inr e)
  refine ⟨HN9.out.upd x fun e=>?_, .inr ⟨HZ9.out.1,Nat.lt_of_lt_of_le HZ9.out.2 x.size⟩,(HU5.out.mono (Nat.zero_le _)).updB hx fun k hk q=>?_,fun k hk => .inr ⟨(HU5.out.lt hk).1,Nat.lt_of_lt_of_le (HU5.out.lt hk).2 hx.size⟩⟩
  ·exact absurd ((e ▸ HN9.out.ty:Ty w9 gs _).ne HB9.out.ty) (by decide)
  ·exact UBlk.not HU5.out hk (q.elim HS5.out.own_ fun e=>by subst e;exact .inl HS5.out.bk.ty))
 by_cases h5:m5=0
 ·subst h5
  have h5V:V=[]:=by
   have h1:=congrArg List.length HV5.out
   rw [List.length_map, ← HM5.out] at h1
   exact List.eq_nil_of_length_eq_zero h1.symm
  have H5V:=Lib.hid h5V
  clear h5V
  have c9:=HB9.out.cell 0
  obtain ⟨K2,hK2⟩ : ∃ K2,i+(K - (i+1))=K2:=⟨_,rfl⟩
  have HK2:=Lib.hid hK2
  go_upto_region 10 with (go_at_call 216;refine (delB_at g m.c K i (i+1) _ _ ((LB.set i ⟨w7.heap.size,A5,0,R5⟩).map Bt.p) _ (Lib.hid rfl) (Lib.hid (by omega)) HO9 (Lib.hid (bp_one _)) (by omega) (by omega)).mono ?_;rintro r w10 ⟨rfl,o10,g10⟩;rw [hK2] at o10 ⊢;have HO10:=Lib.hid o10;have HG10:=Lib.hid g10;have b10:=HB9.out.upd ((Upd.refl (fun k=>k=g) w9).grown g10 (fun k e => .inl (by cases e;rfl))) (fun e=>HGS.out e.symm);have c10:=b10.cell 0;have f10:=b10.free 0;have l10:=b10.lt;have HB10:=Lib.hid b10;clear o10 g10 b10)
  obtain ⟨w11,hw11⟩ : ∃ w11,w11=w10.setCell ⟨gs,0,none⟩ (.slice (some ⟨g,0,none⟩) K2 m.c):=⟨_,rfl⟩
  rw [← hw11]
  have HB11:Hid (Bk w11 gs 192 #[.slice (some ⟨g,0,none⟩) K2 m.c,unV m.un, .slice m.sA m.S.length m.sc, .slice m.uA m.U.length m.uc]):=Lib.hid (by rw [hw11];exact HB10.out.set 0 _)
  have HU11:Hid (Upd (fun k=>LBlk m k∨k=gs) w5 w11):=Lib.hid (by
   rw [hw11]
   exact (HU9.out.grown HG10.out (fun k e => .inl (.inl (by cases e;exact HLG.out)))).setCell (p:=⟨gs,0,none⟩) (.inl (.inr rfl)) _)
  have HO11:Hid (Own w11 0 195 1 (some ⟨g,0,none⟩) K2 m.c ((m.bs.take i++m.bs.drop (i+2)).map Bt.p)):=Lib.hid (by
   rw [hw11]
   have:=HO10.out.far (p:=⟨gs,0,none⟩) HGG.out (.slice (some ⟨g,0,none⟩) K2 m.c)
   rw [HMID.out, ← List.map_take, ← List.map_drop, ← List.map_append,cut_mid (by have:=HI.out;omega)] at this
   exact this)
  clear hw11 c10 f10 l10 c9
  have c11:=HB11.out.cell 1
  have f11:=HB11.out.free 1
  have l11:=HB11.out.lt
  go_wp2
  go_returns
  have x1:Upd (fun k=>k=gs) w11 (w11.setCell ⟨gs,1,none⟩ (.pointer none)):=(Upd.refl (fun k=>k=gs) w11).setCell (p:=⟨gs,1,none⟩) (.inl rfl) _
  have x5:Upd (fun k=>LBlk m k∨k=gs) w5 (w11.setCell ⟨gs,1,none⟩ (.pointer none)):=HU11.out.trans (x1.mono fun k _ e => .inr e)
  have hlen:(m.bs.take i++m.bs.drop (i+2)).length=K2:=by
   rw [List.length_append,List.length_take,List.length_drop, ← HN.out]
   have:=HK2.out
   have:=HKN.out
   omega
  have hSP:=HS5.out.relist (R':=Rg R w (w11.setCell ⟨gs,1,none⟩ (.pointer none))) (bs':=m.bs.take i++m.bs.drop (i+2)) (A:=some ⟨g,0,none⟩) (c:=m.c) (HRG.out _) x5 (by rw [hlen];exact HB11.out.set 1 _)
   (by rw [hlen];exact HO11.out.far (p:=⟨gs,1,none⟩) HGG.out _) ⟨Hg.out.symm,rfl⟩ (fun b hb => .inl ((List.mem_append.1 hb).elim List.mem_of_mem_take List.mem_of_mem_drop)) (nodup_cut HND.out)
  refine ⟨_,rfl,hSP,?_,HUW.out _ x5⟩
  unfold endV
  rw [HVE.out]
  simp only
  rw [HBV.out,if_pos H5V.out]
  unfold SpM.v
  simp only
  rw [List.map_append,List.map_take,List.map_drop,List.append_nil]
  rfl
 ·have h5z : ¬ ((m5:Int)=0):=by omega
  have c9:=HB9.out.cell 1
  have f9:=HB9.out.free 1
  have l9:=HB9.out.lt
  have h5V:V≠[]:=fun e=>h5 (by have h1:=congrArg List.length HV5.out;rw [e,List.length_map, ← HM5.out] at h1;exact h1)
  have H5V:=Lib.hid h5V
  clear h5V
  go_wp2
  go_returns
  have x1:Upd (fun k=>k=gs) w9 (w9.setCell ⟨gs,1,none⟩ (.pointer none)):=(Upd.refl (fun k=>k=gs) w9).setCell (p:=⟨gs,1,none⟩) (.inl rfl) _
  have x5:Upd (fun k=>LBlk m k∨k=gs) w5 (w9.setCell ⟨gs,1,none⟩ (.pointer none)):=HU9.out.trans (x1.mono fun k _ e => .inr e)
  have hlen:(LB.set i ⟨w7.heap.size,A5,m5,R5⟩).length=K:=by rw [List.length_set];exact hLK.out
  have hSP:=HS5.out.relist (R':=Rg R w (w9.setCell ⟨gs,1,none⟩ (.pointer none))) (bs':=LB.set i ⟨w7.heap.size,A5,m5,R5⟩) (A:=some ⟨g,0,none⟩) (c:=m.c) (HRG.out _) x5 (by rw [hlen];exact HB9.out.set 1 _)
   (by rw [hlen];exact HO9.out.far (p:=⟨gs,1,none⟩) HGG.out _) ⟨Hg.out.symm,rfl⟩ (fun b hb=>by
    rw [HMID.out] at hb
    rcases List.mem_append.1 hb with q | q
    ·exact .inl (List.mem_of_mem_take q)
    ·rcases List.mem_cons.1 q with q | q
     ·exact .inr (q ▸ HBT.out _ x1)
     ·exact .inl (List.mem_of_mem_drop q)) (by rw [HMID.out];exact nodup_midB HND.out HGE.out)
  refine ⟨_,rfl,hSP,?_,HUW.out _ x5⟩
  unfold endV
  rw [HVE.out]
  simp only
  rw [HBV.out,if_neg H5V.out, ← HV5.out]
  unfold SpM.v
  simp only [HMID.out]
  rw [List.map_append,List.map_cons,List.map_take,List.map_drop,List.append_assoc]
  rfl
end Go.Proofs.YtdgbkpoickbidaaGreatDoor
namespace Go.Proofs.YtdgbkpoickbidaaGreatDoor.UdS
open Go.RowKit

def nzV (x:V):Bool := !(x.2==0)
def Canon (D:List V):Prop := ∀ x∈D, ∀ y∈D,cmpV x y=0→x.1=y.1
theorem alike_filter (c:V) (p:V→Bool) (l:List V):alike cmpV c (l.filter p)=(alike cmpV c l).filter p:=by
 unfold alike
 rw [List.filter_filter,List.filter_filter]
 congr 1
 funext a
 rw [Bool.and_comm]
theorem sumV_spec {D:List V} (hin : ∀ x∈D,InN x):(sumV D).Pairwise (fun x y=>cmpV x y<0) ∧ ∀ c,alike cmpV c (sumV D)=(sumClass (alike cmpV c D)).filter nzV:=by
 have h:=Summed.all D hin
 refine ⟨h.sorted.filter _,fun c=>?_⟩
 show alike cmpV c ((sumAll D).filter nzV)=_
 rw [alike_filter,h.same]
theorem sumV_eq {D R:List V} (hin : ∀ x∈D,InN x) (hs:R.Pairwise (fun x y=>cmpV x y<0)) (ha : ∀ c,alike cmpV c R=(sumClass (alike cmpV c D)).filter nzV):R=sumV D:=by
 obtain ⟨h1,h2⟩:=sumV_spec hin
 exact Stable.unique cmpV_tot (l:=R) ⟨hs.imp fun q=>Int.le_of_lt q,fun _=>rfl⟩ ⟨h1.imp fun q=>Int.le_of_lt q,fun c=>by rw [h2,ha]⟩
theorem cmpV_self (x:V):cmpV x x=0:=cmpV_tot.refl x
/-- where a sum's row comes from -/
theorem sumV_mem {D:List V} (hin : ∀ x∈D,InN x) {x:V} (hx:x∈sumV D):InN x∧nzV x=true ∧ ∃ y∈D,y.1=x.1:=by
 have h:x∈alike cmpV x (sumV D):=List.mem_filter.2 ⟨hx,by rw [beq_iff_eq];exact cmpV_self x⟩
 rw [(sumV_spec hin).2] at h
 obtain ⟨h1,h2⟩:=List.mem_filter.1 h
 refine ⟨?_,h2,?_⟩
 ·cases hl:alike cmpV x D with
  | nil=>rw [hl] at h1;cases h1
  | cons y l =>
   rw [hl] at h1
   rw [List.mem_singleton.1 h1]
   exact w64_in _
 ·cases hl:alike cmpV x D with
  | nil=>rw [hl] at h1;cases h1
  | cons y l =>
   have hy:y∈alike cmpV x D:=by rw [hl];exact List.mem_cons_self ..
   rw [hl] at h1
   exact ⟨y,(List.mem_filter.1 hy).1,by rw [List.mem_singleton.1 h1]⟩
theorem cnt_nil:cnt []=0:=by decide
theorem mem_alike {c x:V} {D:List V} (h:x∈alike cmpV c D):x∈D∧cmpV c x=0:=by
 obtain ⟨h1,h2⟩:=List.mem_filter.1 h
 exact ⟨h1,by simpa using h2⟩
open Go.RowKit
theorem w64_cong {a b:Int} (h:w64 a=w64 b) (c:Int):w64 (a+c)=w64 (b+c):=by rw [← w64_add a,h,w64_add]
theorem w64_cong2 {a b c d:Int} (h:w64 a=w64 b) (k:w64 c=w64 d):w64 (a+c)=w64 (b+d):=by rw [w64_cong h c,Int.add_comm,w64_cong k b,Int.add_comm]
/-- the sum over the keys of a set -/
def tot (P:UK→Bool):List V→Int
 | []=>0
 | x :: l=>(if P x.1 then x.2 else 0)+tot P l
theorem tot_append (P:UK→Bool) : ∀ a b:List V,tot P (a++b)=tot P a+tot P b
 | [],b=>by show _=0+_;rw [Int.zero_add];rfl
 | x :: a,b=>by
  show (if P x.1 then x.2 else 0)+tot P (a++b)=(if P x.1 then x.2 else 0)+tot P a+tot P b
  rw [tot_append P a b,Int.add_assoc]
theorem tot_map (P:UK→Bool) (f:UK→UK) : ∀ l:List V,tot P (l.map fun x=>(f x.1,x.2))=tot (fun k=>P (f k)) l
 | []=>rfl
 | x :: l=>by
  show (if P (f x.1) then x.2 else 0)+tot P (l.map fun x=>(f x.1,x.2))=_
  rw [tot_map P f l]
  rfl
theorem tot_nz (P:UK→Bool) : ∀ l:List V,tot P (l.filter nzV)=tot P l
 | []=>rfl
 | x :: l=>by
  rw [List.filter_cons]
  by_cases h:x.2=0
  ·have e:nzV x=false:=by simp [nzV,h]
   rw [e]
   show tot P (l.filter nzV)=(if P x.1 then x.2 else 0)+tot P l
   rw [tot_nz P l,h]
   split<;>omega
  ·have e:nzV x=true:=by simp [nzV,h]
   rw [e]
   show (if P x.1 then x.2 else 0)+tot P (l.filter nzV)=_
   rw [tot_nz P l]
   rfl
theorem tot_perm (P:UK→Bool) {a b:List V} (h:a.Perm b):tot P a=tot P b:=by
 induction h with
 | nil=>rfl
 | cons x _ ih=>show _+_=_+_;rw [ih]
 | swap x y l=>show _+(_+_)=_+(_+_);omega
 | trans _ _ h1 h2=>rw [h1,h2]
theorem tot_addV (P:UK→Bool) (x:V) : ∀ R:List V,(∀ y∈R,cmpV y x=0→P y.1=P x.1)→w64 (tot P (addV R x))=w64 (tot P R+(if P x.1 then x.2 else 0))
 | [],_=>by
  show w64 ((if P x.1 then x.2 else 0)+0)=w64 (0+_)
  rw [Int.add_comm]
 | y :: R,h=>by
  unfold addV
  split
  ·show w64 ((if P y.1 then y.2 else 0)+tot P (addV R x))=w64 ((if P y.1 then y.2 else 0)+tot P R+_)
   rw [Int.add_comm,w64_cong (tot_addV P x R fun z hz=>h z (List.mem_cons_of_mem _ hz))]
   congr 1
   omega
  ·split
   ·rename_i h0
    have hp:=h y (List.mem_cons_self ..) h0
    show w64 ((if P y.1 then w64 (y.2+x.2) else 0)+tot P R)=w64 ((if P y.1 then y.2 else 0)+tot P R+(if P x.1 then x.2 else 0))
    rw [← hp]
    cases P y.1 with
    | true =>
     simp only [if_true]
     rw [w64_add]
     congr 1
     omega
    | false=>simp
   ·show w64 ((if P x.1 then x.2 else 0)+((if P y.1 then y.2 else 0)+tot P R))=w64 ((if P y.1 then y.2 else 0)+tot P R+_)
    congr 1
    omega
theorem sumAll_mem {D:List V} (hin : ∀ x∈D,InN x) {x:V} (hx:x∈sumAll D) : ∃ y∈D,y.1=x.1:=by
 have h:x∈alike cmpV x (sumAll D):=List.mem_filter.2 ⟨hx,by rw [beq_iff_eq];exact cmpV_self x⟩
 rw [(Summed.all D hin).same] at h
 cases hl:alike cmpV x D with
 | nil=>rw [hl] at h;cases h
 | cons y l =>
  have hy:y∈alike cmpV x D:=by rw [hl];exact List.mem_cons_self ..
  rw [hl] at h
  exact ⟨y,(List.mem_filter.1 hy).1,by rw [List.mem_singleton.1 h]⟩
theorem tot_sumAll (P:UK→Bool) (L:List V):(∀ x∈L,InN x)→Canon L→w64 (tot P (sumAll L))=w64 (tot P L):=by
 refine snoc_ind (p:=fun L=>(∀ x∈L,InN x)→Canon L→w64 (tot P (sumAll L))=w64 (tot P L)) (fun _ _=>rfl) (fun L x ih hin hc=>?_) L
 have hin' : ∀ y∈L,InN y:=fun y hy=>hin y (List.mem_append_left _ hy)
 have e:sumAll (L++[x])=addV (sumAll L) x:=by unfold sumAll;rw [List.foldl_append];rfl
 rw [e,tot_addV P x _ (fun y hy h0=>?_),w64_cong (ih hin' fun a ha b hb=>hc a (List.mem_append_left _ ha) b (List.mem_append_left _ hb)),tot_append]
 ·show w64 (tot P L+_)=w64 (tot P L+(_+0))
  rw [Int.add_zero]
 ·obtain ⟨z,hz,hzy⟩:=sumAll_mem hin' hy
  have h1:cmpV z x=0:=by
   have:cmpV z x=cmpV y x:=by show kcmp z.1 x.1=kcmp y.1 x.1;rw [hzy]
   rw [this,h0]
  rw [← hzy,hc z (List.mem_append_left _ hz) x (by simp) h1]
/-- two lists say the same -/
def Same (D E:List V):Prop := ∀ P:UK→Bool,w64 (tot P D)=w64 (tot P E)
theorem Same.refl (D:List V):Same D D:=fun _=>rfl
theorem Same.symm {D E:List V} (h:Same D E):Same E D:=fun P=>(h P).symm
theorem Same.trans {D E F:List V} (h:Same D E) (k:Same E F):Same D F:=fun P=>(h P).trans (k P)
theorem Same.append {D E D' E':List V} (h:Same D E) (k:Same D' E'):Same (D++D') (E++E'):=fun P=>by rw [tot_append,tot_append];exact w64_cong2 (h P) (k P)
theorem Same.map {D E:List V} (h:Same D E) (f:UK→UK):Same (D.map fun x=>(f x.1,x.2)) (E.map fun x=>(f x.1,x.2)):=fun P=>by rw [tot_map,tot_map];exact h _
theorem Same.perm {D E:List V} (h:D.Perm E):Same D E:=fun P=>by rw [tot_perm P h]
theorem Same.sum {D:List V} (hin : ∀ x∈D,InN x) (hc:Canon D):Same (sumV D) D:=fun P=>by
 show w64 (tot P ((sumAll D).filter nzV))=_
 rw [tot_nz,tot_sumAll P D hin hc]
theorem cnt_tot (c:V) : ∀ D:List V,(alike cmpV c D).foldr (fun x a=>x.2+a) 0=tot (fun k=>decide (cmpV c (k,0)=0)) D
 | []=>rfl
 | x :: D=>by
  rw [alike_cons]
  have e:cmpV c (x.1,0)=cmpV c x:=rfl
  by_cases h:cmpV c x=0
  ·rw [if_pos h]
   show x.2+(alike cmpV c D).foldr (fun x a=>x.2+a) 0=(if decide (cmpV c (x.1,0)=0)=true then x.2 else 0)+_
   rw [cnt_tot c D,e,if_pos (decide_eq_true h)]
  ·rw [if_neg h]
   show (alike cmpV c D).foldr (fun x a=>x.2+a) 0=(if decide (cmpV c (x.1,0)=0)=true then x.2 else 0)+_
   rw [cnt_tot c D,e,if_neg (by simpa using h),Int.zero_add]
/-- lists that say the same have one sum -/
theorem sumV_same {D E:List V} (h:Same D E) (hc:Canon (D++E)) (hD : ∀ x∈D,InN x) (hE : ∀ x∈E,InN x):sumV D=sumV E:=by
 obtain ⟨h1,h2⟩:=sumV_spec hD
 refine sumV_eq hE h1 fun c=>?_
 rw [h2]
 have hn:cnt (alike cmpV c D)=cnt (alike cmpV c E):=by
  unfold cnt
  rw [cnt_tot,cnt_tot]
  exact h _
 cases h3:alike cmpV c D with
 | nil =>
  cases h4:alike cmpV c E with
  | nil=>rfl
  | cons y l =>
   rw [h3,h4] at hn
   show []=[(y.1,cnt (y :: l))].filter nzV
   rw [← hn,cnt_nil]
   rfl
 | cons x k =>
  cases h4:alike cmpV c E with
  | nil =>
   rw [h3,h4] at hn
   show [(x.1,cnt (x :: k))].filter nzV=[]
   rw [hn,cnt_nil]
   rfl
  | cons y l =>
   rw [h3,h4] at hn
   show [(x.1,cnt (x :: k))].filter nzV=[(y.1,cnt (y :: l))].filter nzV
   have hx:x∈alike cmpV c D:=by rw [h3];exact List.mem_cons_self ..
   have hy:y∈alike cmpV c E:=by rw [h4];exact List.mem_cons_self ..
   have e:x.1=y.1:=hc x (List.mem_append_left _ (mem_alike hx).1) y (List.mem_append_right _ (mem_alike hy).1) (cmpV_tot.eq_trans (by rw [cmpV_tot.neg,(mem_alike hx).2];rfl) (mem_alike hy).2)
   rw [hn,e]
end Go.Proofs.YtdgbkpoickbidaaGreatDoor.UdS
namespace Go.Proofs.YtdgbkpoickbidaaGreatDoor
open Go.RowKit

/-- an update's value as a walk may take it -/
structure InUV (u:UV):Prop where
 txt:RwTxt u.1.1
 int:RwInt u.1.1
 num:UdS.InN u
 len:u.1.1.length≤1000000
 tu:U32 u.1.2.2
 tn:u.1.2.2.length≤100000
 te:0≤u.1.2.1∧u.1.2.1≤18446744073709551615
theorem InU.uv {x:Ud} (h:InU x):InUV x.uv:=⟨h.row.txt,h.row.int,h.row.num,h.row.len,h.tu,h.tn,h.te⟩
theorem InUV.u {x:Ud} (h:InUV x.uv):InU x:=⟨⟨h.txt,h.int,h.num,h.len⟩,h.tu,h.tn,h.te⟩
theorem InUV.key {u v:UV} (h:InUV u) (e:u.1=v.1) (hn:UdS.InN v):InUV v:=by
 obtain ⟨k,d⟩:=u
 obtain ⟨k',d'⟩:=v
 simp only at e
 subst e
 exact ⟨h.txt,h.int,hn,h.len,h.tu,h.tn,h.te⟩
/-! ### flat times -/
theorem flat_form {S:List TV} (h:flatV S=true):S=[] ∨ ∃ e,S=[(e,[])]:=by
 unfold flatV at h
 rw [Bool.and_eq_true] at h
 obtain ⟨h1,h2⟩:=h
 have h1:=of_decide_eq_true h1
 cases S with
 | nil=>exact .inl rfl
 | cons t S =>
  cases S with
  | cons u S=>simp at h1
  | nil =>
   refine .inr ⟨t.1,?_⟩
   have:t.2=[]:=by
    have h3:decide (0<t.2.length)=false:=by simpa using h2
    exact List.eq_nil_of_length_eq_zero (by have:=of_decide_eq_false h3;omega)
   rw [show t=(t.1,t.2) from rfl,this]
theorem adv_one (e0 e:Int):advV [(e0,[])] (e,[])=(max e e0,[]):=by
 show (advStep (e,[]) none (e0,[])).getD (e,[])=_
 unfold advStep
 rw [if_pos (by rfl)]
 rfl
theorem of_one (t:TV):ofV [t]=[t]:=by
 have h:=ofV_is [t]
 have hm:t∈ofV [t]:=(h.mem t).2 ⟨by simp,fun u hu _=>by rw [List.mem_singleton.1 hu]⟩
 have ha : ∀ v∈ofV [t],v=t:=fun v hv=>List.mem_singleton.1 ((h.mem v).1 hv).1
 have hr:=h.rising
 unfold Rising at hr
 cases ho:ofV [t] with
 | nil=>rw [ho] at hm;cases hm
 | cons a l =>
  rw [ho] at ha hr
  have e1:=ha a (List.mem_cons_self ..)
  cases l with
  | nil=>rw [e1]
  | cons b l =>
   have e2:=ha b (by simp)
   have h3:=(List.pairwise_cons.1 hr).1 b (List.mem_cons_self ..)
   rw [e1,e2] at h3
   exact absurd h3 (by have:=(tcmp_zero (x:=t) (y:=t)).2 rfl;omega)
theorem of_flat {S:List TV} (h:flatV S=true):ofV S=S:=by
 rcases flat_form h with rfl | ⟨e,rfl⟩
 ·rfl
 ·exact of_one _
/-- what may be asked of a spine's value -/
structure OkV (s:SV):Prop where
 nb:s.bs.flatten.length+s.bs.length≤1000000
 ins : ∀ u∈s.bs.flatten,InUV u∧u.1.2.2=[]∧checkR u.1.1=0
 pos : ∀ b∈s.bs,b≠[]
 un : ∀ i l,s.un=some (i,l)→i+1<s.bs.length∧0<l∧l≤1000000
 fs:flatV s.S=true
 fu:flatV s.U=true
 es : ∀ t∈s.S,0≤t.1∧t.1≤18446744073709551615
 eu : ∀ t∈s.U,0≤t.1∧t.1≤18446744073709551615
theorem okV_new:OkV newV:=⟨by decide,fun u hu=>(nomatch hu),fun b hb=>(nomatch hb),fun i l h=>(nomatch h),by rfl,by rfl,fun t ht=>by rw [List.mem_singleton.1 ht];decide,fun t ht=>by rw [List.mem_singleton.1 ht];decide⟩
theorem fine_flat {L:List Tm} (h:flatV (L.map Tm.v)=true):Fine L∧L.length≤1:=by
 rcases flat_form h with e | ⟨t,e⟩
 ·have:=List.map_eq_nil_iff.1 e
  subst this
  exact ⟨fun x hx=>(nomatch hx),by decide⟩
 ·refine ⟨fun x hx=>?_,by have:=congrArg List.length e;simp at this;omega⟩
  have hv:x.v∈L.map Tm.v:=List.mem_map.2 ⟨x,hx,rfl⟩
  rw [e] at hv
  have:=congrArg Prod.snd (List.mem_singleton.1 hv)
  have hl:x.l=[]:=this
  rw [hl]
  exact ⟨fun y hy=>(nomatch hy),by decide⟩
theorem OkV.sp {m:SpM} (h:OkV m.v):SpOk m:=by
 have ha:=congrArg List.length (allB_v m.bs)
 rw [List.length_map] at ha
 have hb:m.v.bs.length=m.bs.length:=List.length_map ..
 have hn:=h.nb
 rw [hb] at hn
 have hn':(allB m.bs).length+m.bs.length≤1000000:=by rw [ha];exact hn
 refine ⟨by omega,by omega,fun x hx=>?_,?_,?_,(fine_flat h.fs).1,(fine_flat h.fu).1⟩
 ·have hu:x.uv∈m.v.bs.flatten:=by
   show x.uv∈(m.bs.map Bt.v).flatten
   rw [← allB_v]
   exact List.mem_map.2 ⟨x,hx,rfl⟩
  exact (h.ins _ hu).1.u
 ·have:=(fine_flat h.fs).2;omega
 ·have:=(fine_flat h.fu).2;omega
open Go.RowKit
def GoodU (u:UV):Prop:=InUV u∧u.1.2.2=[]∧checkR u.1.1=0
theorem spAddV_len (x:UV) : ∀ R:List UV,(UdS.addV R x).length≤R.length+1
 | []=>by simp [UdS.addV]
 | y :: R=>by
  unfold UdS.addV
  split
  ·have:=spAddV_len x R
   simp only [List.length_cons]
   omega
  ·split<;>simp
theorem spSumAll_len (L:List UV):(UdS.sumAll L).length≤L.length:=by
 refine snoc_ind (p:=fun L=>(UdS.sumAll L).length≤L.length) (Nat.le_refl _) (fun L x ih=>?_) L
 have e:UdS.sumAll (L++[x])=UdS.addV (UdS.sumAll L) x:=by unfold UdS.sumAll;rw [List.foldl_append];rfl
 rw [e,List.length_append]
 have:=spAddV_len x (UdS.sumAll L)
 simp only [List.length_singleton]
 omega
theorem usumV_len (L:List UV):(UdS.sumV L).length≤L.length:=Nat.le_trans (List.length_filter_le _ _) (spSumAll_len L)
theorem sum_good {D:List UV} (h : ∀ u∈D,GoodU u) : ∀ u∈UdS.sumV D,GoodU u:=fun u hu=>by
 obtain ⟨h1,_,y,hy,e⟩:=UdS.sumV_mem (fun x hx=>(h x hx).1.num) hu
 obtain ⟨a,b,c⟩:=h y hy
 exact ⟨a.key e h1,by rw [← e];exact b,by rw [← e];exact c⟩
theorem adv_good {S:List TV} (hf:flatV S=true) (he : ∀ t∈S,0≤t.1∧t.1≤18446744073709551615) {u:UV} (h:GoodU u):GoodU (advK S u):=by
 obtain ⟨⟨l,e,c⟩,d⟩:=u
 obtain ⟨a,b,k⟩:=h
 simp only at b k
 subst b
 rcases flat_form hf with rfl | ⟨t,rfl⟩
 ·exact ⟨a,rfl,k⟩
 ·have e1:advK [(t,[])] ((l,e,[]),d)=((l,max e t,[]),d):=by unfold advK;rw [adv_one]
  rw [e1]
  have:=he (t,[]) (List.mem_singleton.2 rfl)
  have h2:=a.te
  simp only at this h2
  exact ⟨⟨a.txt,a.int,a.num,a.len,a.tu,a.tn,by simp only;omega⟩,rfl,k⟩
theorem both_good {s:SV} (h:OkV s) (i:Nat) : ∀ u∈bothV s i,GoodU u:=by
 refine sum_good fun u hu=>?_
 obtain ⟨v,hv,rfl⟩:=List.mem_map.1 hu
 refine adv_good h.fs h.es ?_
 have hg : ∀ j, ∀ v∈s.bs.getD j [],GoodU v:=fun j v hv=>by
  rw [List.getD_eq_getElem?_getD] at hv
  cases hj:s.bs[j]? with
  | none=>rw [hj] at hv;cases hv
  | some b =>
   rw [hj] at hv
   exact h.ins v (List.mem_flatten.2 ⟨b,List.mem_of_getElem? hj,hv⟩)
 rcases List.mem_append.1 hv with q | q
 ·exact hg i v q
 ·exact hg (i+1) v q
theorem split2V {l:List (List UV)} {i:Nat} (h:i+1<l.length):l=l.take i++l.getD i [] :: l.getD (i+1) [] :: l.drop (i+2):=by
 have h0:i<l.length:=by omega
 have e1:l.drop i=l.getD i [] :: l.drop (i+1):=by rw [List.drop_eq_getElem_cons h0,List.getD_eq_getElem?_getD,List.getElem?_eq_getElem h0];rfl
 have e2:l.drop (i+1)=l.getD (i+1) [] :: l.drop (i+2):=by rw [List.drop_eq_getElem_cons h,List.getD_eq_getElem?_getD,List.getElem?_eq_getElem h];rfl
 rw [← e2, ← e1,List.take_append_drop]
theorem okV_compact {s:SV} {X:List TV} (h:OkV s) (hX : ∀ t∈X,0≤t.1∧t.1≤18446744073709551615):OkV (compactV s X).2:=by
 unfold compactV
 split
 ·exact h
 ·rename_i h1
  split
  ·exact h
  ·have hf:flatV X=true:=by simpa using h1
   exact ⟨h.nb,h.ins,h.pos,h.un,by show flatV (ofV X)=true;rw [of_flat hf];exact hf,h.fu,by show ∀ t∈ofV X,_;rw [of_flat hf];exact hX,h.eu⟩
theorem okV_ins {s:SV} {l:List UV} {X:List TV} (h:OkV s) (hl : ∀ u∈l,InUV u) (hX : ∀ t∈X,0≤t.1∧t.1≤18446744073709551615) (hn:s.bs.flatten.length+s.bs.length+l.length+1≤1000000):OkV (insV s l X).2:=by
 unfold insV
 split
 ·exact h
 ·rename_i h1
  split
  ·exact h
  ·rename_i h2
   split
   ·exact h
   ·split
    ·exact h
    ·have hf:flatV X=true:=by simpa using h1
     have hg : ∀ u∈l,GoodU u:=fun u hu=>by
      have q:formV u=false:=by
       have:=List.any_eq_false.1 (by simpa using h2:l.any formV=false) u hu
       simpa using this
      unfold formV at q
      rw [Bool.or_eq_false_iff] at q
      exact ⟨hl u hu,List.eq_nil_of_length_eq_zero (by have:=of_decide_eq_false q.1;omega),by simpa using q.2⟩
     have hs:=sum_good hg
     have hlen:=usumV_len l
     by_cases h5:UdS.sumV l=[]
     ·simp only [if_pos h5]
      exact ⟨h.nb,h.ins,h.pos,h.un,h.fs,by show flatV (ofV X)=true;rw [of_flat hf];exact hf,h.es,by show ∀ t∈ofV X,_;rw [of_flat hf];exact hX⟩
     ·simp only [if_neg h5]
      refine ⟨?_,fun u hu=>?_,fun b hb=>?_,fun i k hk=>?_,h.fs,by show flatV (ofV X)=true;rw [of_flat hf];exact hf,h.es,by show ∀ t∈ofV X,_;rw [of_flat hf];exact hX⟩
      ·show (s.bs++[UdS.sumV l]).flatten.length+(s.bs++[UdS.sumV l]).length≤1000000
       rw [List.flatten_append,List.length_append,List.length_append]
       simp only [List.flatten_singleton,List.length_singleton]
       omega
      ·rw [List.flatten_append] at hu
       rcases List.mem_append.1 hu with q | q
       ·exact h.ins u q
       ·simp only [List.flatten_singleton] at q
        exact hs u q
      ·rcases List.mem_append.1 hb with q | q
       ·exact h.pos b q
       ·rw [List.mem_singleton.1 q];exact h5
      ·have:=h.un i k hk
       refine ⟨?_,this.2⟩
       show i+1<(s.bs++[UdS.sumV l]).length
       rw [List.length_append]
       have:=this.1
       omega
theorem due_lt : ∀ {k:Nat} {bs:List (List UV)} {i:Nat},findDue k bs=some i→i<k
 | 0,_,_,h=>nomatch h
 | k+1,bs,i,h=>by
  unfold findDue at h
  split at h
  ·injection h with h;omega
  ·have:=due_lt h;omega
theorem len_getD {s:SV} (h:OkV s) {i:Nat} (hi:i+1<s.bs.length):0<(s.bs.getD i []).length+(s.bs.getD (i+1) []).length∧(s.bs.getD i []).length+(s.bs.getD (i+1) []).length≤1000000:=by
 have e:=congrArg List.flatten (split2V hi)
 have e2:=congrArg List.length e
 simp only [List.flatten_append,List.flatten_cons,List.length_append] at e2
 have hn:=h.nb
 have hm:s.bs.getD i []∈s.bs:=by rw [List.getD_eq_getElem?_getD,List.getElem?_eq_getElem (by omega)];exact List.getElem_mem _
 have:=List.length_pos_iff.2 (h.pos _ hm)
 omega
theorem okV_begin {s:SV} (h:OkV s):OkV (beginV s).1:=by
 unfold beginV
 split
 ·exact h
 ·split
  ·rename_i i hd
   refine ⟨h.nb,h.ins,h.pos,fun j l hj=>?_,h.fs,h.fu,h.es,h.eu⟩
   have hi:=due_lt hd
   have hi2:i+1<s.bs.length:=by omega
   injection hj with hj
   injection hj with h1 h2
   subst h1
   subst h2
   exact ⟨hi2,len_getD h hi2⟩
  ·exact h
theorem okV_pay {s:SV} {i l k:Nat} (h:OkV s) (hu:s.un=some (i,l)) (hk:k<l):OkV { s with un:=some (i,l - k) }:=by
 refine ⟨h.nb,h.ins,h.pos,fun j q hj=>?_,h.fs,h.fu,h.es,h.eu⟩
 have:=h.un i l hu
 injection hj with hj
 injection hj with h1 h2
 subst h1
 subst h2
 exact ⟨this.1,by omega,by omega⟩
theorem okV_end {s:SV} {i l k:Nat} (h:OkV s) (hu:s.un=some (i,l)):OkV (endV { s with un:=some (i,k) }):=by
 have hi:=(h.un i l hu).1
 have hg:=both_good h i
 have hlen:(bothV s i).length≤(s.bs.getD i []).length+(s.bs.getD (i+1) []).length:=by
  unfold bothV
  refine Nat.le_trans (usumV_len _) ?_
  rw [List.length_map,List.length_append]
  exact Nat.le_refl _
 have e:=congrArg List.flatten (split2V hi)
 have e2:=congrArg List.length e
 have e3:=congrArg List.length (split2V hi)
 simp only [List.flatten_append,List.flatten_cons,List.length_append,List.length_cons] at e2 e3
 have hn:=h.nb
 have hb:bothV { s with un:=some (i,k) } i=bothV s i:=rfl
 unfold endV
 simp only [hb]
 refine ⟨?_,fun u hu=>?_,fun b hb'=>?_,fun j q hj=>(nomatch hj),h.fs,h.fu,h.es,h.eu⟩
 ·show (s.bs.take i++(if bothV s i=[] then [] else [bothV s i])++s.bs.drop (i+2)).flatten.length+(s.bs.take i++(if bothV s i=[] then [] else [bothV s i])++s.bs.drop (i+2)).length≤1000000
  split
  ·simp only [List.flatten_append,List.length_append,List.flatten_nil,List.length_nil]
   omega
  ·simp only [List.flatten_append,List.length_append,List.flatten_singleton,List.length_singleton]
   omega
 ·have hu':u∈(s.bs.take i).flatten∨u∈bothV s i∨u∈(s.bs.drop (i+2)).flatten:=by
   have hu2:u∈(s.bs.take i++(if bothV s i=[] then [] else [bothV s i])++s.bs.drop (i+2)).flatten:=hu
   rw [List.flatten_append,List.flatten_append] at hu2
   rcases List.mem_append.1 hu2 with q | q
   ·rcases List.mem_append.1 q with q | q
    ·exact .inl q
    ·split at q
     ·cases q
     ·simp only [List.flatten_singleton] at q
      exact .inr (.inl q)
   ·exact .inr (.inr q)
  have hm : ∀ bs':List (List UV),(∀ b∈bs',b∈s.bs)→u∈bs'.flatten→GoodU u:=fun bs' h1 h2=>by
   obtain ⟨b,hb,hub⟩:=List.mem_flatten.1 h2
   exact h.ins u (List.mem_flatten.2 ⟨b,h1 b hb,hub⟩)
  rcases hu' with q | q | q
  ·exact hm _ (fun b hb=>List.mem_of_mem_take hb) q
  ·exact hg u q
  ·exact hm _ (fun b hb=>List.mem_of_mem_drop hb) q
 ·have hb2:b∈s.bs.take i++(if bothV s i=[] then [] else [bothV s i])++s.bs.drop (i+2):=hb'
  rcases List.mem_append.1 hb2 with q | q
  ·rcases List.mem_append.1 q with q | q
   ·exact h.pos b (List.mem_of_mem_take q)
   ·split at q
    ·cases q
    ·rename_i h5
     rw [List.mem_singleton.1 q];exact h5
  ·exact h.pos b (List.mem_of_mem_drop q)
open Go.RowKit
/-- pay, and end where it is paid -/
def payEnd (s:SV) (n:Nat):SV × Nat :=
 match s.un with
 | none=>(s,n)
 | some (i,l)=>(if l - min n l=0 then endV { s with un:=some (i,l - min n l) } else { s with un:=some (i,l - min n l) },n - min n l)
inductive WorkR:SV→Nat→SV→Nat→Prop
 | done (s:SV):WorkR s 0 s 0
 | stop {s s1:SV} {n:Nat} (h:0<n) (hb:beginV s=(s1,false)):WorkR s n s1 n
 | step {s s1 s2 t:SV} {n n2 r:Nat} (h:0<n) (hb:beginV s=(s1,true)) (hp:payEnd s1 n=(s2,n2)) (k:WorkR s2 n2 t r):WorkR s n t r
/-- what Work leaves -/
def SpWork (w:World) (R:Nat→Prop) (gs n:Nat) (s:SV) (e:Ending) (w':World):Prop := ∃ m' r,e = .returned (.int .i64 (r:Nat))∧SpR w' (Rg R w w') gs m'∧WorkR s n m'.v r∧OkV m'.v∧Upd R w w'
/-- where its loop stands -/
structure WorkI (w wr:World) (R:Nat→Prop) (gs n k:Nat) (s:SV) (m:SpM):Prop where
 sp:SpR wr (Rg R w wr) gs m
 ok:OkV m.v
 up:Upd R w wr
 wk : ∀ t r,WorkR m.v k t r→WorkR s n t r
theorem flat_le {l:List Bt} {b:Bt} (h:b∈l):b.l.length≤(l.flatMap Bt.l).length:=by
 induction l with
 | nil=>cases h
 | cons a l ih =>
  rw [List.flatMap_cons,List.length_append]
  rcases List.mem_cons.1 h with rfl | h
  ·omega
  ·have:=ih h;omega
theorem begin_any (gs n:Nat) (m:SpM) (R:Nat→Prop) (w:World) (HM:Hid (SpR w R gs m)) (ok:Hid (OkV m.v)):Calls Tryz.prog 160 #[.pointer (some ⟨gs,0,none⟩), .int .i64 n] w (SpStep w R gs n (beginV m.v).2 (beginV m.v).1):=by
 cases hu:m.un with
 | none=>exact begin_none gs n m R w hu HM ok.out.sp.nb (Lib.hid fun b hb=>Nat.le_trans (by unfold allB;exact flat_le hb) ok.out.sp.na)
 | some p =>
  have e:beginV m.v=(m.v,true):=by unfold beginV;rw [show m.v.un=some (p.i,p.left) by unfold SpM.v;rw [hu];rfl]
  rw [e]
  exact begin_some gs n m p R w hu HM
/-- one step more -/
theorem step_on {w wr wa w1:World} {R:Nat→Prop} {gs n:Nat} {b:Bool} {s:SV} {e:Ending} (up:Upd R w wr) (x:Ext wr wa) (h:SpStep wa (Rg R w wr) gs n b s e w1) : ∃ m1,e = .returned (.tuple #[.int .i64 n, .bool b])∧SpR w1 (Rg R w w1) gs m1∧m1.v=s∧Upd R w w1:=by
 obtain ⟨m1,he,hs,hv,hu⟩:=h
 have hx:=x.size
 have h1:=up.size
 have h2:=hu.size
 refine ⟨m1,he,hs.wide fun k _ hk=>?_,hv,?_⟩
 ·rcases hk with (q | q) | q
  ·exact .inl q
  ·exact .inr ⟨q.1,by omega⟩
  ·exact .inr ⟨by omega,q.2⟩
 ·exact upd_rg up ((Upd.ext x).trans hu)
theorem begin_un {s s1:SV} (h:beginV s=(s1,true)) : ∃ i l,s1.un=some (i,l):=by
 unfold beginV at h
 split at h
 ·rename_i p hp
  injection h with h _
  rw [← h,hp]
  exact ⟨p.1,p.2,rfl⟩
 ·split at h
  ·injection h with h _
   rw [← h]
   exact ⟨_,_,rfl⟩
  ·injection h with _ h
   cases h
theorem upd_more {w a b:World} {R R':Nat→Prop} (h:Upd R w a) (k:Upd R' a b) (hr : ∀ q,q<w.heap.size→R' q→R q):Upd R w b :=
 ⟨k.os.trans h.os,k.tape.trans h.tape,k.output.trans h.output,Nat.le_trans h.size k.size,fun q hq hn=>(k.block q (Nat.lt_of_lt_of_le hq h.size) (fun e=>hn (hr q hq e))).trans (h.block q hq hn)⟩
theorem WorkI.next {w wr wa w1 w2 w3:World} {R:Nat→Prop} {gs n k j:Nat} {s s1 s2:SV} {m m3:SpM} (h:WorkI w wr R gs n k s m) (hk:0<k) (hb:beginV m.v=(s1,true)) (hp:payEnd s1 k=(s2,j)) (_hR : ∀ q,R q→q<w.heap.size) (x:Ext wr wa)
  (u1:Upd (Rg R w wr) wa w1) (u2:Upd (Rg (Rg R w wr) wa w1) w1 w2) (u3:Upd (Rg (Rg (Rg R w wr) wa w1) w1 w2) w2 w3) (s3:SpR w3 (Rg (Rg (Rg (Rg R w wr) wa w1) w1 w2) w2 w3) gs m3) (hv:m3.v=s2) (ok:OkV m3.v):WorkI w w3 R gs n j s m3:=by
 have z0:=h.up.size
 have z1:=x.size
 have z2:=u1.size
 have z3:=u2.size
 have z4:=u3.size
 have q1 : ∀ q,q<w.heap.size→Rg R w wr q→R q:=fun q hq e=>e.elim id fun e=>by omega
 have q2 : ∀ q,q<w.heap.size→Rg (Rg R w wr) wa w1 q→R q:=fun q hq e=>e.elim (q1 q hq) fun e=>by omega
 have q3 : ∀ q,q<w.heap.size→Rg (Rg (Rg R w wr) wa w1) w1 w2 q→R q:=fun q hq e=>e.elim (q2 q hq) fun e=>by omega
 refine ⟨s3.wide fun q _ hq=>?_,ok,upd_more (upd_more (upd_more (h.up.trans (Upd.ext x)) u1 q1) u2 q2) u3 q3,fun t r ht=>h.wk t r (WorkR.step hk hb hp (hv ▸ ht))⟩
 rcases hq with (((q | q) | q) | q) | q
 ·exact .inl q
 ·exact .inr ⟨q.1,by omega⟩
 ·exact .inr ⟨by omega,by omega⟩
 ·exact .inr ⟨by omega,by omega⟩
 ·exact .inr ⟨by omega,q.2⟩
set_option maxRecDepth 100000 in
set_option maxHeartbeats 4000000 in
theorem work_any (gs n:Nat) (m:SpM) (R:Nat→Prop) (w:World) (HM:Hid (SpR w R gs m)) (ok:Hid (OkV m.v)) (hn:0<n) (hn9:n≤9223372036854775807) (hR:Hid (∀ k,R k→k<w.heap.size)):Calls Tryz.prog 47 #[.pointer (some ⟨gs,0,none⟩), .int .i64 n] w (SpWork w R gs n m.v):=by
 have h1 : ¬ ((n:Int)<1):=by omega
 have HI0:Hid (WorkI w w R gs n n m.v m):=Lib.hid ⟨HM.out.wide fun _ _ hk => .inl hk,ok.out,Upd.refl R w,fun t r h=>h⟩
 go_enter Tryz.func47,Tryz.ntmps47
 go_wp2
 go_loopg [1] n (fun z u wr => ∃ (k:Nat) (m':SpM),z=k∧k≤n∧u = .int .i64 k∧Hid (WorkI w wr R gs n k m.v m'))
 case atStart=>exact ⟨n,m,rfl,Nat.le_refl _,rfl,HI0⟩
 case round =>
  obtain ⟨k,m',hz,hk,rfl,HI⟩:=hrel
  by_cases hk0:k=0
  ·subst hk0
   go_wp2
   go_ret
   exact ⟨m',0,rfl,HI.out.sp,HI.out.wk _ _ (WorkR.done _),HI.out.ok,HI.out.up⟩
  ·have hkz:(0:Int)<(k:Int):=by omega
   obtain ⟨s1,hs1⟩ : ∃ s1,(beginV m'.v).1=s1:=⟨_,rfl⟩
   obtain ⟨b1,hb1⟩ : ∃ b1,(beginV m'.v).2=b1:=⟨_,rfl⟩
   have HE:Hid (beginV m'.v=(s1,b1)):=Lib.hid (by rw [← hs1, ← hb1])
   have HO1:Hid (OkV s1):=Lib.hid (hs1 ▸ okV_begin HI.out.ok)
   have XA:Hid (Ext wr (wr.alloc (.cells #[.func (.func 160) #[.pointer (some ⟨gs,0,none⟩)] #[], .func (.func 161) #[.pointer (some ⟨gs,0,none⟩)] #[], .func (.func 162) #[.pointer (some ⟨gs,0,none⟩)] #[]] 198))):=Lib.hid ((Ext.refl wr).alloc _)
   have HSP:Hid (SpStep (wr.alloc (.cells #[.func (.func 160) #[.pointer (some ⟨gs,0,none⟩)] #[], .func (.func 161) #[.pointer (some ⟨gs,0,none⟩)] #[], .func (.func 162) #[.pointer (some ⟨gs,0,none⟩)] #[]] 198)) (Rg R w wr) gs k b1 s1=SpStep (wr.alloc (.cells #[.func (.func 160) #[.pointer (some ⟨gs,0,none⟩)] #[], .func (.func 161) #[.pointer (some ⟨gs,0,none⟩)] #[], .func (.func 162) #[.pointer (some ⟨gs,0,none⟩)] #[]] 198)) (Rg R w wr) gs k (beginV m'.v).2 (beginV m'.v).1):=Lib.hid (by rw [hs1,hb1])
   clear hs1 hb1
   cases b1 with
   | false =>
    go_wp2
    refine wp_loop_rounds 4 ?_
    rw [rounds_succ]
    go_wp2_with (go_at_call 160;refine (begin_any gs k m' (Rg R w wr) _ (Lib.hid (HI.out.sp.ext XA.out)) (Lib.hid HI.out.ok)).mono ?_;rw [← HSP.out];rintro r w1 hres;have HR1:=Lib.hid (step_on HI.out.up XA.out hres);obtain ⟨m1,rfl,_⟩:=hres)
    go_ret
    obtain ⟨m1,_,h2,h3,h4⟩:=HR1.out
    exact ⟨m1,k,rfl,h2,HI.out.wk _ _ (h3 ▸ WorkR.stop (by omega) HE.out),h3 ▸ HO1.out,h4⟩
   | true =>
    obtain ⟨i,l,hil⟩:=begin_un HE.out
    have hu1:=HO1.out.un i l hil
    have HIL:=Lib.hid hil
    have HUL:=Lib.hid hu1
    obtain ⟨gF,hgF⟩ : ∃ g,g=wr.heap.size:=⟨_,rfl⟩
    have HGF:=Lib.hid hgF
    have hF0 : ¬ Rg R w wr gF:=fun q=>by
     have h1:=HI.out.up.size
     rcases q with q | q
     ·have:=hR.out gF q;omega
     ·omega
    have HF0:=Lib.hid hF0
    clear hil hu1 hF0
    go_wp2
    refine wp_loop_rounds 4 ?_
    rw [rounds_succ]
    go_wp2_with (go_at_call 160;refine (begin_any gs k m' (Rg R w wr) _ (Lib.hid (HI.out.sp.ext XA.out)) (Lib.hid HI.out.ok)).mono ?_;rw [← HSP.out];rintro r w1 ⟨m1,rfl,s1_,v1_,u1_⟩;have HS1:=Lib.hid s1_;have HV1:=Lib.hid v1_;have HU1:=Lib.hid u1_;clear s1_ v1_ u1_)
    have HF1:Hid (¬ Rg (Rg R w wr) (wr.alloc (.cells #[.func (.func 160) #[.pointer (some ⟨gs,0,none⟩)] #[], .func (.func 161) #[.pointer (some ⟨gs,0,none⟩)] #[], .func (.func 162) #[.pointer (some ⟨gs,0,none⟩)] #[]] 198)) w1 gF):=Lib.hid (fun q=>by
     rcases q with q | q
     ·exact HF0.out q
     ·have:=q.1;simp at this;have:=HGF.out;omega)
    have HB1:Hid (Bk w1 gF 198 _):=Lib.hid ((Bk.at (w:=wr) (cs := #[.func (.func 160) #[.pointer (some ⟨gs,0,none⟩)] #[], .func (.func 161) #[.pointer (some ⟨gs,0,none⟩)] #[], .func (.func 162) #[.pointer (some ⟨gs,0,none⟩)] #[]]) hgF).upd HU1.out HF0.out)
    have c1:=HB1.out.cell 1
    rw [hgF] at c1
    rw [rounds_succ]
    obtain ⟨p,hp1,hpi,hpl⟩ : ∃ p,m1.un=some p∧p.i=i∧p.left=l:=by
     have h:=HIL.out
     rw [← HV1.out] at h
     unfold SpM.v at h
     cases hm:m1.un with
     | none=>simp only [hm] at h;cases h
     | some p =>
      simp only [hm,Option.map_some,Option.some.injEq,Prod.mk.injEq] at h
      exact ⟨p,rfl,h.1,h.2⟩
    go_wp2_with (go_at_call 161;refine (pay_any gs k m1 p _ _ hp1 HS1 (by omega) (by have:=HUL.out.2.2;omega)).mono ?_;rintro r w2 ⟨m2,rfl,s2_,v2_,u2_⟩;have HS2:=Lib.hid s2_;have HV2:=Lib.hid v2_;have HU2:=Lib.hid u2_;clear s2_ v2_ u2_)
    have HV2':Hid (m2.v={ s1 with un:=some (i,l - min k l) }):=Lib.hid (by rw [HV2.out,HV1.out,hpi,hpl])
    have HF2:Hid (¬ Rg (Rg (Rg R w wr) (wr.alloc (.cells #[.func (.func 160) #[.pointer (some ⟨gs,0,none⟩)] #[], .func (.func 161) #[.pointer (some ⟨gs,0,none⟩)] #[], .func (.func 162) #[.pointer (some ⟨gs,0,none⟩)] #[]] 198)) w1) w1 w2 gF):=Lib.hid (fun q=>by
     rcases q with q | q
     ·exact HF1.out q
     ·have h1:=q.1;have h2:=HB1.out.lt;omega)
    have HB2:=Lib.hid (HB1.out.upd HU2.out HF1.out)
    have c2:=HB2.out.cell 2
    rw [hgF] at c2
    obtain ⟨p2,hp2,hp2i,hp2l⟩ : ∃ p,m2.un=some p∧p.i=i∧p.left=l - min k l:=by
     have h:=congrArg SV.un HV2'.out
     unfold SpM.v at h
     cases hm:m2.un with
     | none=>simp only [hm] at h;cases h
     | some p =>
      simp only [hm,Option.map_some,Option.some.injEq,Prod.mk.injEq] at h
      exact ⟨p,rfl,h.1,h.2⟩
    have HPE:Hid (payEnd s1 k=(if l - min k l=0 then endV m2.v else m2.v,k - min k l)):=Lib.hid (by unfold payEnd;rw [HIL.out];simp only;rw [HV2'.out])
    obtain ⟨j,hj⟩ : ∃ j,k - min k l=j:=⟨_,rfl⟩
    rw [hj] at HPE ⊢
    have hjk:j<k:=by have:=HUL.out.2.1;omega
    clear hj c1
    rw [rounds_succ]
    have HOK:Hid (SpOk m2):=Lib.hid (by
     have h0:OkV { s1 with un:=none }:=⟨HO1.out.nb,HO1.out.ins,HO1.out.pos,fun _ _ h=>(nomatch h),HO1.out.fs,HO1.out.fu,HO1.out.es,HO1.out.eu⟩
     have h1:OkV ({ m2 with un:=none }:SpM).v:=by
      have e:({ m2 with un:=none }:SpM).v={ m2.v with un:=none }:=rfl
      rw [e,HV2'.out]
      exact h0
     have h2:=h1.sp
     exact ⟨h2.nb,h2.na,h2.ins,h2.fs,h2.fu,h2.ss,h2.uu⟩)
    by_cases hz0:l - min k l=0
    ·rw [if_pos hz0] at HPE
     go_wp2_with (go_at_call 162;refine (end_zero gs j m2 p2 _ _ hp2 HS2 HOK (hp2l.trans hz0)).mono ?_;rintro r w3 ⟨m3,rfl,s3_,v3_,u3_⟩;have HS3:=Lib.hid s3_;have HV3:=Lib.hid v3_;have HU3:=Lib.hid u3_;clear s3_ v3_ u3_)
     rw [rounds_succ]
     go_wp2
     go_roundg j
     case measure=>omega
     case rel=>exact ⟨j,m3,rfl,by omega,rfl,Lib.hid (WorkI.next HI.out (by omega) HE.out HPE.out  hR.out XA.out HU1.out HU2.out HU3.out HS3.out (by rw [HV3.out]) (by rw [HV3.out];rw [HV2'.out];exact okV_end HO1.out HIL.out))⟩
    ·rw [if_neg hz0] at HPE
     go_wp2_with (go_at_call 162;refine (end_left gs j m2 p2 _ _ hp2 HS2 (by rw [hp2l];omega)).mono ?_;rintro r w3 ⟨m3,rfl,s3_,v3_,u3_⟩;have HS3:=Lib.hid s3_;have HV3:=Lib.hid v3_;have HU3:=Lib.hid u3_;clear s3_ v3_ u3_)
     rw [rounds_succ]
     go_wp2
     go_roundg j
     case measure=>omega
     case rel=>exact ⟨j,m3,rfl,by omega,rfl,Lib.hid (WorkI.next HI.out (by omega) HE.out HPE.out  hR.out XA.out HU1.out HU2.out HU3.out HS3.out (by rw [HV3.out]) (by rw [HV3.out];rw [HV2'.out];exact okV_pay HO1.out HIL.out (by omega)))⟩
open Go.RowKit
def advF (S:List TV) (k:UK):UK:=(k.1,advV S k.2)
theorem advK_eq (S:List TV):advK S=fun x:UV=>(advF S x.1,x.2):=rfl
/-- what a spine says -/
def sayV (s:SV):List UV:=s.bs.flatten.map (advK s.S)
theorem good_row {u:UV} (h:GoodU u) : ∀ d∈u.1.1,d.check=0∧InD d:=fun d hd=>⟨((checkR_ok _).1 h.2.2).2 d hd,h.1.int d hd⟩
theorem good_canon {D:List UV} (h : ∀ u∈D,GoodU u):UdS.Canon D:=fun x hx y hy h0=>by
 have gx:=good_row (h x hx)
 have gy:=good_row (h y hy)
 obtain ⟨⟨l,t⟩,d⟩:=x
 obtain ⟨⟨l',t'⟩,d'⟩:=y
 have h1:(if cmpR l l'=0 then tcmp t t' else cmpR l l')=0:=h0
 split at h1
 ·rename_i h2
  rw [show l=l' from row_zero l l' gx gy h2,show t=t' from tcmp_zero.1 h1]
 ·rename_i h2
  exact absurd h1 h2
theorem adv_twice {S:List TV} (hf:flatV S=true) {u:UV} (h:u.1.2.2=[]):advK S (advK S u)=advK S u:=by
 obtain ⟨⟨l,e,c⟩,d⟩:=u
 simp only at h
 subst h
 rcases flat_form hf with rfl | ⟨t,rfl⟩
 ·rfl
 ·unfold advK
  simp only [adv_one]
  congr 3
  omega
theorem say_good {s:SV} (h:OkV s) : ∀ u∈sayV s,GoodU u:=fun u hu=>by
 obtain ⟨v,hv,rfl⟩:=List.mem_map.1 hu
 exact adv_good h.fs h.es (h.ins v hv)
theorem mid_flat {A D:List (List UV)} (X:List UV):(A++(if X=[] then [] else [X])++D).flatten=A.flatten++X++D.flatten:=by
 rw [List.flatten_append,List.flatten_append]
 split
 ·rename_i h
  rw [h]
  rfl
 ·rw [List.flatten_singleton]
theorem say_end {s:SV} {i l:Nat} (h:OkV s) (hu:s.un=some (i,l)) (k:Nat):UdS.Same (sayV (endV { s with un:=some (i,k) })) (sayV s):=by
 have hi:=(h.un i l hu).1
 have e1:sayV (endV { s with un:=some (i,k) })=(s.bs.take i).flatten.map (advK s.S)++(bothV s i).map (advK s.S)++(s.bs.drop (i+2)).flatten.map (advK s.S):=by
  show ((s.bs.take i++(if bothV s i=[] then [] else [bothV s i])++s.bs.drop (i+2)).flatten).map (advK s.S)=_
  rw [mid_flat,List.map_append,List.map_append]
 have e2:sayV s=(s.bs.take i).flatten.map (advK s.S)++(s.bs.getD i []++s.bs.getD (i+1) []).map (advK s.S)++(s.bs.drop (i+2)).flatten.map (advK s.S):=by
  have e:=congrArg (fun x=>x.flatten.map (advK s.S)) (split2V hi)
  simp only [List.flatten_append,List.flatten_cons,List.map_append] at e
  unfold sayV
  rw [e,List.map_append]
  simp only [List.append_assoc]
 rw [e1,e2]
 have hg : ∀ u∈s.bs.getD i []++s.bs.getD (i+1) [],GoodU u:=fun u hu'=>by
  have hm : ∀ j,j<s.bs.length → ∀ v∈s.bs.getD j [],GoodU v:=fun j hj v hv=>by
   rw [List.getD_eq_getElem?_getD,List.getElem?_eq_getElem hj] at hv
   exact h.ins v (List.mem_flatten.2 ⟨_,List.getElem_mem hj,hv⟩)
  rcases List.mem_append.1 hu' with q | q
  ·exact hm i (by omega) u q
  ·exact hm (i+1) hi u q
 have hg2 : ∀ u∈(s.bs.getD i []++s.bs.getD (i+1) []).map (advK s.S),GoodU u:=fun u hu'=>by
  obtain ⟨v,hv,rfl⟩:=List.mem_map.1 hu'
  exact adv_good h.fs h.es (hg v hv)
 have e3:((s.bs.getD i []++s.bs.getD (i+1) []).map (advK s.S)).map (advK s.S)=(s.bs.getD i []++s.bs.getD (i+1) []).map (advK s.S):=by
  rw [List.map_map]
  exact List.map_congr_left fun u hu'=>adv_twice h.fs (hg u hu').2.1
 have k1:UdS.Same ((bothV s i).map (advK s.S)) ((s.bs.getD i []++s.bs.getD (i+1) []).map (advK s.S)):=by
  rw [← e3]
  exact (UdS.Same.sum (fun u hu'=>(hg2 u hu').1.num) (good_canon hg2)).map (advF s.S)
 exact ((UdS.Same.refl _).append k1).append (UdS.Same.refl _)
theorem begin_same {s s1:SV} {b:Bool} (h:beginV s=(s1,b)):s1.bs=s.bs∧s1.S=s.S∧s1.U=s.U:=by
 unfold beginV at h
 split at h
 ·injection h with h _;rw [← h];exact ⟨rfl,rfl,rfl⟩
 ·split at h
  ·injection h with h _;rw [← h];exact ⟨rfl,rfl,rfl⟩
  ·injection h with h _;rw [← h];exact ⟨rfl,rfl,rfl⟩
/-- what Work leaves as it was -/
structure Stay (s t:SV):Prop where
 ok:OkV t
 say:UdS.Same (sayV t) (sayV s)
 S:t.S=s.S
 U:t.U=s.U
theorem pay_stay {s s2:SV} {n n2:Nat} (h:OkV s) {i l:Nat} (hu:s.un=some (i,l)) (hn:0<n) (hp:payEnd s n=(s2,n2)):Stay s s2∧n2<n:=by
 have hl:=(h.un i l hu).2.1
 unfold payEnd at hp
 rw [hu] at hp
 simp only at hp
 injection hp with h1 h2
 refine ⟨?_,by omega⟩
 rw [← h1]
 split
 ·exact ⟨okV_end h hu,say_end h hu _,rfl,rfl⟩
 ·exact ⟨okV_pay h hu (by omega),UdS.Same.refl _,rfl,rfl⟩
theorem work_stay {s t:SV} {n r:Nat} (w:WorkR s n t r):OkV s→Stay s t:=by
 induction w with
 | done s=>exact fun h=>⟨h,UdS.Same.refl _,rfl,rfl⟩
 | @stop s s1 n hn hb =>
  intro h
  obtain ⟨e1,e2,e3⟩:=begin_same hb
  have h1:=okV_begin h
  rw [hb] at h1
  exact ⟨h1,by unfold sayV;rw [e1,e2];exact UdS.Same.refl _,e2,e3⟩
 | @step s s1 s2 t n n2 r hn hb hp k ih =>
  intro h
  obtain ⟨e1,e2,e3⟩:=begin_same hb
  have h1:=okV_begin h
  rw [hb] at h1
  obtain ⟨i,l,hu⟩:=begin_un hb
  obtain ⟨a,_⟩:=pay_stay h1 hu hn hp
  have c:=ih a.ok
  refine ⟨c.ok,c.say.trans (a.say.trans ?_),c.S.trans (a.S.trans e2),c.U.trans (a.U.trans e3)⟩
  unfold sayV
  rw [e1,e2]
  exact UdS.Same.refl _
open Go.RowKit
def nzV (x:V):Bool := !(x.2==0)
def Canon (D:List V):Prop := ∀ x∈D, ∀ y∈D,cmpV x y=0→x.1=y.1
theorem alike_filter (c:V) (p:V→Bool) (l:List V):alike cmpV c (l.filter p)=(alike cmpV c l).filter p:=by
 unfold alike
 rw [List.filter_filter,List.filter_filter]
 congr 1
 funext a
 rw [Bool.and_comm]
theorem sumV_spec {D:List V} (hin : ∀ x∈D,InN x):(sumV D).Pairwise (fun x y=>cmpV x y<0) ∧ ∀ c,alike cmpV c (sumV D)=(sumClass (alike cmpV c D)).filter nzV:=by
 have h:=Summed.all D hin
 refine ⟨h.sorted.filter _,fun c=>?_⟩
 show alike cmpV c ((sumAll D).filter nzV)=_
 rw [alike_filter,h.same]
theorem sumV_eq {D R:List V} (hin : ∀ x∈D,InN x) (hs:R.Pairwise (fun x y=>cmpV x y<0)) (ha : ∀ c,alike cmpV c R=(sumClass (alike cmpV c D)).filter nzV):R=sumV D:=by
 obtain ⟨h1,h2⟩:=sumV_spec hin
 exact Stable.unique cmpV_tot (l:=R) ⟨hs.imp fun q=>Int.le_of_lt q,fun _=>rfl⟩ ⟨h1.imp fun q=>Int.le_of_lt q,fun c=>by rw [h2,ha]⟩
theorem cmpV_self (x:V):cmpV x x=0:=cmpV_tot.refl x
/-- where a sum's row comes from -/
theorem sumV_mem {D:List V} (hin : ∀ x∈D,InN x) {x:V} (hx:x∈sumV D):InN x∧nzV x=true ∧ ∃ y∈D,y.1=x.1:=by
 have h:x∈alike cmpV x (sumV D):=List.mem_filter.2 ⟨hx,by rw [beq_iff_eq];exact cmpV_self x⟩
 rw [(sumV_spec hin).2] at h
 obtain ⟨h1,h2⟩:=List.mem_filter.1 h
 refine ⟨?_,h2,?_⟩
 ·cases hl:alike cmpV x D with
  | nil=>rw [hl] at h1;cases h1
  | cons y l =>
   rw [hl] at h1
   rw [List.mem_singleton.1 h1]
   exact w64_in _
 ·cases hl:alike cmpV x D with
  | nil=>rw [hl] at h1;cases h1
  | cons y l =>
   have hy:y∈alike cmpV x D:=by rw [hl];exact List.mem_cons_self ..
   rw [hl] at h1
   exact ⟨y,(List.mem_filter.1 hy).1,by rw [List.mem_singleton.1 h1]⟩
theorem cnt_nil:cnt []=0:=by decide
theorem mem_alike {c x:V} {D:List V} (h:x∈alike cmpV c D):x∈D∧cmpV c x=0:=by
 obtain ⟨h1,h2⟩:=List.mem_filter.1 h
 exact ⟨h1,by simpa using h2⟩
end Go.Proofs.YtdgbkpoickbidaaGreatDoor
