/- delta.Of: updates that come, at each of some times, to a bag: of the bags of given updates at all their times it makes their sum. DeltaSame: what stands without the program: rotations, times that stand for others, times that are few. Plain. delta.Times: all times of updates, and all that come of joining them. DeltaSame: the list of bags that it makes. penstocklaw10.much, far: are there more updates, times than are looked at? penstockref00.SameRow: what it answers. penstockref00.SameRow, SameCounteds, WholeRow, WholeCounteds: of what is the same they say so. penstockref00.SameTime, SameTimes: what they answer. penstockref00.SameUpdates: of what is the same it says so. penstockref00.LentRow: copies with marked room behind. An update of a row of one number, as the laws' first examples have it. penstocklaw10.update, known: what the chapter's first example fixes. penstockref04.Leq, Cmp: what they answer. penstockref04.Leq, Cmp, their answer a name; a time in a list. Conditions: each theorem states its own. -/
import Derived.Test.YtdgbkpoickbidaaGreatDoorHs12
import Derived.Test.YtdgbkpoickbidaaGreatDoorHs10
import Derived.Test.YtdgbkpoickbidaaGreatDoorHs11
import Derived.Test.YtdgbkpoickbidaaGreatDoorHs4
import Derived.Test.YtdgbkpoickbidaaGreatDoorHs2
import Derived.Test.YtdgbkpoickbidaaGreatDoorHs7
import Derived.Test.YtdgbkpoickbidaaGreatDoorHs9
import Derived.Deep.LoopGhost
import Derived.Test.YtdgbkpoickbidaaGreatDoorHs6
import Derived.Test.YtdgbkpoickbidaaGreatDoorHs3
import Derived.Test.YtdgbkpoickbidaaGreatDoorHs1
namespace Go.Proofs.YtdgbkpoickbidaaGreatDoor
open Go.RowKit

theorem InV.tv {v:TV} (h:InV v):InTV v:=⟨h.u,by have:=h.n;omega,h.e⟩
set_option maxRecDepth 100000 in
set_option maxRecDepth 100000 in
set_option maxHeartbeats 8000000 in
theorem dof_any (AT:Option Addr) (cT nT:Nat) (T:List Tm) (AB:Option Addr) (cB:Nat) (Bs:List Bg) (w:World) (L:List UV) (hn:Hid (nT=T.length)) (hb:Hid (nT=Bs.length)) (hT:Hid (Tin w AT cT T)) (hB:Hid (BgI w AB cB Bs)) (hi:Hid (∀ x∈T,InV x.v)) (hr:Hid (Rising (T.map Tm.v)))
  (hc:Hid (ClosedT (T.map Tm.v))) (hL:Hid (∀ u∈L,GoodT u)) (hLT:Hid (∀ u∈L,u.1.2∈T.map Tm.v)) (hbg:Hid (∀ j,j<T.length→(Bs.getD j Bg.zero).2.2.map valC=sumV (atV L (T.getD j Tm.zero).v))) (G:Pow w) (GG:Good w) (h9:nT≤5000) (hL9:Hid (L.length≤24)) :
  Calls Tryz.prog 98 #[.slice AT nT cT, .slice AB nT cB] w (DAdvRes w (UdS.sumV L)):=by
 obtain ⟨w1,hw1⟩ : ∃ w1,w1=w.alloc (.map #[] 0):=⟨_,rfl⟩
 have hmk:(Instr.makeMap 218 none).run Tryz.prog w = .ok (.map (some w.heap.size)) w1:=by rw [hw1];exact run_makeMap _ _
 have M1:MapV w1 w.heap.size 0 (.map []) (pairB T Bs 0):=by rw [hw1];exact MapV.new w
 have X1:Ext w w1:=by rw [hw1];exact (Ext.refl w).alloc _
 have HM1:=Lib.hid M1
 have HX1:=Lib.hid X1
 clear hw1 M1 X1
 obtain ⟨bm,hbm⟩ : ∃ bm,bm=w.heap.size:=⟨_,rfl⟩
 rw [← hbm] at hmk HM1
 have HBM:=Lib.hid hbm
 clear hbm
 go_enter Tryz.func98,Tryz.ntmps98
 go_wp2
 go_loopg [28] nT (fun z v28 wr => ∃ (k:Nat) (D:DataW Value),z=nT - k∧k≤nT∧v28 = .int .i64 k∧Hid (MapV wr bm k D (pairB T Bs k))∧Hid (Ext w wr))
 case atStart=>exact ⟨0, .map [],rfl,Nat.zero_le _,rfl,HM1,HX1⟩
 case round =>
  obtain ⟨k,D,rfl,hk,rfl,HM,HX⟩:=hrel
  by_cases hlt:k<nT
  ·have hkT:k<T.length:=by rw [← hn.out];exact hlt
   have hkB:k<Bs.length:=by rw [← hb.out];exact hlt
   obtain ⟨ad,rfl,q0,q1⟩:=(hT.out.ext HX.out).at (i:=k) hkT
   obtain ⟨ab,rfl,b0⟩:=(hB.out.ext HX.out).at (i:=k) hkB
   have HXS:Hid (Sl wr 1 (T.getD k Tm.zero).A (T.getD k Tm.zero).l.length (T.getD k Tm.zero).c (wds (T.getD k Tm.zero).l)):=Lib.hid ((hT.out.ext HX.out).ls _ (getT_mem hkT))
   have HIX:Hid (InV (T.getD k Tm.zero).v):=Lib.hid (hi.out _ (getT_mem hkT))
   have HNew:=Lib.hid (pairB_new (Bs:=Bs) hr.out hkT)
   have HSu:=Lib.hid (pairB_succ T Bs k)
   have HB0:=Lib.hid b0
   obtain ⟨x,hx⟩ : ∃ x,T.getD k Tm.zero=x:=⟨_,rfl⟩
   obtain ⟨bg,hbgk⟩ : ∃ bg,Bs.getD k Bg.zero=bg:=⟨_,rfl⟩
   rw [hx] at q0 q1 HXS HIX HNew HSu
   rw [hbgk] at HB0 HSu
   clear hx hbgk hkT hkB b0
   obtain ⟨e,Ax,cx,l⟩:=x
   obtain ⟨bA,bc,bl⟩:=bg
   obtain ⟨nx,hnx⟩ : ∃ nx,nx=l.length:=⟨_,rfl⟩
   obtain ⟨bn,hbn⟩ : ∃ bn,bn=bl.length:=⟨_,rfl⟩
   have HNX:=Lib.hid hnx
   replace q0:wr.cell? (ad.add (k * 2))=some (.int .u64 e):=q0
   replace q1:wr.cell? ⟨(ad.add (k * 2)).block,(ad.add (k * 2)).off+1,none⟩=some (.slice Ax l.length cx):=q1
   replace HXS:Hid (Sl wr 1 Ax l.length cx (wds l)):=HXS
   replace HIX:Hid (InV (e,l)):=HIX
   replace HNew:Hid (∀ y∈pairB T Bs k,y.1≠(e,l)):=HNew
   replace HB0:Hid (wr.cell? (ab.add k)=some (.slice bA bl.length bc)):=HB0
   replace HSu:Hid (pairB T Bs (k+1)=pairB T Bs k++[((e,l), .slice bA bl.length bc)]):=HSu
   rw [← hnx] at q1 HXS
   rw [← hbn] at HB0 HSu
   have hn9:nx≤1000:=by rw [hnx];exact HIX.out.n
   clear hnx hbn
   obtain ⟨S,hS⟩ : ∃ S,prT e l=S:=⟨_,rfl⟩
   have HS:=Lib.hid hS
   have hprint : ∀ W,Ext wr W→Calls Tryz.prog 141 #[.agg #[.int .u64 e, .slice Ax nx cx]] W fun r w'=>r = .returned (.string S)∧Ext W w':=fun W y=>hS ▸ print_any e Ax nx cx l W (HXS.out.ext y) HIX.out.u HIX.out.e (by omega) (G.ext (HX.out.trans y))
   have HP:=Lib.hid hprint
   have hlook : ∀ W,Ext wr W→(Instr.lookup 218 (.map (some bm)) (.string S) true).run Tryz.prog W = .ok (.tuple #[.slice none 0 0, .bool false]) W:=fun W z=>by
    have k:=(HM.out.ext z).fresh HIX.out HNew.out
    rw [← HS.out]
    exact k
   have HLk:=Lib.hid hlook
   have hkey:Hid (keyOf Tryz.prog 9 (.string S)=some (keyT (e,l))):=Lib.hid (by rw [← HS.out];exact keyOf_prT (e,l) HIX.out)
   clear hprint hlook hS
   have X0:Hid (Ext wr (wr.alloc (.cells #[.int .u64 e, .slice Ax nx cx] 26))):=Lib.hid ((Ext.refl _).alloc _)
   go_wp2_with (first
    | (go_at_call 141;refine (HP.out _ X0.out).mono ?_;rintro r w3 ⟨rfl,x3⟩;have X3:Hid (Ext wr w3):=Lib.hid (X0.out.trans x3);have y1:=HLk.out w3 X3.out;have y2:=X3.out.cell HB0.out;clear x3)
    | (at_mapUpdate;refine wpList_mapUpdate_own _ rfl _ _ _ 218 rfl 9 31 keyedS Tryz.underlying218 tok bm k D rfl (HM.out.ext X3.out).own (by unfold maxLen;omega) (.string S) (.slice bA bn bc) (keyT (e,l)) rfl rfl hkey.out (.held (.slice bA bn bc)) [] rfl ?_;intro w5 hown5 hgr5;have HO5:=Lib.hid hown5;have HG5:=Lib.hid hgr5;clear hown5 hgr5))
   go_roundg (nT - (k+1))
   case measure=>omega
   case rel =>
    refine ⟨k+1,D.put (keyT (e,l)) (.held (.slice bA bn bc)),by omega,by omega,by go_num,Lib.hid ?_,Lib.hid ?_⟩
    ·rw [HSu.out]
     exact (HM.out.ext X3.out).put HIX.out HNew.out HO5.out
    ·exact (HX.out.trans X3.out).grown HG5.out fun j hj=>by injection hj with hj;have:=HBM.out;omega
  ·obtain rfl:k=nT:=by omega
   have hcl:Hid (∀ v∈T.map Tm.v,v∈T.map Tm.v):=Lib.hid fun _ q=>q
   have hU5:Hid ((T.map Tm.v).length≤5000):=Lib.hid (by rw [List.length_map, ← hn.out];exact h9)
   have hUi:Hid (∀ v∈T.map Tm.v,InV v):=Lib.hid fun v hv=>by
    obtain ⟨x,hx,rfl⟩:=List.mem_map.1 hv
    exact hi.out x hx
   go_upto_region 14 with (first
    | (go_at_call 178;refine (joined_any AT cT k T _ (T.map Tm.v) hn (Lib.hid (hT.out.ext HX.out)) hi hc hcl hU5 hUi (G.ext HX.out) (by omega)).mono ?_;rintro r w6 ⟨A6,c6,n6,M,rfl,l6,t6,j6,i6,x6⟩;have HL6:=Lib.hid l6;have HT6:=Lib.hid t6;have HJ6:=Lib.hid j6;have HI6:=Lib.hid i6;have X6:=Lib.hid x6;clear l6 t6 j6 i6 x6))
   have HMV:Hid (M.map Tm.v=T.map Tm.v):=Lib.hid (HJ6.out.self hr.out hc.out)
   have hk6:n6=k:=by
    have:=congrArg List.length HMV.out
    rw [List.length_map,List.length_map, ← HL6.out, ← hn.out] at this
    exact this
   subst hk6
   have HM6:=Lib.hid (HM.out.ext X6.out)
   have HX6:=Lib.hid (HX.out.trans X6.out)
   have GG6:=Lib.hid (GG.ext HX6.out)
   have G6:=Lib.hid (G.ext HX6.out)
   have HS0:Hid (OfS w6 w6 L ((T.map Tm.v).take 0) none 0 0 []):=Lib.hid (OfS.start _ _)
   go_wp2
   go_loopg [12,58] n6 (fun z v12 v58 wr => ∃ (k:Nat) (A:Option Addr) (c q:Nat) (O:List Ud),z=n6 - k∧k≤n6∧v58 = .int .i64 k∧v12 = .slice A q c∧Hid (OfS w6 wr L ((T.map Tm.v).take k) A c q O))
   case atStart=>exact ⟨0,none,0,0,[],rfl,Nat.zero_le _,rfl,rfl,HS0⟩
   case round =>
    clear HM HX hlt HS0
    obtain ⟨k,A,c,q,O,rfl,hk,rfl,rfl,HO⟩:=hrel
    obtain ⟨wo,hwo⟩ : ∃ wo:World,wo=wr:=⟨_,rfl⟩
    rw [← hwo] at HO ⊢
    clear hwo
    have hTk:((T.map Tm.v).take k).length≤5000:=by rw [List.length_take];omega
    have hq9:=HO.out.small hTk hL9.out
    have HLQ:=Lib.hid HO.out.len
    clear hTk
    by_cases hlt:k<n6
    ·have hkM:k<M.length:=by rw [← HL6.out];exact hlt
     have hkT:k<T.length:=by rw [← hn.out];exact hlt
     have hkB:k<Bs.length:=by rw [← hb.out];exact hlt
     obtain ⟨ad,rfl,q0,q1⟩:=(HT6.out.tin.ext HO.out.ext).at (i:=k) hkM
     have HXS:Hid (Sl w6 1 (M.getD k Tm.zero).A (M.getD k Tm.zero).l.length (M.getD k Tm.zero).c (wds (M.getD k Tm.zero).l)):=Lib.hid (HT6.out.tin.ls _ (getT_mem hkM))
     have HIX:Hid (InV (M.getD k Tm.zero).v):=Lib.hid (HI6.out _ (getT_mem hkM))
     have hv:(T.getD k Tm.zero).v=(M.getD k Tm.zero).v:=(getT_v hkT).symm.trans ((List.getElem_of_eq HMV.out.symm (by rw [List.length_map];exact hkT)).trans (getT_v hkM))
     have HPM:=Lib.hid (pairB_mem (T:=T) (Bs:=Bs) hlt)
     have HBG:=Lib.hid (hbg.out k hkT)
     have HCT:Hid (Ctin w6 (Bs.getD k Bg.zero).1 (Bs.getD k Bg.zero).2.1 (Bs.getD k Bg.zero).2.2):=Lib.hid ((hB.out.ls _ (getB_mem hkB)).ext HX6.out)
     have HTK:Hid ((T.map Tm.v).take (k+1)=(T.map Tm.v).take k++[(T.getD k Tm.zero).v]):=Lib.hid (by rw [List.take_succ_eq_append_getElem (by rw [List.length_map];exact hkT),getT_v hkT])
     have HTD:Hid (T.map Tm.v=(T.map Tm.v).take k++(T.getD k Tm.zero).v :: (T.map Tm.v).drop (k+1)):=Lib.hid (by rw [← getT_v hkT, ← List.drop_eq_getElem_cons,List.take_append_drop])
     obtain ⟨x,hx⟩ : ∃ x,M.getD k Tm.zero=x:=⟨_,rfl⟩
     obtain ⟨bg,hbgk⟩ : ∃ bg,Bs.getD k Bg.zero=bg:=⟨_,rfl⟩
     rw [hx] at q0 q1 HXS HIX hv
     rw [hv] at HPM HBG HTK HTD
     rw [hbgk] at HPM HBG HCT
     clear hx hbgk hkM hkT hkB hv
     obtain ⟨e,Ax,cx,l⟩:=x
     obtain ⟨bA,bc,bl⟩:=bg
     obtain ⟨nx,hnx⟩ : ∃ nx,nx=l.length:=⟨_,rfl⟩
     obtain ⟨bn,hbn⟩ : ∃ bn,bn=bl.length:=⟨_,rfl⟩
     have HNX:=Lib.hid hnx
     have HBN:=Lib.hid hbn
     replace q0:wo.cell? (ad.add (k * 2))=some (.int .u64 e):=q0
     replace q1:wo.cell? ⟨(ad.add (k * 2)).block,(ad.add (k * 2)).off+1,none⟩=some (.slice Ax l.length cx):=q1
     replace HXS:Hid (Sl w6 1 Ax l.length cx (wds l)):=HXS
     replace HIX:Hid (InV (e,l)):=HIX
     replace HPM:Hid (((e,l),Value.slice bA bl.length bc)∈pairB T Bs n6):=HPM
     replace HBG:Hid (bl.map valC=sumV (atV L (e,l))):=HBG
     replace HCT:Hid (Ctin w6 bA bc bl):=HCT
     replace HTK:Hid ((T.map Tm.v).take (k+1)=(T.map Tm.v).take k++[(e,l)]):=HTK
     replace HTD:Hid (T.map Tm.v=(T.map Tm.v).take k++(e,l) :: (T.map Tm.v).drop (k+1)):=HTD
     have hbn9:bn≤24:=by
      have a:=congrArg List.length HBG.out
      have b:=bag_len (t:=(e,l)) hL.out
      have d:=hL9.out
      rw [List.length_map, ← hbn] at a
      omega
     rw [← hnx] at q1 HXS
     rw [← hbn] at HPM
     have hn9:nx≤1000:=by rw [hnx];exact HIX.out.n
     clear hnx hbn
     obtain ⟨S,hS⟩ : ∃ S,prT e l=S:=⟨_,rfl⟩
     have hprint : ∀ W,Ext w6 W→Calls Tryz.prog 141 #[.agg #[.int .u64 e, .slice Ax nx cx]] W fun r w'=>r = .returned (.string S)∧Ext W w':=fun W y=>hS ▸ print_any e Ax nx cx l W (HXS.out.ext y) HIX.out.u HIX.out.e (by omega) (G6.out.ext y)
     have HP:=Lib.hid hprint
     have hlook : ∀ W,Ext w6 W→(Instr.lookup 218 (.map (some bm)) (.string S) false).run Tryz.prog W = .ok (.slice bA bn bc) W:=fun W z=>by
      have k:=(HM6.out.ext z).list HPM.out
      rw [← hS]
      exact k
     have HLk:=Lib.hid hlook
     clear hprint hlook hS
     have X0:Hid (Ext wo (wo.alloc (.cells #[.int .u64 e, .slice Ax nx cx] 26))):=Lib.hid ((Ext.refl _).alloc _)
     have B0:Hid (Bk (wo.alloc (.cells #[.int .u64 e, .slice Ax nx cx] 26)) wo.heap.size 26 #[.int .u64 e, .slice Ax nx cx]):=Lib.hid (Bk.new _ _ _)
     obtain ⟨gt,hgt⟩ : ∃ gt,gt=wo.heap.size:=⟨_,rfl⟩
     rw [← hgt] at B0
     have HGT:=Lib.hid hgt
     have XO:=Lib.hid HO.out.ext
     go_wp2_with (first
      | (go_at_call 141;refine (HP.out _ (XO.out.trans X0.out)).mono ?_;rintro r w3 ⟨rfl,x3⟩;have X3:Hid (Ext wo w3):=Lib.hid (X0.out.trans x3);have B3:=Lib.hid (B0.out.ext x3);have y1:=HLk.out w3 (XO.out.trans X3.out);clear x3)
      | (go_at_call 179;refine (clone_cts bA bn bc bl _ HBN (Lib.hid (by rw [HBN.out];exact (HCT.out.ext (XO.out.trans X3.out)).sl)) (by omega)).mono ?_;rintro r w4 ⟨A4,c4,rfl,o4,x4⟩;have HO4:=Lib.hid o4;have X4:=Lib.hid x4;have B4:=Lib.hid (B3.out.ext x4);have p0:w4.cell? ⟨wo.heap.size,0,none⟩=some (.int .u64 e):=(by rw [← HGT.out];exact B4.out.cell 0);have p1:w4.cell? ⟨wo.heap.size,1,none⟩=some (.slice Ax nx cx):=(by rw [← HGT.out];exact B4.out.cell 1);clear o4 x4)
      | (go_at_call 17;refine (dat_any A c q O e Ax nx cx l _ HLQ (Lib.hid (HO.out.step (X3.out.trans X4.out)).uin) (by omega) (Lib.hid HO.out.inU) (Lib.hid (HXS.out.ext (XO.out.trans (X3.out.trans X4.out)))) (GG6.out.ext (XO.out.trans (X3.out.trans X4.out)))).mono ?_;rintro r w5 ⟨A5,n5,c5,R5,rfl,l5,o5,r5,a5,v5,x5⟩;have HL5:=Lib.hid l5;have HO5:=Lib.hid o5;have HR5:=Lib.hid r5;have HV5:=Lib.hid v5;have X5:=Lib.hid x5;clear l5 o5 r5 a5 v5 x5))
     clear p0 p1 y1 q0 q1
     have hbl4 : ∀ k,blk A4 c4=some k→w3.heap.size≤k∧k<w4.heap.size:=fun k hk=>HO4.out.lt k hk
     have HBL4:=Lib.hid hbl4
     have K5:Own w5 w6.heap.size 154 2 A4 bn c4 (ctsC bl):=(HO4.out.ext X5.out).mono (XO.out.trans X3.out).size
     have HK5:=Lib.hid K5
     have HLI:Hid (∀ W,Upd (fun k=>blk A4 c4=some k) w5 W→Sl W 2 A5 n5 c5 (ctsC R5)):=Lib.hid fun W u=>(HO5.out.upd u fun k hk e2=>by have:=(HO5.out.lt k hk).1;have:=(HBL4.out k e2).2;omega).sl
     have HR9:Hid (∀ W,Upd (fun k=>blk A4 c4=some k) w5 W → ∀ x∈R5,RwO W x.A x.c x.l):=Lib.hid fun W u x hx=>rwo_types HK5.out dat_ne_ct u (HR5.out x hx).1
     have hn59:n5≤120000:=by
      have a:=congrArg List.length HV5.out
      have b:=bag_len (D:=O.map Ud.uv) (t:=(e,l)) HO.out.ofi.good
      rw [List.length_map, ← HL5.out] at a
      rw [List.length_map, ← HLQ.out] at b
      omega
     have HS5:Hid (Grows w6 w5 w5 154 2 A4 c4 A4 c4 bn (ctsC (bl++(R5.take 0).map negC))):=Lib.hid (by rw [List.take_zero,List.map_nil,List.append_nil];exact Grows.start HK5.out)
     clear hbl4 K5
     go_loopg [15,71] n5 (fun z v15 v71 wr => ∃ (j:Nat) (A':Option Addr) (c' q':Nat),z=n5 - j∧j≤n5∧v71 = .int .i64 j∧v15 = .slice A' q' c'∧q'≤bn+j∧Hid (q'=bn+j)∧Hid (Grows w6 w5 wr 154 2 A4 c4 A' c' q' (ctsC (bl++(R5.take j).map negC))))
     case atStart=>exact ⟨0,A4,c4,bn,rfl,Nat.zero_le _,rfl,rfl,Nat.le_refl _,Lib.hid rfl,HS5⟩
     case round =>
      clear HS5
      obtain ⟨j,A',c',q',rfl,hj,rfl,rfl,hqb,hq',HG⟩:=hrel
      by_cases hlj:j<n5
      ·have hjR:j<R5.length:=by rw [← HL5.out];exact hlj
       obtain ⟨ar,rfl,q0,q1⟩:=own_at2 (HLI.out _ HG.out.upd) hlj (show ctC (R5.getD j Ct.zero)=[.slice (R5.getD j Ct.zero).A (R5.getD j Ct.zero).l.length (R5.getD j Ct.zero).c, .int .i64 (R5.getD j Ct.zero).k] from rfl) (fun p hp=>ctsC_at R5 j p hjR hp)
       have hty:ctsC (bl++(R5.take (j+1)).map negC)=ctsC (bl++(R5.take j).map negC)++ctC (negC (R5.getD j Ct.zero)):=by
        rw [take_snocC hjR,List.map_append, ← List.append_assoc,ctsC_append]
        simp [ctsC]
       obtain ⟨y,hy⟩ : ∃ y,R5.getD j Ct.zero=y:=⟨_,rfl⟩
       rw [hy] at q0 q1 hty
       have HTY:=Lib.hid hty
       clear hy hty hjR
       obtain ⟨rA,rc,rl,rk⟩:=y
       obtain ⟨rn,hrn⟩ : ∃ rn,rn=rl.length:=⟨_,rfl⟩
       obtain ⟨nk,hnk⟩ : ∃ nk,nk=w64 (-rk):=⟨_,rfl⟩
       replace q0:wr.cell? (ar.add (j * 2))=some (.slice rA rl.length rc):=q0
       replace q1:wr.cell? ⟨(ar.add (j * 2)).block,(ar.add (j * 2)).off+1,none⟩=some (.int .i64 rk):=q1
       replace HTY:Hid (ctsC (bl++(R5.take (j+1)).map negC)=ctsC (bl++(R5.take j).map negC)++[.slice rA rl.length rc, .int .i64 (w64 (-rk))]):=HTY
       rw [← hrn] at q0 HTY
       rw [← hnk] at HTY
       have hneg:IntKind.i64.wrap (-rk)=nk:=hnk.symm
       have hneg2:wrap64 (-rk)=nk:=by rw [hnk];unfold w64;rw [IntKind.wrap_i64];unfold wrap64;omega
       clear hrn hnk
       go_upto_region 24 with fail
       obtain ⟨wx,hwx⟩ : ∃ wx,wx=wr.alloc (.cells #[.slice rA rn rc, .int .i64 rk] 154):=⟨_,rfl⟩
       have bx:Bk wx wr.heap.size 154 #[.slice rA rn rc, .int .i64 rk]:=by rw [hwx];exact Bk.new _ _ _
       have xx:Ext wr wx:=by rw [hwx];exact (Ext.refl _).alloc _
       rw [← hwx]
       have HXX:=Lib.hid xx
       have b0:=bx.cell 0
       have b1:=bx.cell 1
       clear hwx xx q0 q1
       go_wp2_with (at_builtin;refine wpList_append_two _ elem_ct w6.heap.size _ _ rfl rfl A' q' c' (ctsC (bl++(R5.take j).map negC)) rfl ((HG.out.own.ext HXX.out).alloc _) (some ⟨wx.heap.size,0,none⟩) 1 1 [.slice rA rn rc, .int .i64 nk] rfl (sl_ct _ _ _ _) (by intro u hu;simp at hu;rcases hu with rfl | rfl<;>rfl) (by omega) (by decide) (Nat.le_trans (Nat.le_trans (ext_upd (XO.out.trans (X3.out.trans (X4.out.trans X5.out))) HG.out.upd (fun k hk=>Nat.le_trans (XO.out.trans X3.out).size (HBL4.out k hk).1)).size HXX.out.size) ((Ext.refl wx).alloc _).size) ?_;intro A8 c8 w8 o8 g8 x8;have HO8:=Lib.hid o8;have HG8:=Lib.hid g8;have HX8:=Lib.hid x8;clear o8 g8 x8)
       go_roundg (n5 - (j+1))
       case measure=>omega
       case rel=>exact ⟨j+1,A8,c8,q'+1,by omega,by omega,by go_num,rfl,by omega,Lib.hid (by have:=hq'.out;omega),Lib.hid (by rw [HTY.out];exact HG.out.put (HXX.out.alloc _) HO8.out HG8.out HX8.out)⟩
      ·obtain rfl:j=n5:=by omega
       have HRT:Hid (R5.take j=R5):=Lib.hid (List.take_of_length_le (by rw [← HL5.out];exact Nat.le_refl _))
       rw [HRT.out] at HG
       obtain ⟨K,hK⟩ : ∃ K,K=bl++R5.map negC:=⟨_,rfl⟩
       rw [← hK] at HG
       have hKl:q'=K.length:=by rw [hK,List.length_append,List.length_map,hq'.out,HBN.out,HL5.out]
       have XW:Ext w6 wr:=ext_upd (XO.out.trans (X3.out.trans (X4.out.trans X5.out))) HG.out.upd fun k hk=>Nat.le_trans (XO.out.trans X3.out).size (HBL4.out k hk).1
       have HKI:Hid (∀ x∈K,InC x):=Lib.hid (by
        rw [hK]
        intro x hx
        rcases List.mem_append.1 hx with hx | hx
        ·exact bag_in hL.out HBG.out x hx
        ·exact neg_inC (bag_in HO.out.ofi.good HV5.out) x hx)
       have HKC:Hid (Ctin wr A' c' K):=Lib.hid ⟨by rw [← hKl];exact HG.out.own.sl,by
        rw [hK]
        intro x hx
        rcases List.mem_append.1 hx with hx | hx
        ·exact (HCT.out.rows x hx).ext XW
        ·obtain ⟨y,hy,rfl⟩:=List.mem_map.1 hx
         exact (HR9.out _ HG.out.upd y hy).rw⟩
       have HKV:Hid (K.map valC=sumV (atV L (e,l))++(sumV (atV (O.map Ud.uv) (e,l))).map negR):=Lib.hid (by rw [hK,List.map_append,negC_val,HBG.out,HV5.out])
       have HW:Hid (OfS w6 wr L ((T.map Tm.v).take k) A c q O):=Lib.hid ((HO.out.step (X3.out.trans (X4.out.trans X5.out))).upd HK5.out (Nat.le_refl _) HG.out.upd)
       have HBT:Hid (Bk wr gt 26 #[.int .u64 e, .slice Ax nx cx]):=Lib.hid (bk_upd (B4.out.ext X5.out) HG.out.upd fun e2=>by have:=(HBL4.out _ e2).1;have:=B3.out.lt;omega)
       have HKL:=Lib.hid hKl
       have HXW:=Lib.hid XW
       have hkb:q'≤130000:=by omega
       clear hK hKl XW
       go_wp2_with (first
        | (go_at_call 109;refine (sum_any A' c' q' K _ HKL.out (by omega) HKC.out HKI.out (GG6.out.ext HXW.out)).mono ?_;rintro r w7 ⟨A7,n7,c7,R7,rfl,l7,o7,r7,a7,v7,x7⟩;have HL7:=Lib.hid l7;have HO7:=Lib.hid o7;have HR7:=Lib.hid r7;have HV7:=Lib.hid v7;have X7:=Lib.hid x7;clear l7 o7 r7 a7 v7 x7))
       have HW7:=Lib.hid (HW.out.step X7.out)
       have HLI7:Hid (∀ W,Upd (fun k=>blk A c=some k) w7 W→Sl W 2 A7 n7 c7 (ctsC R7)):=Lib.hid fun W u=>(HO7.out.upd u fun k hk e2=>own_types HO7.out HW7.out.own ct_ne_ud hk e2).sl
       have HB7:Hid (∀ W,Upd (fun k=>blk A c=some k) w7 W→Bk W gt 26 #[.int .u64 e, .slice Ax nx cx]):=Lib.hid fun W u=>bk_upd (HBT.out.ext X7.out) u fun e2=>by have:=(HO.out.own.lt _ e2).2;have:=HGT.out;omega
       have hn79:n7≤130000:=by
        have a:=congrArg List.length HV7.out
        have b:=rsumV_len (K.map valC)
        rw [List.length_map, ← HL7.out] at a
        rw [List.length_map, ← HKL.out] at b
        omega
       have HS7:Hid (Grows w6 w7 w7 95 4 A c A c q (udsC (O++(R7.take 0).map (updC ⟨e,Ax,cx,l⟩)))):=Lib.hid (by rw [List.take_zero,List.map_nil,List.append_nil];exact Grows.start HW7.out.own)
       have HSZ:=Lib.hid HW7.out.ext.size
       go_loopg [12,88] n7 (fun z v12 v88 wr => ∃ (j:Nat) (A':Option Addr) (c' q':Nat),z=n7 - j∧j≤n7∧v88 = .int .i64 j∧v12 = .slice A' q' c'∧q'≤q+j∧Hid (q'=q+j)∧Hid (Grows w6 w7 wr 95 4 A c A' c' q' (udsC (O++(R7.take j).map (updC ⟨e,Ax,cx,l⟩)))))
       case atStart=>exact ⟨0,A,c,q,rfl,Nat.zero_le _,rfl,rfl,Nat.le_refl _,Lib.hid rfl,HS7⟩
       case round =>
        clear HS7 HG hq' hqb hlj hj HKC HKL hkb HW HBT HXW
        obtain ⟨j,A',c',q',rfl,hj,rfl,rfl,hqb,hq',HG⟩:=hrel
        by_cases hlj:j<n7
        ·have hjR:j<R7.length:=by rw [← HL7.out];exact hlj
         obtain ⟨ar,rfl,q0,q1⟩:=own_at2 (HLI7.out _ HG.out.upd) hlj (show ctC (R7.getD j Ct.zero)=[.slice (R7.getD j Ct.zero).A (R7.getD j Ct.zero).l.length (R7.getD j Ct.zero).c, .int .i64 (R7.getD j Ct.zero).k] from rfl) (fun p hp=>ctsC_at R7 j p hjR hp)
         have hty:udsC (O++(R7.take (j+1)).map (updC ⟨e,Ax,cx,l⟩))=udsC (O++(R7.take j).map (updC ⟨e,Ax,cx,l⟩))++udC (updC ⟨e,Ax,cx,l⟩ (R7.getD j Ct.zero)):=by
          rw [take_snocC hjR,List.map_append, ← List.append_assoc,udsC_append]
          simp [udsC]
         obtain ⟨y,hy⟩ : ∃ y,R7.getD j Ct.zero=y:=⟨_,rfl⟩
         rw [hy] at q0 q1 hty
         have HTY:=Lib.hid hty
         clear hy hty hjR
         obtain ⟨rA,rc,rl,rk⟩:=y
         obtain ⟨rn,hrn⟩ : ∃ rn,rn=rl.length:=⟨_,rfl⟩
         replace q0:wr.cell? (ar.add (j * 2))=some (.slice rA rl.length rc):=q0
         replace q1:wr.cell? ⟨(ar.add (j * 2)).block,(ar.add (j * 2)).off+1,none⟩=some (.int .i64 rk):=q1
         replace HTY:Hid (udsC (O++(R7.take (j+1)).map (updC ⟨e,Ax,cx,l⟩))=udsC (O++(R7.take j).map (updC ⟨e,Ax,cx,l⟩))++[.slice rA rl.length rc, .int .u64 e, .slice Ax l.length cx, .int .i64 rk]):=HTY
         rw [← hrn] at q0 HTY
         rw [← HNX.out] at HTY
         clear hrn
         go_upto_region 29 with fail
         obtain ⟨wx,hwx⟩ : ∃ wx,wx=wr.alloc (.cells #[.slice rA rn rc, .int .i64 rk] 154):=⟨_,rfl⟩
         have bx:Bk wx wr.heap.size 154 #[.slice rA rn rc, .int .i64 rk]:=by rw [hwx];exact Bk.new _ _ _
         have xx:Ext wr wx:=by rw [hwx];exact (Ext.refl _).alloc _
         rw [← hwx]
         have HXX:=Lib.hid xx
         have b0:=bx.cell 0
         have b1:=bx.cell 1
         have b2:wx.cell? ⟨wo.heap.size,0,none⟩=some (.int .u64 e):=by rw [← HGT.out];exact ((HB7.out _ HG.out.upd).ext xx).cell 0
         have b3:wx.cell? ⟨wo.heap.size,1,none⟩=some (.slice Ax nx cx):=by rw [← HGT.out];exact ((HB7.out _ HG.out.upd).ext xx).cell 1
         clear hwx xx q0 q1
         go_wp2_with (at_builtin;refine wpList_append_two _ elem_ud w6.heap.size _ _ rfl rfl A' q' c' (udsC (O++(R7.take j).map (updC ⟨e,Ax,cx,l⟩))) rfl ((HG.out.own.ext HXX.out).alloc _) (some ⟨wx.heap.size,0,none⟩) 1 1 [.slice rA rn rc, .int .u64 e, .slice Ax nx cx, .int .i64 rk] rfl (Sl.one wx #[.slice rA rn rc, .int .u64 e, .slice Ax nx cx, .int .i64 rk] 95 4 rfl) (by intro u hu;simp at hu;rcases hu with rfl | rfl | rfl | rfl<;>rfl) (by omega) (by decide) (Nat.le_trans HSZ.out (Nat.le_trans HG.out.upd.size (Nat.le_trans HXX.out.size ((Ext.refl wx).alloc _).size))) ?_;intro A8 c8 w8 o8 g8 x8;have HO8:=Lib.hid o8;have HG8:=Lib.hid g8;have HX8:=Lib.hid x8;clear o8 g8 x8)
         go_roundg (n7 - (j+1))
         case measure=>omega
         case rel=>exact ⟨j+1,A8,c8,q'+1,by omega,by omega,by go_num,rfl,by omega,Lib.hid (by have:=hq'.out;omega),Lib.hid (by rw [HTY.out];exact HG.out.put (HXX.out.alloc _) HO8.out HG8.out HX8.out)⟩
        ·obtain rfl:j=n7:=by omega
         have HR7T:Hid (R7.take j=R7):=Lib.hid (List.take_of_length_le (by rw [← HL7.out];exact Nat.le_refl _))
         rw [HR7T.out] at HG
         have HFIN:Hid (OfS w6 wr L ((T.map Tm.v).take (k+1)) A' c' q' (O++R7.map (updC ⟨e,Ax,cx,l⟩))):=Lib.hid (by
          have hql:q'=q+R7.length:=by rw [hq'.out,HL7.out]
          have hd:=HTD.out
          have hf:=HW7.out.grow (T2:=(T.map Tm.v).drop (k+1)) (t:=⟨e,Ax,cx,l⟩) (A':=A') (c':=c') (by rw [← hql];exact HG.out) (fun x hx=>(HR7.out x hx).1) (by show Sl w6 1 Ax l.length cx (wds l);rw [← HNX.out];exact HXS.out) (by rw [HV7.out,HKV.out];rfl) hL.out (by show ∀ u∈L,u.1.2∈(T.map Tm.v).take k++(e,l) :: (T.map Tm.v).drop (k+1);rw [← hd];exact hLT.out) (by show Rising ((T.map Tm.v).take k++(e,l) :: (T.map Tm.v).drop (k+1));rw [← hd];exact hr.out) HIX.out.tv
          rw [← hql] at hf
          rw [HTK.out]
          exact hf)
         go_wp2
         go_roundg (n6 - (k+1))
         case measure=>omega
         case rel=>exact ⟨k+1,A',c',q',_,by omega,by omega,by go_num,rfl,HFIN⟩
    ·obtain rfl:k=n6:=by omega
     have HTT:Hid ((T.map Tm.v).take k=T.map Tm.v):=Lib.hid (List.take_of_length_le (by rw [List.length_map, ← hn.out];exact Nat.le_refl _))
     have HIN:Hid (∀ x∈O,UdS.InN x.uv):=Lib.hid fun x hx=>(HO.out.inU x hx).num
     have HLN:Hid (∀ x∈O,x.l.length≤1000000000∧x.t.l.length≤1000000000):=Lib.hid fun x hx=>(HO.out.inU x hx).lens
     go_wp2_with (first
      | (go_at_call 16;refine (UdS.dsum_any A c q O _ HLQ (Lib.hid HO.out.uin) (by omega) HIN HLN).mono ?_;rintro r w7 ⟨A7,m7,R7,rfl,l7,u7,v7,x7⟩;have HL7:=Lib.hid l7;have HU7:=Lib.hid u7;have HV7:=Lib.hid v7;have X7:=Lib.hid x7;clear l7 u7 v7 x7))
     go_ret
     have x9:=HX6.out.trans HO.out.ext
     refine ⟨A7,m7,R7,rfl,HL7.out,HU7.out.mono x9.size,?_,x9.trans X7.out⟩
     rw [HV7.out,HO.out.is,HTT.out]
     exact of_sum hL.out hLT.out hr.out fun t ht=>by
      obtain ⟨x,hx,rfl⟩:=List.mem_map.1 ht
      exact (hi.out x hx).tv
open Go.RowKit
/-! ### a list turned -/
def turnL (L:List Ud) (t k:Nat):List Ud:=(List.range k).map fun i=>L.getD ((i+t) % L.length) Ud.zero
theorem turnL_succ (L:List Ud) (t k:Nat):turnL L t (k+1)=turnL L t k++[L.getD ((k+t) % L.length) Ud.zero]:=by
 unfold turnL
 rw [List.range_succ,List.map_append]
 rfl
theorem turnL_len (L:List Ud) (t k:Nat):(turnL L t k).length=k:=by unfold turnL;rw [List.length_map,List.length_range]
theorem turnL_at {L:List Ud} {t k i:Nat} (h:i<(turnL L t k).length):(turnL L t k)[i]=L.getD ((i+t) % L.length) Ud.zero:=by simp [turnL]
theorem turnL_perm (L:List Ud) (t:Nat):(turnL L t L.length).Perm L:=by
 rcases Nat.eq_zero_or_pos L.length with h0 | h0
 ·have e:L=[]:=List.eq_nil_of_length_eq_zero h0
  subst e
  exact List.Perm.nil
 ·have hr:=Nat.mod_lt t h0
  have e:turnL L t L.length=L.drop (t % L.length)++L.take (t % L.length):=by
   refine List.ext_getElem (by rw [turnL_len,List.length_append,List.length_drop,List.length_take];omega) fun i h1 h2=>?_
   rw [turnL_len] at h1
   rw [turnL_at]
   have hm:(i+t) % L.length=(i+t % L.length) % L.length:=by rw [Nat.add_mod i t,Nat.add_mod i (t % L.length),Nat.mod_mod]
   rw [hm,List.getElem_append]
   split
   ·rename_i h3
    rw [List.length_drop] at h3
    rw [Nat.mod_eq_of_lt (by omega),List.getElem_drop,List.getD_eq_getElem?_getD,List.getElem?_eq_getElem (by omega)]
    show L[i+t % L.length]=_
    congr 1
    omega
   ·rename_i h3
    rw [List.length_drop] at h3
    have h4:(i+t % L.length) % L.length=i+t % L.length - L.length:=by
     rw [Nat.mod_eq_sub_mod (by omega),Nat.mod_eq_of_lt (by omega)]
    rw [h4,List.getElem_take,List.getD_eq_getElem?_getD,List.getElem?_eq_getElem (by omega)]
    show L[i+t % L.length - L.length]=_
    congr 1
    rw [List.length_drop]
    omega
  rw [e]
  exact (List.perm_append_comm).trans (by rw [List.take_append_drop])
theorem uAddV_len (x:UV) : ∀ R:List UV,(UdS.addV R x).length≤R.length+1
 | []=>by simp [UdS.addV]
 | y :: R=>by
  unfold UdS.addV
  split
  ·have:=uAddV_len x R
   simp only [List.length_cons]
   omega
  ·split<;>simp
theorem uSumAll_len (L:List UV):(UdS.sumAll L).length≤L.length:=by
 refine snoc_ind (p:=fun L=>(UdS.sumAll L).length≤L.length) (Nat.le_refl _) (fun L x ih=>?_) L
 have e:UdS.sumAll (L++[x])=UdS.addV (UdS.sumAll L) x:=by unfold UdS.sumAll;rw [List.foldl_append];rfl
 rw [e,List.length_append]
 have:=uAddV_len x (UdS.sumAll L)
 simp only [List.length_singleton]
 omega
theorem uSumV_len (L:List UV):(UdS.sumV L).length≤L.length:=Nat.le_trans (List.length_filter_le _ _) (uSumAll_len L)
/-! ### times -/
def InE (t:TV):Prop:=U32 t.2∧0≤t.1∧t.1≤18446744073709551615
theorem z32 {f:Int→Int→Int} (hf : ∀ a b,f a b=a∨f a b=b) : ∀ {a b:List Int},U32 a→U32 b→U32 (List.zipWith f a b)
 | [],_,_,_=>fun x hx=>by simp at hx
 | _ :: _,[],_,_=>fun x hx=>by simp at hx
 | x :: a,y :: b,ha,hb=>fun z hz=>by
  rw [List.zipWith_cons_cons] at hz
  rcases List.mem_cons.1 hz with rfl | hz
  ·rcases hf x y with e | e
   ·rw [e];exact ha x (List.mem_cons_self ..)
   ·rw [e];exact hb y (List.mem_cons_self ..)
  ·exact z32 hf (fun w hw=>ha w (List.mem_cons_of_mem _ hw)) (fun w hw=>hb w (List.mem_cons_of_mem _ hw)) z hz
theorem max_or (a b:Int):max a b=a∨max a b=b:=by omega
theorem min_or (a b:Int):min a b=a∨min a b=b:=by omega
theorem inE_max {x y:TV} (hx:InE x) (hy:InE y):InE (maxT x y):=⟨z32 max_or hx.1 hy.1,by have:=hx.2;have:=hy.2;show 0≤max x.1 y.1∧max x.1 y.1≤_;omega⟩
theorem inE_min {x y:TV} (hx:InE x) (hy:InE y):InE (minT x y):=⟨z32 min_or hx.1 hy.1,by have:=hx.2;have:=hy.2;show 0≤min x.1 y.1∧min x.1 y.1≤_;omega⟩
theorem advO_E {t:TV} (ht:InE t) : ∀ (a:List TV) (acc:Option TV),(∀ v∈a,InE v)→(∀ o,acc=some o→InE o) → ∀ o,a.foldl (advStep t) acc=some o→InE o
 | [],acc,_,h,o,ho=>h o ho
 | x :: a,acc,ha,h,o,ho=>advO_E ht a _ (fun v hv=>ha v (List.mem_cons_of_mem _ hv)) (fun q hq=>by
   unfold advStep at hq
   split at hq
   ·cases acc with
    | none =>
     injection hq with hq
     rw [← hq]
     exact inE_max ht (ha x (List.mem_cons_self ..))
    | some r =>
     injection hq with hq
     rw [← hq]
     exact inE_min (h r rfl) (inE_max ht (ha x (List.mem_cons_self ..)))
   ·exact h q hq) o ho
theorem adv_E {S:List TV} {t:TV} (hS : ∀ v∈S,InE v) (ht:InE t):InE (advV S t):=by
 unfold advV
 cases h:advO S t with
 | none=>exact ht
 | some o=>exact advO_E ht S none hS (fun _ h=>nomatch h) o h
theorem InUV.e {u:UV} (h:InUV u):InE u.1.2:=⟨h.tu,h.te⟩
theorem adv_gt {S:List TV} (hS : ∀ v∈S,InE v) {D:List UV} (h : ∀ u∈D,GoodT u) : ∀ u∈D.map (advK S),GoodT u:=mem_adv hS h fun u hu=>adv_E hS (h u hu).1.e
/-- a bag behind Advance -/
theorem bag_adv {S:List TV} {t:TV} (hS : ∀ v∈S,InE v) (hb:beyondV S t=true) {D:List UV} (h : ∀ u∈D,GoodT u) (ht:InTV t):sumV (atV (UdS.sumV (D.map (advK S))) t)=sumV (atV D t):=by
 rw [bag_sum (adv_gt hS h) ht,at_adv hb]
/-- few times and all that comes of joining them -/
theorem few_inV {V:List TV} (h:FewT V) (hE : ∀ v∈V,InE v) : ∀ v∈V,InV v:=fun v hv=>⟨(hE v hv).2,(hE v hv).1,by have:=h.1 v hv;omega⟩
def allT (V:List TV):List TV:=closT (onceT V)
theorem allT_closed (V:List TV):ClosedT (allT V):=closT_closed _
theorem allT_sub (V:List TV) : ∀ v∈V,v∈allT V:=fun v hv=>closT_sub ((once_mem V v).2 hv)
theorem allT_len {V:List TV} (h:FewT V):(allT V).length≤4096:=by
 have a:=closT_len (onceT V)
 have b:2 ^ (onceT V).length≤2 ^ 12:=Nat.pow_le_pow_right (by decide) h.2
 have c:(2:Nat) ^ 12=4096:=by decide
 unfold allT
 omega
theorem allT_inV {V:List TV} (h:FewT V) (hE : ∀ v∈V,InE v) : ∀ v∈allT V,InV v:=closT_all (p:=InV) (fun x y hx hy hs=>by
 have k:=inE_max (x:=x) (y:=y) ⟨hx.u,hx.e⟩ ⟨hy.u,hy.e⟩
 exact ⟨k.2,k.1,by rw [maxT_len hs];exact hx.n⟩) fun x hx=>few_inV h hE x ((once_mem V x).1 hx)
open Go.RowKit
theorem JoinedV.congr {L L' R:List TV} (h:JoinedV L R) (e : ∀ v,v∈L↔v∈L'):JoinedV L' R:=⟨h.rise,fun v hv=>h.sub v ((e v).2 hv),h.closed,fun U hU hs v hv=>h.least U hU (fun x hx=>hs x ((e x).1 hx)) v hv⟩
/-- the times that have been met so far -/
structure TmsI (w wr:World) (bm:Nat) (D:DataW Value) (A:Option Addr) (c q:Nat) (M:List Tm) (V:List TV):Prop where
 len:q=M.length
 mp:MapV wr bm q D (M.map fun x=>(x.v, .bool true))
 own:Own wr (w.heap.size+1) 26 2 A q c (tmsC M)
 ls : ∀ x∈M,Sl w 1 x.A x.l.length x.c (wds x.l)
 ext:Ext w wr
 lt:w.heap.size+1≤wr.heap.size
 is:M.map Tm.v=onceT V
 inv : ∀ x∈M,InV x.v
theorem TmsI.step {w wr w':World} {bm c q:Nat} {D:DataW Value} {A:Option Addr} {M:List Tm} {V:List TV} (h:TmsI w wr bm D A c q M V) (x:Ext wr w'):TmsI w w' bm D A c q M V :=
 ⟨h.len,h.mp.ext x,h.own.ext x,h.ls,h.ext.trans x,Nat.le_trans h.lt x.size,h.is,h.inv⟩
set_option maxRecDepth 100000 in
set_option maxRecDepth 100000 in
set_option maxHeartbeats 16000000 in
theorem times_any (A0:Option Addr) (c0 n:Nat) (L:List Ud) (w:World) (U:List TV) (hn:Hid (n=L.length)) (h:Hid (Uin w A0 c0 L)) (hi:Hid (∀ x∈L,InV x.t.v)) (hU:Hid (ClosedT U)) (hs:Hid (∀ x∈L,x.t.v∈U)) (hUn:Hid (U.length≤5000)) (hUi:Hid (∀ v∈U,InV v)) (G:Pow w) (h9:n≤200) :
  Calls Tryz.prog 97 #[.slice A0 n c0] w (JoinedOut (L.map fun x=>x.t.v) w):=by
 obtain ⟨w1,hw1⟩ : ∃ w1,w1=w.alloc (.map #[] 0):=⟨_,rfl⟩
 have hmk:(Instr.makeMap 217 none).run Tryz.prog w = .ok (.map (some w.heap.size)) w1:=by rw [hw1];exact run_makeMap _ _
 have T1:TmsI w w1 w.heap.size (.map []) none 0 0 [] []:=by
  rw [hw1]
  exact ⟨rfl,MapV.new w,Own.nil _ _ _ _,fun x hx=>(nomatch hx),(Ext.refl w).alloc _,by simp,rfl,fun x hx=>(nomatch hx)⟩
 have HT1:=Lib.hid T1
 clear hw1 T1
 obtain ⟨bm,hbm⟩ : ∃ bm,bm=w.heap.size:=⟨_,rfl⟩
 rw [← hbm] at hmk HT1
 have HBM:=Lib.hid hbm
 clear hbm
 go_enter Tryz.func97,Tryz.ntmps97
 go_wp2
 go_loopg [4,11] n (fun z v4 v11 wr => ∃ (k:Nat) (D:DataW Value) (A:Option Addr) (c q:Nat) (M:List Tm),z=n - k∧k≤n∧v11 = .int .i64 k∧v4 = .slice A q c∧q≤k∧Hid (TmsI w wr bm D A c q M ((L.map fun x=>x.t.v).take k)))
 case atStart=>exact ⟨0, .map [],none,0,0,[],rfl,Nat.zero_le _,rfl,rfl,Nat.le_refl _,HT1⟩
 case round =>
  obtain ⟨k,D,A,c,q,M,rfl,hk,rfl,rfl,hqk,HT⟩:=hrel
  by_cases hlt:k<n
  ·have hkL:k<L.length:=by rw [← hn.out];exact hlt
   obtain ⟨ad,rfl,q0,q1,q2,q3⟩:=(h.out.ext HT.out.ext).at (i:=k) hkL
   have HXS:Hid (Sl w 1 (L.getD k Ud.zero).t.A (L.getD k Ud.zero).t.l.length (L.getD k Ud.zero).t.c (wds (L.getD k Ud.zero).t.l)):=Lib.hid (h.out.ls _ (getU_mem hkL)).t
   have HIX:Hid (InV (L.getD k Ud.zero).t.v):=Lib.hid (hi.out _ (getU_mem hkL))
   have hkv:(L.map fun x=>x.t.v).take (k+1)=(L.map fun x=>x.t.v).take k++[(L.getD k Ud.zero).t.v]:=by rw [← List.map_take,takeU hkL,List.map_append,List.map_take];rfl
   obtain ⟨x,hx⟩ : ∃ x,L.getD k Ud.zero=x:=⟨_,rfl⟩
   rw [hx] at q0 q1 q2 q3 HXS HIX hkv
   have HKV:=Lib.hid hkv
   clear hx hkv hkL
   obtain ⟨xA,xc,xl,⟨e,tA,tc,l⟩,d⟩:=x
   obtain ⟨nx,hnx⟩ : ∃ nx,nx=l.length:=⟨_,rfl⟩
   obtain ⟨xn,hxn⟩ : ∃ xn,xn=xl.length:=⟨_,rfl⟩
   have HNX:=Lib.hid hnx
   replace q0:wr.cell? (ad.add (k * 4))=some (.slice xA xl.length xc):=q0
   replace q1:wr.cell? ⟨(ad.add (k * 4)).block,(ad.add (k * 4)).off+1,none⟩=some (.int .u64 e):=q1
   replace q2:wr.cell? ⟨(ad.add (k * 4)).block,(ad.add (k * 4)).off+2,none⟩=some (.slice tA l.length tc):=q2
   replace q3:wr.cell? ⟨(ad.add (k * 4)).block,(ad.add (k * 4)).off+3,none⟩=some (.int .i64 d):=q3
   replace HXS:Hid (Sl w 1 tA l.length tc (wds l)):=HXS
   replace HIX:Hid (InV (e,l)):=HIX
   replace HKV:Hid ((L.map fun x=>x.t.v).take (k+1)=(L.map fun x=>x.t.v).take k++[(e,l)]):=HKV
   rw [← hxn] at q0
   rw [← hnx] at q2 HXS
   have hn9:nx≤1000:=by rw [hnx];exact HIX.out.n
   clear hnx hxn
   obtain ⟨S,hS⟩ : ∃ S,prT e l=S:=⟨_,rfl⟩
   have HS:=Lib.hid hS
   have hprint : ∀ W,Ext w W→Calls Tryz.prog 141 #[.agg #[.int .u64 e, .slice tA nx tc]] W fun r w'=>r = .returned (.string S)∧Ext W w':=fun W y=>hS ▸ print_any e tA nx tc l W (HXS.out.ext y) HIX.out.u HIX.out.e (by omega) (G.ext y)
   have HP:=Lib.hid hprint
   obtain ⟨b,hb⟩ : ∃ b,decide ((e,l)∈M.map Tm.v)=b:=⟨_,rfl⟩
   have hlook : ∀ W,Ext wr W→(Instr.lookup 217 (.map (some bm)) (.string S) false).run Tryz.prog W = .ok (.bool b) W:=fun W z=>by
    have k:=(HT.out.mp.ext z).bool (fun x hx=>by obtain ⟨y,_,rfl⟩:=List.mem_map.1 hx;rfl) HIX.out
    rw [JdS.keys,hb] at k
    rw [← HS.out]
    exact k
   have HLk:=Lib.hid hlook
   have HB:=Lib.hid hb
   clear hprint hlook hb hS
   have X0:Hid (Ext wr (wr.alloc (.cells #[.slice xA xn xc, .int .u64 e, .slice tA nx tc, .int .i64 d] 95))):=Lib.hid ((Ext.refl _).alloc _)
   have B0:Hid (Bk (wr.alloc (.cells #[.slice xA xn xc, .int .u64 e, .slice tA nx tc, .int .i64 d] 95)) wr.heap.size 95 #[.slice xA xn xc, .int .u64 e, .slice tA nx tc, .int .i64 d]):=Lib.hid (Bk.new _ _ _)
   have hstep:onceT ((L.map fun x=>x.t.v).take (k+1))=onceStep (M.map Tm.v) (e,l):=by rw [HKV.out,once_snoc,HT.out.is]
   have HST:=Lib.hid hstep
   clear hstep
   cases b with
   | true =>
    go_wp2_with (first
     | (go_at_call 141;refine (HP.out _ (HT.out.ext.trans X0.out)).mono ?_;rintro r w3 ⟨rfl,x3⟩;have X3:Hid (Ext wr w3):=Lib.hid (X0.out.trans x3);have y1:=HLk.out w3 X3.out;clear x3))
    go_roundg (n - (k+1))
    case measure=>omega
    case rel =>
     refine ⟨k+1,D,A,c,q,M,by omega,by omega,by go_num,rfl,by omega,Lib.hid { HT.out.step X3.out with is:=?_ }⟩
     rw [HST.out]
     unfold onceStep
     rw [if_pos (of_decide_eq_true HB.out)]
   | false =>
    have hkey:Hid (keyOf Tryz.prog 9 (.string S)=some (keyT (e,l))):=Lib.hid (by rw [← HS.out];exact keyOf_prT (e,l) HIX.out)
    have hnew:Hid (∀ y∈M.map (fun x=>(x.v,Value.bool true)),y.1≠(e,l)):=Lib.hid fun y hy e2=>by
     obtain ⟨x,hx,rfl⟩:=List.mem_map.1 hy
     exact of_decide_eq_false HB.out (List.mem_map.2 ⟨x,hx,e2⟩)
    go_wp2_with (first
     | (go_at_call 141;refine (HP.out _ (HT.out.ext.trans X0.out)).mono ?_;rintro r w3 ⟨rfl,x3⟩;have X3:Hid (Ext wr w3):=Lib.hid (X0.out.trans x3);have B3:=Lib.hid (B0.out.ext x3);have y1:=HLk.out w3 X3.out;clear x3)
     | (at_mapUpdate;refine wpList_mapUpdate_own _ rfl _ _ _ 217 rfl 9 4 keyedS Tryz.underlying217 tok bm q D rfl (HT.out.mp.ext X3.out).own (by unfold maxLen;omega) (.string S) (.bool true) (keyT (e,l)) rfl rfl hkey.out (.held (.bool true)) [] rfl ?_;intro w5 hown5 hgr5;have HO5:=Lib.hid hown5;have U5:Hid (Upd (fun k=>k=bm) wr w5):=Lib.hid ((Upd.ext X3.out).grown hgr5 (fun k hk => .inl (by injection hk with hk;exact hk.symm)));have B5:=Lib.hid (bk_upd B3.out ((Upd.refl (fun k=>k=bm) w3).grown hgr5 (fun k hk => .inl (by injection hk with hk;exact hk.symm))) (by have:=HT.out.lt;have:=HBM.out;omega));have p1:w5.cell? ⟨wr.heap.size,1,none⟩=some (.int .u64 e):=B5.out.cell 1;have p2:w5.cell? ⟨wr.heap.size,2,none⟩=some (.slice tA nx tc):=B5.out.cell 2;have O5:Hid (Own w5 (w.heap.size+1) 26 2 A q c (tmsC M)):=Lib.hid (HT.out.own.upd U5.out (fun k hk e9=>(by have:=(HT.out.own.lt k hk).1;have:=HBM.out;omega)));clear hown5 hgr5)
     | (at_builtin;refine wpList_append_gen _ elemTimes (w.heap.size+1) _ _ rfl rfl A q c (tmsC M) rfl (O5.out.alloc _) (some ⟨w5.heap.size,0,none⟩) 1 1 (tmC ⟨e,tA,tc,l⟩) rfl (by rw [show tmC ⟨e,tA,tc,l⟩=[.int .u64 e, .slice tA nx tc] by rw [HNX.out];rfl];exact Sl.one w5 #[.int .u64 e, .slice tA nx tc] 26 2 rfl) (tmsC_one [⟨e,tA,tc,l⟩] |> fun h=>by simpa [tmsC] using h) (by omega) (by decide) (Nat.le_trans HT.out.lt (Nat.le_trans U5.out.size ((Ext.refl w5).alloc _).size)) ?_;intro A8 c8 w8 o8 g8 x8;have HO8:=Lib.hid o8;have HG8:=Lib.hid g8;clear o8 g8 x8))
    go_roundg (n - (k+1))
    case measure=>omega
    case rel =>
     have u8:Upd (fun k=>blk A c=some k) (w5.alloc (.cells #[.int .u64 e, .slice tA nx tc] 26)) w8:=(Upd.refl _ _).grown HG8.out fun k hk => .inl hk
     have hA : ∀ k,blk A c=some k→w.heap.size+1≤k:=fun k hk=>(HT.out.own.lt k hk).1
     have hbm:=HBM.out
     have e5:Ext w w5:=ext_upd HT.out.ext U5.out fun k hk=>by omega
     refine ⟨k+1,D.put (keyT (e,l)) (.held (.bool true)),A8,c8,q+1,M++[⟨e,tA,tc,l⟩],by omega,by omega,by go_num,rfl,by omega,Lib.hid ⟨?_,?_,?_,?_,?_,?_,?_,?_⟩⟩
     ·rw [List.length_append,HT.out.len];rfl
     ·rw [List.map_append]
      have k:=((HT.out.mp.ext X3.out).put HIX.out hnew.out HO5.out)
      exact (k.ext ((Ext.refl w5).alloc _)).upd u8 fun e9=>by have:=hA _ e9;omega
     ·rw [tmsC_append,show tmsC [(⟨e,tA,tc,l⟩:Tm)]=tmC ⟨e,tA,tc,l⟩ by simp [tmsC]]
      exact HO8.out
     ·intro y hy
      rcases List.mem_append.1 hy with hy | hy
      ·exact HT.out.ls y hy
      ·rw [List.mem_singleton.1 hy]
       show Sl w 1 tA l.length tc (wds l)
       rw [← HNX.out]
       exact HXS.out
     ·exact (e5.alloc _).grown HG8.out fun k hk=>by have:=hA k hk;omega
     ·have:=HT.out.lt
      have:=U5.out.size
      have:=((Ext.refl w5).alloc (.cells #[.int .u64 e, .slice tA nx tc] 26)).size
      have:=u8.size
      omega
     ·rw [HST.out,List.map_append]
      unfold onceStep
      rw [if_neg (of_decide_eq_false HB.out)]
      rfl
     ·intro y hy
      rcases List.mem_append.1 hy with hy | hy
      ·exact HT.out.inv y hy
      ·rw [List.mem_singleton.1 hy]
       exact HIX.out
  ·obtain rfl:k=n:=by omega
   have hV:(L.map fun x=>x.t.v).take k=L.map fun x=>x.t.v:=List.take_of_length_le (by rw [List.length_map, ← hn.out];exact Nat.le_refl _)
   have HI:=Lib.hid HT.out.is
   rw [hV] at HI
   have HTin:Hid (Tin wr A c M):=Lib.hid ⟨by rw [← HT.out.len];exact HT.out.own.sl,fun x hx=>(HT.out.ls x hx).ext HT.out.ext⟩
   have HLE:=Lib.hid HT.out.len
   have HSU:Hid (∀ v∈M.map Tm.v,v∈U):=Lib.hid fun v hv=>by
    rw [HI.out,once_mem] at hv
    obtain ⟨x,hx,rfl⟩:=List.mem_map.1 hv
    exact hs.out x hx
   have hq2 : ¬ ((200:Int)<(q:Int)):=by omega
   go_wp2_with (first
    | (go_at_call 178;refine (joined_any A c q M _ U HLE HTin (Lib.hid HT.out.inv) hU HSU hUn hUi (G.ext HT.out.ext) (by omega)).mono ?_;rintro r w6 ⟨A6,c6,n6,R,rfl,l6,t6,j6,i6,x6⟩;have HL6:=Lib.hid l6;have HT6:=Lib.hid t6;have HJ6:=Lib.hid j6;have HI6:=Lib.hid i6;have X6:=Lib.hid x6;clear l6 t6 j6 i6 x6))
   go_ret
   have hj:=HJ6.out
   rw [HI.out] at hj
   exact ⟨A6,c6,n6,R,rfl,HL6.out,HT6.out.mono HT.out.ext.size,hj.congr (once_mem _),HI6.out,HT.out.ext.trans X6.out⟩
open Go.RowKit
theorem elemBags:Elem Tryz.prog 46 31 1 24 (.slice none 0 0):=⟨by kernel_rfl,by kernel_rfl,rfl,by decide⟩
theorem ct_ne_bag:(154:TypeId)≠31:=by decide
theorem dat_ne_bag:(204:TypeId)≠31:=by decide
structure BgS (wb wr:World) (D:List UV) (M:List Tm) (A:Option Addr) (c q:Nat) (Bs:List Bg):Prop where
 len:q=Bs.length
 own:Own wr wb.heap.size 31 1 A q c (Bs.map bgV)
 ls : ∀ b∈Bs,Own wr 0 154 2 b.1 b.2.2.length b.2.1 (ctsC b.2.2) ∧ ∀ x∈b.2.2,RwO wr x.A x.c x.l
 ext:Ext wb wr
 val : ∀ j,j<q→(Bs.getD j Bg.zero).2.2.map valC=sumV (atV D (M.getD j Tm.zero).v)
theorem BgS.start (wb:World) (D:List UV) (M:List Tm):BgS wb wb D M none 0 0 []:=⟨rfl,Own.nil _ _ _ _,fun x hx=>(nomatch hx),Ext.refl _,fun j hj=>absurd hj (Nat.not_lt_zero j)⟩
theorem BgS.bgi {wb wr:World} {D:List UV} {M:List Tm} {A:Option Addr} {c q:Nat} {Bs:List Bg} (h:BgS wb wr D M A c q Bs):BgI wr A c Bs:=⟨by rw [← h.len];exact h.own.sl,fun b hb=>⟨(h.ls b hb).1.sl,fun x hx=>((h.ls b hb).2 x hx).rw⟩⟩
theorem BgS.push {wb wr wx w':World} {D:List UV} {M:List Tm} {A A':Option Addr} {c c' q:Nat} {Bs:List Bg} {b:Bg} (h:BgS wb wr D M A c q Bs) (x:Ext wr wx) (o:Own w' wb.heap.size 31 1 A' (q+1) c' (Bs.map bgV++[bgV b])) (g:wx.grownBy w' (blk A c))
  (hb:Own wx 0 154 2 b.1 b.2.2.length b.2.1 (ctsC b.2.2) ∧ ∀ y∈b.2.2,RwO wx y.A y.c y.l) (hv:b.2.2.map valC=sumV (atV D (M.getD q Tm.zero).v)):BgS wb w' D M A' c' (q+1) (Bs++[b]):=by
 have hown:=h.own.ext x
 have kept : ∀ {k0 s:Nat} {e:TypeId} {A2:Option Addr} {n2 c2:Nat} {xs:List Value},e≠31→Own wx k0 e s A2 n2 c2 xs→Own w' k0 e s A2 n2 c2 xs:=fun {k0 s e A2 n2 c2 xs} he o2=>o2.kept g (by
  cases hk:blk A2 c2 with
  | none=>exact .inl rfl
  | some k=>exact .inr (fun e2=>own_types o2 hown he hk e2.symm))
 refine ⟨by rw [List.length_append,h.len];rfl,by rw [List.map_append];exact o,fun d hd=>?_,(h.ext.trans x).grown g fun k hk=>(h.own.lt k hk).1,fun j hj=>?_⟩
 ·rcases List.mem_append.1 hd with hd | hd
  ·exact ⟨kept ct_ne_bag ((h.ls d hd).1.ext x),fun y hy=>kept dat_ne_bag (((h.ls d hd).2 y hy).ext x)⟩
  ·rw [List.mem_singleton.1 hd]
   exact ⟨kept ct_ne_bag hb.1,fun y hy=>kept dat_ne_bag (hb.2 y hy)⟩
 ·rcases Nat.lt_or_ge j q with p | p
  ·rw [List.getD_eq_getElem?_getD,List.getElem?_append_left (by rw [← h.len];exact p), ← List.getD_eq_getElem?_getD]
   exact h.val j p
  ·have e:j=q:=by omega
   subst e
   have e2:(Bs++[b]).getD j Bg.zero=b:=by rw [List.getD_eq_getElem?_getD,h.len,List.getElem?_append_right (Nat.le_refl _),Nat.sub_self];rfl
   rw [e2]
   exact hv
open Go.RowKit
def farN (V:List TV):Nat:=(V.map fun v=>v.2.length / 4).sum
def farV (V:List TV):Bool:=decide (200<V.length+farN V)
theorem farN_take {V:List TV} {k:Nat} (h:k<V.length):farN (V.take (k+1))=farN (V.take k)+V[k].2.length / 4:=by
 unfold farN
 rw [List.take_succ_eq_append_getElem h,List.map_append,List.sum_append]
 simp
theorem farN_le (V:List TV) (k:Nat):farN (V.take k)≤farN V:=by
 have h:farN V=farN (V.take k)+farN (V.drop k):=by
  unfold farN
  rw [← List.sum_append, ← List.map_append,List.take_append_drop]
 omega
theorem farN_mem {V:List TV} {v:TV} (h:v∈V):v.2.length / 4≤farN V:=by
 unfold farN
 induction V with
 | nil=>cases h
 | cons x V ih =>
  rw [List.map_cons,List.sum_cons]
  rcases List.mem_cons.1 h with rfl | h
  ·omega
  ·have:=ih h
   omega
theorem far_small {L:List Tm} (h:farV (L.map Tm.v)=false):L.length≤200 ∧ ∀ x∈L,x.l.length≤803:=by
 unfold farV at h
 rw [decide_eq_false_iff_not,List.length_map] at h
 refine ⟨by omega,fun x hx=>?_⟩
 have:=farN_mem (List.mem_map.2 ⟨x,hx,rfl⟩:x.v∈L.map Tm.v)
 replace this:x.l.length / 4≤_:=this
 omega
set_option maxRecDepth 100000 in
set_option maxHeartbeats 2000000 in
theorem far10_any (AL:Option Addr) (cL m:Nat) (L:List Tm) (w:World) (hm:Hid (m=L.length)) (hL:Hid (Tin w AL cL L)) :
  Calls Tryz.prog 14 #[.slice AL m cL] w fun e w'=>e = .returned (.bool (farV (L.map Tm.v)))∧Ext w w':=by
 have hmax:m≤9223372036854775807:=by rw [hm.out];exact hL.out.sl.le
 obtain ⟨b,hb⟩ : ∃ b,farV (L.map Tm.v)=b:=⟨_,rfl⟩
 rw [hb]
 have HB:=Lib.hid hb
 clear hb
 go_enter Tryz.func14,Tryz.ntmps14
 go_wp2
 go_loopg [3,4] m (fun z v3 v4 wr => ∃ (k s:Nat),z=m - k∧k≤m∧v4 = .int .i64 k∧v3 = .int .i64 s∧Hid (s=m+farN ((L.map Tm.v).take k))∧Hid (Ext w wr)∧s≤9223372036854775807)
 case atStart=>exact ⟨0,m,rfl,Nat.zero_le _,rfl,rfl,Lib.hid (by simp [farN]),Lib.hid (Ext.refl _),by omega⟩
 case round =>
  obtain ⟨k,s,rfl,hk,rfl,rfl,HS,HE,hs⟩:=hrel
  by_cases hlt:k<m
  ·by_cases h200:s≤200
   ·have hkL:k<L.length:=by rw [← hm.out];exact hlt
    obtain ⟨ad,rfl,q0,q1⟩:=(hL.out.ext HE.out).at (i:=k) hkL
    have hlen:=(hL.out.ls _ (getT_mem hkL)).cap
    have hkv:=map_at hkL
    obtain ⟨x,hx⟩ : ∃ x,L.getD k Tm.zero=x:=⟨_,rfl⟩
    rw [hx] at q0 q1 hkv hlen
    have HKV:=Lib.hid hkv
    clear hx hkv hkL
    obtain ⟨e,Ax,cx,l⟩:=x
    obtain ⟨nx,hnx⟩ : ∃ nx,l.length=nx:=⟨_,rfl⟩
    have HNX:=Lib.hid hnx
    replace q1:wr.cell? ⟨(ad.add (k * 2)).block,(ad.add (k * 2)).off+1,none⟩=some (.slice Ax l.length cx):=q1
    replace hlen:l.length≤cx∧cx≤9223372036854775807:=hlen
    rw [hnx] at q1 hlen
    clear hnx q0
    go_wp2
    go_roundg (m - (k+1))
    case measure=>omega
    case rel =>
     obtain ⟨h1,h2⟩:=HKV.out
     have h3:=farN_take h1
     rw [h2] at h3
     replace h3:_=_+l.length / 4:=h3
     have h4:=HNX.out
     have h5:=HS.out
     exact ⟨k+1,s+nx / 4,by omega,by omega,by go_num,by go_num,Lib.hid (by rw [h3,h4];omega),HE,by omega⟩
   ·have hgt:((s:Int)≤200)=False:=by simp;omega
    have HG:=Lib.hid h200
    clear h200
    go_wp2
    go_ret
    have hle:=farN_le (L.map Tm.v) k
    refine ⟨ret_bool ?_,HE.out⟩
    rw [← HB.out]
    unfold farV
    have a:=HG.out
    have c:=HS.out
    have d:=hm.out
    rw [eq_comm,decide_eq_decide,List.length_map]
    constructor<;>intro<;>omega
  ·obtain rfl:k=m:=by omega
   have HF:Hid (s=k+farN (L.map Tm.v)):=Lib.hid (by have:=HS.out;rwa [show (L.map Tm.v).take k=L.map Tm.v from List.take_of_length_le (by rw [List.length_map,hm.out];exact Nat.le_refl _)] at this)
   go_wp2
   go_ret
   refine ⟨ret_bool ?_,HE.out⟩
   rw [← HB.out]
   unfold farV
   have c:=HF.out
   have d:=hm.out
   rw [eq_comm,decide_eq_decide,List.length_map]
   constructor<;>intro<;>omega
theorem far10_at {v:Bool} (AL:Option Addr) (cL m:Nat) (L:List Tm) (w:World) (hv:Hid (farV (L.map Tm.v)=v)) (hm:Hid (m=L.length)) (hL:Hid (Tin w AL cL L)) :
  Calls Tryz.prog 14 #[.slice AL m cL] w fun e w'=>e = .returned (.bool v)∧Ext w w':=hv.out ▸ far10_any AL cL m L w hm hL
def costU (v:UV):Nat:=v.1.1.length / 16+v.1.2.2.length / 4
def costs (V:List UV):Nat:=(V.map costU).sum
def muchU (V:List UV):Bool:=decide (200<V.length+costs V)
theorem costs_take {L:List Ud} {k:Nat} (h:k<L.length):costs ((L.take (k+1)).map Ud.uv)=costs ((L.take k).map Ud.uv)+costU (L.getD k Ud.zero).uv:=by
 unfold costs
 rw [takeU h,List.map_append,List.map_append,List.sum_append]
 simp
theorem costs_le (L:List Ud) (k:Nat):costs ((L.take k).map Ud.uv)≤costs (L.map Ud.uv):=by
 have h:costs (L.map Ud.uv)=costs ((L.take k).map Ud.uv)+costs ((L.drop k).map Ud.uv):=by
  unfold costs
  rw [← List.sum_append, ← List.map_append, ← List.map_append,List.take_append_drop]
 omega
theorem costs_mem {V:List UV} {v:UV} (h:v∈V):costU v≤costs V:=by
 unfold costs
 induction V with
 | nil=>cases h
 | cons x V ih =>
  rw [List.map_cons,List.sum_cons]
  rcases List.mem_cons.1 h with rfl | h
  ·omega
  ·have:=ih h
   omega
theorem muchU_small {L:List Ud} (h:muchU (L.map Ud.uv)=false):L.length≤200 ∧ ∀ x∈L,x.l.length≤3215∧x.t.l.length≤803:=by
 unfold muchU at h
 rw [decide_eq_false_iff_not,List.length_map] at h
 refine ⟨by omega,fun x hx=>?_⟩
 have:=costs_mem (List.mem_map.2 ⟨x,hx,rfl⟩:x.uv∈L.map Ud.uv)
 replace this:x.l.length / 16+x.t.l.length / 4≤_:=this
 omega
set_option maxRecDepth 100000 in
set_option maxHeartbeats 2000000 in
theorem much10_any (AL:Option Addr) (cL m:Nat) (L:List Ud) (w:World) (hm:Hid (m=L.length)) (hL:Hid (Uin w AL cL L)) :
  Calls Tryz.prog 13 #[.slice AL m cL] w fun e w'=>e = .returned (.bool (muchU (L.map Ud.uv)))∧Ext w w':=by
 have hmax:m≤9223372036854775807:=by rw [hm.out];exact hL.out.sl.le
 obtain ⟨b,hb⟩ : ∃ b,muchU (L.map Ud.uv)=b:=⟨_,rfl⟩
 rw [hb]
 have HB:=Lib.hid hb
 clear hb
 go_enter Tryz.func13,Tryz.ntmps13
 go_wp2
 go_loopg [3,4] m (fun z v3 v4 wr => ∃ (k s:Nat),z=m - k∧k≤m∧v4 = .int .i64 k∧v3 = .int .i64 s∧Hid (s=m+costs ((L.take k).map Ud.uv))∧Hid (Ext w wr)∧s≤9223372036854775807)
 case atStart=>exact ⟨0,m,rfl,Nat.zero_le _,rfl,rfl,Lib.hid (by simp [costs]),Lib.hid (Ext.refl _),by omega⟩
 case round =>
  obtain ⟨k,s,rfl,hk,rfl,rfl,HS,HE,hs⟩:=hrel
  by_cases hlt:k<m
  ·by_cases h60:s≤200
   ·have hkL:k<L.length:=by rw [← hm.out];exact hlt
    obtain ⟨ad,rfl,q0,_,q2,_⟩:=(hL.out.ext HE.out).at (i:=k) hkL
    have hlen:=(hL.out.ls _ (getU_mem hkL)).r.cap
    have hlet:=(hL.out.ls _ (getU_mem hkL)).t.cap
    have hkv:=costs_take hkL
    obtain ⟨x,hx⟩ : ∃ x,L.getD k Ud.zero=x:=⟨_,rfl⟩
    rw [hx] at q0 q2 hkv hlen hlet
    have HKV:=Lib.hid hkv
    clear hx hkv hkL
    obtain ⟨nx,hnx⟩ : ∃ nx,x.l.length=nx:=⟨_,rfl⟩
    obtain ⟨tx,htx⟩ : ∃ tx,x.t.l.length=tx:=⟨_,rfl⟩
    have HNX:=Lib.hid hnx
    have HTX:=Lib.hid htx
    rw [hnx] at q0 hlen
    rw [htx] at q2 hlet
    clear hnx htx
    have X:Ext wr wr.drew:=(Ext.refl wr).drew
    have Q0 : ∀ z:Xt wr.drew,z.W.cell? (ad.add (k * 4))=some (.slice x.A nx x.c):=fun z=>(X.trans z.x).cell q0
    have Q2 : ∀ z:Xt wr.drew,z.W.cell? ⟨(ad.add (k * 4)).block,(ad.add (k * 4)).off+2,none⟩=some (.slice x.t.A tx x.t.c):=fun z=>(X.trans z.x).cell q2
    go_upto_region 5 with fail
    clear q0 q2
    refine wp_region_ord [0,0,0,6,14,30,62,126,0,0,768,1792,3840,7936,16128,32512,65534,131071,262143] (.flo [0,1,2,3,4,5,6,7,8,9,10,11,12,13,14,15,16,17,18] (.fin)) (by kernel_rfl) (by kernel_rfl) (by intro _ _ d _ _ h;cases d<;>exact h) ?_
    (refine ord_flo (pick_cons rfl (pick_cons rfl (pick_cons rfl (pick_cons rfl (pick_cons rfl (pick_cons rfl (pick_cons rfl (pick_cons rfl (pick_cons rfl (pick_cons rfl (pick_cons rfl (pick_cons rfl (pick_cons rfl (pick_cons rfl (pick_cons rfl (pick_cons rfl (pick_cons rfl (pick_cons rfl (pick_cons rfl pick_nil))))))))))))))))))) ?_;(repeat (go_big_quiet_step (fail)));refine wpQuiet_nil ?_;show ordWalk _ _ _ _ _ _ _)
    refine ord_fin ?_
    go_wp2
    go_roundg (m - (k+1))
    case measure=>omega
    case rel =>
     have h3:=HKV.out
     replace h3:_=_+(x.l.length / 16+x.t.l.length / 4):=h3
     have h4:=HNX.out
     have h6:=HTX.out
     have h5:=HS.out
     exact ⟨k+1,s+(nx / 16+tx / 4),by omega,by omega,by go_num,by go_num,Lib.hid (by rw [h3,h4,h6];omega),Lib.hid (HE.out.trans X),by omega⟩
   ·have hgt:((s:Int)≤200)=False:=by simp;omega
    have HG:=Lib.hid h60
    clear h60
    go_wp2
    go_ret
    have hle:=costs_le L k
    refine ⟨ret_bool ?_,HE.out⟩
    rw [← HB.out]
    unfold muchU
    have a:=HG.out
    have c:=HS.out
    have d:=hm.out
    rw [eq_comm,decide_eq_decide,List.length_map]
    constructor<;>intro<;>omega
  ·obtain rfl:k=m:=by omega
   have HF:Hid (s=k+costs (L.map Ud.uv)):=Lib.hid (by have:=HS.out;rwa [show L.take k=L from List.take_of_length_le (by rw [hm.out];exact Nat.le_refl _)] at this)
   go_wp2
   go_ret
   refine ⟨ret_bool ?_,HE.out⟩
   rw [← HB.out]
   unfold muchU
   have c:=HF.out
   have d:=hm.out
   rw [eq_comm,decide_eq_decide,List.length_map]
   constructor<;>intro<;>omega
theorem much10_at {v:Bool} (AL:Option Addr) (cL m:Nat) (L:List Ud) (w:World) (hv:Hid (muchU (L.map Ud.uv)=v)) (hm:Hid (m=L.length)) (hL:Hid (Uin w AL cL L)) :
  Calls Tryz.prog 13 #[.slice AL m cL] w fun e w'=>e = .returned (.bool v)∧Ext w w':=hv.out ▸ much10_any AL cL m L w hm hL
open Go.RowKit
set_option maxRecDepth 100000 in
set_option maxHeartbeats 1000000 in
theorem sameRow_any (A1 A2:Option Addr) (c1 c2 n m:Nat) (l:List Dat) (w:World) (hn:n=l.length) (hm:m=n) (h1:Rw w A1 c1 l) (h2:Rw w A2 c2 l) :
  Calls Tryz.prog 117 #[.slice A1 n c1, .slice A2 m c2] w fun e w'=>e = .returned (.bool true)∧Ext w w':=by
 subst hm
 have hnm:=h1.le
 rw [← hn] at hnm
 have HN:=Lib.hid hn
 have H1:=Lib.hid h1
 have H2:=Lib.hid h2
 clear hn h1 h2
 go_enter Tryz.func117,Tryz.ntmps117
 go_wp2
 go_loopw [5] (fun v wr => ∃ i:Nat,i≤m∧v = .int .i64 i∧Ext w wr) (fun v _=>m - (intOf v).toNat)
 case atStart=>exact ⟨0,Nat.zero_le _,rfl,Ext.refl _⟩
 case round =>
  obtain ⟨i,hi,rfl,er⟩:=hrel
  by_cases hlt:i<m
  ·have hil:i<l.length:=by rw [← HN.out];exact hlt
   obtain ⟨ad,rfl,p0,p1,p2,p3⟩:=(H1.out.ext er).at hil
   obtain ⟨bd,rfl,q0,q1,q2,q3⟩:=(H2.out.ext er).at hil
   obtain ⟨d,hd⟩ : ∃ d,l.getD i Dat.zero=d:=⟨_,rfl⟩
   rw [hd] at p0 p1 p2 p3 q0 q1 q2 q3
   have XE:Ext wr wr.drew:=(Ext.refl wr).drew
   have P0 : ∀ z:Xt wr.drew,z.W.cell? (ad.add (i * 4))=some (.int .u8 d.k):=fun z=>(XE.trans z.x).cell p0
   have P1 : ∀ z:Xt wr.drew,z.W.cell? ⟨(ad.add (i * 4)).block,(ad.add (i * 4)).off+1,none⟩=some (.bool d.b):=fun z=>(XE.trans z.x).cell p1
   have P2 : ∀ z:Xt wr.drew,z.W.cell? ⟨(ad.add (i * 4)).block,(ad.add (i * 4)).off+2,none⟩=some (.int .i64 d.n):=fun z=>(XE.trans z.x).cell p2
   have P3 : ∀ z:Xt wr.drew,z.W.cell? ⟨(ad.add (i * 4)).block,(ad.add (i * 4)).off+3,none⟩=some (.string d.s):=fun z=>(XE.trans z.x).cell p3
   have Q0 : ∀ z:Xt wr.drew,z.W.cell? (bd.add (i * 4))=some (.int .u8 d.k):=fun z=>(XE.trans z.x).cell q0
   have Q1 : ∀ z:Xt wr.drew,z.W.cell? ⟨(bd.add (i * 4)).block,(bd.add (i * 4)).off+1,none⟩=some (.bool d.b):=fun z=>(XE.trans z.x).cell q1
   have Q2 : ∀ z:Xt wr.drew,z.W.cell? ⟨(bd.add (i * 4)).block,(bd.add (i * 4)).off+2,none⟩=some (.int .i64 d.n):=fun z=>(XE.trans z.x).cell q2
   have Q3 : ∀ z:Xt wr.drew,z.W.cell? ⟨(bd.add (i * 4)).block,(bd.add (i * 4)).off+3,none⟩=some (.string d.s):=fun z=>(XE.trans z.x).cell q3
   clear hil hd
   go_upto_region 6 with fail
   refine wp_region_ord [0,0,3,7,0,0,48,112,255] (.flo [0,1,2,3,4,5,6,7,8] (.fin)) (by kernel_rfl) (by kernel_rfl) (by intro _ _ d _ _ h;cases d<;>exact h) ?_
   (refine ord_flo (pick_cons rfl (pick_cons rfl (pick_cons rfl (pick_cons rfl (pick_cons rfl (pick_cons rfl (pick_cons rfl (pick_cons rfl (pick_cons rfl pick_nil))))))))) ?_;(repeat (go_big_quiet_step (fail)));refine wpQuiet_nil ?_;show ordWalk _ _ _ _ _ _ _)
   refine ord_fin ?_
   go_wp2
   go_roundw
   case rel=>exact ⟨i+1,by omega,by go_num,er.trans XE⟩
   case measure=>simp [intOf];omega
  ·go_wp2
   go_ret
   exact ⟨rfl,er⟩
theorem sameRow_lit (A1 A2:Option Addr) (c1 c2 n m:Nat) (l:List Dat) (w:World) (hn:Hid (n=l.length)) (hm:Hid (m=n)) (h1:Hid (Rw w A1 c1 l)) (h2:Hid (Rw w A2 c2 l)) :
  Calls Tryz.prog 117 #[.slice A1 n c1, .slice A2 m c2] w fun e w'=>e = .returned (.bool true)∧Ext w w':=sameRow_any A1 A2 c1 c2 n m l w hn.out hm.out h1.out h2.out
open Go.RowKit
theorem val_at {L M:List Ct} (h:L.map valC=M.map valC) {i:Nat} (hi:i<L.length):(M.getD i Ct.zero).l=(L.getD i Ct.zero).l∧(M.getD i Ct.zero).k=(L.getD i Ct.zero).k:=by
 have hl:=congrArg List.length h
 rw [List.length_map,List.length_map] at hl
 have e:=congrArg (fun l:List V=>l[i]?) h
 simp only [List.getElem?_map] at e
 rw [List.getElem?_eq_getElem hi,List.getElem?_eq_getElem (by omega)] at e
 simp only [Option.map_some,Option.some.injEq] at e
 rw [List.getD_eq_getElem?_getD,List.getD_eq_getElem?_getD,List.getElem?_eq_getElem hi,List.getElem?_eq_getElem (by omega)]
 exact ⟨(congrArg Prod.fst e).symm,(congrArg Prod.snd e).symm⟩
set_option maxRecDepth 100000 in
set_option maxHeartbeats 2000000 in
theorem sameCts_any (A1 A2:Option Addr) (c1 c2 n m:Nat) (L M:List Ct) (w:World) (hn:n=L.length) (hm:m=M.length) (h1:Ctin w A1 c1 L) (h2:Ctin w A2 c2 M) (he:L.map valC=M.map valC) :
  Calls Tryz.prog 25 #[.slice A1 n c1, .slice A2 m c2] w fun e w'=>e = .returned (.bool true)∧Ext w w':=by
 have hl:=congrArg List.length he
 rw [List.length_map,List.length_map] at hl
 obtain rfl:m=n:=by omega
 have hnm:=h1.sl.le
 rw [← hn] at hnm
 have HN:=Lib.hid hn
 have H1:=Lib.hid h1
 have H2:=Lib.hid h2
 have HE:=Lib.hid he
 have HM:=Lib.hid hm
 clear hn h1 h2 he hm hl
 go_enter Tryz.func25,Tryz.ntmps25
 go_wp2
 go_loopw [5] (fun v wr => ∃ i:Nat,i≤m∧v = .int .i64 i∧Ext w wr) (fun v _=>m - (intOf v).toNat)
 case atStart=>exact ⟨0,Nat.zero_le _,rfl,Ext.refl _⟩
 case round =>
  obtain ⟨i,hi,rfl,er⟩:=hrel
  by_cases hlt:i<m
  ·have hil:i<L.length:=by rw [← HN.out];exact hlt
   have him:i<M.length:=by rw [← HM.out];exact hlt
   obtain ⟨ad,rfl,p0,p1⟩:=(H1.out.ext er).at hil
   obtain ⟨bd,rfl,q0,q1⟩:=(H2.out.ext er).at him
   have hr1:=H1.out.rows _ (getD_mem hil)
   have hr2:=H2.out.rows _ (getD_mem him)
   obtain ⟨e1,e2⟩:=val_at HE.out hil
   rw [e1] at q0 hr2
   rw [e2] at q1
   obtain ⟨x,hx⟩ : ∃ x,L.getD i Ct.zero=x:=⟨_,rfl⟩
   obtain ⟨y,hy⟩ : ∃ y,M.getD i Ct.zero=y:=⟨_,rfl⟩
   rw [hx] at p0 p1 hr1 q0 q1 hr2
   rw [hy] at q0 hr2
   obtain ⟨nx,hnx⟩ : ∃ nx,nx=x.l.length:=⟨_,rfl⟩
   rw [← hnx] at p0 q0
   have HNX:=Lib.hid hnx
   have HEQ:Hid (nx=nx):=Lib.hid rfl
   have XE:Ext wr wr.drew:=(Ext.refl wr).drew
   have HR1:=Lib.hid ((hr1.ext er).ext XE)
   have HR2:=Lib.hid ((hr2.ext er).ext XE)
   have P0 : ∀ z:Xt wr.drew,z.W.cell? (ad.add (i * 2))=some (.slice x.A nx x.c):=fun z=>(XE.trans z.x).cell p0
   have P1 : ∀ z:Xt wr.drew,z.W.cell? ⟨(ad.add (i * 2)).block,(ad.add (i * 2)).off+1,none⟩=some (.int .i64 x.k):=fun z=>(XE.trans z.x).cell p1
   have Q0 : ∀ z:Xt wr.drew,z.W.cell? (bd.add (i * 2))=some (.slice y.A nx y.c):=fun z=>(XE.trans z.x).cell q0
   have Q1 : ∀ z:Xt wr.drew,z.W.cell? ⟨(bd.add (i * 2)).block,(bd.add (i * 2)).off+1,none⟩=some (.int .i64 x.k):=fun z=>(XE.trans z.x).cell q1
   clear hil him hr1 hr2 e1 e2 hx hy hnx
   go_upto_region 6 with fail
   refine wp_region_ord [0,0,3,7,15,0,0,96,224,480,1023,2047,4095,4095,16383,32767,65535,4095,4095,397311,921599,1970175,4194303,8388607,16777215] (.flo [0,1,2,3,4,5,6,7,8,9,10,11,12,13,14,15,16,17,18,19,20,21] (.one 22 (.flo [23,24] (.fin)))) (by kernel_rfl) (by kernel_rfl) (by intro _ _ d _ _ h;cases d<;>exact h) ?_
   (refine ord_flo (pick_cons rfl (pick_cons rfl (pick_cons rfl (pick_cons rfl (pick_cons rfl (pick_cons rfl (pick_cons rfl (pick_cons rfl (pick_cons rfl (pick_cons rfl (pick_cons rfl (pick_cons rfl (pick_cons rfl (pick_cons rfl (pick_cons rfl (pick_cons rfl (pick_cons rfl (pick_cons rfl (pick_cons rfl (pick_cons rfl (pick_cons rfl (pick_cons rfl pick_nil)))))))))))))))))))))) ?_;(repeat (go_big_quiet_step (fail)));refine wpQuiet_nil ?_;show ordWalk _ _ _ _ _ _ _)
   refine ord_one (pick_cons rfl pick_nil) ?_;intro K_ hK_
   go_wp2_with (go_at_call 117;refine (sameRow_lit x.A y.A x.c y.c nx nx x.l _ HNX HEQ HR1 HR2).mono ?_;rintro e w1 ⟨rfl,x1⟩)
   (refine ord_flo (pick_cons rfl (pick_cons rfl pick_nil)) ?_;(repeat (go_big_quiet_step (fail)));refine wpQuiet_nil ?_;show ordWalk _ _ _ _ _ _ _)
   refine ord_fin ?_
   go_wp2
   go_roundw
   case rel=>exact ⟨i+1,by omega,by go_num,er.trans (XE.trans x1)⟩
   case measure=>simp [intOf];omega
  ·go_wp2
   go_ret
   exact ⟨rfl,er⟩
open Go.RowKit
theorem sameTime_any (e1 e2:Int) (A1 A2:Option Addr) (n1 n2 c1 c2:Nat) (l1 l2:List Int) (w:World) (h1:Sl w 1 A1 n1 c1 (wds l1)) (h2:Sl w 1 A2 n2 c2 (wds l2)) :
  Calls Tryz.prog 54 #[.agg #[.int .u64 e1, .slice A1 n1 c1], .agg #[.int .u64 e2, .slice A2 n2 c2]] w fun e w'=>e = .returned (.bool (decide (e1=e2∧l1=l2)))∧Ext w w':=by
 by_cases k1:e1=e2
 ·have q1:(e1==e2)=true:=by simpa using k1
  go_enter Tryz.func54,Tryz.ntmps54
  go_wp2_with (go_at_call 166;refine (sameWords_any A1 A2 n1 n2 c1 c2 l1 l2 _ (h1.ext (((Ext.refl w).alloc _).alloc _)) (h2.ext (((Ext.refl w).alloc _).alloc _))).mono ?_;rintro r w1 ⟨rfl,x1⟩)
  refine bodyPost_ret (v := .bool (decide (l1=l2))) (by simp only [results,Tryz.results54];go_simp) rfl ?_
  exact ⟨by simp [k1],(((Ext.refl w).alloc _).alloc _).trans x1⟩
 ·have q1:(e1==e2)=false:=by simpa using k1
  go_enter Tryz.func54,Tryz.ntmps54
  go_wp2
  refine bodyPost_ret (v := .bool false) (by simp only [results,Tryz.results54];go_simp) rfl ?_
  exact ⟨by simp [k1],(((Ext.refl w).alloc _).alloc _)⟩
open Go.RowKit
theorem uval_at {L M:List Ud} (h:L.map Ud.uv=M.map Ud.uv) {i:Nat} (hi:i<L.length):(M.getD i Ud.zero).l=(L.getD i Ud.zero).l∧(M.getD i Ud.zero).t.e=(L.getD i Ud.zero).t.e∧(M.getD i Ud.zero).t.l=(L.getD i Ud.zero).t.l∧(M.getD i Ud.zero).d=(L.getD i Ud.zero).d:=by
 have hl:=congrArg List.length h
 rw [List.length_map,List.length_map] at hl
 have e:=congrArg (fun l:List UV=>l[i]?) h
 simp only [List.getElem?_map] at e
 rw [List.getElem?_eq_getElem hi,List.getElem?_eq_getElem (by omega)] at e
 simp only [Option.map_some,Option.some.injEq] at e
 rw [List.getD_eq_getElem?_getD,List.getD_eq_getElem?_getD,List.getElem?_eq_getElem hi,List.getElem?_eq_getElem (by omega)]
 exact ⟨(congrArg (fun q:UV=>q.1.1) e).symm,(congrArg (fun q:UV=>q.1.2.1) e).symm,(congrArg (fun q:UV=>q.1.2.2) e).symm,(congrArg Prod.snd e).symm⟩
theorem usameTime_at {b:Bool} (e1 e2:Int) (A1 A2:Option Addr) (n1 n2 c1 c2:Nat) (l1 l2:List Int) (w:World) (hb:Hid (decide (e1=e2∧l1=l2)=b)) (h1:Hid (Sl w 1 A1 n1 c1 (wds l1))) (h2:Hid (Sl w 1 A2 n2 c2 (wds l2))) :
  Calls Tryz.prog 54 #[.agg #[.int .u64 e1, .slice A1 n1 c1], .agg #[.int .u64 e2, .slice A2 n2 c2]] w fun e w'=>e = .returned (.bool b)∧Ext w w':=hb.out ▸ sameTime_any e1 e2 A1 A2 n1 n2 c1 c2 l1 l2 w h1.out h2.out
set_option maxRecDepth 100000 in
set_option maxHeartbeats 4000000 in
theorem sameUps_any (A1 A2:Option Addr) (c1 c2 n m:Nat) (L M:List Ud) (w:World) (hn:Hid (n=L.length)) (hm:Hid (m=M.length)) (h1:Hid (Uin w A1 c1 L)) (h2:Hid (Uin w A2 c2 M)) (he:Hid (L.map Ud.uv=M.map Ud.uv)) :
  Calls Tryz.prog 23 #[.slice A1 n c1, .slice A2 m c2] w fun e w'=>e = .returned (.bool true)∧Ext w w':=by
 have hl:=congrArg List.length he.out
 rw [List.length_map,List.length_map] at hl
 obtain rfl:m=n:=by rw [hn.out,hm.out,hl]
 have hnm:m≤9223372036854775807:=by rw [hn.out];exact h1.out.sl.le
 clear hl
 go_enter Tryz.func23,Tryz.ntmps23
 go_wp2
 go_loopw [5] (fun v wr => ∃ i:Nat,i≤m∧v = .int .i64 i∧Ext w wr) (fun v _=>m - (intOf v).toNat)
 case atStart=>exact ⟨0,Nat.zero_le _,rfl,Ext.refl _⟩
 case round =>
  obtain ⟨i,hi,rfl,er⟩:=hrel
  by_cases hlt:i<m
  ·have hil:i<L.length:=by rw [← hn.out];exact hlt
   have him:i<M.length:=by rw [← hm.out];exact hlt
   obtain ⟨ad,rfl,p0,p1,p2,p3⟩:=(h1.out.ext er).at hil
   obtain ⟨bd,rfl,q0,q1,q2,q3⟩:=(h2.out.ext er).at him
   have hr1:=h1.out.ls _ (getU_mem hil)
   have hr2:=h2.out.ls _ (getU_mem him)
   obtain ⟨e1,e2,e3,e4⟩:=uval_at he.out hil
   obtain ⟨x,hx⟩ : ∃ x,L.getD i Ud.zero=x:=⟨_,rfl⟩
   obtain ⟨y,hy⟩ : ∃ y,M.getD i Ud.zero=y:=⟨_,rfl⟩
   rw [hx] at p0 p1 p2 p3 hr1 e1 e2 e3 e4
   rw [hy] at q0 q1 q2 q3 hr2 e1 e2 e3 e4
   obtain ⟨xA,xc,xl,⟨xe,xtA,xtc,xtl⟩,xd⟩:=x
   obtain ⟨yA,yc,yl,⟨ye,ytA,ytc,ytl⟩,yd⟩:=y
   dsimp only at p0 p1 p2 p3 q0 q1 q2 q3 hr1 hr2 e1 e2 e3 e4
   subst e1 e2 e3 e4
   obtain ⟨nx,hnx⟩ : ∃ nx,nx=yl.length:=⟨_,rfl⟩
   obtain ⟨tx,htx⟩ : ∃ tx,tx=ytl.length:=⟨_,rfl⟩
   rw [← hnx] at p0 q0
   rw [← htx] at p2 q2
   have HNX:=Lib.hid hnx
   have HEQ:Hid (nx=nx):=Lib.hid rfl
   have HR1:Hid (∀ W,Ext wr W→Rw W xA xc yl):=Lib.hid (fun W q=>(hr1.r.ext er).ext q)
   have HR2:Hid (∀ W,Ext wr W→Rw W yA yc yl):=Lib.hid (fun W q=>(hr2.r.ext er).ext q)
   have HT1:Hid (∀ W,Ext wr W→Sl W 1 xtA tx xtc (wds ytl)):=Lib.hid (fun W q=>by rw [htx];exact (hr1.t.ext er).ext q)
   have HT2:Hid (∀ W,Ext wr W→Sl W 1 ytA tx ytc (wds ytl)):=Lib.hid (fun W q=>by rw [htx];exact (hr2.t.ext er).ext q)
   have X:Ext wr wr.drew:=(Ext.refl wr).drew
   have P0 : ∀ z:Xt wr.drew,z.W.cell? (ad.add (i * 4))=some (.slice xA nx xc):=fun z=>(X.trans z.x).cell p0
   have P1 : ∀ z:Xt wr.drew,z.W.cell? ⟨(ad.add (i * 4)).block,(ad.add (i * 4)).off+1,none⟩=some (.int .u64 ye):=fun z=>(X.trans z.x).cell p1
   have P2 : ∀ z:Xt wr.drew,z.W.cell? ⟨(ad.add (i * 4)).block,(ad.add (i * 4)).off+2,none⟩=some (.slice xtA tx xtc):=fun z=>(X.trans z.x).cell p2
   have P3 : ∀ z:Xt wr.drew,z.W.cell? ⟨(ad.add (i * 4)).block,(ad.add (i * 4)).off+3,none⟩=some (.int .i64 yd):=fun z=>(X.trans z.x).cell p3
   have Q0 : ∀ z:Xt wr.drew,z.W.cell? (bd.add (i * 4))=some (.slice yA nx yc):=fun z=>(X.trans z.x).cell q0
   have Q1 : ∀ z:Xt wr.drew,z.W.cell? ⟨(bd.add (i * 4)).block,(bd.add (i * 4)).off+1,none⟩=some (.int .u64 ye):=fun z=>(X.trans z.x).cell q1
   have Q2 : ∀ z:Xt wr.drew,z.W.cell? ⟨(bd.add (i * 4)).block,(bd.add (i * 4)).off+2,none⟩=some (.slice ytA tx ytc):=fun z=>(X.trans z.x).cell q2
   have Q3 : ∀ z:Xt wr.drew,z.W.cell? ⟨(bd.add (i * 4)).block,(bd.add (i * 4)).off+3,none⟩=some (.int .i64 yd):=fun z=>(X.trans z.x).cell q3
   clear hil him hr1 hr2 hx hy hnx htx
   go_upto_region 6 with fail
   clear p0 p1 p2 p3 q0 q1 q2 q3
   refine wp_region_ord [0,0,3,7,15,0,0,96,224,480,1023,2047,4095,4095,16383,32767,65535,4095,4095,397311,921599,1970175,4194303,8388607,16777215,33554431,67108863,67108863,268435455,536870911,1073741823,67108863,67108863,6509559807,15099494399,32279363583,68719476735,137438953471,274877906943] (.flo [0,1,2,3,4,5,6,7,8,9,10,11,12,13,14,15,16,17,18,19,20,21] (.one 22 (.flo [23,24,25,26,27,28,29,30,31,32,33,34,35] (.one 36 (.flo [37,38] (.fin)))))) (by kernel_rfl) (by kernel_rfl) (by intro _ _ d _ _ h;cases d<;>exact h) ?_
   (refine ord_flo (pick_cons rfl (pick_cons rfl (pick_cons rfl (pick_cons rfl (pick_cons rfl (pick_cons rfl (pick_cons rfl (pick_cons rfl (pick_cons rfl (pick_cons rfl (pick_cons rfl (pick_cons rfl (pick_cons rfl (pick_cons rfl (pick_cons rfl (pick_cons rfl (pick_cons rfl (pick_cons rfl (pick_cons rfl (pick_cons rfl (pick_cons rfl (pick_cons rfl pick_nil)))))))))))))))))))))) ?_;(repeat (go_big_quiet_step (fail)));refine wpQuiet_nil ?_;show ordWalk _ _ _ _ _ _ _)
   refine ord_one (pick_cons rfl pick_nil) ?_;intro K_ hK_
   go_wp2_with (go_at_call 117;refine (sameRow_lit xA yA xc yc nx nx yl _ HNX HEQ (Lib.hid (HR1.out _ X)) (Lib.hid (HR2.out _ X))).mono ?_;rintro e w1 ⟨rfl,x1⟩)
   have P1 : ∀ z:Xt w1,z.W.cell? ⟨(ad.add (i * 4)).block,(ad.add (i * 4)).off+1,none⟩=some (.int .u64 ye):=fun z=>P1 ⟨z.W,x1.trans z.x⟩
   have P2 : ∀ z:Xt w1,z.W.cell? ⟨(ad.add (i * 4)).block,(ad.add (i * 4)).off+2,none⟩=some (.slice xtA tx xtc):=fun z=>P2 ⟨z.W,x1.trans z.x⟩
   have Q1 : ∀ z:Xt w1,z.W.cell? ⟨(bd.add (i * 4)).block,(bd.add (i * 4)).off+1,none⟩=some (.int .u64 ye):=fun z=>Q1 ⟨z.W,x1.trans z.x⟩
   have Q2 : ∀ z:Xt w1,z.W.cell? ⟨(bd.add (i * 4)).block,(bd.add (i * 4)).off+2,none⟩=some (.slice ytA tx ytc):=fun z=>Q2 ⟨z.W,x1.trans z.x⟩
   clear P0 P3 Q0 Q3
   (refine ord_flo (pick_cons rfl (pick_cons rfl (pick_cons rfl (pick_cons rfl (pick_cons rfl (pick_cons rfl (pick_cons rfl (pick_cons rfl (pick_cons rfl (pick_cons rfl (pick_cons rfl (pick_cons rfl (pick_cons rfl pick_nil))))))))))))) ?_;(repeat (go_big_quiet_step (fail)));refine wpQuiet_nil ?_;show ordWalk _ _ _ _ _ _ _)
   refine ord_one (pick_cons rfl pick_nil) ?_;intro K_ hK_
   go_wp2_with (go_at_call 54;refine (usameTime_at (b:=true) ye ye xtA ytA tx tx xtc ytc ytl ytl _ (Lib.hid (by simp)) (Lib.hid (HT1.out _ (X.trans x1))) (Lib.hid (HT2.out _ (X.trans x1)))).mono ?_;rintro e w2 ⟨rfl,x2⟩)
   (refine ord_flo (pick_cons rfl (pick_cons rfl pick_nil)) ?_;(repeat (go_big_quiet_step (fail)));refine wpQuiet_nil ?_;show ordWalk _ _ _ _ _ _ _)
   refine ord_fin ?_
   go_wp2
   go_roundw
   case rel=>exact ⟨i+1,by omega,by go_num,er.trans ((X.trans x1).trans x2)⟩
   case measure=>simp [intOf];omega
  ·go_wp2
   go_ret
   exact ⟨rfl,er⟩
open Go.RowKit
def mark_ (k:Int):Dat:=⟨k,false,0,⟨#[]⟩⟩
def marks:List Dat:=[mark_ 91,mark_ 92]
open Go.RowKit
def kone (n:Int):Dat:=⟨3,false,n,⟨#[]⟩⟩
def UpdR (n e d:Int) (w:World) (r:Ending) (w':World):Prop := ∃ g,r = .returned (.agg #[.slice (some ⟨g,0,none⟩) 1 1, .int .u64 e, .slice none 0 0, .int .i64 d])∧w.heap.size≤g∧Own w' w.heap.size 204 4 (some ⟨g,0,none⟩) 1 1 (rowC [kone n])∧Ext w w'
def kup (g:Nat) (n e d:Int):Ud:=⟨some ⟨g,0,none⟩,1,[kone n],⟨e,none,0,[]⟩,d⟩
theorem kup_r {w w':World} {B g:Nat} {n:Int} (e d:Int) (o:Own w B 204 4 (some ⟨g,0,none⟩) 1 1 (rowC [kone n])) (x:Ext w w'):UdR w' (kup g n e d):=⟨o.sl.ext x,Sl.nil _ _⟩
theorem kup_in (g:Nat) {n e d:Int} (hn:0≤n∧n≤100) (he:0≤e∧e≤100) (hd : -100≤d∧d≤100):InU (kup g n e d):=by
 refine ⟨⟨fun x hx=>?_,fun x hx=>?_,⟨by show _≤d;omega,by show d≤_;omega⟩,by show 1≤_;omega⟩,fun x hx=>(nomatch hx),by show 0≤_;omega,⟨he.1,by show e≤_;omega⟩⟩
 ·rw [List.mem_singleton.1 (show x∈[kone n] from hx)];show (0:Nat)≤_;omega
 ·rw [List.mem_singleton.1 (show x∈[kone n] from hx)];show _≤n∧n≤_;omega
theorem dat_at {U:List V} (A:Option Addr) (c n:Nat) (L:List Ud) (e:Int) (At:Option Addr) (nt ct:Nat) (lt:List Int) (w:World) (hU:Hid (sumV (atV (L.map Ud.uv) (e,lt))=U)) (hn:Hid (n=L.length)) (h:Hid (Uin w A c L)) (h9:n≤1000000) (hin:Hid (∀ x∈L,InU x)) (ht:Hid (Sl w 1 At nt ct (wds lt))) (G:Good w) :
  Calls Tryz.prog 17 #[.slice A n c, .agg #[.int .u64 e, .slice At nt ct]] w (DAtRes w U):=hU.out ▸ dat_any A c n L e At nt ct lt w hn h h9 hin ht G
theorem in_lens {L:List Ud} (h : ∀ x∈L,InU x):Hid (∀ x∈L,UdS.InN x.uv)∧Hid (∀ x∈L,x.l.length≤1000000000∧x.t.l.length≤1000000000):=⟨Lib.hid (fun x hx=>(h x hx).num),Lib.hid (fun x hx=>(h x hx).lens)⟩
open Go.RowKit
set_option maxRecDepth 100000 in
set_option maxHeartbeats 1000000 in
theorem upd10_any (n e d:Int) (w:World) :
  Calls Tryz.prog 122 #[.int .i64 n, .int .u64 e, .int .i64 d] w (UpdR n e d w):=by
 go_enter Tryz.func122,Tryz.ntmps122
 go_wp2
 obtain ⟨w1,hw1⟩ : ∃ w1,w1=(w.alloc (.cells #[.slice (some ⟨w.heap.size+1,0,none⟩) 1 1, .int .u64 e, .slice none 0 0, .int .i64 d] 95)).alloc (.cells #[.int .u8 3, .bool false, .int .i64 n, .string ⟨#[]⟩] 204):=⟨_,rfl⟩
 have b1:Bk w1 w.heap.size 95 #[.slice (some ⟨w.heap.size+1,0,none⟩) 1 1, .int .u64 e, .slice none 0 0, .int .i64 d]:=by rw [hw1];exact (Bk.new _ _ _).alloc _
 have c1:Bk w1 (w.heap.size+1) 204 #[.int .u8 3, .bool false, .int .i64 n, .string ⟨#[]⟩]:=by rw [hw1];exact Bk.at (by simp)
 have x1:Ext w w1:=by rw [hw1];exact ((Ext.refl w).alloc _).alloc _
 have o1:Own w1 w.heap.size 204 4 (some ⟨w.heap.size+1,0,none⟩) 1 1 (rowC [kone n]):=⟨rfl, .inr ⟨w.heap.size+1, #[.int .u8 3, .bool false, .int .i64 n, .string ⟨#[]⟩],rfl,by omega,c1,Nat.le_refl _,by unfold maxLen;omega,Nat.le_refl _,rfl⟩⟩
 have q0:=b1.cell 0
 have q1:=b1.cell 1
 have q2:=b1.cell 2
 have q3:=b1.cell 3
 simp at q0 q1 q2 q3
 rw [← hw1]
 clear hw1
 refine bodyPost_ret (v := .agg #[.slice (some ⟨w.heap.size+1,0,none⟩) 1 1, .int .u64 e, .slice none 0 0, .int .i64 d]) (by simp [results,Tryz.results122,go_sem,q0,q1,q2,q3]) rfl ⟨w.heap.size+1,rfl,by omega,o1,x1⟩
def k10L (a b c d e:Nat):List Ud:=[kup a 1 2 1,kup b 0 5 (-1),kup c 1 2 1,kup d 2 3 1,kup e 2 3 (-1)]
theorem k10_in (a b c d e:Nat) : ∀ x∈k10L a b c d e,InU x:=by
 intro x hx
 simp only [k10L,List.mem_cons,List.not_mem_nil,or_false] at hx
 rcases hx with rfl | rfl | rfl | rfl | rfl<;>exact kup_in _ (by omega) (by omega) (by omega)
def k10S:List UV:=[(([kone 0],(5,[])), -1),(([kone 1],(2,[])),2)]
def k10A:List UV:=[(([kone 0],(5,[])), -1),(([kone 1],(4,[])),2)]
theorem k10_sum (a b c d e:Nat):UdS.sumV ((k10L a b c d e).map Ud.uv)=k10S:=by kernel_rfl
theorem k10_at (a b c d e:Nat):sumV (atV ((k10L a b c d e).map Ud.uv) (4,[]))=[([kone 1],2)]:=by kernel_rfl
theorem k10_adv (a b c d e:Nat):UdS.sumV (((k10L a b c d e).map Ud.uv).map (advK [(4,[])]))=k10A:=by kernel_rfl

set_option maxRecDepth 100000 in
set_option maxHeartbeats 16000000 in
theorem known10_any (w:World) (G:Good w) :
  Calls Tryz.prog 28 #[] w fun e w'=>e = .returned (.bool true)∧Ext w w':=by
 have p1:True:=trivial
 go_enter Tryz.func28,Tryz.ntmps28
 go_wp2_with (first
  | (go_at_call 122;have mk:=p1;clear p1 mk;refine (upd10_any (1) (2) (1) _).mono ?_;rintro r v1 ⟨g1,rfl,b1,o1,x1⟩;have O1:=Lib.hid o1;have Y1:Hid (Ext w v1):=Lib.hid ((Ext.refl w).trans x1);have J1:=Lib.hid x1;clear o1 x1 b1;have p2:True:=trivial)
  | (go_at_call 122;have mk:=p2;clear p2 mk;refine (upd10_any (0) (5) (-1) _).mono ?_;rintro r v2 ⟨g2,rfl,b2,o2,x2⟩;have O2:=Lib.hid o2;have Y2:Hid (Ext w v2):=Lib.hid (Y1.out.trans x2);have J2:=Lib.hid x2;clear o2 x2 b2;have p3:True:=trivial)
  | (go_at_call 122;have mk:=p3;clear p3 mk;refine (upd10_any (1) (2) (1) _).mono ?_;rintro r v3 ⟨g3,rfl,b3,o3,x3⟩;have O3:=Lib.hid o3;have Y3:Hid (Ext w v3):=Lib.hid (Y2.out.trans x3);have J3:=Lib.hid x3;clear o3 x3 b3;have p4:True:=trivial)
  | (go_at_call 122;have mk:=p4;clear p4 mk;refine (upd10_any (2) (3) (1) _).mono ?_;rintro r v4 ⟨g4,rfl,b4,o4,x4⟩;have O4:=Lib.hid o4;have Y4:Hid (Ext w v4):=Lib.hid (Y3.out.trans x4);have J4:=Lib.hid x4;clear o4 x4 b4;have p5:True:=trivial)
  | (go_at_call 122;have mk:=p5;clear p5 mk;refine (upd10_any (2) (3) (-1) _).mono ?_;rintro r v5 ⟨g5,rfl,b5,o5,x5⟩;have O5:=Lib.hid o5;have Y5:Hid (Ext w v5):=Lib.hid (Y4.out.trans x5);have J5:=Lib.hid x5;clear o5 x5 b5;have p6:True:=trivial)
  | (go_at_call 16;have mk:=p6;clear p6 mk;have XA:Ext v5 (v5.alloc (.cells #[.slice (some ⟨g1,0,none⟩) 1 1, .int .u64 2, .slice none 0 0, .int .i64 1, .slice (some ⟨g2,0,none⟩) 1 1, .int .u64 5, .slice none 0 0, .int .i64 (-1), .slice (some ⟨g3,0,none⟩) 1 1, .int .u64 2, .slice none 0 0, .int .i64 1, .slice (some ⟨g4,0,none⟩) 1 1, .int .u64 3, .slice none 0 0, .int .i64 1, .slice (some ⟨g5,0,none⟩) 1 1, .int .u64 3, .slice none 0 0, .int .i64 (-1)] 95)):=(Ext.refl v5).alloc _;have HU:Hid (∀ W,Ext (v5.alloc (.cells #[.slice (some ⟨g1,0,none⟩) 1 1, .int .u64 2, .slice none 0 0, .int .i64 1, .slice (some ⟨g2,0,none⟩) 1 1, .int .u64 5, .slice none 0 0, .int .i64 (-1), .slice (some ⟨g3,0,none⟩) 1 1, .int .u64 2, .slice none 0 0, .int .i64 1, .slice (some ⟨g4,0,none⟩) 1 1, .int .u64 3, .slice none 0 0, .int .i64 1, .slice (some ⟨g5,0,none⟩) 1 1, .int .u64 3, .slice none 0 0, .int .i64 (-1)] 95)) W→Uin W (some ⟨v5.heap.size,0,none⟩) 5 (k10L g1 g2 g3 g4 g5)):=Lib.hid (fun W q=>⟨(sl_alloc v5 95 #[.slice (some ⟨g1,0,none⟩) 1 1, .int .u64 2, .slice none 0 0, .int .i64 1, .slice (some ⟨g2,0,none⟩) 1 1, .int .u64 5, .slice none 0 0, .int .i64 (-1), .slice (some ⟨g3,0,none⟩) 1 1, .int .u64 2, .slice none 0 0, .int .i64 1, .slice (some ⟨g4,0,none⟩) 1 1, .int .u64 3, .slice none 0 0, .int .i64 1, .slice (some ⟨g5,0,none⟩) 1 1, .int .u64 3, .slice none 0 0, .int .i64 (-1)] (udsC (k10L g1 g2 g3 g4 g5)) 4 5 rfl rfl (by decide)).ext q,fun x hx=>by simp only [k10L,List.mem_cons,List.not_mem_nil,or_false] at hx;have z5:=XA.trans q;have z4:=J5.out.trans z5;have z3:=J4.out.trans z4;have z2:=J3.out.trans z3;have z1:=J2.out.trans z2;rcases hx with rfl | rfl | rfl | rfl | rfl;(exact kup_r _ _ O1.out z1);(exact kup_r _ _ O2.out z2);(exact kup_r _ _ O3.out z3);(exact kup_r _ _ O4.out z4);(exact kup_r _ _ O5.out z5)⟩);have HN:Hid (5=((k10L g1 g2 g3 g4 g5)).length):=Lib.hid rfl;have HI:Hid (∀ x∈(k10L g1 g2 g3 g4 g5),InU x):=Lib.hid (k10_in _ _ _ _ _);refine (dsum_at (some ⟨v5.heap.size,0,none⟩) 5 5 (k10L g1 g2 g3 g4 g5) _ (Lib.hid (k10_sum _ _ _ _ _)) HN (Lib.hid (HU.out _ (Ext.refl _))) (by decide) (in_lens HI.out).1 (in_lens HI.out).2).mono ?_;rintro r v6 ⟨A6,m6,R6,rfl,hm6,u6,e6,x6⟩;have HM6:=Lib.hid hm6;have HU6:=Lib.hid u6.uin;have HE6:=Lib.hid e6;have J6:=Lib.hid x6;have Y6:Hid (Ext w v6):=Lib.hid ((Y5.out.trans XA).trans x6);clear hm6 u6 e6 x6 XA;have p7:True:=trivial)
  | (go_at_call 17;have mk:=p7;clear p7 mk;refine (dat_at (some ⟨v5.heap.size,0,none⟩) 5 5 (k10L g1 g2 g3 g4 g5) 4 none 0 0 [] _ (Lib.hid (k10_at _ _ _ _ _)) HN (Lib.hid (HU.out _ J6.out)) (by decide) HI (Lib.hid (Sl.nil _ _)) (G.ext Y6.out)).mono ?_;rintro r v7 ⟨A7,m7,c7,R7,rfl,hm7,o7,q7,a7,e7,x7⟩;have hm71:m7=1:=(by rw [hm7];have:=congrArg List.length e7;simpa using this);subst hm71;have O7:=Lib.hid o7;have HE7:=Lib.hid e7;have J7:=Lib.hid x7;have Y7:Hid (Ext w v7):=Lib.hid (Y6.out.trans x7);clear hm7 o7 q7 a7 e7 x7;have p8:True:=trivial)
  | (go_at_call 18;have mk:=p8;clear p8 mk;have XT:Ext v7 (v7.alloc (.cells #[.int .u64 4, .slice none 0 0] 26)):=(Ext.refl v7).alloc _;have HS:Hid (Tin (v7.alloc (.cells #[.int .u64 4, .slice none 0 0] 26)) (some ⟨v7.heap.size,0,none⟩) 1 [⟨4,none,0,[]⟩]):=Lib.hid ⟨sl_alloc v7 26 #[.int .u64 4, .slice none 0 0] (tmsC [⟨4,none,0,[]⟩]) 2 1 rfl rfl (by decide),fun x hx=>by rw [List.mem_singleton.1 hx];exact Sl.nil _ _⟩;refine (dadv_any (some ⟨v5.heap.size,0,none⟩) 5 5 (k10L g1 g2 g3 g4 g5) (some ⟨v7.heap.size,0,none⟩) 1 1 [⟨4,none,0,[]⟩] _ (Lib.hid (k10_adv _ _ _ _ _)) HN (Lib.hid (HU.out _ ((J6.out.trans J7.out).trans XT))) (by decide) HI (Lib.hid rfl) HS (Lib.hid (fun x hx=>by rw [List.mem_singleton.1 hx];exact ⟨fun y hy=>(nomatch hy),Nat.zero_le _⟩)) (by decide)).mono ?_;rintro r v8 ⟨A8,m8,R8,rfl,hm8,u8,e8,x8⟩;have HM8:=Lib.hid hm8;have HU8:=Lib.hid u8.uin;have HE8:=Lib.hid e8;have J8:=Lib.hid (XT.trans x8);have Y8:Hid (Ext w v8):=Lib.hid ((Y7.out.trans XT).trans x8);clear hm8 u8 e8 x8 XT;have p9:True:=trivial)
  | (go_at_call 122;have mk:=p9;clear p9 mk;refine (upd10_any (0) (5) (-1) _).mono ?_;rintro r v9 ⟨g9,rfl,b9,o9,x9⟩;have O9:=Lib.hid o9;have Y9:Hid (Ext w v9):=Lib.hid (Y8.out.trans x9);have J9:=Lib.hid x9;clear o9 x9 b9;have p10:True:=trivial)
  | (go_at_call 122;have mk:=p10;clear p10 mk;refine (upd10_any (1) (2) (2) _).mono ?_;rintro r v10 ⟨g10,rfl,b10,o10,x10⟩;have O10:=Lib.hid o10;have Y10:Hid (Ext w v10):=Lib.hid (Y9.out.trans x10);have J10:=Lib.hid x10;clear o10 x10 b10;have p11:True:=trivial)
  | (go_at_call 23;have mk:=p11;clear p11 mk;have XA:Ext v10 (v10.alloc (.cells #[.slice (some ⟨g9,0,none⟩) 1 1, .int .u64 5, .slice none 0 0, .int .i64 (-1), .slice (some ⟨g10,0,none⟩) 1 1, .int .u64 2, .slice none 0 0, .int .i64 2] 95)):=(Ext.refl v10).alloc _;have HUB:Hid (Uin (v10.alloc (.cells #[.slice (some ⟨g9,0,none⟩) 1 1, .int .u64 5, .slice none 0 0, .int .i64 (-1), .slice (some ⟨g10,0,none⟩) 1 1, .int .u64 2, .slice none 0 0, .int .i64 2] 95)) (some ⟨v10.heap.size,0,none⟩) 2 [kup g9 0 5 (-1),kup g10 1 2 2]):=Lib.hid ⟨sl_alloc v10 95 #[.slice (some ⟨g9,0,none⟩) 1 1, .int .u64 5, .slice none 0 0, .int .i64 (-1), .slice (some ⟨g10,0,none⟩) 1 1, .int .u64 2, .slice none 0 0, .int .i64 2] (udsC [kup g9 0 5 (-1),kup g10 1 2 2]) 4 2 rfl rfl (by decide),fun x hx=>by simp only [List.mem_cons,List.not_mem_nil,or_false] at hx;rcases hx with rfl | rfl;(exact kup_r _ _ O9.out (J10.out.trans XA));(exact kup_r _ _ O10.out XA)⟩;refine (sameUps_any A6 (some ⟨v10.heap.size,0,none⟩) m6 2 m6 2 R6 [kup g9 0 5 (-1),kup g10 1 2 2] _ HM6 (Lib.hid rfl) (Lib.hid (HU6.out.ext (((((J7.out.trans J8.out).trans J9.out).trans J10.out)).trans XA))) HUB (Lib.hid (HE6.out.trans rfl))).mono ?_;rintro r v11 ⟨rfl,x11⟩;have J11:=Lib.hid (XA.trans x11);have Y11:Hid (Ext w v11):=Lib.hid ((Y10.out.trans XA).trans x11);clear x11 XA HUB;have p12:True:=trivial)
  | (go_at_call 122;have mk:=p12;clear p12 mk;refine (upd10_any (0) (5) (-1) _).mono ?_;rintro r v12 ⟨g12,rfl,b12,o12,x12⟩;have O12:=Lib.hid o12;have Y12:Hid (Ext w v12):=Lib.hid (Y11.out.trans x12);have J12:=Lib.hid x12;clear o12 x12 b12;have p13:True:=trivial)
  | (go_at_call 122;have mk:=p13;clear p13 mk;refine (upd10_any (1) (4) (2) _).mono ?_;rintro r v13 ⟨g13,rfl,b13,o13,x13⟩;have O13:=Lib.hid o13;have Y13:Hid (Ext w v13):=Lib.hid (Y12.out.trans x13);have J13:=Lib.hid x13;clear o13 x13 b13;have p14:True:=trivial)
  | (go_at_call 23;have mk:=p14;clear p14 mk;have XA:Ext v13 (v13.alloc (.cells #[.slice (some ⟨g12,0,none⟩) 1 1, .int .u64 5, .slice none 0 0, .int .i64 (-1), .slice (some ⟨g13,0,none⟩) 1 1, .int .u64 4, .slice none 0 0, .int .i64 2] 95)):=(Ext.refl v13).alloc _;have HUB:Hid (Uin (v13.alloc (.cells #[.slice (some ⟨g12,0,none⟩) 1 1, .int .u64 5, .slice none 0 0, .int .i64 (-1), .slice (some ⟨g13,0,none⟩) 1 1, .int .u64 4, .slice none 0 0, .int .i64 2] 95)) (some ⟨v13.heap.size,0,none⟩) 2 [kup g12 0 5 (-1),kup g13 1 4 2]):=Lib.hid ⟨sl_alloc v13 95 #[.slice (some ⟨g12,0,none⟩) 1 1, .int .u64 5, .slice none 0 0, .int .i64 (-1), .slice (some ⟨g13,0,none⟩) 1 1, .int .u64 4, .slice none 0 0, .int .i64 2] (udsC [kup g12 0 5 (-1),kup g13 1 4 2]) 4 2 rfl rfl (by decide),fun x hx=>by simp only [List.mem_cons,List.not_mem_nil,or_false] at hx;rcases hx with rfl | rfl;(exact kup_r _ _ O12.out (J13.out.trans XA));(exact kup_r _ _ O13.out XA)⟩;refine (sameUps_any A8 (some ⟨v13.heap.size,0,none⟩) m8 2 m8 2 R8 [kup g12 0 5 (-1),kup g13 1 4 2] _ HM8 (Lib.hid rfl) (Lib.hid (HU8.out.ext ((((((J9.out.trans J10.out).trans J11.out).trans J12.out).trans J13.out)).trans XA))) HUB (Lib.hid (HE8.out.trans rfl))).mono ?_;rintro r v14 ⟨rfl,x14⟩;have J14:=Lib.hid (XA.trans x14);have Y14:Hid (Ext w v14):=Lib.hid ((Y13.out.trans XA).trans x14);clear x14 XA HUB;have p15:True:=trivial;have hR:R7.length=1:=(by have:=congrArg List.length HE7.out;simpa using this);have o14:=O7.out.ext (((((((J8.out.trans J9.out).trans J10.out).trans J11.out).trans J12.out).trans J13.out).trans J14.out));obtain ⟨g7,eA7,_,_,_,hc7,_⟩:=o14.form (by omega);subst eA7;have b7:v14.cell? ⟨g7,1,none⟩=some (.int .i64 2):=(hc7 1 (.int .i64 2) (by have:=ctsC_at R7 0 1 (by omega) (by decide);rw [Nat.zero_mul,Nat.zero_add] at this;rw [this];have h2:(R7.getD 0 Ct.zero).k=2:=(by match R7,HE7.out,hR with | [y],e,_=>(injection e with e _;exact congrArg Prod.snd e));show some (Value.int .i64 (R7.getD 0 Ct.zero).k)=_;rw [h2]));clear o14 hc7 hR)
  | fail)
 go_ret
 exact ⟨rfl,Y14.out⟩
open Go.RowKit
set_option maxRecDepth 100000 in
set_option maxHeartbeats 400000 in
theorem rleq_diff (e1 e2:Int) (A1 A2:Option Addr) (n1 n2 c1 c2:Nat) (w:World) (hne:((n1:Int) != (n2:Int))=true) :
  Calls Tryz.prog 119 #[.agg #[.int .u64 e1, .slice A1 n1 c1], .agg #[.int .u64 e2, .slice A2 n2 c2]] w fun e w'=>e = .returned (.bool false)∧Ext w w':=by
 go_enter Tryz.func119,Tryz.ntmps119
 go_wp2
 go_ret
 exact ⟨rfl,((Ext.refl w).alloc _).alloc _⟩
set_option maxRecDepth 100000 in
set_option maxHeartbeats 400000 in
theorem rleq_late (e1 e2:Int) (A1 A2:Option Addr) (n c1 c2:Nat) (w:World) (hlt:e2<e1) :
  Calls Tryz.prog 119 #[.agg #[.int .u64 e1, .slice A1 n c1], .agg #[.int .u64 e2, .slice A2 n c2]] w fun e w'=>e = .returned (.bool false)∧Ext w w':=by
 have he:((n:Int) != (n:Int))=false:=by simp
 go_enter Tryz.func119,Tryz.ntmps119
 go_wp2
 go_ret
 exact ⟨rfl,((Ext.refl w).alloc _).alloc _⟩
set_option maxRecDepth 100000 in
set_option maxHeartbeats 400000 in
theorem rleq_same (e1 e2:Int) (A1 A2:Option Addr) (n c1 c2:Nat) (l1 l2:List Int) (w:World) (h1:Sl w 1 A1 n c1 (wds l1)) (h2:Sl w 1 A2 n c2 (wds l2)) (hle:e1≤e2) :
  Calls Tryz.prog 119 #[.agg #[.int .u64 e1, .slice A1 n c1], .agg #[.int .u64 e2, .slice A2 n c2]] w fun e w'=>e = .returned (.bool (decide (∀ k,k<n→l1.getD k 0≤l2.getD k 0)))∧Ext w w':=by
 have hm:=h1.le
 have he:((n:Int) != (n:Int))=false:=by simp
 go_enter Tryz.func119,Tryz.ntmps119
 go_wp2
 obtain ⟨w0,hw0⟩ : ∃ w0,w0=(w.alloc (Obj.cells #[Value.int IntKind.u64 e1,Value.slice A1 n c1] 26)).alloc (Obj.cells #[Value.int IntKind.u64 e2,Value.slice A2 n c2] 26):=⟨_,rfl⟩
 have e0:Ext w w0:=hw0 ▸ ((Ext.refl w).alloc _).alloc _
 have b1:w0.cell? ⟨w.heap.size,1,none⟩=some (Value.slice A1 n c1):=by subst hw0;go_simp
 have b2:w0.cell? ⟨w.heap.size+1,1,none⟩=some (Value.slice A2 n c2):=by subst hw0;go_simp
 rw [← hw0]
 clear hw0
 go_loopw [5] (fun v wr => ∃ k:Nat,k≤n∧v = .int .i64 k∧(∀ j,j<k→l1.getD j 0≤l2.getD j 0) ∧ ∃ m,wr=w0.drewN m) (fun v _=>n - (intOf v).toNat)
 case atStart=>exact ⟨0,Nat.zero_le _,rfl,fun j hj=>absurd hj (by omega),0,rfl⟩
 case round =>
  obtain ⟨k,hk,rfl,hall,m,rfl⟩:=hrel
  have H:=Lib.hid hall
  clear hall
  by_cases hlt:k<n
  ·obtain ⟨a1,ha1,hc1,_⟩:=(h1.ext e0).word hlt
   obtain ⟨a2,ha2,hc2,_⟩:=(h2.ext e0).word hlt
   go_wp2
   go_quiet (fail)
   go_wp2
   ·have hv:l2[k]?.getD 0<l1[k]?.getD 0:=by assumption
    go_ret
    refine ⟨ret_bool (Eq.symm (decide_eq_false fun hh=>?_)),(e0.drewN _).drewN _⟩
    have:=hh k hlt
    simp only [List.getD_eq_getElem?_getD] at this
    omega
   ·have hv:l1[k]?.getD 0≤l2[k]?.getD 0:=by assumption
    go_roundw
    case rel =>
     refine ⟨k+1,by omega,by go_num,fun j hj=>?_,_,rfl⟩
     by_cases hjk:j<k
     ·exact H.out j hjk
     ·obtain rfl:j=k:=by omega
      simpa only [List.getD_eq_getElem?_getD] using hv
    case measure=>simp [intOf];omega
  ·go_wp2
   go_ret
   refine ⟨ret_bool (Eq.symm (decide_eq_true fun j hj=>H.out j (by omega))),e0.drewN _⟩

theorem rleq_any (e1 e2:Int) (A1 A2:Option Addr) (n1 n2 c1 c2:Nat) (l1 l2:List Int) (w:World) (h1:Sl w 1 A1 n1 c1 (wds l1)) (h2:Sl w 1 A2 n2 c2 (wds l2)) :
  Calls Tryz.prog 119 #[.agg #[.int .u64 e1, .slice A1 n1 c1], .agg #[.int .u64 e2, .slice A2 n2 c2]] w fun e w'=>e = .returned (.bool (leqT e1 l1 e2 l2))∧Ext w w':=by
 have hl1:=h1.wlen
 have hl2:=h2.wlen
 by_cases hn:n1=n2
 ·subst hn
  by_cases hlt:e2<e1
  ·have hf:leqT e1 l1 e2 l2=false:=decide_eq_false fun hh=>by have:=hh.2.1;omega
   rw [hf];exact rleq_late e1 e2 A1 A2 n1 c1 c2 w hlt
  ·refine (rleq_same e1 e2 A1 A2 n1 c1 c2 l1 l2 w h1 h2 (by omega)).mono fun e w' ⟨he,hx⟩=>⟨he.trans (ret_bool ?_),hx⟩
   unfold leqT
   rw [decide_eq_decide,hl1,hl2]
   exact ⟨fun h=>⟨rfl,by omega,h⟩,fun h=>h.2.2⟩
 ·have hf:leqT e1 l1 e2 l2=false:=decide_eq_false fun hh=>by have:=hh.1;omega
  rw [hf]
  exact rleq_diff e1 e2 A1 A2 n1 n2 c1 c2 w (by simp;omega)
open Go.RowKit
theorem rtq_at {v:Bool} (e1 e2:Int) (A1 A2:Option Addr) (n1 n2 c1 c2:Nat) (l1 l2:List Int) (w:World) (hr:Hid (tleq (e1,l1) (e2,l2)=v)) (h1:Hid (Sl w 1 A1 n1 c1 (wds l1))) (h2:Hid (Sl w 1 A2 n2 c2 (wds l2))) :
  Calls Tryz.prog 119 #[.agg #[.int .u64 e1, .slice A1 n1 c1], .agg #[.int .u64 e2, .slice A2 n2 c2]] w fun e w'=>e = .returned (.bool v)∧Ext w w':=hr.out ▸ rleq_any e1 e2 A1 A2 n1 n2 c1 c2 l1 l2 w h1.out h2.out
/-- an element, its parts named: what the regions that draw want to know -/
structure TmAt (wr:World) (A:Option Addr) (k:Nat) (e:Int) (B:Option Addr) (n c:Nat) (l:List Int) (ad:Addr):Prop where
 addr:A=some ad
 c0 : ∀ y:Xt wr,y.W.cell? (ad.add (k * 2))=some (.int .u64 e)
 c1 : ∀ y:Xt wr,y.W.cell? ⟨(ad.add (k * 2)).block,(ad.add (k * 2)).off+1,none⟩=some (.slice B n c)
 sl : ∀ y:Xt wr,Hid (Sl y.W 1 B n c (wds l))
theorem Tin.tmAt {wr:World} {A:Option Addr} {c:Nat} {L:List Tm} (h:Tin wr A c L) {k:Nat} (hk:k<L.length) : ∃ e B n cc l ad,TmAt wr A k e B n cc l ad∧L.getD k Tm.zero=⟨e,B,cc,l⟩∧n=l.length:=by
 obtain ⟨ad,rfl,q0,q1⟩:=h.at hk
 have hs:=h.ls _ (getT_mem hk)
 obtain ⟨x,hx⟩ : ∃ x,L.getD k Tm.zero=x:=⟨_,rfl⟩
 rw [hx] at q0 q1 hs
 obtain ⟨e,B,cc,l⟩:=x
 exact ⟨e,B,l.length,cc,l,ad,⟨rfl,fun y=>y.x.cell q0,fun y=>y.x.cell q1,fun y=>Lib.hid (hs.ext y.x)⟩,hx,rfl⟩
end Go.Proofs.YtdgbkpoickbidaaGreatDoor
