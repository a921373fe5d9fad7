/- A trace's New, Insert, Work, Since, Upper, Allow, At, Holds. A trace's Allow, Share, Holds; a handle's Since, Allow, Drop. A trace's Share, Holds; a handle's Since, Allow, Drop. A handle's Drop. What a handle is told next: the plain side. What a trace's handles are told, all together. A handle's Next. Conditions: each theorem states its own. -/
import Derived.Test.YtdgbkpoickbidaaGreatDoorHr13
import Derived.Test.YtdgbkpoickbidaaGreatDoorHr10
import Derived.Deep.LoopGhost
namespace Go.Proofs.YtdgbkpoickbidaaGreatDoor
open Go.RowKit

def newT:TrV:=⟨newV,0,[]⟩
theorem okT_new:OkT newT:=⟨okV_new,⟨0,rfl⟩,⟨0,rfl⟩,by decide,fun h hh=>(nomatch hh),by decide⟩
def ShNew (w:World) (e:Ending) (w':World):Prop := ∃ gt t,e = .returned (.pointer (some ⟨gt,0,none⟩))∧ShR w' (fun k=>w.heap.size≤k∧k<w'.heap.size) gt t∧t.v=newT∧Ext w w'
theorem shNew_mem {w w1 w2 w3:World} {gs:Nat} {m:SpM} (s:SpR w1 (fun k=>w.heap.size≤k∧k<w1.heap.size) gs m) (x:Ext w w1) (h2:w2=w1.alloc (.map #[] 0)) (h3:w3=w2.alloc (.cells #[.pointer (some ⟨gs,0,none⟩), .int .u64 0, .map (some w1.heap.size)] 211)) (v:m.v=newV) :
  ∃ t,ShR w3 (fun k=>w.heap.size≤k∧k<w3.heap.size) (w1.heap.size+1) t∧t.v=newT∧Ext w w3:=by
 have z1:=x.size
 have z2:w2.heap.size=w1.heap.size+1:=by rw [h2];simp
 have z3:w3.heap.size=w1.heap.size+1+1:=by rw [h3];simp [z2]
 have x2:Ext w1 w2:=h2 ▸ (Ext.refl w1).alloc _
 have x3:Ext w2 w3:=h3 ▸ (Ext.refl w2).alloc _
 have hm:PM w2 w1.heap.size [] 0:=⟨by rw [h2];exact heap_alloc_new w1 _,fun x hx=>(nomatch hx),List.nodup_nil,List.nodup_nil,fun x hx=>(nomatch hx)⟩
 refine ⟨⟨gs,m,fun k=>w.heap.size≤k∧k<w1.heap.size,0,w1.heap.size,[],0,[]⟩,⟨h3 ▸ Bk.at z2.symm,⟨by omega,by omega⟩,s.ext (x2.trans x3),fun k hk=>⟨hk.1,by omega⟩,hm.ext x3,⟨by show _≤w1.heap.size;omega,by show w1.heap.size<_;omega⟩,fun x hx=>(nomatch hx),fun q=>by omega,fun q=>by have:=q.2;simp only at this;omega,List.nodup_nil,fun x hx=>(nomatch hx),fun y hy=>(nomatch hy),fun k hk=>hk.2⟩,?_,(x.trans x2).trans x3⟩
 show TrV.mk m.v 0 []=_
 rw [v]
 rfl
set_option maxRecDepth 100000 in
set_option maxHeartbeats 1000000 in
theorem shNew_any (w:World):Calls Tryz.prog 70 #[] w (ShNew w):=by
 have hmm:=@run_makeMap Tryz.prog
 go_enter Tryz.func70,Tryz.ntmps70
 go_wp2_with (go_at_call 43;refine (spNew_any _).mono ?_;rintro r w1 ⟨gs,m,rfl,s1,v1,x1⟩;have HM:=Lib.hid (shNew_mem s1 x1 rfl rfl v1);clear s1 v1 x1)
 go_ret
 obtain ⟨t,h1,h2,h3⟩:=HM.out
 exact ⟨_,t,rfl,h1,h2,h3⟩
/-! ### Insert -/
def tinsV (t:TrV) (l:List UV) (u:Int):Int × TrV:=((insV t.s l [(u,[])]).1,{ t with s:=(insV t.s l [(u,[])]).2 })
set_option maxRecDepth 100000 in
set_option maxHeartbeats 4000000 in
theorem tins_any {q:Int × TrV} (gt:Nat) (t:ShM) (R:Nat→Prop) (AL:Option Addr) (cL n:Nat) (L:List Ud) (u:Int) (w:World) (hq:Hid (tinsV t.v (L.map Ud.uv) u=q)) (h:Hid (ShR w R gt t)) (ok:Hid (OkT t.v)) (hn:Hid (n=L.length)) (hL:Hid (Uin w AL cL L)) (h9:n≤1000000) (hin:Hid (∀ x∈L,InU x)) (G:Hid (Good w)) :
  Calls Tryz.prog 71 #[.pointer (some ⟨gt,0,none⟩), .slice AL n cL, .int .u64 u] w fun e w'=>e = .returned (.int .u16 q.1)∧ShTo w R gt q.2 w':=by
 obtain ⟨iv,hiv⟩ : ∃ v,insV t.m.v (L.map Ud.uv) [(u,[])]=v:=⟨_,rfl⟩
 have HIV:Hid (insV t.m.v (L.map Ud.uv) ([(⟨u,none,0,[]⟩:Tm)].map Tm.v)=iv):=Lib.hid hiv
 have hq1:q=(iv.1,⟨iv.2,t.lets,t.H⟩):=by
  rw [← hq.out]
  unfold tinsV
  show ((insV t.m.v (L.map Ud.uv) [(u,[])]).1,_)=_
  rw [hiv]
  show (iv.1,TrV.mk (insV t.m.v (L.map Ud.uv) [(u,[])]).2 _ _)=_
  rw [hiv]
  rfl
 subst hq1
 obtain ⟨gs,hgs⟩ : ∃ g,t.gs=g:=⟨_,rfl⟩
 have HGS:=Lib.hid hgs
 have HC0:Hid (∀ W,Ext w W→W.cell? ⟨gt,0,none⟩=some (.pointer (some ⟨gs,0,none⟩))):=Lib.hid (fun W x=>hgs ▸ (h.out.bk.ext x).cell 0)
 have HS:Hid (SpR w t.Rs gs t.m):=Lib.hid (hgs ▸ h.out.sp)
 clear hiv hgs hq
 go_enter Tryz.func71,Tryz.ntmps71
 have XD:Ext w w.drew:=(Ext.refl w).drew
 have Q0 : ∀ y:Xt w.drew,y.W.cell? ⟨gt,0,none⟩=some (.pointer (some ⟨gs,0,none⟩)):=fun y=>HC0.out _ (XD.trans y.x)
 go_upto_region 1 with fail
 refine wp_region_ord [0,1,3,7,15,0,0,64,192,511,1023] (.flo [0,1,2,3,4,5,6] (.ext 7 (.ext 8 (.one 9 (.flo [10] (.fin)))))) (by kernel_rfl) (by kernel_rfl) (by intro _ _ d _ _ h;cases d<;>exact h) ?_
 (refine ord_flo (pick_cons rfl (pick_cons rfl (pick_cons rfl (pick_cons rfl (pick_cons rfl (pick_cons rfl (pick_cons rfl pick_nil))))))) ?_;(repeat (go_big_quiet_step (fail)));refine wpQuiet_nil ?_;show ordWalk _ _ _ _ _ _ _)
 refine ord_ext (pick_cons rfl pick_nil) ?_;intro K_ hK_
 go_wp2_with (go_at_call 172;refine (at_any u _).mono ?_;rintro r w3 ⟨rfl,x3⟩;have X3:=Lib.hid (XD.trans x3);have Y3:=Lib.hid x3;clear x3)
 refine ordNext.mk Y3.out ?_
 refine ord_ext (pick_cons rfl pick_nil) ?_;intro K_ hK_
 go_wp2
 refine ordNext.mk ((Ext.refl _).alloc _) ?_
 clear Q0 XD
 refine ord_one (pick_cons rfl pick_nil) ?_;intro K_ hK_
 have X4:Hid (Ext w (w3.alloc (.cells #[.int .u64 u, .slice none 0 0] 26))):=Lib.hid (X3.out.alloc _)
 have HX4:Hid (∀ W,Upd t.Rs (w3.alloc (.cells #[.int .u64 u, .slice none 0 0] 26)) W→Tin W (some ⟨w3.heap.size,0,none⟩) 1 [⟨u,none,0,[]⟩]):=Lib.hid (fun W q=>tin_at (sl_alloc w3 _ _ [.int .u64 u, .slice none 0 0] 2 1 rfl rfl (by decide)) q (fun r=>by have a:=h.out.low _ (h.out.sub _ r);have b:=X3.out.size;omega))
 go_wp2_with (go_at_call 44;refine (spIns_any (q:=iv) gs t.m t.Rs AL cL n L (some ⟨w3.heap.size,0,none⟩) 1 1 [⟨u,none,0,[]⟩] _ HIV (Lib.hid (HS.out.ext X4.out)) hn (Lib.hid (hL.out.ext X4.out)) h9 hin (Lib.hid rfl) HX4 (Lib.hid (few1_at _)) ok.out.ok.sp.nb (Lib.hid (G.out.ext X4.out))).mono ?_;rintro r w5 ⟨m5,rfl,s5,v5,u5⟩;have HR:Hid (ShTo w R gt ⟨iv.2,t.lets,t.H⟩ w5):=Lib.hid (by have k:=ShTo.spine h.out X4.out u5 (by rw [HGS.out];exact s5) v5;exact k);clear s5 v5 u5)
 (refine ord_flo (pick_cons rfl pick_nil) ?_;(repeat (go_big_quiet_step (fail)));refine wpQuiet_nil ?_;show ordWalk _ _ _ _ _ _ _)
 refine ord_fin ?_
 go_wp2
 go_ret
 exact ⟨rfl,HR.out⟩
/-! ### Work -/
def WorkT (t:TrV) (z:Int) (r:Nat) (v:TrV):Prop := ∃ s',v={ t with s:=s' }∧((s'=t.s∧r=0∧z<1) ∨ ∃ n:Nat,z=n∧0<n∧WorkR t.s n s' r)
set_option maxRecDepth 100000 in
set_option maxHeartbeats 1000000 in
theorem twork_any (gt:Nat) (t:ShM) (R:Nat→Prop) (z:Int) (w:World) (h:Hid (ShR w R gt t)) (ok:Hid (OkT t.v)) (hz:z≤9223372036854775807) :
  Calls Tryz.prog 72 #[.pointer (some ⟨gt,0,none⟩), .int .i64 z] w fun e w' => ∃ (r:Nat) (v:TrV),e = .returned (.int .i64 r)∧WorkT t.v z r v∧OkV v.s∧ShTo w R gt v w':=by
 obtain ⟨gs,hgs⟩ : ∃ g,t.gs=g:=⟨_,rfl⟩
 have HGS:=Lib.hid hgs
 have c0:w.cell? ⟨gt,0,none⟩=some (.pointer (some ⟨gs,0,none⟩)):=hgs ▸ h.out.bk.cell 0
 have HS:Hid (SpR w t.Rs gs t.m):=Lib.hid (hgs ▸ h.out.sp)
 clear hgs
 go_enter Tryz.func72,Tryz.ntmps72
 go_wp2_with (go_at_call 47;refine (work_gen gs z t.m t.Rs _ HS (Lib.hid ok.out.ok) hz (Lib.hid (fun k hk=>h.out.low _ (h.out.sub k hk)))).mono ?_;rintro r w1 hres;have HR:Hid (SpWorkG w t.Rs gs t.m.v z r w1):=Lib.hid hres;obtain ⟨m',rr,rfl,hx⟩:=hres;clear hx)
 go_ret
 obtain ⟨m1,r1,e1,s1,v1,o1,u1⟩:=HR.out
 injection e1 with e1
 injection e1 with _ e1
 have er:rr=r1:=by omega
 subst er
 exact ⟨rr,⟨m1.v,t.lets,t.H⟩,rfl,⟨m1.v,rfl,v1⟩,o1,ShTo.spine h.out (Ext.refl _) u1 (by rw [HGS.out];exact s1) rfl⟩
/-! ### Since, Upper, Holds -/
set_option maxRecDepth 100000 in
set_option maxHeartbeats 400000 in
theorem tsince_any (gt:Nat) (t:ShM) (R:Nat→Prop) (w:World) (h:Hid (ShR w R gt t)):Calls Tryz.prog 87 #[.pointer (some ⟨gt,0,none⟩)] w fun e w'=>e = .returned (.int .u64 t.v.least)∧Ext w w':=by
 go_enter Tryz.func87,Tryz.ntmps87
 go_wp2_with (go_at_call 175;refine (least_any gt t R _ h).mono ?_;rintro r w1 ⟨rfl,x1⟩;have X1:=Lib.hid x1;clear x1)
 go_ret
 exact ⟨rfl,X1.out⟩
/-! ### At -/
def atT (t:TrV) (e:Int):Int × List (List Dat × Int):=if e<t.least then (121,[]) else atS t.s (e,[])
set_option maxRecDepth 100000 in
set_option maxHeartbeats 2000000 in
theorem tat_any {q:Int × List (List Dat × Int)} (gt:Nat) (t:ShM) (R:Nat→Prop) (n:Int) (w:World) (hq:Hid (atT t.v n=q)) (h:Hid (ShR w R gt t)) (ok:Hid (OkT t.v)) (G:Hid (Good w)) :
  Calls Tryz.prog 80 #[.pointer (some ⟨gt,0,none⟩), .int .u64 n] w (SpAtRes w q):=by
 obtain ⟨ln,hl⟩ : ∃ k,leastV t.lets t.H=k:=⟨_,rfl⟩
 have HLE:Hid (∀ W:World,Calls Tryz.prog 175 #[.pointer (some ⟨gt,0,none⟩)] w fun e w'=>e = .returned (.int .u64 ln)∧Ext w w'):=Lib.hid (fun _=>hl ▸ least_any gt t R w h)
 have he:atT t.v n=if n<ln then (121,[]) else atS t.v.s (n,[]):=by rw [← hl];rfl
 have HQ:=Lib.hid (he.symm.trans hq.out)
 obtain ⟨gs,hgs⟩ : ∃ g,t.gs=g:=⟨_,rfl⟩
 have HC0:Hid (∀ W,Ext w W→W.cell? ⟨gt,0,none⟩=some (.pointer (some ⟨gs,0,none⟩))):=Lib.hid (fun W x=>hgs ▸ (h.out.bk.ext x).cell 0)
 have HS:Hid (SpR w t.Rs gs t.m):=Lib.hid (hgs ▸ h.out.sp)
 clear hl he hgs hq
 by_cases hlt:n<ln
 ·have hqq:q=(121,[]):=by have:=HQ.out;rw [if_pos hlt] at this;exact this.symm
  subst hqq
  go_enter Tryz.func80,Tryz.ntmps80
  go_wp2_with (go_at_call 175;refine (HLE.out w).mono ?_;rintro r w1 ⟨rfl,x1⟩;have X1:=Lib.hid x1;clear x1)
  go_returns
  exact ⟨_,_,_,rfl,dat_nil X1.out⟩
 ·have HA:Hid (atS t.m.v (n,[])=q):=Lib.hid (by have:=HQ.out;rw [if_neg hlt] at this;exact this)
  go_enter Tryz.func80,Tryz.ntmps80
  go_upto_region 3 with (first
   | (go_at_call 175;refine (HLE.out w).mono ?_;rintro r w1 ⟨rfl,x1⟩;have X1:=Lib.hid x1;clear x1)
   | fail)
  have XD:Ext w1 w1.drew:=(Ext.refl w1).drew
  have Q0 : ∀ y:Xt w1.drew,y.W.cell? ⟨gt,0,none⟩=some (.pointer (some ⟨gs,0,none⟩)):=fun y=>HC0.out _ (X1.out.trans (XD.trans y.x))
  refine wp_region_ord [0,1,3,7,15,0,32,127,255,255,1023,2047] (.flo [0,1,2,3,4,5] (.ext 6 (.one 7 (.flo [8,9,10,11] (.fin))))) (by kernel_rfl) (by kernel_rfl) (by intro _ _ d _ _ h;cases d<;>exact h) ?_
  (refine ord_flo (pick_cons rfl (pick_cons rfl (pick_cons rfl (pick_cons rfl (pick_cons rfl (pick_cons rfl pick_nil)))))) ?_;(repeat (go_big_quiet_step (fail)));refine wpQuiet_nil ?_;show ordWalk _ _ _ _ _ _ _)
  refine ord_ext (pick_cons rfl pick_nil) ?_;intro K_ hK_
  go_wp2_with (go_at_call 172;refine (at_any n _).mono ?_;rintro r w3 ⟨rfl,x3⟩;have X3:=Lib.hid (X1.out.trans (XD.trans x3));have Y3:=Lib.hid x3;clear x3)
  refine ordNext.mk Y3.out ?_
  clear Q0 XD
  refine ord_one (pick_cons rfl pick_nil) ?_;intro K_ hK_
  go_wp2_with (go_at_call 46;refine (spAt_any (q:=q) gs t.m t.Rs n none 0 0 [] _ HA (Lib.hid (HS.out.ext X3.out)) (Lib.hid ok.out.ok.sp) (Lib.hid rfl) (Lib.hid (Sl.nil _ _)) (G.out.ext X3.out)).mono ?_;rintro r w5 ⟨A5,n5,c5,rfl,d5⟩;have HD:=Lib.hid d5;clear d5)
  (refine ord_flo (pick_cons rfl (pick_cons rfl (pick_cons rfl (pick_cons rfl pick_nil)))) ?_;(repeat (go_big_quiet_step (fail)));refine wpQuiet_nil ?_;show ordWalk _ _ _ _ _ _ _)
  refine ord_fin ?_
  go_wp2
  go_returns
  exact ⟨_,_,_,rfl,dat_back HD.out X3.out⟩
open Go.RowKit
def setH (H:List Hv) (x:Hv):List Hv:=H.map fun y=>if y.g=x.g then x else y
theorem setH_mem {H:List Hv} {x y:Hv} (h:y∈setH H x):y=x∨(y∈H∧y.g≠x.g):=by
 obtain ⟨z,hz,e⟩:=List.mem_map.1 h
 split at e
 ·exact .inl e.symm
 ·rename_i hn
  rw [← e]
  exact .inr ⟨hz,hn⟩
theorem setH_has {H:List Hv} {x y:Hv} (hy:y∈H) (hn:y.g≠x.g):y∈setH H x:=List.mem_map.2 ⟨y,hy,by rw [if_neg hn]⟩
theorem setH_new {H:List Hv} {x y:Hv} (hy:y∈H) (e:y.g=x.g):x∈setH H x:=List.mem_map.2 ⟨y,hy,by rw [if_pos e]⟩
theorem setH_g (H:List Hv) (x:Hv):(setH H x).map Hv.g=H.map Hv.g:=by
 unfold setH
 rw [List.map_map]
 exact List.map_congr_left fun y _=>by
  show (if y.g=x.g then x else y).g=y.g
  split
  ·rename_i h;exact h.symm
  ·rfl
section
variable {w w':World} {R:Nat→Prop} {gt:Nat} {t:ShM}
theorem ShR.uniq (h:ShR w R gt t) {x y:Hv} (hx:x∈t.H) (hy:y∈t.H) (e:x.g=y.g):x=y:=nodup_inj h.nd hx hy e
/-- a handle's block is written; whether it is ended stays -/
theorem ShR.hd (h:ShR w R gt t) {x x':Hv} (hx:x∈t.H) (eg:x'.g=x.g) (ee:x'.ended=x.ended) (u:Upd (fun k=>k=x.g) w w') (b:Bk w' x.g 215 (x'.cs gt)):ShR w' R gt { t with H:=setH t.H x' }:=by
 obtain ⟨hb,hr,hn⟩:=h.hs x hx
 obtain ⟨n1,n2⟩:=h.hd_ne hx
 refine ⟨h.bk.upd u (fun e=>n1 e.symm),h.rg,h.sp.upd u (fun k hk e=>hn (e ▸ hk)),h.sub,⟨(u.block t.bm h.pm.lt (fun e=>n2 e.symm)).trans h.pm.bk,h.pm.st,h.pm.nb,h.pm.ng,fun y hy=>?_⟩,h.rb,fun y hy=>?_,h.nt,h.nb,by show ((setH t.H x').map Hv.g).Nodup;rw [setH_g];exact h.nd,fun y hy=>?_,fun y hy he=>?_,fun k hk=>Nat.lt_of_lt_of_le (h.low k hk) u.size⟩
 ·obtain ⟨c,hc⟩:=h.pm.hb y hy
  by_cases q:y.g=x.g
  ·exact ⟨_,q ▸ b⟩
  ·exact ⟨c,hc.upd u q⟩
 ·rcases setH_mem hy with e | ⟨hy,hn'⟩
  ·rw [e,eg];exact ⟨b,hr,hn⟩
  ·obtain ⟨b2,r2,q2⟩:=h.hs y hy
   exact ⟨b2.upd u (fun e=>hn' (e.trans eg.symm)),r2,q2⟩
 ·obtain ⟨z,hz,e,he⟩:=h.le y hy
  by_cases q:z.g=x.g
  ·have ez:=h.uniq hz hx q
   exact ⟨x',setH_new hx eg.symm,by rw [eg, ← q,e],by rw [ee, ← ez,he]⟩
  ·exact ⟨z,setH_has hz (by rw [eg];exact q),e,he⟩
 ·rcases setH_mem hy with e | ⟨hy,hn'⟩
  ·rw [e,ee] at he
   obtain ⟨z,hz,q⟩:=h.lh x hx he
   exact ⟨z,hz,by rw [e,eg,q]⟩
  ·exact h.lh y hy he
/-- what the trace lets go -/
theorem ShR.put_lets (h:ShR w R gt t) (n:Int):ShR (w.setCell ⟨gt,1,none⟩ (.int .u64 n)) R gt { t with lets:=n }∧Upd R w (w.setCell ⟨gt,1,none⟩ (.int .u64 n)):=by
 have u:Upd (fun k=>k=gt) w (w.setCell ⟨gt,1,none⟩ (.int .u64 n)):=(Upd.refl (fun k=>k=gt) w).setCell (p:=⟨gt,1,none⟩) (.inl rfl) _
 refine ⟨⟨h.bk.set 1 _,h.rg,h.sp.upd u (fun k hk e=>h.nt (e ▸ hk)),h.sub,h.pm.upd u (fun e=>h.bm_ne e.symm) (fun x hx e=>?_),h.rb,fun x hx=>?_,h.nt,h.nb,h.nd,h.le,h.lh,fun k hk=>Nat.lt_of_lt_of_le (h.low k hk) u.size⟩,u.mono fun k _ e=>e ▸ h.rg⟩
 ·obtain ⟨y,hy,q,_⟩:=h.le x hx
  exact (h.hd_ne hy).1 (q.trans e)
 ·obtain ⟨b,r,n⟩:=h.hs x hx
  exact ⟨b.upd u (h.hd_ne hx).1,r,n⟩
end
theorem ShTo.next {w w1 w':World} {R:Nat→Prop} {gt:Nat} {v:TrV} (u:Upd R w w1) (h:ShTo w1 R gt v w'):ShTo w R gt v w':=by
 obtain ⟨t',h1,h2,h3⟩:=h
 have z:=u.size
 have z2:=h3.size
 refine ⟨t',h1.wide (fun k hk=>hk.elim .inl fun q => .inr ⟨Nat.le_trans z q.1,q.2⟩) (fun k hk=>?_),h2,u.trans h3⟩
 rcases hk with hk | hk
 ·exact h1.low k (.inl hk)
 ·exact hk.2
/-! ### values -/
theorem minL_mono : ∀ (l:List Int) {a b:Int},a≤b→minL a l≤minL b l
 | [],_,_,h=>h
 | y :: l,a,b,h=>minL_mono l (show min a y≤min b y by omega)
theorem okT_lets {t:TrV} (h:OkT t) {n:Int} (h1:t.lets≤n) (h2:n≤18446744073709551615):OkT { t with lets:=n } :=
 ⟨h.ok,h.S,h.U,⟨Int.le_trans h.lets.1 h1,h2⟩,h.hs,Int.le_trans h.low (minL_mono _ h1)⟩
theorem up_in {t:TrV} (h:OkT t):0≤t.up∧t.up≤18446744073709551615:=by
 obtain ⟨u,hu⟩:=h.U
 have:=h.ok.eu (u,[]) (by rw [hu];exact List.mem_singleton.2 rfl)
 have e:t.up=u:=by unfold TrV.up;rw [hu];rfl
 rw [e]
 exact this
def allowT (t:TrV) (n:Int):Int × TrV:=if n<t.lets∨t.up<n then (120,t) else (0,compactT { t with lets:=n })
/-! ### Allow -/
set_option maxRecDepth 100000 in
set_option maxHeartbeats 4000000 in
theorem tallow_any {q:Int × TrV} (gt:Nat) (t:ShM) (R:Nat→Prop) (n:Int) (w:World) (hq:Hid (allowT t.v n=q)) (h:Hid (ShR w R gt t)) (ok:Hid (OkT t.v)) :
  Calls Tryz.prog 73 #[.pointer (some ⟨gt,0,none⟩), .int .u64 n] w fun e w'=>e = .returned (.int .u16 q.1)∧ShTo w R gt q.2 w':=by
 obtain ⟨lt,hl⟩ : ∃ k,t.lets=k:=⟨_,rfl⟩
 obtain ⟨up,hu⟩ : ∃ k,t.v.up=k:=⟨_,rfl⟩
 have he:allowT t.v n=if n<lt∨up<n then (120,t.v) else (0,compactT { t.v with lets:=n }):=by rw [← hl, ← hu];rfl
 have HQ:=Lib.hid (he.symm.trans hq.out)
 have HM:Hid (∀ W:World,Ext w W→Calls Tryz.prog 173 #[.pointer (some ⟨gt,0,none⟩)] W fun e w'=>e = .returned (.int .u64 up)∧Ext W w'):=Lib.hid (fun W x=>hu ▸ most_any gt t R W (Lib.hid (h.out.ext x)) ok)
 have HLT:=Lib.hid hl
 have HUP:=Lib.hid hu
 have c1:w.cell? ⟨gt,1,none⟩=some (.int .u64 lt):=hl ▸ h.out.bk.cell 1
 clear hl hu he hq
 by_cases h1:n<lt
 ·have hqq:q=(120,t.v):=by have:=HQ.out;rw [if_pos (.inl h1)] at this;exact this.symm
  subst hqq
  go_enter Tryz.func73,Tryz.ntmps73
  go_wp2
  go_ret
  exact ⟨rfl,ShTo.stay h.out (Ext.refl _)⟩
 ·by_cases h2:up<n
  ·have hqq:q=(120,t.v):=by have:=HQ.out;rw [if_pos (.inr h2)] at this;exact this.symm
   subst hqq
   go_enter Tryz.func73,Tryz.ntmps73
   go_wp2_with (go_at_call 173;refine (HM.out w (Ext.refl _)).mono ?_;rintro r w1 ⟨rfl,x1⟩;have X1:=Lib.hid x1;clear x1)
   go_ret
   exact ⟨rfl,ShTo.stay h.out X1.out⟩
  ·have hqq:q=(0,compactT { t.v with lets:=n }):=by have:=HQ.out;rw [if_neg (fun e=>e.elim h1 h2)] at this;exact this.symm
   subst hqq
   have HOK:Hid (OkT { t.v with lets:=n }):=Lib.hid (okT_lets ok.out (by show t.lets≤n;rw [HLT.out];omega) (by have:=(up_in ok.out).2;have:=HUP.out;omega))
   go_enter Tryz.func73,Tryz.ntmps73
   have m1:True:=trivial
   go_wp2_with (first
    | (go_at_call 173;have mk:=m1;clear m1 mk;refine (HM.out w (Ext.refl _)).mono ?_;rintro r w1 ⟨rfl,x1⟩;have X1:=Lib.hid x1;have c11:w1.cell? ⟨gt,1,none⟩=some (.int .u64 lt):=x1.cell c1;have f11:=(h.out.bk.ext x1).free 1;have l11:=(h.out.bk.ext x1).lt;have HP:=Lib.hid ((h.out.ext x1).put_lets n);clear x1;have m2:True:=trivial)
    | (go_at_call 174;have mk:=m2;clear m2 mk;refine (tcompact_any gt { t with lets:=n } R _ (Lib.hid HP.out.1) HOK).mono ?_;rintro r w2 ⟨rfl,k2⟩;have K2:Hid (ShTo w R gt (compactT { t.v with lets:=n }) w2):=Lib.hid (ShTo.next ((Upd.ext X1.out).trans HP.out.2) k2);clear k2)
    | fail)
   go_ret
   exact ⟨rfl,K2.out⟩
open Go.RowKit
/-! ### Share -/
def newH (g:Nat) (e:Int):Hv:=⟨g,e,e,false,false⟩
/-- what Share leaves: the new handle lies in new memory -/
def ShShare (w:World) (R:Nat→Prop) (gt:Nat) (t:TrV) (n:Int) (e:Ending) (w':World):Prop :=
 (n<t.least∧e = .returned (.tuple #[.pointer none, .int .u16 121])∧ShTo w R gt t w') ∨
 (¬ n<t.least ∧ ∃ g,w.heap.size≤g∧e = .returned (.tuple #[.pointer (some ⟨g,0,none⟩), .int .u16 0])∧ShTo w R gt { t with hs:=t.hs++[newH g n] } w')
theorem ShR.add {w w1 w2 w':World} {R:Nat→Prop} {gt:Nat} {t:ShM} (h:ShR w R gt t) (x1:Ext w w1) {n:Int} (h2:w2=w1.alloc (.cells ((newH w1.heap.size n).cs gt) 215)) (hm:PM w' t.bm (t.L++[⟨w1.heap.size,t.clock⟩]) (t.clock+1)) (gr:w2.grownBy w' (some t.bm)) (hz:w'.heap.size=w2.heap.size) :
  ShTo w R gt { t.v with hs:=t.v.hs++[newH w1.heap.size n] } w':=by
 have x2:Ext w1 w2:=h2 ▸ (Ext.refl w1).alloc _
 have z2:w2.heap.size=w1.heap.size+1:=by rw [h2];simp
 have z1:=x1.size
 have hh:=h.ext (x1.trans x2)
 have u:Upd (fun k=>k=t.bm) w2 w':=⟨gr.os,gr.tape,gr.output,gr.size,fun k hk hn=>gr.block k hk (fun e=>hn (by injection e))⟩
 have bg:Bk w2 w1.heap.size 215 ((newH w1.heap.size n).cs gt):=h2 ▸ Bk.new w1 _ _
 have hb9:=hh.pm.lt
 have hbl:=h.low _ h.rb
 have bn:w1.heap.size≠t.bm:=by omega
 have nR : ∀ k,R k→k≠w1.heap.size:=fun k hk e=>by have:=h.low k hk;omega
 refine ⟨{ t with L:=t.L++[⟨w1.heap.size,t.clock⟩],clock:=t.clock+1,H:=t.H++[newH w1.heap.size n] },⟨hh.bk.upd u h.bm_ne, .inl h.rg,hh.sp.upd u (fun k hk e=>h.nb (e ▸ hk)),fun k hk => .inl (h.sub k hk),hm, .inl h.rb,fun y hy=>?_,h.nt,h.nb,?_,fun y hy=>?_,fun y hy he=>?_,fun k hk=>?_⟩,rfl,(Upd.ext (x1.trans x2)).trans (u.mono fun k _ e=>e ▸ h.rb)⟩
 ·rcases List.mem_append.1 hy with hy | hy
  ·obtain ⟨b,r,q⟩:=hh.hs y hy
   exact ⟨b.upd u (h.hd_ne hy).2, .inl r,q⟩
  ·rw [List.mem_singleton.1 hy]
   exact ⟨bg.upd u bn, .inr ⟨z1,by show w1.heap.size<_;omega⟩,fun q=>nR _ (h.sub _ q) rfl⟩
 ·show ((t.H++[newH w1.heap.size n]).map Hv.g).Nodup
  rw [List.map_append]
  refine List.nodup_append.2 ⟨h.nd,by simp,fun a ha c hc=>?_⟩
  obtain ⟨y,hy,rfl⟩:=List.mem_map.1 ha
  rw [List.mem_singleton.1 (show c∈[w1.heap.size] from hc)]
  exact nR _ (h.hs y hy).2.1
 ·rcases List.mem_append.1 hy with hy | hy
  ·obtain ⟨z,hz,q⟩:=h.le y hy
   exact ⟨z,List.mem_append_left _ hz,q⟩
  ·rw [List.mem_singleton.1 hy]
   exact ⟨newH w1.heap.size n,by simp,rfl,rfl⟩
 ·rcases List.mem_append.1 hy with hy | hy
  ·obtain ⟨z,hz,q⟩:=h.lh y hy he
   exact ⟨z,List.mem_append_left _ hz,q⟩
  ·rw [List.mem_singleton.1 hy]
   exact ⟨⟨w1.heap.size,t.clock⟩,by simp,rfl⟩
 ·rcases hk with hk | hk
  ·have:=h.low k hk;omega
  ·exact hk.2
set_option maxRecDepth 100000 in
set_option maxHeartbeats 4000000 in
theorem tshare_any (gt:Nat) (t:ShM) (R:Nat→Prop) (n:Int) (w:World) (h:Hid (ShR w R gt t)) :
  Calls Tryz.prog 74 #[.pointer (some ⟨gt,0,none⟩), .int .u64 n] w (ShShare w R gt t.v n):=by
 obtain ⟨ln,hl⟩ : ∃ k,leastV t.lets t.H=k:=⟨_,rfl⟩
 have HLE:Hid (∀ W:World,Calls Tryz.prog 175 #[.pointer (some ⟨gt,0,none⟩)] w fun e w'=>e = .returned (.int .u64 ln)∧Ext w w'):=Lib.hid (fun _=>hl ▸ least_any gt t R w h)
 have HV:Hid (t.v.least=ln):=Lib.hid hl
 obtain ⟨bm,hbm⟩ : ∃ b,t.bm=b:=⟨_,rfl⟩
 have HBM:=Lib.hid hbm
 have HC2:Hid (∀ W,Ext w W→W.cell? ⟨gt,2,none⟩=some (.map (some bm))):=Lib.hid (fun W x=>hbm ▸ (h.out.bk.ext x).cell 2)
 clear hl hbm
 by_cases hlt:n<ln
 ·go_enter Tryz.func74,Tryz.ntmps74
  go_wp2_with (go_at_call 175;refine (HLE.out w).mono ?_;rintro r w1 ⟨rfl,x1⟩;have X1:=Lib.hid x1;clear x1)
  go_returns
  exact .inl ⟨by rw [HV.out];exact hlt,rfl,ShTo.stay h.out X1.out⟩
 ·go_enter Tryz.func74,Tryz.ntmps74
  have m1:True:=trivial
  go_wp2_with (first
   | (go_at_call 175;have mk:=m1;clear m1 mk;refine (HLE.out w).mono ?_;rintro r w1 ⟨rfl,x1⟩;have X1:=Lib.hid x1;have XA:Hid (Ext w1 (w1.alloc (.cells #[.pointer (some ⟨gt,0,none⟩), .int .u64 n, .int .u64 n, .bool false, .bool false] 215))):=Lib.hid ((Ext.refl _).alloc _);have BG:Hid (Bk (w1.alloc (.cells #[.pointer (some ⟨gt,0,none⟩), .int .u64 n, .int .u64 n, .bool false, .bool false] 215)) w1.heap.size 215 #[.pointer (some ⟨gt,0,none⟩), .int .u64 n, .int .u64 n, .bool false, .bool false]):=Lib.hid (Bk.new _ _ _);have c2:=HC2.out _ (X1.out.trans XA.out);have HPM:Hid (PM (w1.alloc (.cells #[.pointer (some ⟨gt,0,none⟩), .int .u64 n, .int .u64 n, .bool false, .bool false] 215)) bm t.L t.clock):=Lib.hid (by rw [← HBM.out];exact h.out.pm.ext (X1.out.trans XA.out));have HNG:Hid (∀ x∈t.L,x.g≠w1.heap.size):=Lib.hid (fun x hx e=>by obtain ⟨y,hy,q,_⟩:=h.out.le x hx;have:=h.out.low _ (h.out.hs y hy).2.1;have:=X1.out.size;omega);clear x1)
   | (at_mapUpdate;refine wpList_put_pm rfl _ _ _ rfl rfl w1.heap.size rfl rfl HPM.out _ BG.out HNG.out ?_;intro w3 p3 g3 z3;have P3:=Lib.hid p3;have G3:=Lib.hid g3;have Z3:=Lib.hid z3;clear p3 g3 z3)
   | fail)
  go_returns
  refine .inr ⟨by rw [HV.out];omega,w1.heap.size,X1.out.size,rfl,?_⟩
  exact h.out.add X1.out rfl (by rw [HBM.out];exact P3.out) (by rw [HBM.out];exact G3.out) Z3.out
/-! ### Holds, a handle's Since -/
/-! ### a handle's Allow -/
def hallowT (t:TrV) (x:Hv) (n:Int):Int × TrV:=if x.ended=true then (7,t) else if n<x.hold∨(if x.begun=true then x.seen - 1 else x.seen)<n then (120,t) else (0,compactT { t with hs:=setH t.hs { x with hold:=n } })
theorem okT_hold {t:TrV} (h:OkT t) {x:Hv} (hx:x∈t.hs) (nd:(t.hs.map Hv.g).Nodup) (he:x.ended=false) {n:Int} (h1:x.hold≤n) (h2:n≤(if x.begun=true then x.seen - 1 else x.seen)):OkT { t with hs:=setH t.hs { x with hold:=n } }:=by
 have hxx:=h.hs x hx
 refine ⟨h.ok,h.S,h.U,h.lets,fun y hy=>?_,?_⟩
 ·rcases setH_mem hy with e | ⟨hy,_⟩
  ·rw [e]
   refine ⟨⟨by show 0≤n;omega,?_,hxx.1.2.2⟩,fun hb=>⟨?_,(hxx.2 hb).2⟩⟩
   ·show n≤x.seen
    split at h2<;>omega
   ·have hb2:x.begun=true:=hb
    rw [if_pos hb2] at h2
    show n+1≤x.seen
    omega
  ·exact h.hs y hy
 ·refine Int.le_trans h.low ?_
  show minL t.lets _≤minL t.lets _
  have a:=minL_le ((t.hs.filter fun h => !h.ended).map Hv.hold) t.lets
  have b:=minL_le (((setH t.hs { x with hold:=n }).filter fun h => !h.ended).map Hv.hold) t.lets
  rcases b.2.2 with q | q
  ·rw [q];exact a.1
  ·obtain ⟨y,hy,e⟩:=List.mem_map.1 q
   obtain ⟨hy,hye⟩:=List.mem_filter.1 hy
   rw [← e]
   rcases setH_mem hy with e2 | ⟨hy,_⟩
   ·rw [e2]
    exact Int.le_trans (a.2.1 x.hold (List.mem_map.2 ⟨x,List.mem_filter.2 ⟨hx,by simp [he]⟩,rfl⟩)) h1
   ·exact a.2.1 y.hold (List.mem_map.2 ⟨y,List.mem_filter.2 ⟨hy,hye⟩,rfl⟩)
set_option maxRecDepth 100000 in
set_option maxHeartbeats 4000000 in
theorem hallow_any {q:Int × TrV} (gt:Nat) (t:ShM) (R:Nat→Prop) (x:Hv) (n:Int) (w:World) (hq:Hid (hallowT t.v x n=q)) (h:Hid (ShR w R gt t)) (ok:Hid (OkT t.v)) (hx:Hid (x∈t.H)) (hn:0≤n) :
  Calls Tryz.prog 76 #[.pointer (some ⟨x.g,0,none⟩), .int .u64 n] w fun e w'=>e = .returned (.int .u16 q.1)∧ShTo w R gt q.2 w':=by
 have hxx:=ok.out.hs x hx.out
 have HOK:Hid (x.ended=false→x.hold≤n→n≤(if x.begun=true then x.seen - 1 else x.seen)→OkT { t.v with hs:=setH t.v.hs { x with hold:=n } }):=Lib.hid (fun a b c=>okT_hold ok.out hx.out h.out.nd a b c)
 have HSET:Hid (∀ w1,Ext w w1→ShR (w1.setCell ⟨x.g,1,none⟩ (.int .u64 n)) R gt { t with H:=setH t.H { x with hold:=n } }∧Upd R w (w1.setCell ⟨x.g,1,none⟩ (.int .u64 n))):=Lib.hid (fun w1 x1=>by
  have hb:=(h.out.ext x1).hs x hx.out
  have u:Upd (fun k=>k=x.g) w1 (w1.setCell ⟨x.g,1,none⟩ (.int .u64 n)):=(Upd.refl (fun k=>k=x.g) w1).setCell (p:=⟨x.g,1,none⟩) (.inl rfl) _
  exact ⟨(h.out.ext x1).hd (x':={ x with hold:=n }) hx.out rfl rfl u (hb.1.set 1 _),(Upd.ext x1).trans (u.mono fun k _ e=>e ▸ hb.2.1)⟩)
 have hb:=(h.out.hs x hx.out).1
 obtain ⟨g,hold,seen,begun,ended⟩:=x
 replace hb:Bk w g 215 #[.pointer (some ⟨gt,0,none⟩), .int .u64 hold, .int .u64 seen, .bool begun, .bool ended]:=hb
 replace hxx:(0≤hold∧hold≤seen∧seen≤18446744073709551615)∧(begun=true→hold+1≤seen∧seen≤t.v.up):=hxx
 have c0:=hb.cell 0
 have c1:=hb.cell 1
 have c2:=hb.cell 2
 have c3:=hb.cell 3
 have c4:=hb.cell 4
 have f1:=hb.free 1
 have l1:=hb.lt
 simp at c0 c1 c2 c3 c4
 clear hb
 have HXX:=Lib.hid hxx.2
 have HX0:=hxx.1
 clear hxx
 have HSET2:Hid (∀ w1,Ext w w1→ShR (w1.setCell ⟨g,1,none⟩ (.int .u64 n)) R gt { t with H:=setH t.H ⟨g,n,seen,begun,ended⟩ }∧Upd R w (w1.setCell ⟨g,1,none⟩ (.int .u64 n))):=HSET
 have HOK2:Hid (ended=false→hold≤n→n≤(if begun=true then seen - 1 else seen)→OkT ⟨t.m.v,t.lets,setH t.H ⟨g,n,seen,begun,ended⟩⟩):=HOK
 clear HSET HOK
 cases ended with
 | true =>
  have hqq:q=(7,t.v):=by rw [← hq.out];rfl
  subst hqq
  cases begun with
  | true =>
   have hs1:=(HXX.out rfl).1
   have hw:IntKind.u64.wrap (seen - 1)=seen - 1:=by rw [IntKind.wrap_u64];omega
   go_enter Tryz.func76,Tryz.ntmps76
   go_wp2
   go_ret
   exact ⟨rfl,ShTo.stay h.out (Ext.refl _)⟩
  | false =>
   go_enter Tryz.func76,Tryz.ntmps76
   go_wp2
   go_ret
   exact ⟨rfl,ShTo.stay h.out (Ext.refl _)⟩
 | false =>
  obtain ⟨mo,hmo⟩ : ∃ m,(if begun=true then seen - 1 else seen)=m:=⟨_,rfl⟩
  have he:hallowT t.v ⟨g,hold,seen,begun,false⟩ n=if n<hold∨mo<n then (120,t.v) else (0,compactT ⟨t.m.v,t.lets,setH t.H ⟨g,n,seen,begun,false⟩⟩):=by rw [← hmo];rfl
  have HQ:=Lib.hid (he.symm.trans hq.out)
  rw [hmo] at HOK2
  have HMO:=Lib.hid hmo
  clear he hq hmo
  by_cases h1:n<hold
  ·have hqq:q=(120,t.v):=by have:=HQ.out;rw [if_pos (.inl h1)] at this;exact this.symm
   subst hqq
   cases begun with
   | true =>
    have hs1:=(HXX.out rfl).1
    have hw:IntKind.u64.wrap (seen - 1)=seen - 1:=by rw [IntKind.wrap_u64];omega
    go_enter Tryz.func76,Tryz.ntmps76
    go_wp2
    go_ret
    exact ⟨rfl,ShTo.stay h.out (Ext.refl _)⟩
   | false =>
    go_enter Tryz.func76,Tryz.ntmps76
    go_wp2
    go_ret
    exact ⟨rfl,ShTo.stay h.out (Ext.refl _)⟩
  ·by_cases h2:mo<n
   ·have hqq:q=(120,t.v):=by have:=HQ.out;rw [if_pos (.inr h2)] at this;exact this.symm
    subst hqq
    cases begun with
    | true =>
     have hs1:=(HXX.out rfl).1
     have hw:IntKind.u64.wrap (seen - 1)=seen - 1:=by rw [IntKind.wrap_u64];omega
     obtain rfl:seen - 1=mo:=HMO.out
     go_enter Tryz.func76,Tryz.ntmps76
     go_wp2
     go_ret
     exact ⟨rfl,ShTo.stay h.out (Ext.refl _)⟩
    | false =>
     obtain rfl:seen=mo:=HMO.out
     go_enter Tryz.func76,Tryz.ntmps76
     go_wp2
     go_ret
     exact ⟨rfl,ShTo.stay h.out (Ext.refl _)⟩
   ·have hqq:q=(0,compactT ⟨t.m.v,t.lets,setH t.H ⟨g,n,seen,begun,false⟩⟩):=by have:=HQ.out;rw [if_neg (fun e=>e.elim h1 h2)] at this;exact this.symm
    subst hqq
    have HOK3:=Lib.hid (HOK2.out rfl (by omega) (by omega))
    have HST:=Lib.hid (HSET2.out w (Ext.refl _))
    cases begun with
    | true =>
     have hs1:=(HXX.out rfl).1
     have hw:IntKind.u64.wrap (seen - 1)=seen - 1:=by rw [IntKind.wrap_u64];omega
     obtain rfl:seen - 1=mo:=HMO.out
     have c0':(w.setCell ⟨g,1,none⟩ (.int .u64 n)).cell? ⟨g,0,none⟩=some (.pointer (some ⟨gt,0,none⟩)):=(HST.out.1.hs _ (setH_new (x:=⟨g,n,seen,true,false⟩) hx.out rfl)).1.cell 0
     go_enter Tryz.func76,Tryz.ntmps76
     go_wp2_with (go_at_call 174;refine (tcompact_any gt { t with H:=setH t.H ⟨g,n,seen,true,false⟩ } R _ (Lib.hid HST.out.1) HOK3).mono ?_;rintro r w2 ⟨rfl,k2⟩;have K2:Hid (ShTo w R gt (compactT ⟨t.m.v,t.lets,setH t.H ⟨g,n,seen,true,false⟩⟩) w2):=Lib.hid (ShTo.next HST.out.2 k2);clear k2)
     go_ret
     exact ⟨rfl,K2.out⟩
    | false =>
     obtain rfl:seen=mo:=HMO.out
     have c0':(w.setCell ⟨g,1,none⟩ (.int .u64 n)).cell? ⟨g,0,none⟩=some (.pointer (some ⟨gt,0,none⟩)):=(HST.out.1.hs _ (setH_new (x:=⟨g,n,seen,false,false⟩) hx.out rfl)).1.cell 0
     go_enter Tryz.func76,Tryz.ntmps76
     go_wp2_with (go_at_call 174;refine (tcompact_any gt { t with H:=setH t.H ⟨g,n,seen,false,false⟩ } R _ (Lib.hid HST.out.1) HOK3).mono ?_;rintro r w2 ⟨rfl,k2⟩;have K2:Hid (ShTo w R gt (compactT ⟨t.m.v,t.lets,setH t.H ⟨g,n,seen,false,false⟩⟩) w2):=Lib.hid (ShTo.next HST.out.2 k2);clear k2)
     go_ret
     exact ⟨rfl,K2.out⟩
open Go.RowKit
def endH (x:Hv):Hv:={ x with ended:=true }
theorem ShR.drop {w w2:World} {R:Nat→Prop} {gt:Nat} {t:ShM} (h:ShR w R gt t) {x:Hv} (hx:x∈t.H) (p:PM w2 t.bm (t.L.filter fun y => !(y.g==x.g)) t.clock) (gr:(w.setCell ⟨x.g,4,none⟩ (.bool true)).grownBy w2 (some t.bm)) :
  ShR w2 R gt { t with L:=t.L.filter fun y => !(y.g==x.g),H:=setH t.H (endH x) }∧Upd R w w2:=by
 obtain ⟨hb,hr,hn⟩:=h.hs x hx
 have hbs:=hb.set 4 (.bool true)
 have n2:=h.hd_ne hx
 have u1:Upd (fun k=>k=x.g∨k=t.bm) w (w.setCell ⟨x.g,4,none⟩ (.bool true)):=(Upd.refl (fun k=>k=x.g∨k=t.bm) w).setCell (p:=⟨x.g,4,none⟩) (.inl (.inl rfl)) _
 have u2:Upd (fun k=>k=t.bm) (w.setCell ⟨x.g,4,none⟩ (.bool true)) w2:=⟨gr.os,gr.tape,gr.output,gr.size,fun k hk hn=>gr.block k hk (fun e=>hn (by injection e))⟩
 have u:Upd (fun k=>k=x.g∨k=t.bm) w w2:=u1.trans (u2.mono fun k _ e => .inr e)
 have bx:Bk w2 x.g 215 ((endH x).cs gt):=hbs.upd u2 n2.2
 refine ⟨⟨h.bk.upd u (fun e=>e.elim (fun e=>n2.1 e.symm) h.bm_ne),h.rg,h.sp.upd u (fun k hk e=>e.elim (fun e=>hn (e ▸ hk)) fun e=>h.nb (e ▸ hk)),h.sub,p,h.rb,fun y hy=>?_,h.nt,h.nb,by show ((setH t.H (endH x)).map Hv.g).Nodup;rw [setH_g];exact h.nd,fun y hy=>?_,fun y hy he=>?_,fun k hk=>Nat.lt_of_lt_of_le (h.low k hk) u.size⟩,u.mono fun k _ e=>e.elim (fun e=>e ▸ hr) fun e=>e ▸ h.rb⟩
 ·rcases setH_mem hy with e | ⟨hy,hn'⟩
  ·rw [e];exact ⟨bx,hr,hn⟩
  ·obtain ⟨b2,r2,q2⟩:=h.hs y hy
   exact ⟨b2.upd u (fun e=>e.elim hn' (h.hd_ne hy).2),r2,q2⟩
 ·obtain ⟨hy,hyg⟩:=List.mem_filter.1 hy
  obtain ⟨z,hz,e,he⟩:=h.le y hy
  exact ⟨z,setH_has hz (by show z.g≠x.g;rw [e];simpa using hyg),e,he⟩
 ·rcases setH_mem hy with e | ⟨hy,hn'⟩
  ·rw [e] at he
   cases he
  ·obtain ⟨z,hz,q⟩:=h.lh y hy he
   exact ⟨z,List.mem_filter.2 ⟨hz,by rw [q];have hn2:y.g≠x.g:=hn';simpa using hn2⟩,q⟩
open Go.RowKit
theorem raddV_len2 (x:V) : ∀ R:List V,(addV R x).length≤R.length+1
 | []=>by simp [addV]
 | y :: R=>by
  unfold addV
  split
  ·have:=raddV_len2 x R
   simp only [List.length_cons]
   omega
  ·split<;>simp
theorem rsumAll_len (L:List V):(sumAll L).length≤L.length:=by
 refine snoc_ind (p:=fun L=>(sumAll L).length≤L.length) (Nat.le_refl _) (fun L x ih=>?_) L
 have e:sumAll (L++[x])=addV (sumAll L) x:=by unfold sumAll;rw [List.foldl_append];rfl
 rw [e,List.length_append]
 have:=raddV_len2 x (sumAll L)
 simp only [List.length_singleton]
 omega
/-- the bag at an epoch, as updates of it -/
def bagE (B:List (List Dat × Int)) (e:Int):List UV:=B.map fun x=>((x.1,(e,[])),x.2)
def fromE (e:Int) (u:UV):Bool:=decide (e≤u.1.2.1)
def outV (all:List UV) (begun:Bool) (seen:Int):List UV:=(if begun=true then [] else bagE (sumV (atV all (seen,[]))) seen)++all.filter (fromE (if begun=true then seen else seen+1))
def tellH (x:Hv) (up:Int):Hv:={ x with begun:=true,seen:=up }
/-- the answer: a number, updates, up to where; the handle behind it -/
def nextV (t:TrV) (x:Hv):Int × List UV × Int × Hv :=
 if x.ended=true then (7,[],0,x) else if x.begun=false∧t.up≤x.seen then (0,[],x.seen,x) else (0,UdS.sumV (outV (allV t.s) x.begun x.seen),t.up,tellH x t.up)
theorem setH_self {H:List Hv} (nd:(H.map Hv.g).Nodup) {x:Hv} (hx:x∈H):setH H x=H:=by
 unfold setH
 have : ∀ y∈H,(if y.g=x.g then x else y)=y:=fun y hy=>by
  split
  ·rename_i h
   exact (nodup_inj nd hy hx h).symm
  ·rfl
 rw [List.map_congr_left this,List.map_id']
theorem all_good {s:SV} (h:OkV s) : ∀ u∈allV s,GoodU u:=by
 unfold allV
 split
 ·exact fun u hu=>(nomatch hu)
 ·exact sum_good fun u hu=>by
   obtain ⟨v,hv,rfl⟩:=List.mem_map.1 hu
   exact adv_good h.fs h.es (h.ins v hv)
theorem bag_good {all:List UV} (h : ∀ u∈all,GoodU u) {e:Int} (he:0≤e∧e≤18446744073709551615) : ∀ u∈bagE (sumV (atV all (e,[]))) e,GoodU u:=fun u hu=>by
 obtain ⟨x,hx,rfl⟩:=List.mem_map.1 hu
 obtain ⟨h1,_,y,hy,e1⟩:=sumV_mem (fun z hz=>by obtain ⟨v,hv,q⟩:=at_good h _ z hz;rw [q];exact (h v hv).1.num) hx
 obtain ⟨v,hv,q⟩:=at_good h _ y hy
 obtain ⟨a,b,c⟩:=h v hv
 have e2:v.1.1=x.1:=by rw [q] at e1;exact e1
 refine ⟨⟨?_,?_,h1,?_,fun y hy=>(nomatch hy),Nat.zero_le _,he⟩,rfl,?_⟩
 ·show RwTxt x.1;rw [← e2];exact a.txt
 ·show RwInt x.1;rw [← e2];exact a.int
 ·show x.1.length≤_;rw [← e2];exact a.len
 ·show checkR x.1=0;rw [← e2];exact c
theorem out_good {s:SV} (h:OkV s) {b:Bool} {e:Int} (he:0≤e∧e≤18446744073709551615) : ∀ u∈outV (allV s) b e,GoodU u:=fun u hu=>by
 rcases List.mem_append.1 hu with hu | hu
 ·split at hu
  ·cases hu
  ·exact bag_good (all_good h) he u hu
 ·exact all_good h u (List.mem_filter.1 hu).1
theorem out_len (all:List UV) (b:Bool) (e:Int):(outV all b e).length≤2 * all.length:=by
 unfold outV
 rw [List.length_append]
 have h1:=List.length_filter_le (fromE (if b=true then e else e+1)) all
 have h2:(if b=true then [] else bagE (sumV (atV all (e,[]))) e).length≤all.length:=by
  split
  ·exact Nat.zero_le _
  ·unfold bagE
   rw [List.length_map]
   refine Nat.le_trans (Nat.le_trans (List.length_filter_le _ _) (rsumAll_len _)) ?_
   unfold atV
   rw [List.length_map]
   exact List.length_filter_le _ _
 omega
open Go.RowKit
/-! ### lists that say the same -/
theorem tot_filter (P f:UK→Bool) : ∀ l:List UV,UdS.tot P (l.filter fun x=>f x.1)=UdS.tot (fun k=>f k&&P k) l
 | []=>rfl
 | x :: l=>by
  have ih:=tot_filter P f l
  rw [List.filter_cons]
  cases h:f x.1 with
  | true =>
   show (if P x.1 then x.2 else 0)+UdS.tot P (l.filter fun x=>f x.1)=(if (f x.1&&P x.1)=true then x.2 else 0)+_
   rw [ih,h,Bool.true_and]
  | false =>
   show UdS.tot P (l.filter fun x=>f x.1)=(if (f x.1&&P x.1)=true then x.2 else 0)+_
   rw [ih,h,Bool.false_and]
   simp
theorem UdS.Same.filter {D E:List UV} (h:UdS.Same D E) (f:UK→Bool):UdS.Same (D.filter fun x=>f x.1) (E.filter fun x=>f x.1):=fun P=>by rw [tot_filter,tot_filter];exact h _
theorem same_split (D:List UV) (f:UK→Bool):UdS.Same (D.filter (fun x=>f x.1)++D.filter (fun x => !f x.1)) D := .perm (List.filter_append_perm (fun x=>f x.1) D)
def bagU1 (e:Int) (x:List Dat × Int):UV:=((x.1,(e,[])),x.2)
theorem ucmp_bag (e:Int) (x y:List Dat × Int):UdS.cmpV (bagU1 e x) (bagU1 e y)=cmpV x y:=by
 show (if cmpR x.1 y.1=0 then tcmp (e,[]) (e,[]) else cmpR x.1 y.1)=cmpR x.1 y.1
 split
 ·rename_i h
  rw [h]
  exact tcmp_zero.2 rfl
 ·rfl
theorem uadd_bag (e:Int) (x:List Dat × Int) : ∀ R:List (List Dat × Int),UdS.addV (R.map (bagU1 e)) (bagU1 e x)=(addV R x).map (bagU1 e)
 | []=>rfl
 | y :: R=>by
  have ih:=uadd_bag e x R
  rw [List.map_cons]
  unfold UdS.addV addV
  rw [ucmp_bag]
  split
  ·rw [ih];rfl
  ·split
   ·rfl
   ·rfl
theorem usum_bag (e:Int) (D:List (List Dat × Int)):UdS.sumAll (D.map (bagU1 e))=(sumAll D).map (bagU1 e):=by
 refine snoc_ind (p:=fun D=>UdS.sumAll (D.map (bagU1 e))=(sumAll D).map (bagU1 e)) rfl (fun D x ih=>?_) D
 have e1:sumAll (D++[x])=addV (sumAll D) x:=by unfold sumAll;rw [List.foldl_append];rfl
 have e2:UdS.sumAll (D.map (bagU1 e)++[bagU1 e x])=UdS.addV (UdS.sumAll (D.map (bagU1 e))) (bagU1 e x):=by unfold UdS.sumAll;rw [List.foldl_append];rfl
 rw [List.map_append,List.map_singleton,e2,ih,uadd_bag,e1]
theorem usumV_bag (e:Int) (D:List (List Dat × Int)):UdS.sumV (D.map (bagU1 e))=(sumV D).map (bagU1 e):=by
 unfold UdS.sumV sumV
 rw [usum_bag,List.filter_map]
 rfl
theorem bagE_eq (D:List (List Dat × Int)) (e:Int):bagE D e=D.map (bagU1 e):=rfl
/-- the bag at an epoch, as updates of it, says what was ahead of it and at it -/
theorem bag_same {all:List UV} (h : ∀ u∈all,GoodU u) (f:Int):UdS.Same (bagE (sumV (atV all (f,[]))) f) ((all.filter fun u=>decide (u.1.2.1≤f)).map (advK [(f,[])])):=by
 have e1:(all.filter fun u=>decide (u.1.2.1≤f)).map (advK [(f,[])])=bagE (atV all (f,[])) f:=by
  rw [bagE_eq]
  unfold atV
  rw [List.map_map]
  have e2:all.filter (fun u=>decide (u.1.2.1≤f))=all.filter (fun v=>tleq v.1.2 (f,[])):=List.filter_congr fun u hu=>by
   obtain ⟨⟨l,e,c⟩,d⟩:=u
   have hc:c=[]:=(h _ hu).2.1
   subst hc
   rw [Bool.eq_iff_iff,decide_eq_true_iff]
   exact ⟨fun q=>(leq_iff _ _ _ _).2 ⟨rfl,q,fun k hk=>absurd hk (Nat.not_lt_zero k)⟩,fun q=>((leq_iff _ _ _ _).1 q).2.1⟩
  rw [e2]
  refine List.map_congr_left fun u hu=>?_
  obtain ⟨hu1,hu2⟩:=List.mem_filter.1 hu
  obtain ⟨⟨l,e,c⟩,d⟩:=u
  have hc:c=[]:=(h _ hu1).2.1
  subst hc
  have hle:e≤f:=((leq_iff _ _ _ _).1 hu2).2.1
  show ((l,advV [(f,[])] (e,[])),d)=((l,(f,[])),d)
  rw [adv_one,show max e f=f by omega]
 rw [e1,bagE_eq,bagE_eq, ← usumV_bag]
 refine UdS.Same.sum (fun u hu=>?_) (fun x hx y hy h0=>?_)
 ·obtain ⟨x,hx,rfl⟩:=List.mem_map.1 hu
  obtain ⟨v,hv,rfl⟩:=at_good h _ x hx
  exact (h v hv).1.num
 ·obtain ⟨x1,hx1,rfl⟩:=List.mem_map.1 hx
  obtain ⟨y1,hy1,rfl⟩:=List.mem_map.1 hy
  rw [ucmp_bag] at h0
  obtain ⟨u,hu,rfl⟩:=at_good h _ x1 hx1
  obtain ⟨v,hv,rfl⟩:=at_good h _ y1 hy1
  have q:u.1.1=v.1.1:=row_zero _ _ (good_row (h u hu)) (good_row (h v hv)) h0
  show (u.1.1,((f,[]):TV))=(v.1.1,(f,[]))
  rw [q]
/-! ### traces -/
/-- what a trace tells of all that was inserted -/
structure TellsT (t:TrV) (all:List UV) (B:Nat):Prop where
 ok:OkT t
 tl:Tells t.s all B
 lt : ∀ u∈all,u.1.2.1<t.up
 n:all.length≤B
theorem tellsT_new:TellsT newT [] 0:=⟨okT_new,tells_new,fun u hu=>(nomatch hu),Nat.le_refl _⟩
theorem TellsT.more {t:TrV} {all:List UV} {B C:Nat} (h:TellsT t all B) (k:B≤C):TellsT t all C:=⟨h.ok,h.tl.up k,h.lt,Nat.le_trans h.n k⟩
theorem TellsT.S {t:TrV} {all:List UV} {B:Nat} (h:TellsT t all B) : ∃ s,t.s.S=[(s,[])]∧s≤t.least∧UdS.Same (allV t.s) (all.map (advK [(s,[])])):=by
 obtain ⟨s,hs⟩:=h.ok.S
 have hl:=h.ok.low
 rw [hs] at hl
 refine ⟨s,hs,hl,?_⟩
 have hne:t.s.S≠[]:=by rw [hs];simp
 have k:=tells_all h.tl
 rw [if_neg hne,hs] at k
 rw [k]
 have hg : ∀ u∈all.map (advK [(s,[])]),GoodU u:=fun u hu=>by
  obtain ⟨v,hv,rfl⟩:=List.mem_map.1 hu
  exact adv_good (hs ▸ h.tl.ok.fs) (hs ▸ h.tl.ok.es) (h.tl.good v hv)
 exact UdS.Same.sum (fun u hu=>(hg u hu).1.num) (good_canon hg)
theorem TellsT.all_len {t:TrV} {all:List UV} {B:Nat} (h:TellsT t all B):(allV t.s).length≤B:=by
 have k:=tells_all h.tl
 rw [k]
 split
 ·exact Nat.zero_le _
 ·refine Nat.le_trans (usumV_len _) ?_
  rw [List.length_map]
  exact h.n
theorem adv_e1 {s:Int} {u:UV} (h:u.1.2.2=[]):advK [(s,[])] u=((u.1.1,(max u.1.2.1 s,[])),u.2):=by
 obtain ⟨⟨l,e,c⟩,d⟩:=u
 simp only at h
 subst h
 show ((l,advV [(s,[])] (e,[])),d)=_
 rw [adv_one]
theorem adv_late {s:Int} {u:UV} (h:u.1.2.2=[]) (hs:s≤u.1.2.1):advK [(s,[])] u=u:=by
 rw [adv_e1 h,show max u.1.2.1 s=u.1.2.1 by omega, ← h]
/-! ### inserting -/
theorem ins_U {s:SV} {l:List UV} {u:Int} (h:(insV s l [(u,[])]).1=0):(insV s l [(u,[])]).2.U=[(u,[])]∧l.any (earlyV s.U [(u,[])])=false∧leqV s.U [(u,[])]=true:=by
 rcases ins_cases s l [(u,[])] with q | ⟨_,_,h3,h4,e⟩
 ·exact absurd h q.2
 ·refine ⟨?_,h3,h4⟩
  rw [e]
  exact of_one _
theorem TellsT.ins {t:TrV} {all l:List UV} {B:Nat} {u:Int} (h:TellsT t all B) (hl : ∀ u∈l,InUV u) (hu:0≤u∧u≤18446744073709551615) (hB:B+l.length+1≤1000000) :
  ((tinsV t l u).2=t∧(tinsV t l u).1≠0)∨((tinsV t l u).1=0∧TellsT (tinsV t l u).2 (all++l) (B+l.length+1)∧(tinsV t l u).2.hs=t.hs∧t.up≤(tinsV t l u).2.up ∧ ∀ x∈l,t.up≤x.1.2.1):=by
 have hX : ∀ x∈[((u,[]):TV)],0≤x.1∧x.1≤18446744073709551615:=fun x hx=>by rw [List.mem_singleton.1 hx];exact hu
 rcases tells_ins h.tl hl hX hB with ⟨q1,q2⟩ | ⟨q1,q2⟩
 ·refine .inl ⟨?_,q2⟩
  show TrV.mk (insV t.s l [(u,[])]).2 t.lets t.hs=t
  rw [q1]
 ·obtain ⟨e1,e2,e3⟩:=ins_U q1
  obtain ⟨up,hup⟩:=h.ok.U
  obtain ⟨s,hs⟩:=h.ok.S
  have hup1:t.up=up:=by unfold TrV.up;rw [hup];rfl
  have hup2:(tinsV t l u).2.up=u:=by show headE (insV t.s l [(u,[])]).2.U=u;rw [e1];rfl
  have hle:up≤u:=by
   rw [hup] at e3
   obtain ⟨y,hy,q⟩:=beyond_iff.1 (leqV_iff.1 e3 (u,[]) (List.mem_singleton.2 rfl))
   rw [List.mem_singleton.1 hy] at q
   exact ((leq_iff _ _ _ _).1 q).2.1
  have hxl : ∀ x∈l,up≤x.1.2.1∧x.1.2.1<u:=fun x hx=>by
   have q:earlyV t.s.U [(u,[])] x=false:=by simpa using List.any_eq_false.1 e2 x hx
   have hg:GoodU x:=q2.good x (List.mem_append_right _ hx)
   obtain ⟨⟨k,e,c⟩,d⟩:=x
   have hc:c=[]:=hg.2.1
   subst hc
   unfold earlyV at q
   rw [Bool.or_eq_false_iff,Bool.not_eq_false',hup] at q
   obtain ⟨y,hy,q1⟩:=beyond_iff.1 q.1
   rw [List.mem_singleton.1 hy] at q1
   refine ⟨((leq_iff _ _ _ _).1 q1).2.1,?_⟩
   show e<u
   by_cases hlt:e<u
   ·exact hlt
   ·have:beyondV [(u,[])] (e,[])=true:=beyond_iff.2 ⟨(u,[]),List.mem_singleton.2 rfl,(leq_iff _ _ _ _).2 ⟨rfl,by omega,fun k hk=>absurd hk (Nat.not_lt_zero k)⟩⟩
    rw [this] at q
    exact absurd q.2 (by decide)
  have hS:(tinsV t l u).2.s.S=t.s.S:=by
   show (insV t.s l [(u,[])]).2.S=t.s.S
   rcases ins_cases t.s l [(u,[])] with q | ⟨_,_,_,_,e⟩
   ·rw [q.1]
   ·rw [e]
  refine .inr ⟨q1,⟨⟨q2.ok,⟨s,hS.trans hs⟩,⟨u,e1⟩,h.ok.lets,fun x hx=>?_,?_⟩,q2,fun x hx=>?_,by rw [List.length_append];have:=h.n;omega⟩,rfl,by omega,fun x hx=>by rw [hup1];exact (hxl x hx).1⟩
  ·have k:=h.ok.hs x hx
   exact ⟨k.1,fun b=>⟨(k.2 b).1,by have:=(k.2 b).2;rw [hup2];omega⟩⟩
  ·have k:=h.ok.low
   rw [← hS] at k
   exact k
  ·rw [hup2]
   rcases List.mem_append.1 hx with hx | hx'
   ·have:=h.lt x hx;omega
   ·exact (hxl x hx').2
theorem TellsT.work {t v:TrV} {all:List UV} {B r:Nat} {z:Int} (h:TellsT t all B) (w:WorkT t z r v):TellsT v all B∧v.hs=t.hs∧v.up=t.up∧v.least=t.least:=by
 obtain ⟨s',rfl,w⟩:=w
 rcases w with ⟨rfl,_⟩ | ⟨n,_,_,w⟩
 ·exact ⟨h,rfl,rfl,rfl⟩
 ·have k:=work_stay w h.ok.ok
  have hu:({ t with s:=s' }:TrV).up=t.up:=by unfold TrV.up;rw [k.U]
  have hl:({ t with s:=s' }:TrV).least=t.least:=rfl
  obtain ⟨s,hs⟩:=h.ok.S
  obtain ⟨u,hU⟩:=h.ok.U
  refine ⟨⟨⟨k.ok,⟨s,k.S.trans hs⟩,⟨u,k.U.trans hU⟩,h.ok.lets,fun x hx=>?_,?_⟩,tells_work w h.tl,fun x hx=>?_,h.n⟩,rfl,hu,hl⟩
  ·rw [hu];exact h.ok.hs x hx
  ·show headE s'.S≤_
   rw [k.S]
   exact h.ok.low
  ·rw [hu];exact h.lt x hx
theorem TellsT.compact {t:TrV} {all:List UV} {B:Nat} (h:TellsT t all B):TellsT (compactT t) all B∧(compactT t).hs=t.hs∧(compactT t).up=t.up∧(compactT t).least=t.least∧(compactT t).lets=t.lets:=by
 obtain ⟨k1,k2,_,k4⟩:=compactT_ok h.ok
 have hu:(compactT t).up=t.up:=by unfold TrV.up;rw [k4]
 refine ⟨⟨k1,?_,fun x hx=>by rw [hu];exact h.lt x hx,h.n⟩,rfl,hu,k2,rfl⟩
 by_cases hlt:headE t.s.S<t.least
 ·have hc:=compact_call h.ok hlt
  have hr:=h.ok.least_in
  have q:=tells_compact (X:=[(t.least,[])]) h.tl (fun x hx=>by rw [List.mem_singleton.1 hx];exact hr)
  rw [hc] at q
  exact q
 ·rw [compactT_stay hlt]
  exact h.tl
theorem TellsT.allow {t:TrV} {all:List UV} {B:Nat} (h:TellsT t all B) {n:Int} (hn:n≤18446744073709551615):TellsT (allowT t n).2 all B∧(allowT t n).2.hs=t.hs∧(allowT t n).2.up=t.up:=by
 unfold allowT
 split
 ·exact ⟨h,rfl,rfl⟩
 ·rename_i q
  have k:TellsT { t with lets:=n } all B:=⟨okT_lets h.ok (by omega) hn,h.tl,h.lt,h.n⟩
  have c:=k.compact
  exact ⟨c.1,c.2.1,c.2.2.1⟩
theorem TellsT.hs {t:TrV} {all:List UV} {B:Nat} (h:TellsT t all B) {H:List Hv} (k:OkT { t with hs:=H }):TellsT { t with hs:=H } all B:=⟨k,h.tl,h.lt,h.n⟩
/-- a handle that is begun is told what has come since -/
theorem okT_tell {t:TrV} (h:OkT t) {x:Hv} (hx:x∈t.hs) (nd:(t.hs.map Hv.g).Nodup) (hlt:x.begun=true∨x.seen<t.up):OkT { t with hs:=setH t.hs (tellH x t.up) }:=by
 have hi:=up_in h
 have hxx:=h.hs x hx
 refine ⟨h.ok,h.S,h.U,h.lets,fun y hy=>?_,?_⟩
 ·rcases setH_mem hy with rfl | ⟨hy,_⟩
  ·have e:x.hold+1≤t.up:=by
    rcases hlt with hb | hb
    ·have:=hxx.2 hb;omega
    ·have:=hxx.1;omega
   exact ⟨⟨hxx.1.1,by show x.hold≤t.up;omega,hi.2⟩,fun _=>⟨e,Int.le_refl _⟩⟩
  ·exact h.hs y hy
 ·have e:({ t with hs:=setH t.hs (tellH x t.up) }:TrV).least=t.least:=by
   show minL t.lets (((setH t.hs (tellH x t.up)).filter fun h => !h.ended).map Hv.hold)=minL t.lets ((t.hs.filter fun h => !h.ended).map Hv.hold)
   congr 1
   have e0:setH t.hs (tellH x t.up)=t.hs.map fun y=>if y.g=x.g then tellH x t.up else y:=rfl
   rw [e0,List.filter_map,List.map_map]
   have e1:t.hs.filter ((fun h => !h.ended) ∘ fun y=>if y.g=x.g then tellH x t.up else y)=t.hs.filter fun h => !h.ended:=List.filter_congr fun y hy=>by
    show (!(if y.g=x.g then tellH x t.up else y).ended) = !y.ended
    split
    ·rename_i q
     rw [nodup_inj nd hy hx q]
     rfl
    ·rfl
   rw [e1]
   refine List.map_congr_left fun y hy=>?_
   show (if y.g=x.g then tellH x t.up else y).hold=y.hold
   split
   ·rename_i q
    rw [nodup_inj nd (List.mem_filter.1 hy).1 hx q]
    rfl
   ·rfl
  rw [e]
  exact h.low
/-! ### what a handle was told -/
structure ToldH (x:Hv) (first:Int) (all D:List UV):Prop where
 good : ∀ u∈D,GoodU u
 no:x.begun=false→D=[]∧x.seen=first
 yes:x.begun=true→first<x.seen∧UdS.Same D ((all.filter fun u=>decide (u.1.2.1<x.seen)).map (advK [(first,[])]))
theorem ToldH.grow {x:Hv} {first:Int} {all l D:List UV} (h:ToldH x first all D) (hl:x.begun=true → ∀ u∈l,x.seen≤u.1.2.1):ToldH x first (all++l) D:=by
 refine ⟨h.good,h.no,fun b=>⟨(h.yes b).1,?_⟩⟩
 rw [List.filter_append]
 have e:l.filter (fun u=>decide (u.1.2.1<x.seen))=[]:=List.filter_eq_nil_iff.2 fun u hu q=>by
  have h1:=hl b u hu
  have h2:=of_decide_eq_true q
  omega
 rw [e,List.append_nil]
 exact (h.yes b).2
theorem ToldH.hold {x y:Hv} {first:Int} {all D:List UV} (h:ToldH x first all D) (h1:y.begun=x.begun) (h2:y.seen=x.seen):ToldH y first all D:=by
 refine ⟨h.good,fun b=>?_,fun b=>?_⟩
 ·rw [h2];exact h.no (h1 ▸ b)
 ·rw [h2];exact h.yes (h1 ▸ b)
/-- the answer of Next, put behind what was told -/
theorem ToldH.next {t:TrV} {all D:List UV} {B:Nat} {x:Hv} {first:Int} (h:TellsT t all B) (hx:x∈t.hs) (he:x.ended=false) (k:ToldH x first all D) (hf:0≤first∧first≤18446744073709551615) :
  (nextV t x).1=0∧ToldH (nextV t x).2.2.2 first all (D++(nextV t x).2.1)∧((nextV t x).2.2.1=(if x.begun=false∧t.up≤x.seen then x.seen else t.up))∧((nextV t x).2.2.2=(if x.begun=false∧t.up≤x.seen then x else tellH x t.up)):=by
 have hh:=h.ok.hs x hx
 by_cases q:x.begun=false∧t.up≤x.seen
 ·have e:nextV t x=(0,[],x.seen,x):=by unfold nextV;rw [if_neg (by rw [he];exact Bool.false_ne_true),if_pos q]
  rw [e,if_pos q,if_pos q,List.append_nil]
  exact ⟨rfl,k,rfl,rfl⟩
 ·have e:nextV t x=(0,UdS.sumV (outV (allV t.s) x.begun x.seen),t.up,tellH x t.up):=by unfold nextV;rw [if_neg (by rw [he];exact Bool.false_ne_true),if_neg q]
  rw [e,if_neg q,if_neg q]
  have hg:=out_good h.tl.ok (b:=x.begun) (e:=x.seen) ⟨by have:=hh.1;omega,hh.1.2.2⟩
  have hs:=UdS.Same.sum (fun u hu=>(hg u hu).1.num) (good_canon hg)
  obtain ⟨s,hS,hsl,hsame⟩:=h.S
  have hlo:t.least≤x.hold:=(minL_le _ _).2.1 _ (List.mem_map.2 ⟨x,List.mem_filter.2 ⟨hx,by rw [he];rfl⟩,rfl⟩)
  -- what Next looks at, behind an epoch
  have hlate : ∀ f,s<f→first≤f→UdS.Same ((allV t.s).filter (fromE f)) ((all.filter fun u => !decide (u.1.2.1<f)).map (advK [(first,[])])):=fun f h1 h2=>by
   have q:=UdS.Same.filter hsame (fun k=>decide (f≤k.2.1))
   have e1:(all.map (advK [(s,[])])).filter (fun x=>decide (f≤x.1.2.1))=(all.filter fun u => !decide (u.1.2.1<f)).map (advK [(first,[])]):=by
    rw [List.filter_map]
    have e2:all.filter ((fun x=>decide (f≤x.1.2.1)) ∘ advK [(s,[])])=all.filter fun u => !decide (u.1.2.1<f):=List.filter_congr fun u hu=>by
     show decide (f≤(advK [(s,[])] u).1.2.1)=_
     rw [adv_e1 (h.tl.good u hu).2.1,Bool.eq_iff_iff,decide_eq_true_iff,Bool.not_eq_true',decide_eq_false_iff_not]
     show f≤max u.1.2.1 s↔_
     omega
    rw [e2]
    refine List.map_congr_left fun u hu=>?_
    obtain ⟨hu1,hu2⟩:=List.mem_filter.1 hu
    have hu3 : ¬ u.1.2.1<f:=by simpa using hu2
    rw [adv_late (h.tl.good u hu1).2.1 (by omega),adv_late (h.tl.good u hu1).2.1 (by omega)]
   rw [e1] at q
   exact q
  have hall : ∀ f,UdS.Same ((all.filter fun u=>decide (u.1.2.1<f)).map (advK [(first,[])])++(all.filter fun u => !decide (u.1.2.1<f)).map (advK [(first,[])])) ((all.filter fun u=>decide (u.1.2.1<t.up)).map (advK [(first,[])])):=fun f=>by
   have e1:all.filter (fun u=>decide (u.1.2.1<t.up))=all:=List.filter_eq_self.2 fun u hu=>decide_eq_true (h.lt u hu)
   rw [e1, ← List.map_append]
   exact (same_split all fun k=>decide (k.2.1<f)).map (advF [(first,[])])
  refine ⟨rfl,⟨fun u hu=>(List.mem_append.1 hu).elim (k.good u) (sum_good hg u),fun b=>(nomatch b),fun _=>?_⟩,rfl,rfl⟩
  suffices hgo:first<t.up∧UdS.Same (D++UdS.sumV (outV (allV t.s) x.begun x.seen)) ((all.filter fun u=>decide (u.1.2.1<t.up)).map (advK [(first,[])])) from hgo
  clear e
  cases hb:x.begun with
  | true =>
   obtain ⟨y1,y2⟩:=k.yes hb
   have y3:=hh.2 hb
   refine ⟨by omega,?_⟩
   rw [hb] at hs
   have e2:outV (allV t.s) true x.seen=(allV t.s).filter (fromE x.seen):=rfl
   rw [e2] at hs
   rw [e2]
   exact (y2.append (hs.trans (hlate x.seen (by omega) (by omega)))).trans (hall x.seen)
  | false =>
   obtain ⟨n1,n2⟩:=k.no hb
   have hup:x.seen<t.up:=by
    rcases Int.lt_or_le x.seen t.up with r | r
    ·exact r
    ·exact absurd ⟨hb,r⟩ q
   refine ⟨by omega,?_⟩
   rw [hb] at hs
   have e2:outV (allV t.s) false x.seen=bagE (sumV (atV (allV t.s) (x.seen,[]))) x.seen++(allV t.s).filter (fromE (x.seen+1)):=rfl
   rw [e2] at hs
   rw [e2,n1,List.nil_append]
   refine hs.trans (UdS.Same.trans ?_ (hall (x.seen+1)))
   refine UdS.Same.append ?_ (hlate (x.seen+1) (by have:=hh.1;omega) (by omega))
   have hb2:beyondV [(s,[])] (x.seen,[])=true:=beyond_iff.2 ⟨(s,[]),List.mem_singleton.2 rfl,(leq_iff _ _ _ _).2 ⟨rfl,by have:=hh.1;omega,fun k hk=>absurd hk (Nat.not_lt_zero k)⟩⟩
   have hga : ∀ u∈all.map (advK [(s,[])]),GoodU u:=fun u hu=>by
    obtain ⟨v,hv,rfl⟩:=List.mem_map.1 hu
    exact adv_good (hS ▸ h.tl.ok.fs) (hS ▸ h.tl.ok.es) (h.tl.good v hv)
   have e3:sumV (atV (allV t.s) (x.seen,[]))=sumV (atV all (x.seen,[])):=by
    rw [at_same hsame (all_good h.tl.ok) hga,atV_adv hb2 all fun u hu=>by rw [(h.tl.good u hu).2.1]]
   rw [e3]
   have e4:all.filter (fun u=>decide (u.1.2.1<x.seen+1))=all.filter fun u=>decide (u.1.2.1≤x.seen):=List.filter_congr fun u _=>by rw [decide_eq_decide];omega
   rw [e4, ← n2]
   exact bag_same h.tl.good x.seen
/-- a handle that was told up to an epoch can tell each bag behind the first -/
theorem ToldH.at {x:Hv} {first n:Int} {all D:List UV} (h:ToldH x first all D) (hb:x.begun=true) (hg : ∀ u∈all,GoodU u) (hf:0≤first∧first≤18446744073709551615) (h1:first≤n) (h2:n<x.seen):sumV (atV D (n,[]))=sumV (atV all (n,[])):=by
 have hS:beyondV [(first,[])] (n,[])=true:=beyond_iff.2 ⟨(first,[]),List.mem_singleton.2 rfl,(leq_iff _ _ _ _).2 ⟨rfl,h1,fun k hk=>absurd hk (Nat.not_lt_zero k)⟩⟩
 have hgf : ∀ u∈all.filter (fun u=>decide (u.1.2.1<x.seen)),GoodU u:=fun u hu=>hg u (List.mem_filter.1 hu).1
 rw [at_same (h.yes hb).2 h.good (fun u hu=>by
  obtain ⟨v,hv,rfl⟩:=List.mem_map.1 hu
  exact adv_good (flat_one first) (fun t ht=>by rw [List.mem_singleton.1 ht];exact hf) (hgf v hv)),atV_adv hS _ fun u hu=>by rw [(hgf u hu).2.1]]
 congr 1
 unfold atV
 congr 1
 rw [List.filter_filter]
 refine List.filter_congr fun u hu=>?_
 have hc:=(hg u hu).2.1
 obtain ⟨⟨l,e,c⟩,d⟩:=u
 simp only at hc
 subst hc
 show (tleq (e,[]) (n,[])&&decide (e<x.seen))=tleq (e,[]) (n,[])
 cases q:tleq (e,[]) (n,[]) with
 | false=>rfl
 | true =>
  have:e≤n:=((leq_iff _ _ _ _).1 q).2.1
  rw [Bool.true_and]
  exact decide_eq_true (by omega)
open Go.RowKit
/-- the bag's rows as updates of an epoch -/
def bagU (C:List Ct) (e:Int):List Ud:=C.map fun x=>⟨x.A,x.c,x.l,⟨e,none,0,[]⟩,x.k⟩
theorem bagU_val (C:List Ct) (e:Int):(bagU C e).map Ud.uv=bagE (C.map valC) e:=by
 unfold bagU bagE
 rw [List.map_map,List.map_map]
 rfl
theorem bagU_step {C:List Ct} {i:Nat} {x:Ct} (hi:i<C.length) (hx:C.getD i Ct.zero=x) (e:Int):bagU (C.take (i+1)) e=bagU (C.take i) e++[⟨x.A,x.c,x.l,⟨e,none,0,[]⟩,x.k⟩]:=by
 unfold bagU
 rw [List.take_succ_eq_append_getElem hi,List.map_append, ← hx,List.getD_eq_getElem?_getD,List.getElem?_eq_getElem hi]
 rfl
def fromU (e:Int) (x:Ud):Bool:=decide (e≤x.t.e)
theorem fromU_step {L:List Ud} {i:Nat} {x:Ud} (hi:i<L.length) (hx:L.getD i Ud.zero=x) (e:Int):(L.take (i+1)).filter (fromU e)=(L.take i).filter (fromU e)++if e≤x.t.e then [x] else []:=by
 rw [takeU hi,hx,List.filter_append]
 congr 1
 unfold fromU
 split
 ·rename_i h;simp [h]
 ·rename_i h;simp [h]
/-- what has been collected: a list K -/
structure NxI (w wr:World) (K:List Ud) (A:Option Addr) (m c:Nat):Prop where
 len:m=K.length
 own:Own wr w.heap.size 95 4 A m c (udsC K)
 ext:Ext w wr
theorem NxI.grow {w wr w2:World} {K:List Ud} {A:Option Addr} {m c:Nat} (h:NxI w wr K A m c) (x:Ext wr w2):NxI w w2 K A m c:=⟨h.len,h.own.ext x,h.ext.trans x⟩
theorem NxI.more {w wr w2 w6:World} {K:List Ud} {A A6:Option Addr} {m c c6:Nat} {x:Ud} (h:NxI w wr K A m c) (x2:Ext wr w2) (o:Own w6 w.heap.size 95 4 A6 (m+1) c6 (udsC K++udC x)) (g:w2.grownBy w6 (blk A c)):NxI w w6 (K++[x]) A6 (m+1) c6:=by
 refine ⟨by rw [List.length_append,h.len];rfl,?_,(h.ext.trans x2).grown g fun k e=>(h.own.lt k e).1⟩
 rw [udsC_append,show udsC [x]=udC x by simp [udsC]]
 exact o
/-- what Next leaves: its answer is new memory, the trace's blocks are what they were -/
def ShNextR (w:World) (R:Nat→Prop) (gt:Nat) (t:TrV) (q:Int × List UV × Int × Hv) (e:Ending) (w':World):Prop := ∃ A m Q t',e = .returned (.tuple #[.slice A m m, .int .u64 q.2.2.1, .int .u16 q.1])∧m=List.length Q∧Uout w' w.heap.size A m Q∧Q.map Ud.uv=q.2.1∧ShR w' R gt t'∧t'.v={ t with hs:=setH t.hs q.2.2.2 }∧Upd R w w'
theorem ShNextR.nil {w w':World} {R:Nat→Prop} {gt:Nat} {t:ShM} {x:Hv} {n u:Int} (h:ShR w R gt t) (hx:x∈t.H) (xx:Ext w w'):ShNextR w R gt t.v (n,[],u,x) (.returned (.tuple #[.slice none 0 0, .int .u64 u, .int .u16 n])) w' :=
 ⟨none,0,[],t,rfl,rfl,Uout.nil _ _,rfl,h.ext xx,by show t.v=TrV.mk _ _ (setH t.H x);rw [setH_self h.nd hx];rfl,Upd.ext xx⟩
set_option maxRecDepth 100000 in
set_option maxHeartbeats 4000000 in
theorem hnext_nil {q:Int × List UV × Int × Hv} (gt:Nat) (t:ShM) (R:Nat→Prop) (x:Hv) (w:World) (hq:Hid (nextV t.v x=q)) (h:Hid (ShR w R gt t)) (ok:Hid (OkT t.v)) (hx:Hid (x∈t.H)) (hc:x.ended=true∨(x.ended=false∧x.begun=false∧t.v.up≤x.seen)) :
  Calls Tryz.prog 75 #[.pointer (some ⟨x.g,0,none⟩)] w (ShNextR w R gt t.v q):=by
 have hb:=(h.out.hs x hx.out).1
 obtain ⟨up,hu⟩ : ∃ k,t.v.up=k:=⟨_,rfl⟩
 have HM:Hid (∀ W:World,Ext w W→Calls Tryz.prog 173 #[.pointer (some ⟨gt,0,none⟩)] W fun e w'=>e = .returned (.int .u64 up)∧Ext W w'):=Lib.hid (fun W x=>hu ▸ most_any gt t R W (Lib.hid (h.out.ext x)) ok)
 have HNIL:Hid (∀ n u w',Ext w w'→ShNextR w R gt t.v (n,[],u,x) (.returned (.tuple #[.slice none 0 0, .int .u64 u, .int .u16 n])) w'):=Lib.hid (fun n u w' xx=>ShNextR.nil h.out hx.out xx)
 have hq2:=hq.out
 unfold nextV at hq2
 rw [hu] at hq2 hc
 obtain ⟨g,hold,seen,begun,ended⟩:=x
 replace hb:Bk w g 215 #[.pointer (some ⟨gt,0,none⟩), .int .u64 hold, .int .u64 seen, .bool begun, .bool ended]:=hb
 have HB:=Lib.hid hb
 have c0:=hb.cell 0
 simp at c0
 clear hb hu hq
 have m1:True:=trivial
 rcases hc with hc | ⟨hc1,hc2,hc3⟩
 ·replace hc:ended=true:=hc
  subst hc
  rw [if_pos rfl] at hq2
  subst hq2
  go_enter Tryz.func75,Tryz.ntmps75
  go_wp2_with (go_at_call 173;have mk:=m1;clear m1 mk;refine (HM.out w (Ext.refl _)).mono ?_;rintro r w1 ⟨rfl,x1⟩;have X1:=Lib.hid x1;have c4:=(HB.out.ext x1).cell 4;simp at c4;clear x1)
  go_returns
  exact HNIL.out _ _ _ X1.out
 ·replace hc1:ended=false:=hc1
  replace hc2:begun=false:=hc2
  replace hc3:up≤seen:=hc3
  subst hc1 hc2
  rw [if_neg Bool.false_ne_true,if_pos ⟨rfl,hc3⟩] at hq2
  subst hq2
  go_enter Tryz.func75,Tryz.ntmps75
  go_upto_region 5 with (first
   | (go_at_call 173;have mk:=m1;clear m1 mk;refine (HM.out w (Ext.refl _)).mono ?_;rintro r w1 ⟨rfl,x1⟩;have X1:=Lib.hid x1;have c2:=(HB.out.ext x1).cell 2;have c3:=(HB.out.ext x1).cell 3;have c4:=(HB.out.ext x1).cell 4;simp at c2 c3 c4;clear x1)
   | fail)
  clear c2 c3 c4
  have XD:Ext w1 w1.drew:=(Ext.refl w1).drew
  have Q2 : ∀ y:Xt w1.drew,y.W.cell? ⟨g,2,none⟩=some (.int .u64 seen):=fun y=>by have:=(HB.out.ext (X1.out.trans (XD.trans y.x))).cell 2;simpa using this
  refine wp_region_ord [0,1,3,7,0,31,63] (.flo [0,1,2,3,4,5,6] (.fin)) (by kernel_rfl) (by kernel_rfl) (by intro _ _ d _ _ h;cases d<;>exact h) ?_
  (refine ord_flo (pick_cons rfl (pick_cons rfl (pick_cons rfl (pick_cons rfl (pick_cons rfl (pick_cons rfl (pick_cons rfl pick_nil))))))) ?_;(repeat (go_big_quiet_step (fail)));refine wpQuiet_nil ?_;show ordWalk _ _ _ _ _ _ _)
  refine ord_fin ?_
  go_wp2
  go_returns
  exact HNIL.out _ _ _ (X1.out.trans XD)
theorem uds_good {K:List Ud} {V:List UV} (h:K.map Ud.uv=V) (hg : ∀ u∈V,GoodU u) : ∀ x∈K,InU x:=fun x hx=>(hg x.uv (by rw [← h];exact List.mem_map.2 ⟨x,hx,rfl⟩)).1.u
theorem from_val (L:List Ud) (e:Int):(L.filter (fromU e)).map Ud.uv=(L.map Ud.uv).filter (fromE e):=by
 rw [List.filter_map]
 rfl
/-- the handle's block is written: its answer and what then stands -/
theorem told_hd {w w':World} {R:Nat→Prop} {gt:Nat} {t:ShM} {x:Hv} (h:ShR w R gt t) (hx:x∈t.H) (xx:Ext w w') (up:Int) :
  ShR ((w'.setCell ⟨x.g,3,none⟩ (.bool true)).setCell ⟨x.g,2,none⟩ (.int .u64 up)) R gt { t with H:=setH t.H (tellH x up) }∧Upd (fun k=>k=x.g) w' ((w'.setCell ⟨x.g,3,none⟩ (.bool true)).setCell ⟨x.g,2,none⟩ (.int .u64 up)):=by
 have hb:=((h.ext xx).hs x hx).1
 have u:Upd (fun k=>k=x.g) w' ((w'.setCell ⟨x.g,3,none⟩ (.bool true)).setCell ⟨x.g,2,none⟩ (.int .u64 up)):=((Upd.refl (fun k=>k=x.g) w').setCell (p:=⟨x.g,3,none⟩) (.inl rfl) _).setCell (p:=⟨x.g,2,none⟩) (.inl rfl) _
 exact ⟨(h.ext xx).hd (x':=tellH x up) hx rfl rfl u ((hb.set 3 _).set 2 _),u⟩
theorem ct_at {w:World} {A:Option Addr} {n c i:Nat} {C:List Ct} (h:Sl w 2 A n c (ctsC C)) (hi:i<n) (hn:n=C.length) {y:Ct} (hy:C.getD i Ct.zero=y) : ∃ ad,A=some ad∧w.cell? (ad.add (i * 2))=some (.slice y.A y.l.length y.c)∧w.cell? ⟨(ad.add (i * 2)).block,(ad.add (i * 2)).off+1,none⟩=some (.int .i64 y.k):=by
 obtain ⟨ad,e,hc⟩:=h.2.2.2.2 (by omega)
 have h0:=ctsC_at C i 0 (by omega) (by decide)
 have h1:=ctsC_at C i 1 (by omega) (by decide)
 rw [hy] at h0 h1
 exact ⟨ad,e,hc _ _ h0,by rw [← addr_off _ _ 1 (by omega)];exact hc _ _ h1⟩
set_option maxRecDepth 100000 in
set_option maxHeartbeats 16000000 in
theorem hnext_go {q:Int × List UV × Int × Hv} (gt:Nat) (t:ShM) (R:Nat→Prop) (x:Hv) (w:World) (hq:Hid (nextV t.v x=q)) (h:Hid (ShR w R gt t)) (ok:Hid (OkT t.v)) (hx:Hid (x∈t.H)) (h9:(allV t.v.s).length≤400000) (G:Hid (Good w)) (he:x.ended=false) (hbg:x.begun=true) :
  Calls Tryz.prog 75 #[.pointer (some ⟨x.g,0,none⟩)] w (ShNextR w R gt t.v q):=by
 have hb:=(h.out.hs x hx.out).1
 have hxx:=ok.out.hs x hx.out
 have hupi:=up_in ok.out
 have hxg:=h.out.low _ (h.out.hs x hx.out).2.1
 obtain ⟨up,hu⟩ : ∃ k,t.v.up=k:=⟨_,rfl⟩
 rw [hu] at hupi
 have HM:Hid (∀ W:World,Ext w W→Calls Tryz.prog 173 #[.pointer (some ⟨gt,0,none⟩)] W fun e w'=>e = .returned (.int .u64 up)∧Ext W w'):=Lib.hid (fun W x=>hu ▸ most_any gt t R W (Lib.hid (h.out.ext x)) ok)
 have HT:Hid (∀ w',Ext w w'→ShR ((w'.setCell ⟨x.g,3,none⟩ (.bool true)).setCell ⟨x.g,2,none⟩ (.int .u64 up)) R gt { t with H:=setH t.H (tellH x up) }∧Upd (fun k=>k=x.g) w' ((w'.setCell ⟨x.g,3,none⟩ (.bool true)).setCell ⟨x.g,2,none⟩ (.int .u64 up))∧R x.g):=Lib.hid (fun w' xx=>⟨(told_hd h.out hx.out xx up).1,(told_hd h.out hx.out xx up).2,(h.out.hs x hx.out).2.1⟩)
 have HQ:Hid (q=(0,UdS.sumV (outV (allV t.v.s) true x.seen),up,tellH x up)):=Lib.hid (by
  rw [← hq.out]
  unfold nextV
  rw [hu,he,hbg,if_neg Bool.false_ne_true,if_neg (fun e=>Bool.noConfusion e.1)])
 have HGO:=Lib.hid (out_good (b:=true) ok.out.ok (e:=x.seen) ⟨Int.le_trans hxx.1.1 hxx.1.2.1,hxx.1.2.2⟩)
 have HAG:=Lib.hid (all_good ok.out.ok)
 obtain ⟨gs,hgs⟩ : ∃ g,t.gs=g:=⟨_,rfl⟩
 have HC0:Hid (∀ W,Ext w W→W.cell? ⟨gt,0,none⟩=some (.pointer (some ⟨gs,0,none⟩))):=Lib.hid (fun W x=>hgs ▸ (h.out.bk.ext x).cell 0)
 have HS:Hid (SpR w t.Rs gs t.m):=Lib.hid (hgs ▸ h.out.sp)
 have HV:Hid (allV t.m.v=allV t.v.s):=Lib.hid rfl
 obtain ⟨g,hold,seen,begun,ended⟩:=x
 obtain rfl:ended=false:=he
 obtain rfl:begun=true:=hbg
 replace hb:Bk w g 215 #[.pointer (some ⟨gt,0,none⟩), .int .u64 hold, .int .u64 seen, .bool true, .bool false]:=hb
 replace hxg:g<w.heap.size:=hxg
 have HB:=Lib.hid hb
 have hs0:0≤seen∧seen≤18446744073709551615:=⟨Int.le_trans hxx.1.1 hxx.1.2.1,hxx.1.2.2⟩
 obtain ⟨V,hV⟩ : ∃ V,allV t.v.s=V:=⟨_,rfl⟩
 rw [hV] at HQ HGO HAG HV h9
 replace HQ:Hid (q=(0,UdS.sumV (outV V true seen),up,tellH ⟨g,hold,seen,true,false⟩ up)):=HQ
 replace HGO:Hid (∀ u∈outV V true seen,GoodU u):=HGO
 replace HT:Hid (∀ w',Ext w w'→ShR ((w'.setCell ⟨g,3,none⟩ (.bool true)).setCell ⟨g,2,none⟩ (.int .u64 up)) R gt { t with H:=setH t.H (tellH ⟨g,hold,seen,true,false⟩ up) }∧Upd (fun k=>k=g) w' ((w'.setCell ⟨g,3,none⟩ (.bool true)).setCell ⟨g,2,none⟩ (.int .u64 up))∧R g):=HT
 have HOL:=out_len V true seen
 have c0:=hb.cell 0
 simp at c0
 have CH:Hid (∀ W,Ext w W→W.cell? ⟨g,0,none⟩=some (.pointer (some ⟨gt,0,none⟩))∧W.cell? ⟨g,2,none⟩=some (.int .u64 seen)∧W.cell? ⟨g,3,none⟩=some (.bool true)∧W.cell? ⟨g,4,none⟩=some (.bool false)):=Lib.hid (fun W xx=>by
  have b:=hb.ext xx
  have k0:=b.cell 0
  have k2:=b.cell 2
  have k3:=b.cell 3
  have k4:=b.cell 4
  simp at k0 k2 k3 k4
  exact ⟨k0,k2,k3,k4⟩)
 have HFR:Hid (∀ W,Ext w W→W.frozen? ⟨g,2,none⟩=false∧W.frozen? ⟨g,3,none⟩=false∧g<W.heap.size):=Lib.hid (fun W xx=>⟨(hb.ext xx).free 2,(hb.ext xx).free 3,(hb.ext xx).lt⟩)
 clear hb hu hq hgs hV hxx
 have m1:True:=trivial
 go_enter Tryz.func75,Tryz.ntmps75
 go_wp2_with (first
  | (go_at_call 173;have mk:=m1;clear m1 mk;refine (HM.out w (Ext.refl _)).mono ?_;rintro r w1 ⟨rfl,x1⟩;have X1:=Lib.hid x1;obtain ⟨k0,k2,k3,k4⟩:=CH.out w1 x1;have c10:=HC0.out w1 x1;clear x1;have m2:True:=trivial)
  | (go_at_call 48;have mk:=m2;clear m2 mk;refine (spAll_any (V:=V) gs t.m t.Rs _ HV (Lib.hid (HS.out.ext X1.out)) (Lib.hid ok.out.ok.sp)).mono ?_;rintro r w2 ⟨A2,n2,R2,rfl,h2,u2,e2,x2⟩;have HN2:=Lib.hid h2;have HU2:=Lib.hid u2;have HE2:=Lib.hid e2;have X2:=Lib.hid (X1.out.trans x2);have hn2:n2≤400000:=(by rw [h2];have a:=congrArg List.length e2;rw [List.length_map] at a;omega);obtain ⟨j0,j2,j3,j4⟩:=CH.out w2 X2.out;clear h2 u2 e2 x2;have m3:True:=trivial)
  | fail)
 go_loopg [7,88] n2 (fun z u v wr => ∃ (i m c:Nat) (A:Option Addr),z=n2 - i∧i≤n2∧m≤0+i∧u = .slice A m c∧v = .int .i64 i∧Hid (NxI w2 wr ([]++(R2.take i).filter (fromU seen)) A m c))
 case atStart=>exact ⟨0,_,_,_,rfl,Nat.zero_le _,by omega,rfl,rfl,Lib.hid ⟨rfl,Own.nil _ _ _ _,Ext.refl _⟩⟩
 case round =>
  obtain ⟨i,m,c,A,rfl,hi,hm,rfl,rfl,HP⟩:=hrel
  have XE:Hid (Ext w2 wr):=Lib.hid (HP.out.ext)
  by_cases hlt:i<n2
  ·have hil:i<R2.length:=by rw [← HN2.out];exact hlt
   obtain ⟨ad,rfl,p0,p1,p2,p3⟩:=(HU2.out.uin.ext XE.out).at hil
   obtain ⟨y,hy⟩ : ∃ y,R2.getD i Ud.zero=y:=⟨_,rfl⟩
   rw [hy] at p0 p1 p2 p3
   obtain ⟨ny,hny⟩ : ∃ n,n=y.l.length:=⟨_,rfl⟩
   obtain ⟨ty,hty⟩ : ∃ n,n=y.t.l.length:=⟨_,rfl⟩
   rw [← hny] at p0
   rw [← hty] at p2
   have HNY:=Lib.hid hny
   have HTY:=Lib.hid hty
   have HY:=Lib.hid hy
   have HIL:=Lib.hid hil
   have XA:Hid (Ext wr ((wr.alloc (.cells #[.slice y.A ny y.c, .int .u64 y.t.e, .slice y.t.A ty y.t.c, .int .i64 y.d] 95)).alloc (.cells #[.slice y.A ny y.c, .int .u64 y.t.e, .slice y.t.A ty y.t.c, .int .i64 y.d] 95))):=Lib.hid (((Ext.refl wr).alloc _).alloc _)
   clear hil hny hty hy
   by_cases hfe:seen≤y.t.e
   ·have hz:=HP.out.ext.size
    go_wp2_with (first
     | (at_builtin;refine wpList_append_two _ elem_ud w2.heap.size _ _ rfl rfl A m c (udsC ([]++(R2.take i).filter (fromU seen))) rfl (HP.out.own.ext XA.out) (some ⟨wr.heap.size+1,0,none⟩) 1 1 [.slice y.A ny y.c, .int .u64 y.t.e, .slice y.t.A ty y.t.c, .int .i64 y.d] rfl (by have q:=Sl.one (wr.alloc (.cells #[.slice y.A ny y.c, .int .u64 y.t.e, .slice y.t.A ty y.t.c, .int .i64 y.d] 95)) #[.slice y.A ny y.c, .int .u64 y.t.e, .slice y.t.A ty y.t.c, .int .i64 y.d] 95 4 rfl;simpa using q) (by intro u hu;simp at hu;rcases hu with rfl | rfl | rfl | rfl<;>rfl) (by omega) (by decide) (by simp;omega) ?_;intro A6 c6 w6 o6 g6 h6;clear h6;have HQ6:Hid (NxI w2 w6 ([]++(R2.take (i+1)).filter (fromU seen)) A6 (m+1) c6):=Lib.hid (by rw [fromU_step HIL.out HY.out,if_pos hfe, ← List.append_assoc];exact HP.out.more XA.out (by have q:=o6;rw [HNY.out,HTY.out] at q;exact q) g6);clear o6 g6)
     | fail)
    go_roundg (n2 - (i+1))
    case measure=>omega
    case rel=>exact ⟨i+1,m+1,c6,A6,by omega,by omega,by omega,rfl,by go_num,HQ6⟩
   ·have HQ6:Hid (∀ w6,Ext wr w6→NxI w2 w6 ([]++(R2.take (i+1)).filter (fromU seen)) A m c):=Lib.hid (fun w6 xx=>by rw [fromU_step HIL.out HY.out,if_neg hfe,List.append_nil];exact HP.out.grow xx)
    go_wp2
    go_roundg (n2 - (i+1))
    case measure=>omega
    case rel=>exact ⟨i+1,m,c,A,by omega,by omega,by omega,rfl,by go_num,Lib.hid (HQ6.out _ ((Ext.refl wr).alloc _))⟩
  ·obtain rfl:i=n2:=by omega
   have HR2:R2.take i=R2:=List.take_of_length_le (by rw [← HN2.out];exact Nat.le_refl _)
   rw [HR2] at HP
   have HKV:Hid (([]++R2.filter (fromU seen)).map Ud.uv=outV V true seen):=Lib.hid (by rw [List.nil_append,from_val,HE2.out];rfl)
   have HKI:Hid (∀ y∈[]++R2.filter (fromU seen),InU y):=Lib.hid (uds_good HKV.out HGO.out)
   have XR:Hid (Ext w wr):=Lib.hid (X2.out.trans XE.out)
   obtain ⟨hS1,hS2,hS3⟩:=HT.out wr XR.out
   have HS1:=Lib.hid hS1
   have HS2:=Lib.hid hS2
   have HS3:=Lib.hid hS3
   obtain ⟨j0_,j2_,j3_,j4_⟩:=CH.out wr XR.out
   obtain ⟨fr2,fr3,frl⟩:=HFR.out wr XR.out
   have b3:(wr.setCell ⟨g,3,none⟩ (.bool true)).cell? ⟨g,2,none⟩=some (.int .u64 seen):=by have q:=((HB.out.ext XR.out).set 3 (.bool true)).cell 2;simpa using q
   have f3:(wr.setCell ⟨g,3,none⟩ (.bool true)).frozen? ⟨g,2,none⟩=false:=((HB.out.ext XR.out).set 3 (.bool true)).free 2
   have l3:g<(wr.setCell ⟨g,3,none⟩ (.bool true)).heap.size:=by simpa using frl
   have HUW:Hid (Upd (fun k=>k=g) w2 ((wr.setCell ⟨g,3,none⟩ (.bool true)).setCell ⟨g,2,none⟩ (.int .u64 up))):=Lib.hid ((Upd.ext XE.out).trans HS2.out)
   have hgw2:g<w2.heap.size:=by have:=X2.out.size;omega
   have HUK:Hid (Uin ((wr.setCell ⟨g,3,none⟩ (.bool true)).setCell ⟨g,2,none⟩ (.int .u64 up)) A c ([]++R2.filter (fromU seen))):=Lib.hid ⟨by have q:=(HP.out.own.upd HS2.out (fun k hk e=>by have:=(HP.out.own.lt k hk).1;omega)).sl;rwa [HP.out.len] at q,fun y hy=>by
    rcases List.mem_append.1 hy with hy | hy
    ·exact (nomatch hy)
    ·exact (HU2.out.updB HUW.out (fun k hk e=>by have:=(HU2.out.lt hk).1;have:=X1.out.size;omega)).uin.ls y (List.mem_filter.1 hy).1⟩
   have hm8:m≤1000000:=by omega
   go_wp2_with (first
    | (go_at_call 16;refine (dsum_at A c m _ _ (Lib.hid (congrArg UdS.sumV HKV.out)) (Lib.hid HP.out.len) HUK hm8 (Lib.hid fun y hy=>(HKI.out y hy).num) (Lib.hid fun y hy=>(HKI.out y hy).lens)).mono ?_;rintro r w9 ⟨A9,m9,Q9,rfl,h9_,u9,e9,x9⟩;have HN9:=Lib.hid h9_;have HU9:=Lib.hid u9;have HE9:=Lib.hid e9;have X9:=Lib.hid x9;clear h9_ u9 e9 x9)
    | fail)
   go_returns
   have hz9:=HUW.out.size
   rw [HQ.out]
   exact ⟨A9,m9,Q9,_,rfl,HN9.out,HU9.out.mono (Nat.le_trans X2.out.size hz9),HE9.out,HS1.out.ext X9.out,rfl,(Upd.ext XR.out).trans ((HS2.out.mono fun k _ e=>e ▸ HS3.out).trans (Upd.ext X9.out))⟩
set_option maxRecDepth 100000 in
set_option maxHeartbeats 16000000 in
theorem hnext_new {q:Int × List UV × Int × Hv} (gt:Nat) (t:ShM) (R:Nat→Prop) (x:Hv) (w:World) (hq:Hid (nextV t.v x=q)) (h:Hid (ShR w R gt t)) (ok:Hid (OkT t.v)) (hx:Hid (x∈t.H)) (h9:(allV t.v.s).length≤400000) (G:Hid (Good w)) (he:x.ended=false) (hbg:x.begun=false) (hup:x.seen<t.v.up) :
  Calls Tryz.prog 75 #[.pointer (some ⟨x.g,0,none⟩)] w (ShNextR w R gt t.v q):=by
 have hb:=(h.out.hs x hx.out).1
 have hxx:=ok.out.hs x hx.out
 have hupi:=up_in ok.out
 have hxg:=h.out.low _ (h.out.hs x hx.out).2.1
 obtain ⟨up,hu⟩ : ∃ k,t.v.up=k:=⟨_,rfl⟩
 rw [hu] at hupi
 have HM:Hid (∀ W:World,Ext w W→Calls Tryz.prog 173 #[.pointer (some ⟨gt,0,none⟩)] W fun e w'=>e = .returned (.int .u64 up)∧Ext W w'):=Lib.hid (fun W x=>hu ▸ most_any gt t R W (Lib.hid (h.out.ext x)) ok)
 have HT:Hid (∀ w',Ext w w'→ShR ((w'.setCell ⟨x.g,3,none⟩ (.bool true)).setCell ⟨x.g,2,none⟩ (.int .u64 up)) R gt { t with H:=setH t.H (tellH x up) }∧Upd (fun k=>k=x.g) w' ((w'.setCell ⟨x.g,3,none⟩ (.bool true)).setCell ⟨x.g,2,none⟩ (.int .u64 up))∧R x.g):=Lib.hid (fun w' xx=>⟨(told_hd h.out hx.out xx up).1,(told_hd h.out hx.out xx up).2,(h.out.hs x hx.out).2.1⟩)
 have HQ:Hid (q=(0,UdS.sumV (outV (allV t.v.s) false x.seen),up,tellH x up)):=Lib.hid (by
  rw [← hq.out]
  unfold nextV
  rw [hu,he,hbg,if_neg Bool.false_ne_true,if_neg (fun e=>by have:=e.2;rw [hu] at hup;omega)])
 have HGO:=Lib.hid (out_good (b:=false) ok.out.ok (e:=x.seen) ⟨Int.le_trans hxx.1.1 hxx.1.2.1,hxx.1.2.2⟩)
 have HAG:=Lib.hid (all_good ok.out.ok)
 obtain ⟨gs,hgs⟩ : ∃ g,t.gs=g:=⟨_,rfl⟩
 have HC0:Hid (∀ W,Ext w W→W.cell? ⟨gt,0,none⟩=some (.pointer (some ⟨gs,0,none⟩))):=Lib.hid (fun W x=>hgs ▸ (h.out.bk.ext x).cell 0)
 have HS:Hid (SpR w t.Rs gs t.m):=Lib.hid (hgs ▸ h.out.sp)
 have HV:Hid (allV t.m.v=allV t.v.s):=Lib.hid rfl
 have hup2:x.seen<up:=by rw [← hu];exact hup
 clear hup
 obtain ⟨g,hold,seen,begun,ended⟩:=x
 obtain rfl:ended=false:=he
 obtain rfl:begun=false:=hbg
 replace hb:Bk w g 215 #[.pointer (some ⟨gt,0,none⟩), .int .u64 hold, .int .u64 seen, .bool false, .bool false]:=hb
 replace hxg:g<w.heap.size:=hxg
 have HB:=Lib.hid hb
 have hs0:0≤seen∧seen≤18446744073709551615:=⟨Int.le_trans hxx.1.1 hxx.1.2.1,hxx.1.2.2⟩
 obtain ⟨V,hV⟩ : ∃ V,allV t.v.s=V:=⟨_,rfl⟩
 rw [hV] at HQ HGO HAG HV h9
 replace HQ:Hid (q=(0,UdS.sumV (outV V false seen),up,tellH ⟨g,hold,seen,false,false⟩ up)):=HQ
 replace HGO:Hid (∀ u∈outV V false seen,GoodU u):=HGO
 replace HT:Hid (∀ w',Ext w w'→ShR ((w'.setCell ⟨g,3,none⟩ (.bool true)).setCell ⟨g,2,none⟩ (.int .u64 up)) R gt { t with H:=setH t.H (tellH ⟨g,hold,seen,false,false⟩ up) }∧Upd (fun k=>k=g) w' ((w'.setCell ⟨g,3,none⟩ (.bool true)).setCell ⟨g,2,none⟩ (.int .u64 up))∧R g):=HT
 have HOL:=out_len V true seen
 have c0:=hb.cell 0
 simp at c0
 have CH:Hid (∀ W,Ext w W→W.cell? ⟨g,0,none⟩=some (.pointer (some ⟨gt,0,none⟩))∧W.cell? ⟨g,2,none⟩=some (.int .u64 seen)∧W.cell? ⟨g,3,none⟩=some (.bool false)∧W.cell? ⟨g,4,none⟩=some (.bool false)):=Lib.hid (fun W xx=>by
  have b:=hb.ext xx
  have k0:=b.cell 0
  have k2:=b.cell 2
  have k3:=b.cell 3
  have k4:=b.cell 4
  simp at k0 k2 k3 k4
  exact ⟨k0,k2,k3,k4⟩)
 have HFR:Hid (∀ W,Ext w W→W.frozen? ⟨g,2,none⟩=false∧W.frozen? ⟨g,3,none⟩=false∧g<W.heap.size):=Lib.hid (fun W xx=>⟨(hb.ext xx).free 2,(hb.ext xx).free 3,(hb.ext xx).lt⟩)
 clear hb hu hq hgs hV hxx
 have m1:True:=trivial
 go_enter Tryz.func75,Tryz.ntmps75
 go_wp2_with (first
  | (go_at_call 173;have mk:=m1;clear m1 mk;refine (HM.out w (Ext.refl _)).mono ?_;rintro r w1 ⟨rfl,x1⟩;have X1:=Lib.hid x1;obtain ⟨k0,k2,k3,k4⟩:=CH.out w1 x1;have c10:=HC0.out w1 x1;clear x1;have m2:True:=trivial)
  | (go_at_call 48;have mk:=m2;clear m2 mk;refine (spAll_any (V:=V) gs t.m t.Rs _ HV (Lib.hid (HS.out.ext X1.out)) (Lib.hid ok.out.ok.sp)).mono ?_;rintro r w2 ⟨A2,n2,R2,rfl,h2,u2,e2,x2⟩;have HN2:=Lib.hid h2;have HU2:=Lib.hid u2;have HE2:=Lib.hid e2;have X2:=Lib.hid (X1.out.trans x2);have hn2:n2≤400000:=(by rw [h2];have a:=congrArg List.length e2;rw [List.length_map] at a;omega);obtain ⟨j0,j2,j3,j4⟩:=CH.out w2 X2.out;clear h2 u2 e2 x2;have m3:True:=trivial)
  | (go_at_call 172;have mk:=m3;clear m3 mk;refine (at_any seen _).mono ?_;rintro r w3 ⟨rfl,x3⟩;have X3:=Lib.hid (X2.out.trans x3);have Y3:=Lib.hid x3;clear x3;have m4:True:=trivial)
  | (go_at_call 17;have mk:=m4;clear m4 mk;refine (dat_any A2 n2 n2 R2 seen none 0 0 [] _ HN2 (Lib.hid (HU2.out.uin.ext Y3.out)) (by omega) (Lib.hid (uds_good HE2.out HAG.out)) (Lib.hid (Sl.nil _ _)) (G.out.ext X3.out)).mono ?_;rintro r w4 ⟨A4,n4,c4,C,rfl,h4,o4,q4,a4,e4,x4⟩;have HN4:=Lib.hid h4;have X4:=Lib.hid (X3.out.trans x4);have Y4:=Lib.hid (Y3.out.trans x4);have HC4:Hid (Sl w4 2 A4 n4 c4 (ctsC C)):=Lib.hid o4.sl;have HQ4:=Lib.hid q4;have HE4:Hid (C.map valC=sumV (atV V (seen,[]))):=Lib.hid (by rw [e4,HE2.out]);have hn4:n4≤400000:=(by rw [h4];have a:=congrArg List.length HE4.out;rw [List.length_map] at a;have b:=(Nat.le_trans (List.length_filter_le _ _) (rsumAll_len (atV V (seen,[]))):(sumV (atV V (seen,[]))).length≤_);have d:(atV V (seen,[])).length≤V.length:=(by unfold atV;rw [List.length_map];exact List.length_filter_le _ _);omega);have hz4:=x4.size;have hz3:=Y3.out.size;have hz2:=X2.out.size;obtain ⟨j0,j2,j3,j4⟩:=CH.out w4 X4.out;clear h4 o4 q4 a4 e4 x4)
  | fail)
 have HBAG:Hid (∀ W,Upd (fun k=>k=g) w4 W → ∀ y∈bagU C seen,UdR W y):=Lib.hid (fun W u y hy=>by
  obtain ⟨z,hz,rfl⟩:=List.mem_map.1 hy
  obtain ⟨a,b⟩:=HQ4.out z hz
  refine ⟨(Own.upd a u (fun k hk e=>?_)).sl,Sl.nil _ _⟩
  obtain ⟨ad,e1,e2⟩:=blk_some hk
  have:=(b ad e1).1
  have:=X3.out.size
  omega)
 go_loopg [7,66] n4 (fun z u v wr => ∃ (i m c:Nat) (A:Option Addr),z=n4 - i∧i≤n4∧m≤i∧u = .slice A m c∧v = .int .i64 i∧Hid (NxI w4 wr (bagU (C.take i) seen) A m c))
 case atStart=>exact ⟨0,0,0,none,rfl,Nat.zero_le _,Nat.le_refl _,rfl,rfl,Lib.hid ⟨rfl,Own.nil _ _ _ _,Ext.refl _⟩⟩
 case round =>
  obtain ⟨i,m,c,A,rfl,hi,hmi,rfl,rfl,HP⟩:=hrel
  by_cases hlt:i<n4
  ·have hil:i<C.length:=by rw [← HN4.out];exact hlt
   have HCT:Hid (Sl wr 2 A4 n4 c4 (ctsC C)):=Lib.hid (HC4.out.ext HP.out.ext)
   obtain ⟨y,hy⟩ : ∃ y,C.getD i Ct.zero=y:=⟨_,rfl⟩
   obtain ⟨ad,rfl,p0,p1⟩:=ct_at HCT.out hlt HN4.out hy
   obtain ⟨ny,hny⟩ : ∃ n,n=y.l.length:=⟨_,rfl⟩
   rw [← hny] at p0
   have HNY:=Lib.hid hny
   have HY:=Lib.hid hy
   have HIL:=Lib.hid hil
   clear hil hny hy
   have hz:=HP.out.ext.size
   go_upto_region 13 with fail
   obtain ⟨wb,hwb⟩ : ∃ wb,wb=wr.alloc (.cells #[.slice y.A ny y.c, .int .i64 y.k] 154):=⟨_,rfl⟩
   obtain ⟨gb,hgb⟩ : ∃ k,k=wr.heap.size:=⟨_,rfl⟩
   have XB:Hid (Ext wr wb):=Lib.hid (by rw [hwb];exact (Ext.refl _).alloc _)
   have BX:Hid (Bk wb gb 154 #[.slice y.A ny y.c, .int .i64 y.k]):=Lib.hid (by rw [hwb,hgb];exact Bk.new _ _ _)
   rw [← hwb, ← hgb]
   clear hwb hgb p0 p1
   have XD:Ext wb wb.drew:=(Ext.refl wb).drew
   have HWX:Hid (Ext w wr):=Lib.hid (X4.out.trans HP.out.ext)
   have Q0 : ∀ z:Xt wb.drew,z.W.cell? ⟨gb,0,none⟩=some (.slice y.A ny y.c):=fun z=>(BX.out.ext (XD.trans z.x)).cell 0
   have Q1 : ∀ z:Xt wb.drew,z.W.cell? ⟨gb,1,none⟩=some (.int .i64 y.k):=fun z=>(BX.out.ext (XD.trans z.x)).cell 1
   have Q2 : ∀ z:Xt wb.drew,z.W.cell? ⟨g,2,none⟩=some (.int .u64 seen):=fun z=>(CH.out _ (HWX.out.trans (XB.out.trans (XD.trans z.x)))).2.1
   refine wp_region_ord [0,0,2,0,8,24,56,120,0,256,1022,2046,4095,8191] (.pur [0] (.flo [1,2,3,4,5,6,8,9] (.ext 7 (.flo [10] (.one 11 (.one 12 (.flo [13] (.fin)))))))) (by kernel_rfl) (by kernel_rfl) (by intro _ _ d _ _ h;cases d<;>exact h) ?_
   (refine ord_pur (pick_cons rfl pick_nil) ?_;(repeat (go_big_quiet_step (fail)));refine wpQuiet_nil ?_;show ordWalk _ _ _ _ _ _ _)
   (refine ord_flo (pick_cons rfl (pick_cons rfl (pick_cons rfl (pick_cons rfl (pick_cons rfl (pick_cons rfl (pick_cons rfl (pick_cons rfl pick_nil)))))))) ?_;(repeat (go_big_quiet_step (fail)));refine wpQuiet_nil ?_;show ordWalk _ _ _ _ _ _ _)
   refine ord_ext (pick_cons rfl pick_nil) ?_;intro K_ hK_
   go_wp2_with (go_at_call 172;refine (at_any seen _).mono ?_;rintro r w7 ⟨rfl,x7⟩;have X7:=Lib.hid (XB.out.trans (XD.trans x7));have Y7:=Lib.hid x7;clear x7)
   refine ordNext.mk Y7.out ?_
   (refine ord_flo (pick_cons rfl pick_nil) ?_;(repeat (go_big_quiet_step (fail)));refine wpQuiet_nil ?_;show ordWalk _ _ _ _ _ _ _)
   refine ord_one (pick_cons rfl pick_nil) ?_;intro K_ hK_
   clear Q0 Q1 Q2 XD
   go_wp2
   refine ord_one (pick_cons rfl pick_nil) ?_;intro K_ hK_
   have XA:Hid (Ext wr (w7.alloc (.cells #[.slice y.A ny y.c, .int .u64 seen, .slice none 0 0, .int .i64 y.k] 95))):=Lib.hid (X7.out.alloc _)
   have hz7:=X7.out.size
   go_wp2_with (first
    | (at_builtin;refine wpList_append_two _ elem_ud w4.heap.size _ _ rfl rfl A m c (udsC (bagU (C.take i) seen)) rfl (HP.out.own.ext XA.out) (some ⟨w7.heap.size,0,none⟩) 1 1 [.slice y.A ny y.c, .int .u64 seen, .slice none 0 0, .int .i64 y.k] rfl (by have q:=Sl.one w7 #[.slice y.A ny y.c, .int .u64 seen, .slice none 0 0, .int .i64 y.k] 95 4 rfl;simpa using q) (by intro u hu;simp at hu;rcases hu with rfl | rfl | rfl | rfl<;>rfl) (by omega) (by decide) (by simp;omega) ?_;intro A6 c6 w6 o6 g6 h6;clear h6;have HQ6:Hid (NxI w4 w6 (bagU (C.take (i+1)) seen) A6 (m+1) c6):=Lib.hid (by rw [bagU_step HIL.out HY.out];exact HP.out.more XA.out (by have q:=o6;rw [HNY.out] at q;exact q) g6);clear o6 g6)
    | fail)
   go_simp
   (refine ord_flo (pick_cons rfl pick_nil) ?_;(repeat (go_big_quiet_step (fail)));refine wpQuiet_nil ?_;show ordWalk _ _ _ _ _ _ _)
   refine ord_fin ?_
   go_wp2
   go_roundg (n4 - (i+1))
   case measure=>omega
   case rel=>exact ⟨i+1,m+1,c6,A6,by omega,by omega,by omega,rfl,by go_num,HQ6⟩
  ·have hin:Hid (i=n4):=Lib.hid (by omega)
   have HCT:C.take i=C:=List.take_of_length_le (by rw [← HN4.out];have:=hin.out;omega)
   rw [HCT] at HP
   have hwp:IntKind.u64.wrap (seen+1)=seen+1:=by rw [IntKind.wrap_u64];omega
   obtain ⟨wo,hwo⟩ : ∃ wo:World,wo=wr:=⟨_,rfl⟩
   rw [← hwo] at HP ⊢
   clear hwo
   go_wp2
   go_loopg [7,88] n2 (fun z u v wr => ∃ (i m c:Nat) (A:Option Addr),z=n2 - i∧i≤n2∧m≤n4+i∧u = .slice A m c∧v = .int .i64 i∧Hid (NxI w4 wr (bagU C seen++(R2.take i).filter (fromU (seen+1))) A m c))
   case atStart=>exact ⟨0,_,_,_,rfl,Nat.zero_le _,by omega,rfl,rfl,Lib.hid (by simpa using HP.out)⟩
   case round =>
    obtain ⟨i,m,c,A,rfl,hi,hm,rfl,rfl,HP⟩:=hrel
    have XE:Hid (Ext w2 wr):=Lib.hid ((Y4.out.trans HP.out.ext))
    by_cases hlt:i<n2
    ·have hil:i<R2.length:=by rw [← HN2.out];exact hlt
     obtain ⟨ad,rfl,p0,p1,p2,p3⟩:=(HU2.out.uin.ext XE.out).at hil
     obtain ⟨y,hy⟩ : ∃ y,R2.getD i Ud.zero=y:=⟨_,rfl⟩
     rw [hy] at p0 p1 p2 p3
     obtain ⟨ny,hny⟩ : ∃ n,n=y.l.length:=⟨_,rfl⟩
     obtain ⟨ty,hty⟩ : ∃ n,n=y.t.l.length:=⟨_,rfl⟩
     rw [← hny] at p0
     rw [← hty] at p2
     have HNY:=Lib.hid hny
     have HTY:=Lib.hid hty
     have HY:=Lib.hid hy
     have HIL:=Lib.hid hil
     have XA:Hid (Ext wr ((wr.alloc (.cells #[.slice y.A ny y.c, .int .u64 y.t.e, .slice y.t.A ty y.t.c, .int .i64 y.d] 95)).alloc (.cells #[.slice y.A ny y.c, .int .u64 y.t.e, .slice y.t.A ty y.t.c, .int .i64 y.d] 95))):=Lib.hid (((Ext.refl wr).alloc _).alloc _)
     clear hil hny hty hy
     by_cases hfe:(seen+1)≤y.t.e
     ·have hz:=HP.out.ext.size
      go_wp2_with (first
       | (at_builtin;refine wpList_append_two _ elem_ud w4.heap.size _ _ rfl rfl A m c (udsC (bagU C seen++(R2.take i).filter (fromU (seen+1)))) rfl (HP.out.own.ext XA.out) (some ⟨wr.heap.size+1,0,none⟩) 1 1 [.slice y.A ny y.c, .int .u64 y.t.e, .slice y.t.A ty y.t.c, .int .i64 y.d] rfl (by have q:=Sl.one (wr.alloc (.cells #[.slice y.A ny y.c, .int .u64 y.t.e, .slice y.t.A ty y.t.c, .int .i64 y.d] 95)) #[.slice y.A ny y.c, .int .u64 y.t.e, .slice y.t.A ty y.t.c, .int .i64 y.d] 95 4 rfl;simpa using q) (by intro u hu;simp at hu;rcases hu with rfl | rfl | rfl | rfl<;>rfl) (by omega) (by decide) (by simp;omega) ?_;intro A6 c6 w6 o6 g6 h6;clear h6;have HQ6:Hid (NxI w4 w6 (bagU C seen++(R2.take (i+1)).filter (fromU (seen+1))) A6 (m+1) c6):=Lib.hid (by rw [fromU_step HIL.out HY.out,if_pos hfe, ← List.append_assoc];exact HP.out.more XA.out (by have q:=o6;rw [HNY.out,HTY.out] at q;exact q) g6);clear o6 g6)
       | fail)
      go_roundg (n2 - (i+1))
      case measure=>omega
      case rel=>exact ⟨i+1,m+1,c6,A6,by omega,by omega,by omega,rfl,by go_num,HQ6⟩
     ·have HQ6:Hid (∀ w6,Ext wr w6→NxI w4 w6 (bagU C seen++(R2.take (i+1)).filter (fromU (seen+1))) A m c):=Lib.hid (fun w6 xx=>by rw [fromU_step HIL.out HY.out,if_neg hfe,List.append_nil];exact HP.out.grow xx)
      go_wp2
      go_roundg (n2 - (i+1))
      case measure=>omega
      case rel=>exact ⟨i+1,m,c,A,by omega,by omega,by omega,rfl,by go_num,Lib.hid (HQ6.out _ ((Ext.refl wr).alloc _))⟩
    ·obtain rfl:i=n2:=by omega
     have HR2:R2.take i=R2:=List.take_of_length_le (by rw [← HN2.out];exact Nat.le_refl _)
     rw [HR2] at HP
     have HKV:Hid ((bagU C seen++R2.filter (fromU (seen+1))).map Ud.uv=outV V false seen):=Lib.hid (by rw [List.map_append,bagU_val,HE4.out,from_val,HE2.out];rfl)
     have HKI:Hid (∀ y∈bagU C seen++R2.filter (fromU (seen+1)),InU y):=Lib.hid (uds_good HKV.out HGO.out)
     have XR:Hid (Ext w wr):=Lib.hid (X2.out.trans XE.out)
     obtain ⟨hS1,hS2,hS3⟩:=HT.out wr XR.out
     have HS1:=Lib.hid hS1
     have HS2:=Lib.hid hS2
     have HS3:=Lib.hid hS3
     obtain ⟨j0_,j2_,j3_,j4_⟩:=CH.out wr XR.out
     obtain ⟨fr2,fr3,frl⟩:=HFR.out wr XR.out
     have b3:(wr.setCell ⟨g,3,none⟩ (.bool true)).cell? ⟨g,2,none⟩=some (.int .u64 seen):=by have q:=((HB.out.ext XR.out).set 3 (.bool true)).cell 2;simpa using q
     have f3:(wr.setCell ⟨g,3,none⟩ (.bool true)).frozen? ⟨g,2,none⟩=false:=((HB.out.ext XR.out).set 3 (.bool true)).free 2
     have l3:g<(wr.setCell ⟨g,3,none⟩ (.bool true)).heap.size:=by simpa using frl
     have HUW:Hid (Upd (fun k=>k=g) w2 ((wr.setCell ⟨g,3,none⟩ (.bool true)).setCell ⟨g,2,none⟩ (.int .u64 up))):=Lib.hid ((Upd.ext XE.out).trans HS2.out)
     have hgw2:g<w4.heap.size:=by have:=X2.out.size;have:=Y4.out.size;omega
     have HUK:Hid (Uin ((wr.setCell ⟨g,3,none⟩ (.bool true)).setCell ⟨g,2,none⟩ (.int .u64 up)) A c (bagU C seen++R2.filter (fromU (seen+1)))):=Lib.hid ⟨by have q:=(HP.out.own.upd HS2.out (fun k hk e=>by have:=(HP.out.own.lt k hk).1;omega)).sl;rwa [HP.out.len] at q,fun y hy=>by
      rcases List.mem_append.1 hy with hy | hy
      ·exact HBAG.out _ ((Upd.ext HP.out.ext).trans HS2.out) y hy
      ·exact (HU2.out.updB HUW.out (fun k hk e=>by have:=(HU2.out.lt hk).1;have:=X1.out.size;omega)).uin.ls y (List.mem_filter.1 hy).1⟩
     have hm8:m≤1000000:=by omega
     go_wp2_with (first
      | (go_at_call 16;refine (dsum_at A c m _ _ (Lib.hid (congrArg UdS.sumV HKV.out)) (Lib.hid HP.out.len) HUK hm8 (Lib.hid fun y hy=>(HKI.out y hy).num) (Lib.hid fun y hy=>(HKI.out y hy).lens)).mono ?_;rintro r w9 ⟨A9,m9,Q9,rfl,h9_,u9,e9,x9⟩;have HN9:=Lib.hid h9_;have HU9:=Lib.hid u9;have HE9:=Lib.hid e9;have X9:=Lib.hid x9;clear h9_ u9 e9 x9)
      | fail)
     go_returns
     have hz9:=HUW.out.size
     rw [HQ.out]
     exact ⟨A9,m9,Q9,_,rfl,HN9.out,HU9.out.mono (Nat.le_trans X2.out.size hz9),HE9.out,HS1.out.ext X9.out,rfl,(Upd.ext XR.out).trans ((HS2.out.mono fun k _ e=>e ▸ HS3.out).trans (Upd.ext X9.out))⟩
theorem hnext_any {q:Int × List UV × Int × Hv} (gt:Nat) (t:ShM) (R:Nat→Prop) (x:Hv) (w:World) (hq:Hid (nextV t.v x=q)) (h:Hid (ShR w R gt t)) (ok:Hid (OkT t.v)) (hx:Hid (x∈t.H)) (h9:(allV t.v.s).length≤400000) (G:Hid (Good w)) :
  Calls Tryz.prog 75 #[.pointer (some ⟨x.g,0,none⟩)] w (ShNextR w R gt t.v q):=by
 cases he:x.ended with
 | true=>exact hnext_nil gt t R x w hq h ok hx (.inl he)
 | false =>
  cases hb:x.begun with
  | true=>exact hnext_go gt t R x w hq h ok hx h9 G he hb
  | false =>
   by_cases hup:t.v.up≤x.seen
   ·exact hnext_nil gt t R x w hq h ok hx (.inr ⟨he,hb,hup⟩)
   ·exact hnext_new gt t R x w hq h ok hx h9 G he hb (by omega)
end Go.Proofs.YtdgbkpoickbidaaGreatDoor
