/- penstockref04.Cmp: what it answers. DeltaSame: are rows such as may be; are times few. Counts of times: their frontier, and how it moves. Plain. Lists of changes in memory. Contracts of library functions at this seat, laid by a tool of the kit. The laid contracts that the texts lean on. stamp.Print: how a time is written. strconv.FormatUint at base 10, of any number of 64 bits; its table stands as it was laid. How many digits a number has. Plain. A time as it is written, by the program and by the document: both the same. Times that are written alike are the same. Plain. Lists of changes in memory; a map from times' texts to changes. Conditions: each theorem states its own. -/
import Derived.Test.YtdgbkpoickbidaaGreatDoorHs3
import Derived.Test.YtdgbkpoickbidaaGreatDoorHs10
import Derived.Test.YtdgbkpoickbidaaGreatDoorHs7
import Derived.Test.YtdgbkpoickbidaaGreatDoorHs1
import Derived.Test.YtdgbkpoickbidaaGreatDoorHs9
import Derived.Deep.LoopGhost
import Derived.Shelf.Strings.Builder1
import Derived.Shelf.Strings.Builder2
import Derived.Shelf.Strings.OnBuilder
import Derived.Shelf.Small.Bits
import Derived.Shelf.Small.Wraps
import Derived.Shelf.Strings.BuilderF
import Derived.Shelf.Strings.BuilderK
import Derived.Shelf.Strings.Builder2Cap
import Derived.Shelf.Strconv.Itoa0
import Derived.Shelf.Strconv.Itoa1
import Derived.Shelf.LaysM
import Derived.Shelf.Strconv.Itoa2
import Derived.Ground.Names2Prog
import Derived.Shelf.Slices.SearchI
import Derived.Ground.SlgnProg
import Derived.Shelf.SlicesG.SearchI
import Derived.Shelf.SlicesE.Clone
import Derived.Test.YtdgbkpoickbidaaGreatDoorProg
import Derived.Lib.ItoaMem
import Derived.Lib.LaidTab
import Derived.Lib.AppendIntMem
import Derived.Lib.LaidU8
import Derived.Maps.OwnSet
import Derived.Maps.RangeWalk
namespace Go.Proofs.YtdgbkpoickbidaaGreatDoor
open Go.RowKit

set_option maxRecDepth 100000 in
set_option maxHeartbeats 400000 in
theorem rsign_any (x y:Int) (w:World):Calls Tryz.prog 210 #[.int .u64 x, .int .u64 y] w fun e w'=>e = .returned (.int .i64 (cmpT x y))∧w=w':=by
 rcases Int.lt_trichotomy x y with h | h | h
 ·rw [cmpT_lt h]
  go_enter Tryz.func210,Tryz.ntmps210
  go_wp2
  go_ret
  exact ⟨rfl,rfl⟩
 ·subst h
  rw [cmpT_self]
  go_enter Tryz.func210,Tryz.ntmps210
  go_wp2
  go_ret
  exact ⟨rfl,rfl⟩
 ·rw [cmpT_gt h]
  have h2 : ¬ x<y:=by omega
  go_enter Tryz.func210,Tryz.ntmps210
  go_wp2
  go_ret
  exact ⟨rfl,rfl⟩
theorem rsign_at {v:Int} (x y:Int) (w:World) (h:Hid (cmpT x y=v)):Calls Tryz.prog 210 #[.int .u64 x, .int .u64 y] w fun e w'=>e = .returned (.int .i64 v)∧w=w':=h.out ▸ rsign_any x y w
/-- what is told when k counters have been looked at -/
def fromK (l1 l2:List Int) (k:Nat) (v:Int):Int:=if v=0 then lexT (l1.drop k) (l2.drop k) else v
set_option maxRecDepth 100000 in
set_option maxHeartbeats 2000000 in
theorem rcmp_off (e1 e2:Int) (A1 A2:Option Addr) (n1 n2 c1 c2:Nat) (w:World) (v:Int) (hv:Hid (cmpT n1 n2=v)) (v0:(v==0)=false) (hn1:n1≤1000000) (hn2:n2≤1000000) :
  Calls Tryz.prog 149 #[.agg #[.int .u64 e1, .slice A1 n1 c1], .agg #[.int .u64 e2, .slice A2 n2 c2]] w fun e w'=>e = .returned (.int .i64 v)∧Ext w w':=by
 have w1_:IntKind.u64.wrap (n1:Int)=n1:=IntWalk.u64_in _ (by omega)
 have w2_:IntKind.u64.wrap (n2:Int)=n2:=IntWalk.u64_in _ (by omega)
 go_enter Tryz.func149,Tryz.ntmps149
 go_wp2_with (go_at_call 210;refine (rsign_at _ _ _ hv).mono ?_;rintro r w1 ⟨rfl,rfl⟩)
 refine wp_loop_rounds 1 ?_
 rw [rounds_succ]
 go_wp2
 all_goals go_ret
 all_goals exact ⟨rfl,((Ext.refl w).alloc _).alloc _⟩
set_option maxRecDepth 100000 in
set_option maxHeartbeats 4000000 in
theorem rcmp_same (e1 e2:Int) (A1 A2:Option Addr) (n c1 c2:Nat) (l1 l2:List Int) (w:World) (h1:Sl w 1 A1 n c1 (wds l1)) (h2:Sl w 1 A2 n c2 (wds l2)) (u1:U32 l1) (u2:U32 l2) (hn:n≤1000000) :
  Calls Tryz.prog 149 #[.agg #[.int .u64 e1, .slice A1 n c1], .agg #[.int .u64 e2, .slice A2 n c2]] w fun e w'=>e = .returned (.int .i64 (fromK l1 l2 0 (cmpT e1 e2)))∧Ext w w':=by
 have HL1:=Lib.hid h1.wlen
 have HL2:=Lib.hid h2.wlen
 have HU1:=Lib.hid u1
 have HU2:=Lib.hid u2
 have w1_:IntKind.u64.wrap (n:Int)=n:=IntWalk.u64_in _ (by omega)
 have hs:Hid (cmpT n n=0):=Lib.hid (cmpT_self _)
 obtain ⟨R,hR⟩ : ∃ R,fromK l1 l2 0 (cmpT e1 e2)=R:=⟨_,rfl⟩
 rw [hR]
 have HR:=Lib.hid hR
 obtain ⟨v,hv⟩ : ∃ v,cmpT e1 e2=v:=⟨_,rfl⟩
 have hv1:=Lib.hid hv
 have HV:Hid (fromK l1 l2 0 v=R):=Lib.hid (by rw [← hv];exact hR)
 clear hR hv u1 u2
 have m1:True:=trivial
 go_enter Tryz.func149,Tryz.ntmps149
 go_wp2_with (first
  | (go_at_call 210;have mk:=m1;clear m1 mk;refine (rsign_at _ _ _ hs).mono ?_;rintro r w1 ⟨rfl,rfl⟩;have m2:True:=trivial)
  | (go_at_call 210;have mk:=m2;clear m2 mk;refine (rsign_at _ _ _ hv1).mono ?_;rintro r w1 ⟨rfl,rfl⟩))
 obtain ⟨w0,hw0⟩ : ∃ w0,w0=(w.alloc (Obj.cells #[Value.int IntKind.u64 e1,Value.slice A1 n c1] 26)).alloc (Obj.cells #[Value.int IntKind.u64 e2,Value.slice A2 n c2] 26):=⟨_,rfl⟩
 have x0:Ext w w0:=hw0 ▸ ((Ext.refl w).alloc _).alloc _
 have b1:w0.cell? ⟨w.heap.size,1,none⟩=some (Value.slice A1 n c1):=by subst hw0;go_simp
 have b2:w0.cell? ⟨w.heap.size+1,1,none⟩=some (Value.slice A2 n c2):=by subst hw0;go_simp
 rw [← hw0]
 clear hw0
 go_loopw [5,6] (fun u v wr => ∃ (k:Nat) (z:Int),k≤n∧v = .int .i64 k∧u = .int .i64 z∧Hid (fromK l1 l2 k z=R)∧Ext w0 wr) (fun _ v _=>n - (intOf v).toNat)
 case atStart=>exact ⟨0,v,Nat.zero_le _,rfl,rfl,HV,Ext.refl _⟩
 case round =>
  obtain ⟨k,z,hk,rfl,rfl,HZ,er⟩:=hrel
  have d1:wr.cell? ⟨w.heap.size,1,none⟩=some (Value.slice A1 n c1):=er.cell b1
  have d2:wr.cell? ⟨w.heap.size+1,1,none⟩=some (Value.slice A2 n c2):=er.cell b2
  by_cases hlt:k<n
  ·by_cases hz:z=0
   ·subst hz
    obtain ⟨a1,ha1,hc1,_⟩:=(h1.ext (x0.trans er)).word hlt
    obtain ⟨a2,ha2,hc2,_⟩:=(h2.ext (x0.trans er)).word hlt
    obtain ⟨x,hx⟩ : ∃ x,l1.getD k 0=x:=⟨_,rfl⟩
    obtain ⟨y,hy⟩ : ∃ y,l2.getD k 0=y:=⟨_,rfl⟩
    obtain ⟨q,hq⟩ : ∃ q,cmpT x y=q:=⟨_,rfl⟩
    have ux:=HU1.out.getD k
    have uy:=HU2.out.getD k
    rw [hx] at ux hc1
    rw [hy] at uy hc2
    have wx:IntKind.u64.wrap x=x:=IntWalk.u64_in _ (by omega)
    have wy:IntKind.u64.wrap y=y:=IntWalk.u64_in _ (by omega)
    have HN:Hid (fromK l1 l2 (k+1) q=R):=Lib.hid (by
     have h:=HZ.out
     have e1:=HL1.out
     have e2:=HL2.out
     unfold fromK at h ⊢
     rw [if_pos rfl,lexT_step k l1 l2 (by omega) (by omega),hx,hy,hq] at h
     exact h)
    have HQ:=Lib.hid hq
    clear hq hx hy HZ
    go_wp2
    have X:Ext wr wr.drew:=(Ext.refl wr).drew
    have q1 : ∀ y:Xt wr.drew,y.W.cell? ⟨w.heap.size,1,none⟩=some (.slice A1 n c1):=fun y=>y.x.cell (X.cell d1)
    have q2 : ∀ y:Xt wr.drew,y.W.cell? ⟨w.heap.size+1,1,none⟩=some (.slice A2 n c2):=fun y=>y.x.cell (X.cell d2)
    have q3 : ∀ y:Xt wr.drew,y.W.cell? (a1.add k)=some (.int .u32 x):=fun y=>y.x.cell (X.cell hc1)
    have q4 : ∀ z:Xt wr.drew,z.W.cell? (a2.add k)=some (.int .u32 y):=fun z=>z.x.cell (X.cell hc2)
    refine wp_region_ord [0,1,0,7,15,31,0,64,0,448,960,1984,4095,8191] (.flo [0,1,2,3,4,5,6,7,8,9,10,11] (.one 12 (.flo [13] (.fin)))) (by kernel_rfl) (by kernel_rfl) (by intro _ _ d _ _ h;cases d<;>exact h) ?_
    (refine ord_flo (pick_cons rfl (pick_cons rfl (pick_cons rfl (pick_cons rfl (pick_cons rfl (pick_cons rfl (pick_cons rfl (pick_cons rfl (pick_cons rfl (pick_cons rfl (pick_cons rfl (pick_cons rfl pick_nil)))))))))))) ?_;(repeat (go_big_quiet_step (fail)));refine wpQuiet_nil ?_;show ordWalk _ _ _ _ _ _ _)
    refine ord_one (pick_cons rfl pick_nil) ?_;intro K_ hK_
    go_wp2_with (go_at_call 210;refine (rsign_at _ _ _ HQ).mono ?_;rintro r w1 ⟨rfl,rfl⟩)
    (refine ord_flo (pick_cons rfl pick_nil) ?_;(repeat (go_big_quiet_step (fail)));refine wpQuiet_nil ?_;show ordWalk _ _ _ _ _ _ _)
    refine ord_fin ?_
    go_wp2
    rw [← ha1, ← ha2]
    go_roundw
    case rel=>exact ⟨k+1,q,by omega,by go_num,rfl,HN,er.trans X⟩
    case measure=>simp [intOf];omega
   ·have z0:(z==0)=false:=by simpa using hz
    have HF:Hid (z=R):=Lib.hid (by have h:=HZ.out;unfold fromK at h;rwa [if_neg hz] at h)
    clear hz HZ
    go_wp2
    go_ret
    exact ⟨by rw [← HF.out];rfl,x0.trans er⟩
  ·obtain rfl:k=n:=by omega
   have HF:Hid (z=R):=Lib.hid (by
    have h:=HZ.out
    have e1:=HL1.out
    have e2:=HL2.out
    unfold fromK at h
    split at h
    ·rename_i h0
     rw [List.drop_eq_nil_of_le (by omega),List.drop_eq_nil_of_le (by omega)] at h
     rw [h0]
     exact h
    ·exact h)
   clear HZ
   go_wp2
   all_goals go_ret
   all_goals exact ⟨by rw [← HF.out];rfl,x0.trans er⟩
theorem rcmp_any (e1 e2:Int) (A1 A2:Option Addr) (n1 n2 c1 c2:Nat) (l1 l2:List Int) (w:World) (h1:Sl w 1 A1 n1 c1 (wds l1)) (h2:Sl w 1 A2 n2 c2 (wds l2)) (u1:U32 l1) (u2:U32 l2) (hn1:n1≤1000000) (hn2:n2≤1000000) :
  Calls Tryz.prog 149 #[.agg #[.int .u64 e1, .slice A1 n1 c1], .agg #[.int .u64 e2, .slice A2 n2 c2]] w fun e w'=>e = .returned (.int .i64 (cmpTT e1 l1 e2 l2))∧Ext w w':=by
 have hl1:=h1.wlen
 have hl2:=h2.wlen
 unfold cmpTT
 rw [hl1,hl2]
 by_cases h:n1=n2
 ·subst h
  rw [show orT (cmpT n1 n1) (cmpT e1 e2) (lexT l1 l2)=fromK l1 l2 0 (cmpT e1 e2) by
   rw [cmpT_self];rfl]
  exact rcmp_same e1 e2 A1 A2 n1 c1 c2 l1 l2 w h1 h2 u1 u2 hn1
 ·have h9:cmpT n1 n2≠0:=fun h9=>h (by have:=cmpT_zero.1 h9;omega)
  rw [show orT (cmpT n1 n2) (cmpT e1 e2) (lexT l1 l2)=cmpT n1 n2 from if_neg h9]
  exact rcmp_off e1 e2 A1 A2 n1 n2 c1 c2 w _ (Lib.hid rfl) (by simpa using h9) hn1 hn2
open Go.RowKit
def validU (V:List UV):Bool:=V.all fun u=>decide (checkR u.1.1=0)
theorem validU_at {L:List Ud} {k:Nat} (h:k<L.length) (h0 : ∀ i,i<k→checkR (L.getD i Ud.zero).l=0) (hk:checkR (L.getD k Ud.zero).l≠0):validU (L.map Ud.uv)=false:=by
 unfold validU
 rw [List.all_eq_false]
 exact ⟨_,List.mem_map.2 ⟨_,getU_mem h,rfl⟩,fun q=>hk (of_decide_eq_true q)⟩
theorem validU_all {L:List Ud} (h0 : ∀ i,i<L.length→checkR (L.getD i Ud.zero).l=0):validU (L.map Ud.uv)=true:=by
 unfold validU
 rw [List.all_eq_true]
 intro u hu
 obtain ⟨x,hx,rfl⟩:=List.mem_map.1 hu
 obtain ⟨i,hi,rfl⟩:=List.getElem_of_mem hx
 have:=h0 i hi
 rw [List.getD_eq_getElem?_getD,List.getElem?_eq_getElem hi] at this
 exact decide_eq_true this
set_option maxRecDepth 100000 in
set_option maxHeartbeats 4000000 in
theorem valid10_any (A:Option Addr) (c n:Nat) (L:List Ud) (w:World) (hn:Hid (n=L.length)) (h:Hid (Uin w A c L)) (htx:Hid (∀ x∈L, ∀ d∈x.l,d.s.size≤140737488355328)) (h9:n≤200) :
  Calls Tryz.prog 94 #[.slice A n c] w fun e w'=>e = .returned (.bool (validU (L.map Ud.uv)))∧Ext w w':=by
 go_enter Tryz.func94,Tryz.ntmps94
 go_wp2
 go_loopg [3] n (fun z v wr => ∃ k:Nat,z=n - k∧k≤n∧v = .int .i64 k∧Hid (∀ i,i<k→checkR (L.getD i Ud.zero).l=0)∧Hid (Ext w wr))
 case atStart=>exact ⟨0,rfl,Nat.zero_le _,rfl,Lib.hid (fun i hi=>absurd hi (Nat.not_lt_zero i)),Lib.hid (Ext.refl w)⟩
 case round =>
  obtain ⟨k,rfl,hk,rfl,H0,HX⟩:=hrel
  by_cases hlt:k<n
  ·have hkL:k<L.length:=by rw [← hn.out];exact hlt
   obtain ⟨ad,rfl,q0,q1,q2,q3⟩:=(h.out.ext HX.out).at (i:=k) hkL
   have HR:Hid (Rw wr (L.getD k Ud.zero).A (L.getD k Ud.zero).c (L.getD k Ud.zero).l):=Lib.hid ((h.out.ls _ (getU_mem hkL)).r.ext HX.out)
   have HT:=Lib.hid (htx.out _ (getU_mem hkL))
   have HKL:=Lib.hid hkL
   obtain ⟨x,hx⟩ : ∃ x,L.getD k Ud.zero=x:=⟨_,rfl⟩
   rw [hx] at q0 q1 q2 q3 HR HT
   have HX2:=Lib.hid hx
   obtain ⟨nx,hnx⟩ : ∃ nx,nx=x.l.length:=⟨_,rfl⟩
   rw [← hnx] at q0
   have HNX:=Lib.hid hnx
   obtain ⟨v,hv⟩ : ∃ v,checkR x.l=v:=⟨_,rfl⟩
   have HV:=Lib.hid hv
   clear hkL hx hnx hv
   by_cases h0:v=0
   ·have HZ:=Lib.hid h0
    subst h0
    go_wp2_with (first
     | (go_at_call 168;refine (refCheckZ_lit x.A x.c nx x.l _ HV HNX HR HT).mono ?_;rintro r w1 ⟨rfl,x1⟩;have X1:=Lib.hid x1;clear x1))
    go_roundg (n - (k+1))
    case measure=>omega
    case rel=>exact ⟨k+1,by omega,by omega,by go_num,Lib.hid (fun i hi=>by rcases Nat.lt_or_eq_of_le (Nat.le_of_lt_succ hi) with q | q;exact H0.out i q;rw [q,HX2.out];exact HV.out),Lib.hid (HX.out.trans X1.out)⟩
   ·have HZ:=Lib.hid h0
    have hne:(v==0)=false:=by simpa using h0
    clear h0
    go_wp2_with (first
     | (go_at_call 168;refine (refCheckZ_lit x.A x.c nx x.l _ HV HNX HR HT).mono ?_;rintro r w1 ⟨rfl,x1⟩;have X1:=Lib.hid x1;clear x1))
    go_ret
    exact ⟨by rw [validU_at HKL.out H0.out (by rw [HX2.out,HV.out];exact HZ.out)];rfl,HX.out.trans X1.out⟩
  ·obtain rfl:k=n:=by omega
   go_wp2
   go_ret
   exact ⟨by rw [validU_all fun i hi=>H0.out i (by rw [hn.out];exact hi)];rfl,HX.out⟩
/-! ### times -/
theorem once_more {V:List TV} {k:Nat} (h:k<V.length):(onceT (V.take (k+1))).length=(onceT (V.take k)).length+(if V[k]∈V.take k then 0 else 1):=by
 rw [once_take V k h]
 unfold onceStep
 by_cases q:V[k]∈V.take k
 ·rw [if_pos ((once_mem _ _).2 q),if_pos q];rfl
 ·rw [if_neg (fun e=>q ((once_mem _ _).1 e)),if_neg q,List.length_append];rfl
theorem mem_take_succ' {V:List TV} {k:Nat} (hk:k<V.length) {y:TV} (h:y∈V.take (k+1)):y∈V.take k∨y=V[k]:=by
 rw [List.take_succ_eq_append_getElem hk] at h
 rcases List.mem_append.1 h with q | q
 ·exact .inl q
 ·exact .inr (List.mem_singleton.1 q)
/-- few times, of few counters -/
def FewT (V:List TV):Prop:=(∀ v∈V,v.2.length≤3)∧(onceT V).length≤12
structure WdI (w wr:World) (A:Option Addr) (c q:Nat) (M:List Tm) (V:List TV):Prop where
 len:q=M.length
 own:Own wr w.heap.size 26 2 A q c (tmsC M)
 ls : ∀ x∈M,Sl w 1 x.A x.l.length x.c (wds x.l)
 u : ∀ x∈M,U32 x.l∧x.l.length≤100000
 ext:Ext w wr
 is:M.map Tm.v=V
set_option maxRecDepth 100000 in
set_option maxHeartbeats 16000000 in
theorem wide10_any (A0:Option Addr) (c0 n:Nat) (L:List Ud) (w:World) (hn:Hid (n=L.length)) (h:Hid (Uin w A0 c0 L)) (hi:Hid (∀ x∈L,InU x)) (h9:n≤200) :
  Calls Tryz.prog 95 #[.slice A0 n c0, .slice none 0 0] w fun e w'=>(∃ b,e = .returned (.bool b)∧(b=false→FewT (L.map fun x=>x.t.v)))∧Ext w w':=by
 go_enter Tryz.func95,Tryz.ntmps95
 go_wp2_with (at_builtin;refine wpList_append_gen _ elemTimes w.heap.size _ _ rfl rfl none 0 0 [] rfl (Own.nil _ _ _ _) none 0 0 [] rfl (Sl.nil _ _) (by intro u hu;cases hu) (by decide) (by decide) (Nat.le_refl _) ?_;intro A1 c1 w1 o1 g1 x1;have HW1:Hid (WdI w w1 A1 c1 0 [] []):=Lib.hid ⟨rfl,o1,fun x hx=>(nomatch hx),fun x hx=>(nomatch hx),(Ext.refl w).grown g1 (by simp [blk]),rfl⟩;clear o1 g1 x1)
 go_wp2
 go_loopg [5,6] n (fun z v5 v6 wr => ∃ (k:Nat) (A:Option Addr) (c q:Nat) (M:List Tm),z=n - k∧k≤n∧v6 = .int .i64 k∧v5 = .slice A q c∧q≤k∧Hid (q=k)∧Hid (WdI w wr A c q M ((L.map fun x=>x.t.v).take k)))
 case atStart=>exact ⟨0,A1,c1,0,[],rfl,Nat.zero_le _,rfl,rfl,Nat.le_refl _,Lib.hid rfl,HW1⟩
 case round =>
  clear HW1
  obtain ⟨k,A,c,q,M,rfl,hk,rfl,rfl,hqk,HQK,HW⟩:=hrel
  by_cases hlt:k<n
  ·have hkL:k<L.length:=by rw [← hn.out];exact hlt
   obtain ⟨ad,rfl,q0,q1,q2,q3⟩:=(h.out.ext HW.out.ext).at (i:=k) hkL
   have HXS:Hid (Sl w 1 (L.getD k Ud.zero).t.A (L.getD k Ud.zero).t.l.length (L.getD k Ud.zero).t.c (wds (L.getD k Ud.zero).t.l)):=Lib.hid (h.out.ls _ (getU_mem hkL)).t
   have HIX:=Lib.hid (hi.out _ (getU_mem hkL))
   have hkv:(L.map fun x=>x.t.v).take (k+1)=(L.map fun x=>x.t.v).take k++[(L.getD k Ud.zero).t.v]:=by rw [← List.map_take,takeU hkL,List.map_append,List.map_take];rfl
   obtain ⟨x,hx⟩ : ∃ x,L.getD k Ud.zero=x:=⟨_,rfl⟩
   rw [hx] at q0 q1 q2 q3 HXS HIX hkv
   have HKV:=Lib.hid hkv
   clear hx hkv hkL
   obtain ⟨xA,xc,xl,⟨e,tA,tc,l⟩,d⟩:=x
   obtain ⟨nx,hnx⟩ : ∃ nx,nx=l.length:=⟨_,rfl⟩
   have HNX:=Lib.hid hnx
   replace q1:wr.cell? ⟨(ad.add (k * 4)).block,(ad.add (k * 4)).off+1,none⟩=some (.int .u64 e):=q1
   replace q2:wr.cell? ⟨(ad.add (k * 4)).block,(ad.add (k * 4)).off+2,none⟩=some (.slice tA l.length tc):=q2
   replace HXS:Hid (Sl w 1 tA l.length tc (wds l)):=HXS
   replace HKV:Hid ((L.map fun x=>x.t.v).take (k+1)=(L.map fun x=>x.t.v).take k++[(e,l)]):=HKV
   rw [← hnx] at q2 HXS
   clear hnx q0 q3
   go_wp2_with (at_builtin;refine wpList_append_gen _ elemTimes w.heap.size _ _ rfl rfl A q c (tmsC M) rfl (HW.out.own.alloc _) (some ⟨wr.heap.size,0,none⟩) 1 1 (tmC ⟨e,tA,tc,l⟩) rfl (by rw [show tmC ⟨e,tA,tc,l⟩=[.int .u64 e, .slice tA nx tc] by rw [HNX.out];rfl];exact Sl.one wr #[.int .u64 e, .slice tA nx tc] 26 2 rfl) (tmsC_one [⟨e,tA,tc,l⟩] |> fun h=>by simpa [tmsC] using h) (by omega) (by decide) (Nat.le_trans HW.out.ext.size ((Ext.refl wr).alloc _).size) ?_;intro A8 c8 w8 o8 g8 x8;have HO8:=Lib.hid o8;have HG8:=Lib.hid g8;clear o8 g8 x8)
   go_roundg (n - (k+1))
   case measure=>omega
   case rel =>
    refine ⟨k+1,A8,c8,q+1,M++[⟨e,tA,tc,l⟩],by omega,by omega,by go_num,rfl,by omega,Lib.hid (by have:=HQK.out;omega),Lib.hid ⟨?_,?_,?_,?_,?_,?_⟩⟩
    ·rw [List.length_append,HW.out.len];rfl
    ·rw [tmsC_append,show tmsC [(⟨e,tA,tc,l⟩:Tm)]=tmC ⟨e,tA,tc,l⟩ by simp [tmsC]]
     exact HO8.out
    ·intro y hy
     rcases List.mem_append.1 hy with hy | hy
     ·exact HW.out.ls y hy
     ·rw [List.mem_singleton.1 hy]
      show Sl w 1 tA l.length tc (wds l)
      rw [← HNX.out]
      exact HXS.out
    ·intro y hy
     rcases List.mem_append.1 hy with hy | hy
     ·exact HW.out.u y hy
     ·rw [List.mem_singleton.1 hy]
      exact ⟨HIX.out.tu,HIX.out.tn⟩
    ·exact (HW.out.ext.alloc _).grown HG8.out fun k hk=>(HW.out.own.lt k hk).1
    ·rw [HKV.out,List.map_append,HW.out.is];rfl
  ·obtain rfl:k=n:=by omega
   have hV:(L.map fun x=>x.t.v).take k=L.map fun x=>x.t.v:=List.take_of_length_le (by rw [List.length_map, ← hn.out];exact Nat.le_refl _)
   rw [hV] at HW
   obtain ⟨V,hVd⟩ : ∃ V,V=L.map fun x=>x.t.v:=⟨_,rfl⟩
   rw [← hVd] at HW
   have HVD:=Lib.hid hVd
   have hVl:V.length=k:=by rw [hVd,List.length_map,hn.out]
   have HVL:=Lib.hid hVl
   have HML:=Lib.hid HW.out.len
   clear hV hVd hVl
   obtain ⟨wq,hwq⟩ : ∃ wq:World,wq=wr:=⟨_,rfl⟩
   rw [← hwq] at HW ⊢
   clear hwq
   have HTin:Hid (Tin wq A c M):=Lib.hid ⟨by rw [← HW.out.len];exact HW.out.own.sl,fun x hx=>(HW.out.ls x hx).ext HW.out.ext⟩
   go_wp2
   go_loopg [7,8] k (fun z v7 v8 wr => ∃ (j m:Nat),z=k - j∧j≤k∧v8 = .int .i64 j∧v7 = .int .i64 m∧m≤j∧Hid (m=(onceT (V.take j)).length)∧Hid (∀ v∈V.take j,v.2.length≤3)∧Hid (Ext wq wr))
   case atStart=>exact ⟨0,0,rfl,Nat.zero_le _,rfl,rfl,Nat.le_refl _,Lib.hid rfl,Lib.hid (fun v hv=>by simp at hv),Lib.hid (Ext.refl _)⟩
   case round =>
    obtain ⟨j,m,rfl,hj,rfl,rfl,hmj,HM,H3,HX⟩:=hrel
    by_cases hlt:j<q
    ·have hjM:j<M.length:=by rw [← HML.out];exact hlt
     obtain ⟨ad,rfl,q0,q1⟩:=(HTin.out.ext HX.out).at (i:=j) hjM
     have HXS:Hid (Sl wr 1 (M.getD j Tm.zero).A (M.getD j Tm.zero).l.length (M.getD j Tm.zero).c (wds (M.getD j Tm.zero).l)):=Lib.hid ((HTin.out.ext HX.out).ls _ (getT_mem hjM))
     have HUX:=Lib.hid (HW.out.u _ (getT_mem hjM))
     have hjV:j<V.length:=by rw [HVL.out, ← HQK.out];exact hlt
     have hvj:V[j]=(M.getD j Tm.zero).v:=by rw [← getT_v hjM];exact List.getElem_of_eq HW.out.is.symm hjV
     obtain ⟨x,hx⟩ : ∃ x,M.getD j Tm.zero=x:=⟨_,rfl⟩
     rw [hx] at q0 q1 HXS HUX hvj
     have HVJ:=Lib.hid (show ∃ h:j<V.length,V[j]=x.v from ⟨hjV,hvj⟩)
     clear hx hvj hjV hjM
     obtain ⟨e,Ax,cx,l⟩:=x
     obtain ⟨nx,hnx⟩ : ∃ nx,nx=l.length:=⟨_,rfl⟩
     have HNX:=Lib.hid hnx
     replace q0:wr.cell? (ad.add (j * 2))=some (.int .u64 e):=q0
     replace q1:wr.cell? ⟨(ad.add (j * 2)).block,(ad.add (j * 2)).off+1,none⟩=some (.slice Ax l.length cx):=q1
     replace HXS:Hid (Sl wr 1 Ax l.length cx (wds l)):=HXS
     replace HUX:Hid (U32 l∧l.length≤100000):=HUX
     replace HVJ:Hid (∃ h:j<V.length,V[j]=(e,l)):=HVJ
     rw [← hnx] at q1 HXS
     have hnx9:nx≤100000:=by rw [hnx];exact HUX.out.2
     clear hnx
     by_cases h3:3<nx
     ·have z3:decide ((3:Int)<(nx:Int))=true:=decide_eq_true (by omega)
      have z4:(3:Int)<(nx:Int):=by omega
      go_wp2
      go_ret
      exact ⟨⟨true,rfl,fun e=>nomatch e⟩,HW.out.ext.trans HX.out⟩
     ·have z4 : ¬ (3:Int)<(nx:Int):=by omega
      obtain ⟨wo,hwo⟩ : ∃ wo:World,wo=wr:=⟨_,rfl⟩
      rw [← hwo] at q0 q1 HXS HX ⊢
      clear hwo
      have Q0:=Lib.hid q0
      have Q1:=Lib.hid q1
      go_wp2
      clear q0 q1
      go_loopg [9,10] j (fun z v9 v10 wr => ∃ (k2:Nat) (b:Bool),z=j - k2∧k2≤j∧v10 = .int .i64 k2∧v9 = .bool b∧Hid (b = !decide ((e,l)∈V.take k2))∧Hid (Ext wo wr))
      case atStart=>exact ⟨0,true,rfl,Nat.zero_le _,rfl,rfl,Lib.hid (by simp),Lib.hid (Ext.refl _)⟩
      case round =>
       obtain ⟨k2,b,rfl,hk2,rfl,rfl,HB,HE⟩:=hrel
       by_cases hlk:k2<j
       ·have hkq:k2<q:=by omega
        have hkM:k2<M.length:=by rw [← HML.out];exact hkq
        obtain ⟨ad',hA',p0,p1⟩:=(HTin.out.ext (HX.out.trans HE.out)).at (i:=k2) hkM
        injection hA' with hA'
        subst hA'
        have HYS:Hid (Sl wr 1 (M.getD k2 Tm.zero).A (M.getD k2 Tm.zero).l.length (M.getD k2 Tm.zero).c (wds (M.getD k2 Tm.zero).l)):=Lib.hid ((HTin.out.ext (HX.out.trans HE.out)).ls _ (getT_mem hkM))
        have HUY:=Lib.hid (HW.out.u _ (getT_mem hkM))
        have hkV:k2<V.length:=by rw [HVL.out, ← HQK.out];exact hkq
        have hvk:V[k2]=(M.getD k2 Tm.zero).v:=by rw [← getT_v hkM];exact List.getElem_of_eq HW.out.is.symm hkV
        have htk:V.take (k2+1)=V.take k2++[(M.getD k2 Tm.zero).v]:=by rw [List.take_succ_eq_append_getElem hkV,hvk]
        obtain ⟨y,hy⟩ : ∃ y,M.getD k2 Tm.zero=y:=⟨_,rfl⟩
        rw [hy] at p0 p1 HYS HUY htk
        have HTK:=Lib.hid htk
        clear hy hvk hkV hkM htk
        obtain ⟨f,Ay,cy,ly⟩:=y
        obtain ⟨ny,hny⟩ : ∃ ny,ny=ly.length:=⟨_,rfl⟩
        have HNY:=Lib.hid hny
        replace p0:wr.cell? (ad.add (k2 * 2))=some (.int .u64 f):=p0
        replace p1:wr.cell? ⟨(ad.add (k2 * 2)).block,(ad.add (k2 * 2)).off+1,none⟩=some (.slice Ay ly.length cy):=p1
        replace HYS:Hid (Sl wr 1 Ay ly.length cy (wds ly)):=HYS
        replace HUY:Hid (U32 ly∧ly.length≤100000):=HUY
        replace HTK:Hid (V.take (k2+1)=V.take k2++[(f,ly)]):=HTK
        rw [← hny] at p1 HYS
        have hny9:ny≤100000:=by rw [hny];exact HUY.out.2
        clear hny
        cases b with
        | true =>
         obtain ⟨v,hv⟩ : ∃ v,tcmp (e,l) (f,ly)=v:=⟨_,rfl⟩
         have hc : ∀ W,Ext wr W→Calls Tryz.prog 149 #[.agg #[.int .u64 e, .slice Ax nx cx], .agg #[.int .u64 f, .slice Ay ny cy]] W fun r w'=>r = .returned (.int .i64 v)∧Ext W w':=fun W z=>by
          have:=rcmp_any e f Ax Ay nx ny cx cy l ly W (HXS.out.ext (HE.out.trans z)) (HYS.out.ext z) HUX.out.1 HUY.out.1 (by omega) (by omega)
          rw [show cmpTT e l f ly=v from hv] at this
          exact this
         have HC:=Lib.hid hc
         have HV:=Lib.hid hv
         clear hc hv
         have XE:Ext wr wr.drew:=(Ext.refl wr).drew
         have P0:=Lib.hid p0
         have P1:=Lib.hid p1
         clear p0 p1
         have q0 : ∀ y:Xt wr.drew,y.W.cell? (ad.add (j * 2))=some (.int .u64 e):=fun y=>(HE.out.trans (XE.trans y.x)).cell Q0.out
         have q1 : ∀ y:Xt wr.drew,y.W.cell? ⟨(ad.add (j * 2)).block,(ad.add (j * 2)).off+1,none⟩=some (.slice Ax nx cx):=fun y=>(HE.out.trans (XE.trans y.x)).cell Q1.out
         have p0 : ∀ y:Xt wr.drew,y.W.cell? (ad.add (k2 * 2))=some (.int .u64 f):=fun y=>(XE.trans y.x).cell P0.out
         have p1 : ∀ y:Xt wr.drew,y.W.cell? ⟨(ad.add (k2 * 2)).block,(ad.add (k2 * 2)).off+1,none⟩=some (.slice Ay ny cy):=fun y=>(XE.trans y.x).cell P1.out
         go_upto_region 17 with fail
         refine wp_region_ord [0,1,3,3,15,31,3,3,195,451,1023,2047,4095,8191] (.flo [0,1,2,3,4,5,6,7,8,9] (.one 10 (.flo [11,12,13] (.fin)))) (by kernel_rfl) (by kernel_rfl) (by intro _ _ d _ _ h;cases d<;>exact h) ?_
         (refine ord_flo (pick_cons rfl (pick_cons rfl (pick_cons rfl (pick_cons rfl (pick_cons rfl (pick_cons rfl (pick_cons rfl (pick_cons rfl (pick_cons rfl (pick_cons rfl pick_nil)))))))))) ?_;(repeat (go_big_quiet_step (fail)));refine wpQuiet_nil ?_;show ordWalk _ _ _ _ _ _ _)
         refine ord_one (pick_cons rfl pick_nil) ?_;intro K_ hK_
         go_wp2_with (go_at_call 149;refine (HC.out _ XE).mono ?_;rintro r w3 ⟨rfl,x3⟩)
         (refine ord_flo (pick_cons rfl (pick_cons rfl (pick_cons rfl pick_nil))) ?_;(repeat (go_big_quiet_step (fail)));refine wpQuiet_nil ?_;show ordWalk _ _ _ _ _ _ _)
         refine ord_fin ?_
         go_wp2
         go_roundg (j - (k2+1))
         case measure=>omega
         case rel =>
          refine ⟨k2+1,v != 0,by omega,by omega,by go_num,rfl,Lib.hid ?_,Lib.hid (HE.out.trans (XE.trans x3))⟩
          rw [HTK.out,Bool.eq_iff_iff]
          have hb:=HB.out
          have hm:(e,l) ∉ V.take k2:=of_decide_eq_false (by simpa using hb.symm)
          have hz:v=0↔(e,l)=(f,ly):=by rw [← HV.out];exact tcmp_zero
          simp only [bne_iff_ne,ne_eq,Bool.not_eq_true',decide_eq_false_iff_not,List.mem_append,List.mem_singleton,hm,false_or]
          rw [hz]
        | false =>
         have XE:Ext wr wr.drew:=(Ext.refl wr).drew
         clear p0 p1
         go_upto_region 17 with fail
         refine wp_region_ord [0,1,3,3,15,31,3,3,195,451,1023,2047,4095,8191] (.flo [0,1,2,3,4,5,6,7,8,9] (.one 10 (.flo [11,12,13] (.fin)))) (by kernel_rfl) (by kernel_rfl) (by intro _ _ d _ _ h;cases d<;>exact h) ?_
         (refine ord_flo (pick_cons rfl (pick_cons rfl (pick_cons rfl (pick_cons rfl (pick_cons rfl (pick_cons rfl (pick_cons rfl (pick_cons rfl (pick_cons rfl (pick_cons rfl pick_nil)))))))))) ?_;(repeat (go_big_quiet_step (fail)));refine wpQuiet_nil ?_;show ordWalk _ _ _ _ _ _ _)
         refine ord_one (pick_cons rfl pick_nil) ?_;intro K_ hK_
         go_wp2
         (refine ord_flo (pick_cons rfl (pick_cons rfl (pick_cons rfl pick_nil))) ?_;(repeat (go_big_quiet_step (fail)));refine wpQuiet_nil ?_;show ordWalk _ _ _ _ _ _ _)
         refine ord_fin ?_
         go_wp2
         go_roundg (j - (k2+1))
         case measure=>omega
         case rel =>
          refine ⟨k2+1,false,by omega,by omega,by go_num,rfl,Lib.hid ?_,Lib.hid (HE.out.trans XE)⟩
          have hm:(e,l)∈V.take k2:=of_decide_eq_true (by simpa using HB.out.symm)
          rw [HTK.out,decide_eq_true (List.mem_append_left _ hm)]
          rfl
       ·obtain rfl:k2=j:=by omega
        have HTJ:Hid ((onceT (V.take (k2+1))).length=(onceT (V.take k2)).length+(if b=true then 1 else 0)):=Lib.hid (by
         obtain ⟨h1,h2⟩:=HVJ.out
         rw [once_more h1,h2]
         congr 1
         rw [HB.out]
         by_cases hm:(e,l)∈V.take k2
         ·rw [if_pos hm,decide_eq_true hm];rfl
         ·rw [if_neg hm,decide_eq_false hm];rfl)
        have H3':Hid (∀ v∈V.take (k2+1),v.2.length≤3):=Lib.hid (by
         obtain ⟨h1,h2⟩:=HVJ.out
         intro v hv
         rcases mem_take_succ' h1 hv with r | r
         ·exact H3.out v r
         ·rw [r,h2]
          show l.length≤3
          rw [← HNX.out]
          omega)
        have hkk:k2<k:=by have:=HQK.out;omega
        cases b with
        | true =>
         go_wp2
         go_roundg (k - (k2+1))
         case measure=>omega
         case rel=>exact ⟨k2+1,m+1,by omega,by omega,by go_num,by go_num,by omega,Lib.hid (by rw [HTJ.out,HM.out];rfl),H3',Lib.hid (HX.out.trans HE.out)⟩
        | false =>
         go_wp2
         go_roundg (k - (k2+1))
         case measure=>omega
         case rel=>exact ⟨k2+1,m,by omega,by omega,by go_num,rfl,by omega,Lib.hid (by rw [HTJ.out,HM.out];rfl),H3',Lib.hid (HX.out.trans HE.out)⟩
    ·have hjk:j=k:=by have:=HQK.out;omega
     have HF:Hid (m≤12→FewT (L.map fun x=>x.t.v)):=Lib.hid (by
      intro hm
      have hT:V.take j=V:=List.take_of_length_le (by rw [HVL.out,hjk];exact Nat.le_refl _)
      have h1:=HM.out
      have h2:=H3.out
      rw [hT] at h1 h2
      rw [← HVD.out]
      exact ⟨h2,by omega⟩)
     go_wp2
     go_ret
     refine ⟨⟨_,rfl,fun hb=>?_⟩,HW.out.ext.trans HX.out⟩
     exact HF.out (by have:=of_decide_eq_false hb;omega)
end Go.Proofs.YtdgbkpoickbidaaGreatDoor
namespace Go.Proofs.YtdgbkpoickbidaaGreatDoor

/-- a change: a time, and by how much -/
abbrev CV:=TV × Int
def KeysC (D:List CV):Prop:=D.Pairwise fun x y=>x.1≠y.1
/-! ### how a frontier moves -/
open Go.RowKit
/-! ### changes -/
structure Cg where
 t:Tm
 d:Int
def Cg.zero:Cg:=⟨Tm.zero,0⟩
instance:Inhabited Cg:=⟨Cg.zero⟩
def Cg.cv (x:Cg):CV:=(x.t.v,x.d)
def cgC (x:Cg):List Value:=[.int .u64 x.t.e, .slice x.t.A x.t.l.length x.t.c, .int .i64 x.d]
def cgV (x:Cg):Value := .agg #[.int .u64 x.t.e, .slice x.t.A x.t.l.length x.t.c, .int .i64 x.d]
def cgsC (L:List Cg):List Value:=L.flatMap cgC
theorem cgsC_at : ∀ (L:List Cg) (i j:Nat),i<L.length→j<3→(cgsC L)[i * 3+j]?=(cgC (L.getD i Cg.zero))[j]?
 | [],i,j,h,_=>absurd h (Nat.not_lt_zero _)
 | d :: l,0,j,_,hj=>by
  unfold cgsC
  rw [List.flatMap_cons,Nat.zero_mul,Nat.zero_add,List.getElem?_append_left (by rw [show (cgC d).length=3 from rfl];exact hj)]
  rfl
 | d :: l,i+1,j,h,hj=>by
  unfold cgsC
  rw [List.flatMap_cons,List.getElem?_append_right (by rw [show (cgC d).length=3 from rfl];omega),show (i+1) * 3+j - (cgC d).length=i * 3+j by rw [show (cgC d).length=3 from rfl];omega]
  exact cgsC_at l i j (Nat.lt_of_succ_lt_succ h) hj
theorem own_at3 {w:World} {n c:Nat} {A:Option Addr} {xs:List Value} (h:Sl w 3 A n c xs) {k:Nat} (hk:k<n) {l:List Value} {a b x:Value} (hl:l=[a,b,x]) (hx : ∀ q,q<3→xs[k * 3+q]?=l[q]?) :
  ∃ ad,A=some ad∧w.cell? (ad.add (k * 3))=some a∧w.cell? ⟨(ad.add (k * 3)).block,(ad.add (k * 3)).off+1,none⟩=some b∧w.cell? ⟨(ad.add (k * 3)).block,(ad.add (k * 3)).off+2,none⟩=some x:=by
 subst hl
 obtain ⟨ad,e,hc⟩:=h.2.2.2.2 (by omega)
 exact ⟨ad,e,hc _ _ (hx 0 (by omega)),by rw [← addr_off _ _ 1 (by omega)];exact hc _ _ (hx 1 (by omega)),by rw [← addr_off _ _ 2 (by omega)];exact hc _ _ (hx 2 (by omega))⟩
/-- a list of changes as readings give it -/
structure Cin (w:World) (A:Option Addr) (c:Nat) (L:List Cg):Prop where
 sl:Sl w 3 A L.length c (cgsC L)
 ls : ∀ x∈L,Sl w 1 x.t.A x.t.l.length x.t.c (wds x.t.l)
theorem Cin.ext {w w':World} {A:Option Addr} {c:Nat} {L:List Cg} (h:Cin w A c L) (x:Ext w w'):Cin w' A c L:=⟨h.sl.ext x,fun y hy=>(h.ls y hy).ext x⟩
theorem Cin.nil (w:World):Cin w none 0 []:=⟨Sl.nil w 3,fun x hx=>(nomatch hx)⟩
theorem Cin.at {w:World} {A:Option Addr} {c:Nat} {L:List Cg} (h:Cin w A c L) {i:Nat} (hi:i<L.length) : ∃ ad,A=some ad∧w.cell? (ad.add (i * 3))=some (.int .u64 (L.getD i Cg.zero).t.e) ∧
  w.cell? ⟨(ad.add (i * 3)).block,(ad.add (i * 3)).off+1,none⟩=some (.slice (L.getD i Cg.zero).t.A (L.getD i Cg.zero).t.l.length (L.getD i Cg.zero).t.c)∧w.cell? ⟨(ad.add (i * 3)).block,(ad.add (i * 3)).off+2,none⟩=some (.int .i64 (L.getD i Cg.zero).d) :=
 own_at3 h.sl hi (show cgC (L.getD i Cg.zero)=[.int .u64 (L.getD i Cg.zero).t.e, .slice (L.getD i Cg.zero).t.A (L.getD i Cg.zero).t.l.length (L.getD i Cg.zero).t.c, .int .i64 (L.getD i Cg.zero).d] from rfl) (fun q hq=>cgsC_at L i q hi hq)
end Go.Proofs.YtdgbkpoickbidaaGreatDoor
namespace Go.Proofs
open Go.Shelf
open Go.RowKit in

open Go.RowKit in

open Go.RowKit in

open Go.RowKit in

open Go.RowKit in

def Tryz.lays156_ren:Go.Shelf.Ren:=⟨fun | 156=>203 | 165=>232 | 166=>233 | 169=>234 | 240=>270 | 241=>271 | 276=>292 | 277=>293 | n=>n,fun | 31=>237 | 9=>9 | 3=>3 | 4=>4 | 0=>0 | 20=>20 | 72=>288 | 76=>292 | 70=>286 | 37=>226 | 75=>291 | 127=>324 | 164=>344 | 5=>5 | 80=>294 | n=>n,fun | n=>n⟩
theorem Tryz.lays156:Go.Proofs.Lays.n156 Tryz.prog Tryz.lays156_ren:={
 mixed:=by kernel_rfl
 f156:=Tryz.func203.trans (congrArg some (by kernel_rfl))
 f165:=Tryz.func232.trans (congrArg some (by kernel_rfl))
 f166:=Tryz.func233.trans (congrArg some (by kernel_rfl))
 f169:=Tryz.func234.trans (congrArg some (by kernel_rfl))
 f240:=Tryz.func270.trans (congrArg some (by kernel_rfl))
 f241:=Tryz.func271.trans (congrArg some (by kernel_rfl))
 f276:=Tryz.func292.trans (congrArg some (by kernel_rfl))
 f277:=Tryz.func293.trans (congrArg some (by kernel_rfl))
 t0:=Tryz.underlying0
 a0:=Tryz.isAgg0
 z0:=Tryz.sizeOf0
 v0:=Tryz.zeroValue0
 t3:=Tryz.underlying3
 a3:=Tryz.isAgg3
 z3:=Tryz.sizeOf3
 v3:=Tryz.zeroValue3
 t4:=Tryz.underlying4
 a4:=Tryz.isAgg4
 z4:=Tryz.sizeOf4
 v4:=Tryz.zeroValue4
 t9:=Tryz.underlying9
 a9:=Tryz.isAgg9
 z9:=Tryz.sizeOf9
 v9:=Tryz.zeroValue9
 t20:=Tryz.underlying20
 a20:=Tryz.isAgg20
 z20:=Tryz.sizeOf20
 v20:=Tryz.zeroValue20
 t31:=Tryz.underlying237
 a31:=Tryz.isAgg237
 z31:=Tryz.sizeOf237
 v31:=Tryz.zeroValue237
 t37:=Tryz.underlying226
 a37:=Tryz.isAgg226
 z37:=Tryz.sizeOf226
 v37:=Tryz.zeroValue226
 t70:=Tryz.underlying286
 a70:=Tryz.isAgg286
 z70:=Tryz.sizeOf286
 v70:=Tryz.zeroValue286
 t72:=Tryz.underlying288
 a72:=Tryz.isAgg288
 z72:=Tryz.sizeOf288
 v72:=Tryz.zeroValue288
 t75:=Tryz.underlying291
 a75:=Tryz.isAgg291
 z75:=Tryz.sizeOf291
 v75:=Tryz.zeroValue291
 t76:=Tryz.underlying292
 a76:=Tryz.isAgg292
 z76:=Tryz.sizeOf292
 v76:=Tryz.zeroValue292
 t127:=Tryz.underlying324
 a127:=Tryz.isAgg324
 z127:=Tryz.sizeOf324
 v127:=Tryz.zeroValue324
 t164:=Tryz.underlying344
 a164:=Tryz.isAgg344
 z164:=Tryz.sizeOf344
 v164:=Tryz.zeroValue344 }
theorem Tryz.Builder_Extra_156:Builder.Extra Tryz.prog Tryz.lays156_ren:={
 sizeBuilder:=by kernel_rfl
 liesBuilder:=by kernel_rfl
 t5:=Tryz.underlying5
 a5:=Tryz.isAgg5
 z5:=Tryz.sizeOf5
 v5:=Tryz.zeroValue5
 infoByte:=by kernel_rfl
 cellsByte:=by kernel_rfl
 sizeByte:=by kernel_rfl
 neB5:=by decide }
open Go.RowKit in

open Go.RowKit in

theorem Tryz.strings_Join (bk o c:Nat) (xs:List ByteArray) (sep:ByteArray) (w:World) (hcells : ∀ (j:Nat) x,xs[j]?=some x→w.cell? ⟨bk,o+j,none⟩=some (.string x)) (hbk:bk<w.heap.size) (hN:xs.length≤140737488355328) (hcap:xs.length≤c) (hlen:(Lib.join (xs.map (·.data.toList)) sep.data.toList).length≤140737488355328) :
  Calls Tryz.prog 203 #[.slice (some ⟨bk,o,none⟩) xs.length c, .string sep] w fun e w'=>e = .returned (.string ⟨(Lib.join (xs.map (·.data.toList)) sep.data.toList).toArray⟩)∧Below w.heap.size w w':=Any.strings_Join Tryz.lays156 Tryz.Builder_Extra_156 bk o c xs sep w hcells hbk hN hcap hlen
def Tryz.lays125_ren:Go.Shelf.Ren:=⟨fun | 125=>209 | 128=>246 | 129=>247 | n=>n,fun | 46=>267 | 3=>3 | 51=>180 | 53=>23 | 4=>4 | 5=>5 | 9=>9 | n=>n,fun | n=>n⟩
theorem Tryz.lays125:Go.Proofs.Lays.n125 Tryz.prog Tryz.lays125_ren:={
 mixed:=by kernel_rfl
 f125:=Tryz.func209.trans (congrArg some (by kernel_rfl))
 f128:=Tryz.func246.trans (congrArg some (by kernel_rfl))
 f129:=Tryz.func247.trans (congrArg some (by kernel_rfl))
 t3:=Tryz.underlying3
 a3:=Tryz.isAgg3
 z3:=Tryz.sizeOf3
 v3:=Tryz.zeroValue3
 t4:=Tryz.underlying4
 a4:=Tryz.isAgg4
 z4:=Tryz.sizeOf4
 v4:=Tryz.zeroValue4
 t5:=Tryz.underlying5
 a5:=Tryz.isAgg5
 z5:=Tryz.sizeOf5
 v5:=Tryz.zeroValue5
 t9:=Tryz.underlying9
 a9:=Tryz.isAgg9
 z9:=Tryz.sizeOf9
 v9:=Tryz.zeroValue9
 t46:=Tryz.underlying267
 a46:=Tryz.isAgg267
 z46:=Tryz.sizeOf267
 v46:=Tryz.zeroValue267
 t51:=Tryz.underlying180
 a51:=Tryz.isAgg180
 z51:=Tryz.sizeOf180
 v51:=Tryz.zeroValue180
 t53:=Tryz.underlying23
 a53:=Tryz.isAgg23
 z53:=Tryz.sizeOf23
 v53:=Tryz.zeroValue23 }

theorem Tryz.bits_Len (x:Int) (w:World) (h0:0≤x) (h1:x≤18446744073709551615) :
  Calls Tryz.prog 209 #[.int .u64 x] w fun e w'=>e = .returned (.int .i64 (Lib.bitLen x.toNat))∧w'=w:=Any.bits_Len Tryz.lays125 x w h0 h1
open Go.RowKit in

open Go.RowKit in

open Go.RowKit in

open Go.RowKit in

open Go.RowKit in

open Go.RowKit in

open Go.RowKit in

open Go.RowKit in

open Go.RowKit in

open Go.RowKit in

open Go.Lib in

open Go.Lib in

def Tryz.lays283_ren:Go.Shelf.Ren:=⟨fun | 283=>266 | n=>n,fun | 3=>3 | 9=>9 | 4=>4 | n=>n,fun | n=>n⟩
theorem Tryz.lays283:Go.Proofs.Lays.n283 Tryz.prog Tryz.lays283_ren:={
 mixed:=by kernel_rfl
 f283:=Tryz.func266.trans (congrArg some (by kernel_rfl))
 t3:=Tryz.underlying3
 a3:=Tryz.isAgg3
 z3:=Tryz.sizeOf3
 v3:=Tryz.zeroValue3
 t4:=Tryz.underlying4
 a4:=Tryz.isAgg4
 z4:=Tryz.sizeOf4
 v4:=Tryz.zeroValue4
 t9:=Tryz.underlying9
 a9:=Tryz.isAgg9
 z9:=Tryz.sizeOf9
 v9:=Tryz.zeroValue9 }
open Go.Lib in

theorem Tryz.internal_strconv_small (i:Nat) (h:i<100) (w:World) :
  Calls Tryz.prog 266 #[.int .i64 i] w fun e w'=>e = .returned (.string ⟨(Lib.decDigits i).toArray⟩)∧w'=w:=Any.internal_strconv_small Tryz.lays283 i h w
def Tryz.laysM284_ren:Go.Shelf.Ren:=⟨fun | 284=>267 | 129=>247 | 317=>288 | 318=>289 | n=>n,fun | 53=>23 | 3=>3 | 212=>342 | 0=>0 | 4=>4 | 46=>267 | 5=>5 | 9=>9 | n=>n,fun | 17=>2 | n=>n⟩
theorem Tryz.laysM284:Go.Proofs.LaysM.n284 Tryz.prog Tryz.laysM284_ren:={
 mixed:=by kernel_rfl
 f129:=Tryz.func247.trans (congrArg some (by kernel_rfl))
 f284:=Tryz.func267.trans (congrArg some (by kernel_rfl))
 f317:=Tryz.func288.trans (congrArg some (by kernel_rfl))
 f318:=Tryz.func289.trans (congrArg some (by kernel_rfl))
 t0:=Tryz.underlying0
 a0:=Tryz.isAgg0
 z0:=Tryz.sizeOf0
 v0:=Tryz.zeroValue0
 t3:=Tryz.underlying3
 a3:=Tryz.isAgg3
 z3:=Tryz.sizeOf3
 v3:=Tryz.zeroValue3
 t4:=Tryz.underlying4
 a4:=Tryz.isAgg4
 z4:=Tryz.sizeOf4
 v4:=Tryz.zeroValue4
 t5:=Tryz.underlying5
 a5:=Tryz.isAgg5
 z5:=Tryz.sizeOf5
 v5:=Tryz.zeroValue5
 t9:=Tryz.underlying9
 a9:=Tryz.isAgg9
 z9:=Tryz.sizeOf9
 v9:=Tryz.zeroValue9
 t46:=Tryz.underlying267
 a46:=Tryz.isAgg267
 z46:=Tryz.sizeOf267
 v46:=Tryz.zeroValue267
 t53:=Tryz.underlying23
 a53:=Tryz.isAgg23
 z53:=Tryz.sizeOf23
 v53:=Tryz.zeroValue23
 t212:=Tryz.underlying342
 a212:=Tryz.isAgg342
 z212:=Tryz.sizeOf342
 v212:=Tryz.zeroValue342
 g17:=by kernel_rfl
 i0:=by kernel_rfl
 i3:=by kernel_rfl
 i4:=by kernel_rfl
 i5:=by kernel_rfl
 i9:=by kernel_rfl
 i46:=by kernel_rfl
 i53:=by kernel_rfl
 i212:=by kernel_rfl
 m17:=by kernel_rfl }
open Go.Lib in

theorem Tryz.internal_strconv_numDigits (u:Nat) (h1:1≤u) (h2:u<18446744073709551616) (w:World) (htab:Lib.TabIs Tryz.prog w "internal/strconv.uint64pow10" .u64 Lib.pow10Tab) :
  Calls Tryz.prog 267 #[.int .u64 u] w fun e w'=>e = .returned (.int .i64 (Lib.nDigits u))∧w'=w:=Any.internal_strconv_numDigits Tryz.laysM284 u h1 h2 w htab
def Tryz.lays285_ren:Go.Shelf.Ren:=⟨fun | 285=>268 | n=>n,fun | 37=>226 | 53=>23 | 3=>3 | 4=>4 | 51=>180 | 9=>9 | 5=>5 | 0=>0 | n=>n,fun | n=>n⟩
theorem Tryz.lays285:Go.Proofs.Lays.n285 Tryz.prog Tryz.lays285_ren:={
 mixed:=by kernel_rfl
 f285:=Tryz.func268.trans (congrArg some (by kernel_rfl))
 t0:=Tryz.underlying0
 a0:=Tryz.isAgg0
 z0:=Tryz.sizeOf0
 v0:=Tryz.zeroValue0
 t3:=Tryz.underlying3
 a3:=Tryz.isAgg3
 z3:=Tryz.sizeOf3
 v3:=Tryz.zeroValue3
 t4:=Tryz.underlying4
 a4:=Tryz.isAgg4
 z4:=Tryz.sizeOf4
 v4:=Tryz.zeroValue4
 t5:=Tryz.underlying5
 a5:=Tryz.isAgg5
 z5:=Tryz.sizeOf5
 v5:=Tryz.zeroValue5
 t9:=Tryz.underlying9
 a9:=Tryz.isAgg9
 z9:=Tryz.sizeOf9
 v9:=Tryz.zeroValue9
 t37:=Tryz.underlying226
 a37:=Tryz.isAgg226
 z37:=Tryz.sizeOf226
 v37:=Tryz.zeroValue226
 t51:=Tryz.underlying180
 a51:=Tryz.isAgg180
 z51:=Tryz.sizeOf180
 v51:=Tryz.zeroValue180
 t53:=Tryz.underlying23
 a53:=Tryz.isAgg23
 z53:=Tryz.sizeOf23
 v53:=Tryz.zeroValue23 }
open Go.RowKit Go.Sort Go.Lib in

theorem Tryz.internal_strconv_formatBase10 (blk off cap:Nat) (u:Nat) (d:Array UInt8) (w:World) (hH:Holds (fun (b:UInt8)=>Value.int .u8 (b.toNat:Int)) w blk off d) (hu:u<10 ^ d.size) (hu64:u<18446744073709551616) (hsz:d.size<4611686018427387904) :
  Calls Tryz.prog 268 #[.slice (some ⟨blk,off,none⟩) d.size cap, .int .u64 u] w fun e w' =>
   e = .returned (.tuple #[]) ∧ ∃ (n v':Nat) (dk:Array UInt8),w'=(putRow (fun (b:UInt8)=>Value.int .u8 (b.toNat:Int)) w blk off dk).drewN n∧FmtInv d.size u 0 v' dk:=Any.internal_strconv_formatBase10 Tryz.lays285 blk off cap u d w hH hu hu64 hsz




end Go.Proofs

namespace Go.Proofs.YtdgbkpoickbidaaGreatDoor
open Go.RowKit

theorem elemStrings:Elem Tryz.prog 237 9 1 16 (.string ⟨#[]⟩):=⟨by kernel_rfl,by kernel_rfl,by rfl,by omega⟩

/-- the pieces as cells -/
def strs (l:List ByteArray):List Value:=l.map Value.string

theorem join_le (digs:Int→ByteArray) (hsz : ∀ x,(digs x).size≤20) (l:List Int):(Lib.join ((l.map digs).map (·.data.toList)) [44]).length≤21 * l.length:=by
 induction l with
 | nil=>simp [Lib.join]
 | cons x r ih =>
  have hx:(digs x).data.toList.length≤20:=by have:=hsz x;simpa using this
  cases r with
  | nil=>simp only [List.map_cons,List.map_nil,Lib.join_one,List.length_cons,List.length_nil];omega
  | cons y r =>
   rw [List.map_cons,List.map_cons,Lib.join_length]
   rw [List.map_cons,List.map_cons,Lib.join_length] at ih
   simp only [List.map_cons,List.length_cons,List.length_nil,Lib.lens,List.length_map,List.sum_cons] at ih ⊢
   omega
def printT (digs:Int→ByteArray) (e:Int) (l:List Int):ByteArray :=
 digs e++⟨#[40]⟩++⟨(Lib.join ((l.map digs).map (·.data.toList)) [44]).toArray⟩++⟨#[41]⟩

set_option maxRecDepth 100000 in
set_option maxHeartbeats 1000000 in
theorem print_some (e:Int) (A:Option Addr) (n c:Nat) (l:List Int) (digs:Int→ByteArray) (w:World) (h:Sl w 1 A n c (wds l)) (u:U32 l) (hn:n≤1000) (h0:0<n) (hsz : ∀ x,(digs x).size≤20)
  (HF:Hid (∀ (x:Int) (W:World),Ext w W→x=e∨x∈l→Calls Tryz.prog 202 #[.int .u64 x, .int .i64 10] W fun r w'=>r = .returned (.string (digs x))∧Ext W w')) :
  Calls Tryz.prog 141 #[.agg #[.int .u64 e, .slice A n c]] w fun r w'=>r = .returned (.string (printT digs e l))∧Ext w w':=by
 obtain ⟨ad,rfl,_,_⟩:=h.word h0
 have hl:=h.wlen
 go_enter Tryz.func141,Tryz.ntmps141
 have q0:((n:Int)==0)=false:=by simp;omega
 go_wp2_with (go_at_call 202;refine (HF.out e _ ((Ext.refl w).alloc _) (Or.inl rfl)).mono ?_;rintro r w1 ⟨rfl,x1⟩;have y0:=(Bk.new w 26 #[.int .u64 e, .slice (some ad) n c]).ext x1;have y1:w1.cell? ⟨w.heap.size,1,none⟩=some (.slice (some ad) n c):=y0.cell 1)
 have X1:Ext w w1:=((Ext.refl w).alloc _).trans x1
 clear y0 y1 x1
 go_loopw [4,18] (fun t v wr => ∃ (k:Nat) (A:Option Addr) (c:Nat),k≤n∧v = .int .i64 k∧t = .slice A k c∧Ext w1 wr∧Own wr w1.heap.size 9 1 A k c (strs ((l.take k).map digs)))
  (fun _ v _=>n - (intOf v).toNat)
 case atStart=>exact ⟨0,none,0,Nat.zero_le _,rfl,rfl,Ext.refl _,by simpa [strs] using Own.nil _ _ _ _⟩
 case round =>
  obtain ⟨k,A,c',hk,rfl,rfl,er,hown⟩:=hrel
  by_cases hlt:k<n
  ·obtain ⟨_,he,hc1,_⟩:=(h.ext (X1.trans er)).word hlt
   cases he
   obtain ⟨x,hx⟩ : ∃ x,x=l.getD k 0:=⟨_,rfl⟩
   have hm:x∈l:=by rw [hx,List.getD_eq_getElem?_getD,List.getElem?_eq_getElem (show k<l.length by omega)];exact List.getElem_mem _
   have r1:0≤x∧x≤4294967295:=u x hm
   rw [← hx] at hc1
   have HX:=Lib.hid hx
   clear hx
   have E1:IntKind.u64.wrap x=x:=IntWalk.u64_in _ (by omega)
   have i1:(k:Int)<(n:Int):=by omega
   go_wp2_with (first | (go_at_call 202;refine (HF.out x _ (X1.trans er) (Or.inr hm)).mono ?_;rintro r w2 ⟨rfl,x2⟩) | (at_builtin;refine wpList_append_gen _ elemStrings w1.heap.size _ _ (by rfl) (by rfl) A k c' _ (by rfl) ((hown.ext x2).alloc _) (some ⟨w2.heap.size,0,none⟩) 1 1 _ (by rfl) (Sl.one w2 _ _ 1 rfl) (by simp [Value.oneCell']) (by omega) (by omega) (by have:=er.size;have:=x2.size;simp;omega) ?_;intro A' c2 w3 ho1 hg1 hk1))
   refine ⟨⟨k+1,A',c2,by omega,by go_num,rfl,?_,?_⟩,by simp [intOf];omega⟩
   ·exact ((er.trans x2).alloc _).grown hg1 (fun g hg=>hown.lt g hg |>.1)
   ·have e1:strs ((l.take (k+1)).map digs)=strs ((l.take k).map digs)++[.string (digs x)]:=by
     rw [take_succ_getD _ _ (by omega), ← HX.out,List.map_append]
     exact List.map_append
    rw [e1]
    exact ho1
  ·obtain rfl:k=n:=by omega
   obtain ⟨g,rfl,_,hg1,hg2,hcg,_⟩:=hown.form h0
   have hle:=hown.le
   have htk:l.take k=l:=by rw [← hl];exact List.take_length
   rw [htk] at hcg
   obtain ⟨J,hJ⟩ : ∃ J,J=Lib.join ((l.map digs).map (·.data.toList)) [44]:=⟨_,rfl⟩
   have hjl:J.length≤21 * l.length:=hJ ▸ join_le digs hsz l
   have hsz0:=hsz e
   have CJ : ∀ _:True,Calls Tryz.prog 203 #[.slice (some ⟨g,0,none⟩) k c', .string ⟨#[44]⟩] wr fun r w'=>r = .returned (.string ⟨J.toArray⟩)∧Below wr.heap.size wr w':=by
    intro _
    have:=Tryz.strings_Join g 0 c' (l.map digs) ⟨#[44]⟩ wr (fun j x hx=>by rw [Nat.zero_add];exact hcg j _ (by simpa [strs] using hx)) hg2 (by simp;omega) (by simp;omega) (by rw [← show J=_ from hJ];omega)
    rw [List.length_map,hl] at this
    rw [hJ]
    exact this
   have hPT:printT digs e l=digs e++⟨#[40]⟩++⟨J.toArray⟩++⟨#[41]⟩:=by rw [hJ];rfl
   have HPT:=Lib.hid hPT
   clear hJ hPT
   have k1 : ¬ 9223372036854775807<(digs e).size+1:=by omega
   have k2 : ¬ 9223372036854775807<(digs e).size+1+J.length:=by omega
   have k3 : ¬ 9223372036854775807<(digs e).size+1+J.length+1:=by omega
   go_wp2_with (go_at_call 203;refine (CJ trivial).mono ?_;rintro r w2 ⟨rfl,x2⟩)
   refine bodyPost_ret (v := .string (digs e++⟨#[40]⟩++⟨J.toArray⟩++⟨#[41]⟩)) (by simp only [results,Tryz.results141];go_simp) rfl ?_
   rw [HPT.out]
   exact ⟨rfl,(X1.trans er).trans x2⟩

set_option maxRecDepth 100000 in
set_option maxHeartbeats 400000 in
theorem print_none (e:Int) (A:Option Addr) (c:Nat) (digs:Int→ByteArray) (w:World)
  (HF:Hid (∀ (x:Int) (W:World),Ext w W→x=e→Calls Tryz.prog 202 #[.int .u64 x, .int .i64 10] W fun r w'=>r = .returned (.string (digs x))∧Ext W w')) :
  Calls Tryz.prog 141 #[.agg #[.int .u64 e, .slice A 0 c]] w fun r w'=>r = .returned (.string (digs e))∧Ext w w':=by
 go_enter Tryz.func141,Tryz.ntmps141
 go_wp2_with (go_at_call 202;refine (HF.out e _ ((Ext.refl w).alloc _) rfl).mono ?_;rintro r w1 ⟨rfl,x1⟩;have y0:=(Bk.new w 26 #[.int .u64 e, .slice A 0 c]).ext x1;have y1:w1.cell? ⟨w.heap.size,1,none⟩=some (.slice A 0 c):=y0.cell 1)
 refine bodyPost_ret (v := .string (digs e)) (by simp only [results,Tryz.results141];go_simp) rfl ?_
 exact ⟨rfl,((Ext.refl w).alloc _).trans x1⟩
end Go.Proofs.YtdgbkpoickbidaaGreatDoor
namespace Go.Proofs.YtdgbkpoickbidaaGreatDoor
open Go.ChangeShapes Go.WideShapes Go.ChangeAt Go.RowKit Go.WideElems Go.Sort

/-- the table of powers of ten stands as it was laid -/
structure Pow (w:World):Prop where
 pow : ∀ W,Ext w W→Lib.TabIs Tryz.prog W "internal/strconv.uint64pow10" .u64 Lib.pow10Tab
theorem Pow.ext {w w':World} (h:Pow w) (x:Ext w w'):Pow w':=⟨fun W y=>h.pow W (x.trans y)⟩
theorem pow_is:(Rows.laid_internal_strconv_uint64pow10:DataW Unit)=Lib.tabData .u64 Lib.pow10Tab:=by kernel_rfl
theorem tab_of_reads {P:Program} {W:World} {name:String} {k:IntKind} {zs:List Int} {g:Nat} {t e:TypeId} {n:Nat}
  (hg:P.globalNamed name=some g) (hty:(P.globals[g]?).map (·.type)=some t) (ht:P.underlying t=some (.array n e)) (he:P.underlying e=some (.int k)) (hce:P.cellsOf e=1) (hct:P.cellsOf t=n)
  (h:Lib.VarReads P W name (Lib.tabData k zs)):Lib.TabIs P W name k zs:=by
 obtain ⟨g',t',cs,fuel,p,hg',ht',hvar,hd⟩:=h
 obtain rfl:=Option.some.inj (hg.symm.trans hg')
 obtain rfl:=Option.some.inj (hty.symm.trans ht')
 unfold Lib.TabIs
 rw [hvar, ← Lib.cells_of_tab ht he hce hct hd]
theorem pow_of {W:World} {l:List (String × DataW Unit)} (h:laidMet Tryz.prog l W) (h3:("internal/strconv.uint64pow10",Rows.laid_internal_strconv_uint64pow10)∈l):Pow W:=by
 have a:=Lib.laidMet.reads h h3
 rw [pow_is] at a
 have ta:Lib.TabIs Tryz.prog W "internal/strconv.uint64pow10" .u64 Lib.pow10Tab:=tab_of_reads (g:=2) (t:=342) (e:=23) (n:=20) (by kernel_rfl) (by kernel_rfl) Tryz.underlying342 Tryz.underlying23 (by kernel_rfl) (by kernel_rfl) a
 exact ⟨fun W' x=>Lib.tabBelow_of_tabIs ta W' x⟩

theorem holds_zero0 (w:World) (T:TypeId) (nd:Nat) (hs:nd≤24):Holds (fun (b:UInt8)=>Value.int .u8 (b.toNat:Int)) (w.alloc (.cells Lib.zeros24 T)) w.heap.size 0 (Array.replicate nd (0:UInt8)):=fun j hj=>by
 have hj':j<nd:=by simpa using hj
 refine ⟨?_,World.frozen?_alloc_new _ _ _ _⟩
 rw [World.cell?_alloc_new,Lib.zeros24_at _ (by omega),getElem!_pos _ j hj]
 simp
theorem fin_pos0 (w:World) (o:Obj) (dk:Array UInt8) (k:Nat) : ∃ os,(putRow (fun (b:UInt8)=>Value.int .u8 (b.toNat:Int)) (w.alloc o) w.heap.size 0 dk).drewN k=grow (w.drewN k) os:=by
 rw [alloc_eq_grow]
 obtain ⟨os',_,e⟩:=putRow_grow_new (fun (b:UInt8)=>Value.int .u8 (b.toNat:Int)) w #[o] w.heap.size 0 dk (Nat.le_refl _)
 exact ⟨os',by rw [e];rfl⟩

set_option maxRecDepth 100000 in
set_option maxHeartbeats 6400000 in
theorem inner_uint (u:Nat) (w:World) (hu1:100≤u) (hu64:u<18446744073709551616) (htab:Lib.TabIs Tryz.prog w "internal/strconv.uint64pow10" .u64 Lib.pow10Tab) :
  Calls Tryz.prog 231 #[.int .u64 u, .int .i64 10] w fun e w'=>e = .returned (.string ⟨(Lib.decDigits u).toArray⟩) ∧ ∃ k os,w'=grow (w.drewN k) os:=by
 have hnd20:Lib.nDigits u≤20:=by have:=Lib.numDigits_eq u (by omega) hu64;split at this<;>omega
 have hb3:Lib.nDigits u≤24:=by omega
 have hal:Tryz.prog.arrayLen 320=24:=by simp [Program.arrayLen,Tryz.underlying320]
 have hsl1 : ∀ W,(Instr.sliceAt 320 (.pointer (some ⟨w.heap.size,0,none⟩)) none (some (.int .i64 (Lib.nDigits u:Int))) none).run Tryz.prog W = .ok (.slice (some ⟨w.heap.size,0,none⟩) (Lib.nDigits u) 24) W:=fun W=>by
  rw [run_sliceAt_array_h W 320 ⟨w.heap.size,0,none⟩ (by simp [Program.arrayLen,Program.elem,Tryz.underlying320]) .i64 (Lib.nDigits u:Int) (by omega) (by rw [hal];omega)]
  go_simp
 have hH0:=holds_zero0 w 320 (Lib.nDigits u) (by omega)
 have hfmt:=Tryz.internal_strconv_formatBase10 w.heap.size 0 24 u (Array.replicate (Lib.nDigits u) 0) (w.alloc (.cells Lib.zeros24 320)) hH0 (by rw [Array.size_replicate];exact Lib.lt_pow_nDigits u) hu64 (by rw [Array.size_replicate];omega)
 rw [Array.size_replicate] at hfmt
 have HH0:=Lib.hid hH0
 clear hH0 hal
 go_enter Tryz.func231,Tryz.ntmps231
 go_wp2_with (first
  | (go_at_call 267;refine (Tryz.internal_strconv_numDigits u (by omega) hu64 _ (Lib.tabIs_alloc htab _)).mono ?_;rintro e w' ⟨rfl,rfl⟩))
 go_at_call 268
 refine hfmt.mono ?_
 rintro e w' ⟨rfl,k,v',dk,rfl,hF⟩
 have hcv:(convert 226 9 (.slice (some ⟨w.heap.size,0,none⟩) (Lib.nDigits u) 24)).run Tryz.prog ((putRow (fun (b:UInt8)=>Value.int .u8 (b.toNat:Int)) (w.alloc (.cells Lib.zeros24 320)) w.heap.size 0 dk).drewN k) = .ok (.string ⟨(Lib.decDigits u).toArray⟩) ((putRow (fun (b:UInt8)=>Value.int .u8 (b.toNat:Int)) (w.alloc (.cells Lib.zeros24 320)) w.heap.size 0 dk).drewN k):=by
  have h:=run_convert_bytes_back (P:=Tryz.prog) ((putRow (fun (b:UInt8)=>Value.int .u8 (b.toNat:Int)) (w.alloc (.cells Lib.zeros24 320)) w.heap.size 0 dk).drewN k) 226 9 5 ⟨w.heap.size,0,none⟩ 24 (Lib.decDigits u) Tryz.underlying226 Tryz.underlying5 Tryz.underlying9 (fun j hj=>by
   rw [Lib.row_is_numeral hF j hj,Lib.add_plain,World.cell?_drewN]
   exact cell?_putRow (fun (b:UInt8)=>Value.int .u8 (b.toNat:Int)) _ w.heap.size 0 _ dk HH0.out (by rw [hF.size,Array.size_replicate]) j (by rw [hF.size];rw [Lib.decDigits_length] at hj;exact hj))
  rw [Lib.decDigits_length] at h
  exact h
 go_wp2
 go_ret
 obtain ⟨os,eo⟩:=fin_pos0 w (.cells Lib.zeros24 320) dk k
 exact ⟨rfl,k,os,eo⟩
set_option maxRecDepth 100000 in
set_option maxHeartbeats 400000 in
theorem inner_small (i:Nat) (hi:i<100) (w:World) :
  Calls Tryz.prog 231 #[.int .u64 i, .int .i64 10] w fun e w'=>e = .returned (.string ⟨(Lib.decDigits i).toArray⟩)∧w=w':=by
 have i0:IntKind.i64.wrap (i:Int)=i:=IntWalk.i64_in _ (by omega)
 have i1:(i:Int)<100:=by omega
 go_enter Tryz.func231,Tryz.ntmps231
 go_wp2_with (go_at_call 266;refine (Tryz.internal_strconv_small i hi _).mono ?_;rintro r w1 ⟨rfl,rfl⟩)
 go_ret
 exact ⟨rfl,rfl⟩
theorem inner_any (u:Nat) (w:World) (hu64:u<18446744073709551616) (G:Pow w) :
  Calls Tryz.prog 231 #[.int .u64 u, .int .i64 10] w fun e w'=>e = .returned (.string ⟨(Lib.decDigits u).toArray⟩)∧Ext w w':=by
 by_cases h:u<100
 ·exact (inner_small u h w).mono fun _ _ ⟨he,hw⟩=>⟨he,hw ▸ Ext.refl _⟩
 ·exact (inner_uint u w (by omega) hu64 (G.pow w (Ext.refl w))).mono fun _ _ ⟨he,k,os,hw⟩=>⟨he,hw ▸ Lib.below_grow _ w (Nat.le_refl _) k os⟩
set_option maxRecDepth 100000 in
set_option maxHeartbeats 400000 in
theorem formatUint_any (u:Nat) (w:World) (hu64:u<18446744073709551616) (G:Pow w) :
  Calls Tryz.prog 202 #[.int .u64 u, .int .i64 10] w fun e w'=>e = .returned (.string ⟨(Lib.decDigits u).toArray⟩)∧Ext w w':=by
 have H:=Lib.hid hu64
 clear hu64
 go_enter Tryz.func202,Tryz.ntmps202
 go_wp2_with (go_at_call 231;refine (inner_any u _ H.out G).mono ?_;rintro e w1 ⟨rfl,x1⟩)
 go_ret
 exact ⟨rfl,x1⟩
end Go.Proofs.YtdgbkpoickbidaaGreatDoor
namespace Go.Proofs.YtdgbkpoickbidaaGreatDoor

theorem digits_len : ∀ (f u:Nat),u<10 ^ (f+1)→(Lib.decDigits u).length≤f+1
 | 0,u,h=>by
  unfold Lib.decDigits
  rw [dif_pos (by omega)]
  simp
 | f+1,u,h=>by
  unfold Lib.decDigits
  split
  ·simp
  ·have:=digits_len f (u / 10) (by rw [Nat.pow_succ] at h;omega)
   simp
   omega
open Go.RowKit
/-! ### plain -/
def digB (x:Int):ByteArray:=⟨(Lib.decDigits x.toNat).toArray⟩
theorem digB_size {x:Int} (h1:x≤18446744073709551615):(digB x).size≤20:=by
 have h:=digits_len 19 x.toNat (by have:(10:Nat) ^ 20=100000000000000000000:=(by decide); omega)
 simpa [digB,ByteArray.size] using h
/-- what the document's Print has behind k counters -/
def prK (e:Int) (l:List Int):Nat→ByteArray
 | 0=>digB e
 | k+1=>prK e l k++⟨#[if k=0 then 40 else 44]⟩++digB (l.getD k 0)
def prT (e:Int) (l:List Int):ByteArray:=if l=[] then digB e else prK e l l.length++⟨#[41]⟩
theorem prK_size {e:Int} {l:List Int} (he:e≤18446744073709551615) (u:U32 l) : ∀ k,(prK e l k).size≤20+21 * k
 | 0=>digB_size he
 | k+1=>by
  have h1:=prK_size he u k
  have h2:=digB_size (x:=l.getD k 0) (by have:=(u.getD k).2;omega)
  show (prK e l k++⟨#[if k=0 then 40 else 44]⟩++digB (l.getD k 0)).size≤_
  rw [ByteArray.size_append,ByteArray.size_append]
  have:(⟨#[if k=0 then 40 else 44]⟩:ByteArray).size=1:=rfl
  omega
theorem join_snoc (sep:List UInt8) (xs:List (List UInt8)) (x:List UInt8) (h:xs≠[]):Lib.join (xs++[x]) sep=Lib.join xs sep++(sep++x):=by
 cases xs with
 | nil=>exact absurd rfl h
 | cons y r =>
  rw [List.cons_append,Lib.join_cons,Lib.join_cons]
  unfold Lib.joinTail
  rw [List.map_append,List.flatten_append,List.append_assoc]
  simp
theorem prK_join (e:Int) (l:List Int) : ∀ k,k<l.length→prK e l (k+1)=digB e++⟨#[40]⟩++⟨(Lib.join (((l.take (k+1)).map digB).map (·.data.toList)) [44]).toArray⟩
 | 0,h=>by
  have e1:l.take 1=[l.getD 0 0]:=by
   cases l with
   | nil=>simp at h
   | cons a r=>rfl
  show digB e++⟨#[40]⟩++digB (l.getD 0 0)=_
  rw [show (0:Nat)+1=1 from rfl,e1,List.map_cons,List.map_nil,List.map_cons,List.map_nil,Lib.join_one]
 | k+1,h=>by
  have ih:=prK_join e l k (by omega)
  have e1:l.take (k+1+1)=l.take (k+1)++[l.getD (k+1) 0]:=take_succ_getD _ _ h
  have hne:(((l.take (k+1)).map digB).map (·.data.toList))≠[]:=by
   intro h0
   have:=congrArg List.length h0
   rw [List.length_map,List.length_map,List.length_take,List.length_nil] at this
   omega
  show prK e l (k+1)++⟨#[if k+1=0 then 40 else 44]⟩++digB (l.getD (k+1) 0)=_
  rw [ih,if_neg (by omega),e1,List.map_append,List.map_append,List.map_cons,List.map_nil,List.map_cons,List.map_nil,join_snoc _ _ _ hne]
  generalize Lib.join (((l.take (k+1)).map digB).map (·.data.toList)) [44]=J
  generalize digB (l.getD (k+1) 0)=D
  apply ByteArray.ext
  apply Array.toList_inj.1
  simp
theorem prT_is (e:Int) (l:List Int) (h:l≠[]):prT e l=printT digB e l:=by
 unfold prT printT
 rw [if_neg h]
 obtain ⟨k,hk⟩ : ∃ k,l.length=k+1:=⟨l.length - 1,by have:=List.length_pos_iff.2 h;omega⟩
 rw [hk,prK_join e l k (by omega), ← hk,List.take_length]

/-! ### the program -/
/-- numbers of 64 bits as they are written; nothing else -/
def digC (x:Int):ByteArray:=if x≤18446744073709551615 then digB x else ⟨#[]⟩
theorem digC_size (x:Int):(digC x).size≤20:=by
 unfold digC
 split
 ·exact digB_size (by assumption)
 ·exact Nat.zero_le _
theorem digC_in {x:Int} (h:x≤18446744073709551615):digC x=digB x:=if_pos h
theorem print_any (e:Int) (A:Option Addr) (n c:Nat) (l:List Int) (w:World) (h:Sl w 1 A n c (wds l)) (u:U32 l) (he:0≤e∧e≤18446744073709551615) (hn:n≤1000) (G:Pow w) :
  Calls Tryz.prog 141 #[.agg #[.int .u64 e, .slice A n c]] w fun r w'=>r = .returned (.string (prT e l))∧Ext w w':=by
 have hl:=h.wlen
 have fm : ∀ (x:Int) (W:World),Ext w W→(0≤x∧x≤18446744073709551615)→Calls Tryz.prog 202 #[.int .u64 x, .int .i64 10] W fun r w'=>r = .returned (.string (digC x))∧Ext W w':=by
  intro x W X hx
  rw [digC_in hx.2]
  obtain ⟨m,rfl⟩:=Int.eq_ofNat_of_zero_le hx.1
  exact formatUint_any m W (by omega) (G.ext X)
 by_cases h0:n=0
 ·subst h0
  have hnil:l=[]:=List.eq_nil_of_length_eq_zero hl
  have:=print_none e A c digC w (Lib.hid fun x W X hx=>fm x W X (hx ▸ he))
  rw [digC_in he.2] at this
  subst hnil
  exact this
 ·have hne:l≠[]:=fun h9=>by subst h9;simp at hl;omega
  have:=print_some e A n c l digC w h u hn (by omega) digC_size (Lib.hid fun x W X hx=>fm x W X (by
   rcases hx with rfl | hx
   ·exact he
   ·have:=u x hx;omega))
  rw [prT_is e l hne]
  have e1:l.map digC=l.map digB:=List.map_congr_left fun x hx=>digC_in (by have:=u x hx;omega)
  have e2:printT digC e l=printT digB e l:=by unfold printT;rw [e1,digC_in he.2]
  rw [← e2]
  exact this
/-! ### the document -/
open Go.RowKit
theorem digit_val {r:Nat} (h:r<10):(UInt8.ofNat (48+r)).toNat=48+r:=by
 rw [UInt8.toNat_ofNat']
 omega
def isDig (c:UInt8):Prop:=48≤c.toNat∧c.toNat≤57
theorem digits_fine : ∀ (f u:Nat),u≤f → ∀ c∈Lib.decDigits u,isDig c
 | f,u,h=>by
  intro c hc
  unfold isDig
  unfold Lib.decDigits at hc
  split at hc
  ·simp only [List.mem_singleton] at hc
   subst hc
   rw [digit_val (by omega)]
   omega
  ·rcases List.mem_append.1 hc with h1 | h1
   ·match f,h with
    | 0,h=>omega
    | f+1,h=>exact digits_fine f (u / 10) (by omega) c h1
   ·simp only [List.mem_singleton] at h1
    subst h1
    rw [digit_val (by omega)]
    omega
def decVal (l:List UInt8):Nat:=l.foldl (fun a c=>10 * a+(c.toNat - 48)) 0
theorem val_digits : ∀ (f u:Nat),u≤f→decVal (Lib.decDigits u)=u
 | f,u,h=>by
  unfold Lib.decDigits
  split
  ·simp only [decVal,List.foldl_cons,List.foldl_nil]
   rw [digit_val (by omega)]
   omega
  ·match f,h with
   | 0,h=>omega
   | f+1,h =>
    have ih:=val_digits f (u / 10) (by omega)
    unfold decVal at ih ⊢
    rw [List.foldl_append,ih]
    simp only [List.foldl_cons,List.foldl_nil]
    rw [digit_val (by omega)]
    omega
theorem digits_inj {u v:Nat} (h:Lib.decDigits u=Lib.decDigits v):u=v:=by
 rw [← val_digits u u (Nat.le_refl _), ← val_digits v v (Nat.le_refl _),h]
theorem run_inj : ∀ {A B:List UInt8} {c d:UInt8} {x y:List UInt8},(∀ z∈A,isDig z)→(∀ z∈B,isDig z) → ¬ isDig c → ¬ isDig d→A++c :: x=B++d :: y→A=B∧c=d∧x=y
 | [],[],c,d,x,y,_,_,_,_,h=>by injection h with h1 h2;exact ⟨rfl,h1,h2⟩
 | [],b :: B,c,d,x,y,_,hB,hc,_,h=>by injection h with h1 _;exact absurd (h1 ▸ hB b (by simp)) hc
 | a :: A,[],c,d,x,y,hA,_,_,hd,h=>by injection h with h1 _;exact absurd (h1 ▸ hA a (by simp)) hd
 | a :: A,b :: B,c,d,x,y,hA,hB,hc,hd,h=>by
  injection h with h1 h2
  obtain ⟨e1,e2,e3⟩:=run_inj (fun z hz=>hA z (List.mem_cons_of_mem _ hz)) (fun z hz=>hB z (List.mem_cons_of_mem _ hz)) hc hd h2
  exact ⟨by rw [h1,e1],e2,e3⟩
theorem dec_inj {a b:Int} (ha:0≤a) (hb:0≤b) {c d:UInt8} {x y:List UInt8} (hc : ¬ isDig c) (hd : ¬ isDig d) (h:Lib.decDigits a.toNat++c :: x=Lib.decDigits b.toNat++d :: y):a=b∧c=d∧x=y:=by
 obtain ⟨e1,e2,e3⟩:=run_inj (digits_fine _ _ (Nat.le_refl _)) (digits_fine _ _ (Nat.le_refl _)) hc hd h
 have:=digits_inj e1
 exact ⟨by omega,e2,e3⟩
/-- the counters behind the first -/
def restL:List Int→List UInt8
 | []=>[41,0]
 | y :: r=>44 :: (Lib.decDigits y.toNat++restL r)
theorem nd40 : ¬ isDig 40:=by unfold isDig;decide
theorem nd41 : ¬ isDig 41:=by unfold isDig;decide
theorem nd44 : ¬ isDig 44:=by unfold isDig;decide
theorem nd0 : ¬ isDig 0:=by unfold isDig;decide
theorem rest_head (l:List Int) : ∃ c x,restL l=c :: x ∧ ¬ isDig c:=by
 cases l with
 | nil=>exact ⟨41,_,rfl,nd41⟩
 | cons y r=>exact ⟨44,_,rfl,nd44⟩
theorem rest_inj : ∀ {l m:List Int},(∀ x∈l,0≤x)→(∀ x∈m,0≤x)→restL l=restL m→l=m
 | [],[],_,_,_=>rfl
 | [],y :: m,_,_,h=>by unfold restL at h;injection h with h1 _;exact absurd h1 (by decide)
 | x :: l,[],_,_,h=>by unfold restL at h;injection h with h1 _;exact absurd h1 (by decide)
 | x :: l,y :: m,hl,hm,h=>by
  rw [restL,restL] at h
  injection h with _ h
  obtain ⟨c,p,e1,nc⟩:=rest_head l
  obtain ⟨d,q,e2,nd⟩:=rest_head m
  rw [e1,e2] at h
  obtain ⟨h1,h2,h3⟩:=dec_inj (hl x (by simp)) (hm y (by simp)) nc nd h
  rw [h1,rest_inj (fun z hz=>hl z (List.mem_cons_of_mem _ hz)) (fun z hz=>hm z (List.mem_cons_of_mem _ hz)) (by rw [e1,e2,h2,h3])]
theorem tail_rest (r:List Int):Lib.joinTail [44] ((r.map digB).map (·.data.toList))++[41,0]=restL r:=by
 induction r with
 | nil=>rfl
 | cons y r ih =>
  rw [restL, ← ih]
  unfold Lib.joinTail digB
  simp
/-- a time's text, with an end -/
def prL (v:TV):List UInt8:=match v.2 with | []=>Lib.decDigits v.1.toNat++[0] | x :: r=>Lib.decDigits v.1.toNat++40 :: (Lib.decDigits x.toNat++restL r)
theorem prT_list (v:TV):(prT v.1 v.2).data.toList++[0]=prL v:=by
 obtain ⟨e,l⟩:=v
 cases l with
 | nil=>simp [prT,prL,digB]
 | cons x r =>
  show (prT e (x :: r)).data.toList++[0]=Lib.decDigits e.toNat++40 :: (Lib.decDigits x.toNat++restL r)
  rw [prT_is e (x :: r) (by simp)]
  unfold printT
  rw [List.map_cons,List.map_cons,Lib.join_cons, ← tail_rest]
  simp [digB]
theorem prL_inj {v u:TV} (hv:0≤v.1 ∧ ∀ x∈v.2,0≤x) (hu:0≤u.1 ∧ ∀ x∈u.2,0≤x) (h:prL v=prL u):v=u:=by
 obtain ⟨e,l⟩:=v
 obtain ⟨f,m⟩:=u
 unfold prL at h
 cases l with
 | nil =>
  cases m with
  | nil =>
   have h1:=(dec_inj hv.1 hu.1 nd0 nd0 h).1
   simp only at h1
   rw [h1]
  | cons y m=>exact absurd (dec_inj hv.1 hu.1 nd0 nd40 h).2.1 (by decide)
 | cons x l =>
  cases m with
  | nil=>exact absurd (dec_inj hv.1 hu.1 nd40 nd0 h).2.1 (by decide)
  | cons y m =>
   obtain ⟨h1,_,h3⟩:=dec_inj hv.1 hu.1 nd40 nd40 h
   obtain ⟨c,p,e1,nc⟩:=rest_head l
   obtain ⟨d,q,e2,nd⟩:=rest_head m
   rw [e1,e2] at h3
   obtain ⟨k1,k2,k3⟩:=dec_inj (hv.2 x (by simp)) (hu.2 y (by simp)) nc nd h3
   have:=rest_inj (fun z hz=>hv.2 z (List.mem_cons_of_mem _ hz)) (fun z hz=>hu.2 z (List.mem_cons_of_mem _ hz)) (show restL l=restL m by rw [e1,e2,k2,k3])
   simp only at h1
   rw [h1,k1,this]
theorem prT_inj {v u:TV} (hv:0≤v.1 ∧ ∀ x∈v.2,0≤x) (hu:0≤u.1 ∧ ∀ x∈u.2,0≤x) (h:(prT v.1 v.2).data.toList=(prT u.1 u.2).data.toList):v=u :=
 prL_inj hv hu (by rw [← prT_list, ← prT_list,h])
open Go.RowKit
/-! ### the map -/
/-- a value told as it is -/
def tok (v:Value):Option (DataW Value × List MemPlace):=some (.held v,[])
def keyT (v:TV):Lit := .string (prT v.1 v.2).data.toList
/-- a time such as readings give: not too many counters -/
structure InV (v:TV):Prop where
 e:0≤v.1∧v.1≤18446744073709551615
 u:U32 v.2
 n:v.2.length≤1000
theorem keyT_inj {v u:TV} (hv:InV v) (hu:InV u) (h:keyT v=keyT u):v=u:=by
 injection h with h
 exact prT_inj ⟨hv.e.1,fun x hx=>(hv.u x hx).1⟩ ⟨hu.e.1,fun x hx=>(hu.u x hx).1⟩ h
theorem keyedS:Maps.Keyed Tryz.prog 9:=Maps.string_keyed Tryz.underlying9
/-- block b is a map that holds the changes L, each at its time's text; their counters lie in memory -/
structure MapC (w:World) (b n:Nat) (D:DataW Value) (L:List Cg):Prop where
 own:w.ownsMap Tryz.prog 9 tok b n D
 has : ∀ kl,Maps.has D kl=true ↔ ∃ x∈L,keyT x.t.v=kl
 atk : ∀ x∈L, ∀ z,D.atKey (keyT x.t.v) z = .held (cgV x)
 keys:KeysC (L.map Cg.cv)
 ls : ∀ x∈L,Sl w 1 x.t.A x.t.l.length x.t.c (wds x.t.l)
 inv : ∀ x∈L,InV x.t.v
 cnt:L.length≤n
section
variable {w w':World} {b n:Nat} {D:DataW Value} {L:List Cg}
theorem owns_ext (h:w.ownsMap Tryz.prog 9 tok b n D) (x:Ext w w'):w'.ownsMap Tryz.prog 9 tok b n D:=by
 have hlt:=h.lt
 obtain ⟨es,clock,hb,r⟩:=h
 exact ⟨es,clock,x.heap hb,r⟩
theorem MapC.ext (h:MapC w b n D L) (x:Ext w w'):MapC w' b n D L:=⟨owns_ext h.own x,h.has,h.atk,h.keys,fun y hy=>(h.ls y hy).ext x,h.inv,h.cnt⟩
theorem MapC.upd {S:Nat→Prop} (h:MapC w b n D L) (x:Upd S w w') (hb : ¬ S b) (hS : ∀ y∈L, ∀ k,blk y.t.A y.t.c=some k → ¬ S k):MapC w' b n D L:=by
 refine ⟨?_,h.has,h.atk,h.keys,fun y hy=>(h.ls y hy).upd x (hS y hy),h.inv,h.cnt⟩
 have hlt:=h.own.lt
 obtain ⟨es,clock,hb2,r⟩:=h.own
 exact ⟨es,clock,(x.block b hlt hb).trans hb2,r⟩
theorem MapC.new (w:World):MapC (w.alloc (.map #[] 0)) w.heap.size 0 (.map []) [] :=
 ⟨World.ownsMap_made w _ _ _,fun kl=>by simp [Maps.has_eq],fun x hx=>(nomatch hx),List.Pairwise.nil,fun x hx=>(nomatch hx),fun x hx=>(nomatch hx),Nat.le_refl _⟩
theorem keyOf_prT (v:TV) (h:InV v):keyOf Tryz.prog 9 (.string (prT v.1 v.2))=some (keyT v):=Go.WideMaps.keyOf_string_mk Tryz.underlying9 (by
 have hp:(prT v.1 v.2).size≤21+21 * v.2.length:=by
  unfold prT
  split
  ·have:=digB_size h.e.2;omega
  ·rw [ByteArray.size_append]
   have q:=prK_size h.e.2 h.u v.2.length
   have:(⟨#[41]⟩:ByteArray).size=1:=rfl
   omega
 have:=h.n
 unfold maxLen
 omega)
end
end Go.Proofs.YtdgbkpoickbidaaGreatDoor
