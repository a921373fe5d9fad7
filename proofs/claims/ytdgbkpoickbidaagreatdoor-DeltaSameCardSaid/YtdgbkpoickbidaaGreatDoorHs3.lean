/- stamp.each, Join, Meet: what they answer of any two times. stamp.Join, Meet: what they answer of any two times. slices.Clone at counters, SameWords, stamp.Leq: what they answer. cmp.Compare, cmp.Or, slices.Compare at counters, stamp.Cmp: what they answer. The plain law of StampOrder: times of one depth are ordered in part, with least and greatest bounds. Times as values; antichains: which lists they are. Plain. The Book's lists: what it means that each has memory of its own; what stays under writes to some blocks. What is new memory, from where to where; lists of lists out of such. Lists of times in memory. What comes in: lists of times. Conditions: each theorem states its own. -/
import Derived.Test.YtdgbkpoickbidaaGreatDoorHs1
import Derived.Test.YtdgbkpoickbidaaGreatDoorChecked
import Derived.Test.YtdgbkpoickbidaaGreatDoorHs2
import Derived.Deep.Slices
namespace Go.Proofs.YtdgbkpoickbidaaGreatDoor
open Go.RowKit

theorem elemWords:Elem Tryz.prog 24 180 1 4 (.int .u32 0):=⟨by kernel_rfl,by kernel_rfl,rfl,by omega⟩

set_option maxRecDepth 100000 in
set_option maxHeartbeats 800000 in
theorem each_same (g:Int→Int→Int) (F:Nat) (hent : ∀ args w,Sem.run Tryz.prog (callFunc F args) w = .ok (.enter F args) w) (hF : ∀ x y w,Calls Tryz.prog F #[.int .u64 x, .int .u64 y] w fun e w'=>e = .returned (.int .u64 (g x y))∧w=w')
  (hg : ∀ x y,0≤x→x≤4294967295→0≤y→y≤4294967295→0≤g x y∧g x y≤4294967295)
  (e1 e2:Int) (A1 A2:Option Addr) (n c1 c2:Nat) (l1 l2:List Int) (w:World) (h1:Sl w 1 A1 n c1 (wds l1)) (h2:Sl w 1 A2 n c2 (wds l2)) (u1:U32 l1) (u2:U32 l2) (hn:n * 4≤140737488355328) :
  Calls Tryz.prog 227 #[.agg #[.int .u64 e1, .slice A1 n c1], .agg #[.int .u64 e2, .slice A2 n c2], .func (.func F) #[] #[]] w fun e w' =>
   ∃ A c,e = .returned (.tuple #[.agg #[.int .u64 (g e1 e2), .slice A n c], .int .u16 0])∧Own w' w.heap.size 180 1 A n c (wds (List.zipWith g l1 l2))∧Ext w w':=by
 have hm:=h1.le
 have he:((n:Int) != (n:Int))=false:=by simp
 have HF:=Lib.hid hF
 have HG:=Lib.hid hg
 clear hF hg
 go_enter Tryz.func227,Tryz.ntmps227
 go_wp2_with (refine (HF.out _ _ _).mono ?_;rintro e w1 ⟨rfl,rfl⟩)
 obtain ⟨w0,hw0⟩ : ∃ w0,w0=((w.alloc (Obj.cells #[Value.int IntKind.u64 e1,Value.slice A1 n c1] 26)).alloc (Obj.cells #[Value.int IntKind.u64 e2,Value.slice A2 n c2] 26)).alloc
   (Obj.cells #[Value.int IntKind.u64 0,Value.slice none 0 0] 26):=⟨_,rfl⟩
 have x0:Ext w w0:=hw0 ▸ (((Ext.refl w).alloc _).alloc _).alloc _
 have s0:w0.heap.size=w.heap.size+3:=by subst hw0;simp
 have b3:w0.cell? ⟨w.heap.size,1,none⟩=some (Value.slice A1 n c1):=by subst hw0;go_simp
 have b4:w0.cell? ⟨w.heap.size+1,1,none⟩=some (Value.slice A2 n c2):=by subst hw0;go_simp
 have b6:Bk w0 (w.heap.size+1+1) 26 #[Value.int IntKind.u64 0,Value.slice none 0 0]:=by subst hw0;exact Bk.at (by simp)
 rw [← hw0]
 clear hw0
 have S0:=Lib.hid s0
 go_loopw [28] (fun t wr => ∃ (k:Nat) (A:Option Addr) (c:Nat),k≤n∧t = .int .i64 k∧Below (w.heap.size+3) w0 wr∧Bk wr (w.heap.size+1+1+1) 26 #[.int .u64 (g e1 e2), .slice A k c]∧Own wr (w.heap.size+4) 180 1 A k c (wds (List.zipWith g (l1.take k) (l2.take k))))
  (fun t _=>n - (intOf t).toNat)
 case atStart =>
  refine ⟨0,_,_,Nat.zero_le _,rfl,?_,?_,by simpa [wds] using Own.nil _ _ _ _⟩
  ·exact (Below.refl _ _).alloc (by omega) _
  ·have:=Bk.new w0 26 #[.int .u64 (g e1 e2),Value.slice none 0 0]
   rw [s0] at this
   exact this
 case round =>
  obtain ⟨k,A,c,hk,rfl,hbl,hb8,hown⟩:=hrel
  by_cases hlt:k<n
  ·obtain ⟨a1,ha1,hc1,k1⟩:=h1.word hlt
   obtain ⟨a2,ha2,hc2,k2⟩:=h2.word hlt
   have q3:=cell_below hbl b3 (by simp)
   have q4:=cell_below hbl b4 (by simp)
   have q8:=hb8.cell 1
   have f8:=hb8.free 1
   have d1:=cell_below hbl (x0.cell hc1) (by simp only [block_add];omega)
   have d2:=cell_below hbl (x0.cell hc2) (by simp only [block_add];omega)
   simp at q8
   have C1:=Lib.hid hc1
   have C2:=Lib.hid hc2
   clear hc1 hc2
   have i0:(0:Int)≤(k:Int):=Int.natCast_nonneg _
   have i1:(k:Int)<(n:Int):=by omega
   have hsz:=hbl.size
   have r1:=u1.at k
   have r2:=u2.at k
   have R:=HG.out _ _ r1.1 r1.2 r2.1 r2.2
   have E1:IntKind.u64.wrap (l1[k]?.getD 0)=l1[k]?.getD 0:=IntWalk.u64_in _ (by omega)
   have E2:IntKind.u64.wrap (l2[k]?.getD 0)=l2[k]?.getD 0:=IntWalk.u64_in _ (by omega)
   have E3:IntKind.u32.wrap (g (l1[k]?.getD 0) (l2[k]?.getD 0))=g (l1[k]?.getD 0) (l2[k]?.getD 0):=IntWalk.u32_in _ (by omega)
   go_wp2
   refine wp_region_ord [0,1,0,0,8,0,56,120,248,0,512,0,3584,7680,15872,32764,65532,131068,262143,524287,1048575] (.flo [0,1,2,3,4,5,6,7,8,9,10,11,12,13,14] (.ext 15 (.flo [16] (.ext 17 (.one 18 (.flo [19] (.one 20 (.fin)))))))) (by kernel_rfl) (by kernel_rfl) (by intro _ _ d _ _ h;cases d<;>exact h) ?_
   have X:Ext wr wr.drew:=(Ext.refl wr).drew
   have q3' : ∀ y:Xt wr.drew,y.W.cell? ⟨w.heap.size,1,none⟩=some (.slice A1 n c1):=fun y=>y.x.cell (X.cell q3)
   have q4' : ∀ y:Xt wr.drew,y.W.cell? ⟨w.heap.size+1,1,none⟩=some (.slice A2 n c2):=fun y=>y.x.cell (X.cell q4)
   have q8' : ∀ y:Xt wr.drew,y.W.cell? ⟨w.heap.size+1+1+1,1,none⟩=some (.slice A k c):=fun y=>y.x.cell (X.cell q8)
   have d1' : ∀ y:Xt wr.drew,y.W.cell? (a1.add k)=some (.int .u32 (l1.getD k 0)):=fun y=>y.x.cell (X.cell d1)
   have d2' : ∀ y:Xt wr.drew,y.W.cell? (a2.add k)=some (.int .u32 (l2.getD k 0)):=fun y=>y.x.cell (X.cell d2)
   (refine ord_flo (pick_cons rfl (pick_cons rfl (pick_cons rfl (pick_cons rfl (pick_cons rfl (pick_cons rfl (pick_cons rfl (pick_cons rfl (pick_cons rfl (pick_cons rfl (pick_cons rfl (pick_cons rfl (pick_cons rfl (pick_cons rfl (pick_cons rfl pick_nil))))))))))))))) ?_;(repeat (go_big_quiet_step (fail)));refine wpQuiet_nil ?_;show ordWalk _ _ _ _ _ _ _)
   refine ord_ext (pick_cons rfl pick_nil) ?_;intro K_ hK_
   go_wp2_with (refine (HF.out _ _ _).mono ?_;rintro e w1 ⟨rfl,rfl⟩)
   refine ordNext.mk (Ext.refl _) ?_
   (refine ord_flo (pick_cons rfl pick_nil) ?_;(repeat (go_big_quiet_step (fail)));refine wpQuiet_nil ?_;show ordWalk _ _ _ _ _ _ _)
   refine ord_ext (pick_cons rfl pick_nil) ?_;intro K_ hK_
   go_wp2
   refine ordNext.mk ((Ext.refl _).alloc _) ?_
   refine ord_one (pick_cons rfl pick_nil) ?_;intro K_ hK_
   go_wp2_with (at_builtin;refine wpList_append_gen _ elemWords (w.heap.size+4) _ _ (by rfl) (by rfl) A k c _ (by rfl) ((hown.alloc _).drew) (some ⟨wr.heap.size,0,none⟩) 1 1 _ (by rfl) ((Sl.one wr _ _ 1 rfl).drew) (by simp [Value.oneCell']) (by omega) (by omega) (by simp;omega) ?_;intro A' c' w1 ho1 hg1 hk1)
   have b81:=Bk.grown (by exact (hb8.alloc _).drew) hg1 (hown.ne (by simp))
   have f81:=b81.free 1
   have q81:w1.cell? ⟨w.heap.size+1+1+1,1,none⟩=some (.slice A k c):=b81.cell 1
   (refine ord_flo (pick_cons rfl pick_nil) ?_;(repeat (go_big_quiet_step (fail)));refine wpQuiet_nil ?_;show ordWalk _ _ _ _ _ _ _)
   refine ord_one (pick_cons rfl pick_nil) ?_;intro K_ hK_
   go_wp2
   refine ord_fin ?_
   go_wp2
   rw [← ha1, ← ha2]
   go_roundw
   case rel =>
    refine ⟨k+1,A',c',by omega,by go_num,?_,?_,?_⟩
    ·exact (((hbl.alloc (by omega) _).drew).grown hg1 (by simp;omega) (fun g hg=>by have:=hown.lt g hg;omega)).setCell (by simp) _
    ·exact b81.set 1 _
    ·refine (show Own _ _ _ _ _ _ _ _ from ?_)
     have hl1:=h1.wlen
     have hl2:=h2.wlen
     rw [take_succ_getD _ _ (by omega),take_succ_getD _ _ (by omega),List.zipWith_append (by simp;omega), ← wds_append]
     exact (ho1.far (by rcases hk1 with e | e<;>rw [e];exact hown.ne (by simp);simp;omega) _)
   case measure=>simp [intOf];omega
  ·obtain rfl:k=n:=by omega
   have r0:wr.cell? ⟨w.heap.size+1+1+1,0,none⟩=some (.int .u64 (g e1 e2)):=hb8.cell 0
   have r1:wr.cell? ⟨w.heap.size+1+1+1,1,none⟩=some (.slice A k c):=hb8.cell 1
   have b6r:=b6.below hbl (by omega)
   have r2:wr.cell? ⟨w.heap.size+1+1,0,none⟩=some (.int .u64 0):=b6r.cell 0
   have r3:wr.cell? ⟨w.heap.size+1+1,1,none⟩=some (.slice none 0 0):=b6r.cell 1
   have r4:=b6r.free 0
   have r5:=b6r.free 1
   have bb:=(b6r.set 0 (.int .u64 (g e1 e2))).set 1 (.slice A k c)
   have q0:((wr.setCell ⟨w.heap.size+1+1,0,none⟩ (.int .u64 (g e1 e2))).setCell ⟨w.heap.size+1+1,1,none⟩ (.slice A k c)).cell? ⟨w.heap.size+1+1,0,none⟩=some (.int .u64 (g e1 e2)):=bb.cell 0
   have q1:((wr.setCell ⟨w.heap.size+1+1,0,none⟩ (.int .u64 (g e1 e2))).setCell ⟨w.heap.size+1+1,1,none⟩ (.slice A k c)).cell? ⟨w.heap.size+1+1,1,none⟩=some (.slice A k c):=bb.cell 1
   go_wp2
   refine bodyPost_ret (v := .tuple #[.agg #[.int .u64 (g e1 e2), .slice A k c], .int .u16 0]) (by simp [results,Tryz.results227,go_sem,q0,q1]) rfl ?_
   refine ⟨A,c,rfl,?_,?_⟩
   ·have hl1:=h1.wlen
    have hl2:=h2.wlen
    rw [List.take_of_length_le (by omega),List.take_of_length_le (by omega)] at hown
    exact ((hown.mono (by omega)).far (hown.ne (by simp)) _).far (hown.ne (by simp)) _
   ·have e1:Ext w wr:=Below.trans x0 (hbl.mono (by omega))
    exact (e1.set (by simp;omega) _).set (by simp;omega) _
open Go.RowKit
set_option maxRecDepth 100000 in
set_option maxHeartbeats 400000 in
theorem each_diff (F:Nat) (e1 e2:Int) (A1 A2:Option Addr) (n1 n2 c1 c2:Nat) (w:World) (hne:((n1:Int) != (n2:Int))=true) :
  Calls Tryz.prog 227 #[.agg #[.int .u64 e1, .slice A1 n1 c1], .agg #[.int .u64 e2, .slice A2 n2 c2], .func (.func F) #[] #[]] w fun e w' =>
   e = .returned (.tuple #[.agg #[.int .u64 0, .slice none 0 0], .int .u16 40])∧Ext w w':=by
 go_enter Tryz.func227,Tryz.ntmps227
 go_wp2
 go_returns
 exact ⟨rfl,(((Ext.refl w).alloc _).alloc _).alloc _⟩

set_option maxRecDepth 100000 in
set_option maxHeartbeats 400000 in
theorem max_any (x y:Int) (w:World):Calls Tryz.prog 228 #[.int .u64 x, .int .u64 y] w fun e w'=>e = .returned (.int .u64 (max x y))∧w=w':=by
 go_enter Tryz.func228,Tryz.ntmps228
 go_wp2
 all_goals go_ret
 all_goals exact ⟨ret_int (by omega),rfl⟩
set_option maxRecDepth 100000 in
set_option maxHeartbeats 400000 in
theorem min_any (x y:Int) (w:World):Calls Tryz.prog 229 #[.int .u64 x, .int .u64 y] w fun e w'=>e = .returned (.int .u64 (min x y))∧w=w':=by
 go_enter Tryz.func229,Tryz.ntmps229
 go_wp2
 all_goals go_ret
 all_goals exact ⟨ret_int (by omega),rfl⟩

set_option maxRecDepth 100000 in
set_option maxHeartbeats 400000 in
theorem join_diff (e1 e2:Int) (A1 A2:Option Addr) (n1 n2 c1 c2:Nat) (w:World) (hne:((n1:Int) != (n2:Int))=true) :
  Calls Tryz.prog 191 #[.agg #[.int .u64 e1, .slice A1 n1 c1], .agg #[.int .u64 e2, .slice A2 n2 c2]] w fun e w' =>
   e = .returned (.tuple #[.agg #[.int .u64 0, .slice none 0 0], .int .u16 40])∧Ext w w':=by
 go_enter Tryz.func191,Tryz.ntmps191
 go_wp2_with (refine (each_diff _ _ _ _ _ _ _ _ _ _ hne).mono ?_;rintro e w1 ⟨rfl,x1⟩;have b4:Bk w1 (w.heap.size+1+1) 26 #[.int .u64 0, .slice none 0 0]:=Bk.ext (Bk.at (by simp)) x1;have q0:=b4.cell 0;have q1:=b4.cell 1;have f0:=b4.free 0;have f1:=b4.free 1)
 have q:=b4.set2 (.int .u64 0) (.slice none 0 0)
 refine bodyPost_ret (v := .tuple #[.agg #[.int .u64 0, .slice none 0 0], .int .u16 40]) (by simp [results,Tryz.results191,go_sem,q.1,q.2]) rfl ⟨rfl,?_⟩
 have x2:=((((Ext.refl w).alloc _).alloc _).alloc _).trans x1
 exact (x2.set (by simp;omega) _).set (by simp;omega) _
set_option maxRecDepth 100000 in
set_option maxHeartbeats 400000 in
theorem join_same (e1 e2:Int) (A1 A2:Option Addr) (n c1 c2:Nat) (l1 l2:List Int) (w:World) (h1:Sl w 1 A1 n c1 (wds l1)) (h2:Sl w 1 A2 n c2 (wds l2)) (u1:U32 l1) (u2:U32 l2) (hn:n * 4≤140737488355328) :
  Calls Tryz.prog 191 #[.agg #[.int .u64 e1, .slice A1 n c1], .agg #[.int .u64 e2, .slice A2 n c2]] w fun e w' =>
   ∃ A c,e = .returned (.tuple #[.agg #[.int .u64 (max e1 e2), .slice A n c], .int .u16 0])∧Own w' w.heap.size 180 1 A n c (wds (List.zipWith max l1 l2))∧Ext w w':=by
 go_enter Tryz.func191,Tryz.ntmps191
 go_wp2_with (refine (each_same max 228 (fun _ _=>by kernel_rfl) max_any (by intros;omega) e1 e2 A1 A2 n c1 c2 l1 l2 _ (h1.ext ((((Ext.refl w).alloc _).alloc _).alloc _)) (h2.ext ((((Ext.refl w).alloc _).alloc _).alloc _)) u1 u2 hn).mono ?_;rintro e w1 ⟨A,c,rfl,ho,x1⟩;have b4:Bk w1 (w.heap.size+1+1) 26 #[.int .u64 0, .slice none 0 0]:=Bk.ext (Bk.at (by simp)) x1;have q0:=b4.cell 0;have q1:=b4.cell 1;have f0:=b4.free 0;have f1:=b4.free 1)
 have q:=b4.set2 (.int .u64 (max e1 e2)) (.slice A n c)
 refine bodyPost_ret (v := .tuple #[.agg #[.int .u64 (max e1 e2), .slice A n c], .int .u16 0]) (by simp [results,Tryz.results191,go_sem,q.1,q.2]) rfl ⟨A,c,rfl,?_,?_⟩
 ·exact ((ho.mono (by simp;omega)).far (ho.ne (by simp)) _).far (ho.ne (by simp)) _
 ·have x2:=((((Ext.refl w).alloc _).alloc _).alloc _).trans x1
  exact (x2.set (by simp;omega) _).set (by simp;omega) _

set_option maxRecDepth 100000 in
set_option maxHeartbeats 400000 in
theorem meet_same (e1 e2:Int) (A1 A2:Option Addr) (n c1 c2:Nat) (l1 l2:List Int) (w:World) (h1:Sl w 1 A1 n c1 (wds l1)) (h2:Sl w 1 A2 n c2 (wds l2)) (u1:U32 l1) (u2:U32 l2) (hn:n * 4≤140737488355328) :
  Calls Tryz.prog 192 #[.agg #[.int .u64 e1, .slice A1 n c1], .agg #[.int .u64 e2, .slice A2 n c2]] w fun e w' =>
   ∃ A c,e = .returned (.tuple #[.agg #[.int .u64 (min e1 e2), .slice A n c], .int .u16 0])∧Own w' w.heap.size 180 1 A n c (wds (List.zipWith min l1 l2))∧Ext w w':=by
 go_enter Tryz.func192,Tryz.ntmps192
 go_wp2_with (refine (each_same min 229 (fun _ _=>by kernel_rfl) min_any (by intros;omega) e1 e2 A1 A2 n c1 c2 l1 l2 _ (h1.ext ((((Ext.refl w).alloc _).alloc _).alloc _)) (h2.ext ((((Ext.refl w).alloc _).alloc _).alloc _)) u1 u2 hn).mono ?_;rintro e w1 ⟨A,c,rfl,ho,x1⟩;have b4:Bk w1 (w.heap.size+1+1) 26 #[.int .u64 0, .slice none 0 0]:=Bk.ext (Bk.at (by simp)) x1;have q0:=b4.cell 0;have q1:=b4.cell 1;have f0:=b4.free 0;have f1:=b4.free 1)
 have q:=b4.set2 (.int .u64 (min e1 e2)) (.slice A n c)
 refine bodyPost_ret (v := .tuple #[.agg #[.int .u64 (min e1 e2), .slice A n c], .int .u16 0]) (by simp [results,Tryz.results192,go_sem,q.1,q.2]) rfl ⟨A,c,rfl,?_,?_⟩
 ·exact ((ho.mono (by simp;omega)).far (ho.ne (by simp)) _).far (ho.ne (by simp)) _
 ·have x2:=((((Ext.refl w).alloc _).alloc _).alloc _).trans x1
  exact (x2.set (by simp;omega) _).set (by simp;omega) _
open Go.RowKit
set_option maxRecDepth 100000 in
set_option maxHeartbeats 400000 in
theorem clone_words (A:Option Addr) (n c:Nat) (xs:List Value) (w:World) (h:Sl w 1 A n c xs) (h1 : ∀ u∈xs,u.oneCell'=true) (hn:n * 4≤140737488355328) :
  Calls Tryz.prog 184 #[.slice A n c] w fun e w' => ∃ A' c',e = .returned (.slice A' n c')∧Own w' w.heap.size 180 1 A' n c' xs∧Ext w w':=by
 have hnil:=fun (W:World)=>Lib.run_eql_slice_nil (P:=Tryz.prog) W 24 180 A n c 0 0 Tryz.underlying24
 rcases A with _ | a
 ·obtain rfl:c=0:=h.2.2.2.1 rfl
  have hn0:n=0:=by have:=h.2.1;omega
  subst hn0
  have hx:xs=[]:=List.eq_nil_of_length_eq_zero (by simpa using h.1)
  subst hx
  go_enter Tryz.func184,Tryz.ntmps184
  go_wp2
  go_ret
  exact ⟨none,0,rfl,Own.nil _ _ _ _,Ext.refl _⟩
 ·go_enter Tryz.func184,Tryz.ntmps184
  go_wp2_with (at_builtin;refine wpList_append_gen _ elemWords w.heap.size _ _ (by rfl) (by rfl) _ 0 0 [] (by rfl) (Own.empty _ _ _ _ _) (some a) n c xs (by rfl) (h.ext ((Ext.refl w).alloc _)) h1 (by omega) (by omega) (by simp) ?_;intro A' c' w1 ho1 hg1 hk1)
  go_ret
  refine ⟨A',c',by simp,by simpa using ho1,?_⟩
  exact ((Ext.refl w).alloc _).grown hg1 (by simp [blk])

set_option maxRecDepth 100000 in
set_option maxHeartbeats 400000 in
theorem sameWords_diff (A1 A2:Option Addr) (n1 n2 c1 c2:Nat) (w:World) (hne:((n1:Int) != (n2:Int))=true) :
  Calls Tryz.prog 166 #[.slice A1 n1 c1, .slice A2 n2 c2] w fun e w'=>e = .returned (.bool false)∧Ext w w':=by
 go_enter Tryz.func166,Tryz.ntmps166
 go_wp2
 go_ret
 exact ⟨rfl,Ext.refl _⟩

theorem getD_ext {l1 l2:List Int} (hl:l1.length=l2.length):(∀ k,k<l1.length→l1.getD k 0=l2.getD k 0)↔l1=l2:=by
 constructor
 ·intro h
  refine List.ext_getElem hl fun k h1 h2=>?_
  have:=h k h1
  simpa [List.getD_eq_getElem?_getD,List.getElem?_eq_getElem h1,List.getElem?_eq_getElem h2] using this
 ·rintro rfl k _;rfl

set_option maxRecDepth 100000 in
set_option maxHeartbeats 400000 in
theorem sameWords_same (A1 A2:Option Addr) (n c1 c2:Nat) (l1 l2:List Int) (w:World) (h1:Sl w 1 A1 n c1 (wds l1)) (h2:Sl w 1 A2 n c2 (wds l2)) :
  Calls Tryz.prog 166 #[.slice A1 n c1, .slice A2 n c2] w fun e w'=>e = .returned (.bool (decide (l1=l2)))∧Ext w w':=by
 have hm:=h1.le
 have hl1:=Lib.hid h1.wlen
 have hl2:=Lib.hid h2.wlen
 have he:((n:Int) != (n:Int))=false:=by simp
 go_enter Tryz.func166,Tryz.ntmps166
 go_wp2
 go_loopw [5] (fun v wr => ∃ k:Nat,k≤n∧v = .int .i64 k∧(∀ j,j<k→l1.getD j 0=l2.getD j 0) ∧ ∃ m,wr=w.drewN m) (fun v _=>n - (intOf v).toNat)
 case atStart=>exact ⟨0,Nat.zero_le _,rfl,fun j hj=>absurd hj (by omega),0,rfl⟩
 case round =>
  obtain ⟨k,hk,rfl,hall,m,rfl⟩:=hrel
  have H:=Lib.hid hall
  clear hall
  by_cases hlt:k<n
  ·obtain ⟨a1,ha1,hc1,_⟩:=h1.word hlt
   obtain ⟨a2,ha2,hc2,_⟩:=h2.word hlt
   have T:Hid (k<l1.length):=by show k<l1.length;rw [hl1.out];exact hlt
   by_cases hq:(l1[k]?.getD 0 != l2[k]?.getD 0)=true
   ·go_wp2
    go_quiet (fail)
    go_wp2
    go_ret
    refine ⟨ret_bool (Eq.symm (decide_eq_false fun e=>?_)),((Ext.refl w).drewN _).drewN _⟩
    rw [e] at hq
    simp at hq
   ·have hq':(l1[k]?.getD 0 != l2[k]?.getD 0)=false:=by simpa using hq
    have Q:=Lib.hid hq
    clear hq
    go_wp2
    go_quiet (fail)
    go_wp2
    go_roundw
    case rel =>
     refine ⟨k+1,by omega,by go_num,fun j hj=>?_,_,rfl⟩
     by_cases hjk:j<k
     ·exact H.out j hjk
     ·obtain rfl:j=k:=by omega
      simpa [List.getD_eq_getElem?_getD] using hq'
    case measure=>simp [intOf];omega
  ·go_wp2
   go_ret
   refine ⟨ret_bool (Eq.symm (decide_eq_true ?_)),(Ext.refl w).drewN _⟩
   exact (getD_ext (by rw [hl1.out,hl2.out])).1 fun j hj=>H.out j (by rw [hl1.out] at hj;omega)

theorem sameWords_any (A1 A2:Option Addr) (n1 n2 c1 c2:Nat) (l1 l2:List Int) (w:World) (h1:Sl w 1 A1 n1 c1 (wds l1)) (h2:Sl w 1 A2 n2 c2 (wds l2)) :
  Calls Tryz.prog 166 #[.slice A1 n1 c1, .slice A2 n2 c2] w fun e w'=>e = .returned (.bool (decide (l1=l2)))∧Ext w w':=by
 by_cases hn:n1=n2
 ·subst hn;exact sameWords_same A1 A2 n1 c1 c2 l1 l2 w h1 h2
 ·have hf:decide (l1=l2)=false:=decide_eq_false fun e=>hn (by rw [← h1.wlen, ← h2.wlen,e])
  rw [hf]
  exact sameWords_diff A1 A2 n1 n2 c1 c2 w (by simp;omega)

def leqT (e1:Int) (l1:List Int) (e2:Int) (l2:List Int):Bool:=decide (l1.length=l2.length∧e1≤e2 ∧ ∀ k,k<l1.length→l1.getD k 0≤l2.getD k 0)
set_option maxRecDepth 100000 in
set_option maxHeartbeats 400000 in
theorem leq_diff (e1 e2:Int) (A1 A2:Option Addr) (n1 n2 c1 c2:Nat) (w:World) (hne:((n1:Int) != (n2:Int))=true) :
  Calls Tryz.prog 108 #[.agg #[.int .u64 e1, .slice A1 n1 c1], .agg #[.int .u64 e2, .slice A2 n2 c2]] w fun e w'=>e = .returned (.bool false)∧Ext w w':=by
 go_enter Tryz.func108,Tryz.ntmps108
 go_wp2
 go_ret
 exact ⟨rfl,((Ext.refl w).alloc _).alloc _⟩
set_option maxRecDepth 100000 in
set_option maxHeartbeats 400000 in
theorem leq_late (e1 e2:Int) (A1 A2:Option Addr) (n c1 c2:Nat) (w:World) (hlt:e2<e1) :
  Calls Tryz.prog 108 #[.agg #[.int .u64 e1, .slice A1 n c1], .agg #[.int .u64 e2, .slice A2 n c2]] w fun e w'=>e = .returned (.bool false)∧Ext w w':=by
 have he:((n:Int) != (n:Int))=false:=by simp
 go_enter Tryz.func108,Tryz.ntmps108
 go_wp2
 go_ret
 exact ⟨rfl,((Ext.refl w).alloc _).alloc _⟩
set_option maxRecDepth 100000 in
set_option maxHeartbeats 400000 in
theorem leq_same (e1 e2:Int) (A1 A2:Option Addr) (n c1 c2:Nat) (l1 l2:List Int) (w:World) (h1:Sl w 1 A1 n c1 (wds l1)) (h2:Sl w 1 A2 n c2 (wds l2)) (hle:e1≤e2) :
  Calls Tryz.prog 108 #[.agg #[.int .u64 e1, .slice A1 n c1], .agg #[.int .u64 e2, .slice A2 n c2]] w fun e w'=>e = .returned (.bool (decide (∀ k,k<n→l1.getD k 0≤l2.getD k 0)))∧Ext w w':=by
 have hm:=h1.le
 have he:((n:Int) != (n:Int))=false:=by simp
 go_enter Tryz.func108,Tryz.ntmps108
 go_wp2
 obtain ⟨w0,hw0⟩ : ∃ w0,w0=(w.alloc (Obj.cells #[Value.int IntKind.u64 e1,Value.slice A1 n c1] 26)).alloc (Obj.cells #[Value.int IntKind.u64 e2,Value.slice A2 n c2] 26):=⟨_,rfl⟩
 have e0:Ext w w0:=hw0 ▸ ((Ext.refl w).alloc _).alloc _
 have b1:w0.cell? ⟨w.heap.size,1,none⟩=some (Value.slice A1 n c1):=by subst hw0;go_simp
 have b2:w0.cell? ⟨w.heap.size+1,1,none⟩=some (Value.slice A2 n c2):=by subst hw0;go_simp
 rw [← hw0]
 clear hw0
 go_loopw [23] (fun v wr => ∃ k:Nat,k≤n∧v = .int .i64 k∧(∀ j,j<k→l1.getD j 0≤l2.getD j 0) ∧ ∃ m,wr=w0.drewN m) (fun v _=>n - (intOf v).toNat)
 case atStart=>exact ⟨0,Nat.zero_le _,rfl,fun j hj=>absurd hj (by omega),0,rfl⟩
 case round =>
  obtain ⟨k,hk,rfl,hall,m,rfl⟩:=hrel
  have H:=Lib.hid hall
  clear hall
  by_cases hlt:k<n
  ·obtain ⟨a1,ha1,hc1,_⟩:=(h1.ext e0).word hlt
   obtain ⟨a2,ha2,hc2,_⟩:=(h2.ext e0).word hlt
   go_wp2
   go_quiet (fail)
   go_wp2
   ·have hv:l2[k]?.getD 0<l1[k]?.getD 0:=by assumption
    go_ret
    refine ⟨ret_bool (Eq.symm (decide_eq_false fun hh=>?_)),(e0.drewN _).drewN _⟩
    have:=hh k hlt
    simp only [List.getD_eq_getElem?_getD] at this
    omega
   ·have hv:l1[k]?.getD 0≤l2[k]?.getD 0:=by assumption
    go_roundw
    case rel =>
     refine ⟨k+1,by omega,by go_num,fun j hj=>?_,_,rfl⟩
     by_cases hjk:j<k
     ·exact H.out j hjk
     ·obtain rfl:j=k:=by omega
      simpa only [List.getD_eq_getElem?_getD] using hv
    case measure=>simp [intOf];omega
  ·go_wp2
   go_ret
   refine ⟨ret_bool (Eq.symm (decide_eq_true fun j hj=>H.out j (by omega))),e0.drewN _⟩

theorem leq_any (e1 e2:Int) (A1 A2:Option Addr) (n1 n2 c1 c2:Nat) (l1 l2:List Int) (w:World) (h1:Sl w 1 A1 n1 c1 (wds l1)) (h2:Sl w 1 A2 n2 c2 (wds l2)) :
  Calls Tryz.prog 108 #[.agg #[.int .u64 e1, .slice A1 n1 c1], .agg #[.int .u64 e2, .slice A2 n2 c2]] w fun e w'=>e = .returned (.bool (leqT e1 l1 e2 l2))∧Ext w w':=by
 have hl1:=h1.wlen
 have hl2:=h2.wlen
 by_cases hn:n1=n2
 ·subst hn
  by_cases hlt:e2<e1
  ·have hf:leqT e1 l1 e2 l2=false:=decide_eq_false fun hh=>by have:=hh.2.1;omega
   rw [hf];exact leq_late e1 e2 A1 A2 n1 c1 c2 w hlt
  ·refine (leq_same e1 e2 A1 A2 n1 c1 c2 l1 l2 w h1 h2 (by omega)).mono fun e w' ⟨he,hx⟩=>⟨he.trans (ret_bool ?_),hx⟩
   unfold leqT
   rw [decide_eq_decide,hl1,hl2]
   exact ⟨fun h=>⟨rfl,by omega,h⟩,fun h=>h.2.2⟩
 ·have hf:leqT e1 l1 e2 l2=false:=decide_eq_false fun hh=>by have:=hh.1;omega
  rw [hf]
  exact leq_diff e1 e2 A1 A2 n1 n2 c1 c2 w (by simp;omega)
open Go.RowKit
def cmpT (x y:Int):Int:=if x<y then -1 else if y<x then 1 else 0
theorem cmpT_lt {x y:Int} (h:x<y):cmpT x y = -1:=by unfold cmpT;rw [if_pos h]
theorem cmpT_gt {x y:Int} (h:y<x):cmpT x y=1:=by unfold cmpT;rw [if_neg (by omega),if_pos h]
theorem cmpT_self (x:Int):cmpT x x=0:=by unfold cmpT;rw [if_neg (by omega),if_neg (by omega)]

set_option maxRecDepth 100000 in
set_option maxHeartbeats 400000 in
theorem nan_int (x:Int) (w:World):Calls Tryz.prog 235 #[.int .i64 x] w fun e w'=>e = .returned (.bool false)∧w=w':=by
 have h:(x != x)=false:=by simp
 go_enter Tryz.func235,Tryz.ntmps235
 go_wp2
 go_ret
 exact ⟨rfl,rfl⟩
set_option maxRecDepth 100000 in
set_option maxHeartbeats 400000 in
theorem nan_u64 (x:Int) (w:World):Calls Tryz.prog 236 #[.int .u64 x] w fun e w'=>e = .returned (.bool false)∧w=w':=by
 have h:(x != x)=false:=by simp
 go_enter Tryz.func236,Tryz.ntmps236
 go_wp2
 go_ret
 exact ⟨rfl,rfl⟩
set_option maxRecDepth 100000 in
set_option maxHeartbeats 400000 in
theorem nan_u32 (x:Int) (w:World):Calls Tryz.prog 272 #[.int .u32 x] w fun e w'=>e = .returned (.bool false)∧w=w':=by
 have h:(x != x)=false:=by simp
 go_enter Tryz.func272,Tryz.ntmps272
 go_wp2
 go_ret
 exact ⟨rfl,rfl⟩
set_option maxRecDepth 100000 in
set_option maxHeartbeats 400000 in
theorem compare_int (x y:Int) (w:World):Calls Tryz.prog 205 #[.int .i64 x, .int .i64 y] w fun e w'=>e = .returned (.int .i64 (cmpT x y))∧w=w':=by
 rcases Int.lt_trichotomy x y with h | h | h
 ·rw [cmpT_lt h]
  go_enter Tryz.func205,Tryz.ntmps205
  go_wp2_with (refine (nan_int _ _).mono ?_;rintro e w1 ⟨rfl,rfl⟩)
  go_ret
  exact ⟨rfl,rfl⟩
 ·subst h
  rw [cmpT_self]
  go_enter Tryz.func205,Tryz.ntmps205
  go_wp2_with (refine (nan_int _ _).mono ?_;rintro e w1 ⟨rfl,rfl⟩)
  go_ret
  exact ⟨rfl,rfl⟩
 ·rw [cmpT_gt h]
  go_enter Tryz.func205,Tryz.ntmps205
  go_wp2_with (refine (nan_int _ _).mono ?_;rintro e w1 ⟨rfl,rfl⟩)
  go_ret
  exact ⟨rfl,rfl⟩
set_option maxRecDepth 100000 in
set_option maxHeartbeats 400000 in
theorem compare_u64 (x y:Int) (w:World):Calls Tryz.prog 206 #[.int .u64 x, .int .u64 y] w fun e w'=>e = .returned (.int .i64 (cmpT x y))∧w=w':=by
 rcases Int.lt_trichotomy x y with h | h | h
 ·rw [cmpT_lt h]
  go_enter Tryz.func206,Tryz.ntmps206
  go_wp2_with (refine (nan_u64 _ _).mono ?_;rintro e w1 ⟨rfl,rfl⟩)
  go_ret
  exact ⟨rfl,rfl⟩
 ·subst h
  rw [cmpT_self]
  go_enter Tryz.func206,Tryz.ntmps206
  go_wp2_with (refine (nan_u64 _ _).mono ?_;rintro e w1 ⟨rfl,rfl⟩)
  go_ret
  exact ⟨rfl,rfl⟩
 ·rw [cmpT_gt h]
  go_enter Tryz.func206,Tryz.ntmps206
  go_wp2_with (refine (nan_u64 _ _).mono ?_;rintro e w1 ⟨rfl,rfl⟩)
  go_ret
  exact ⟨rfl,rfl⟩
set_option maxRecDepth 100000 in
set_option maxHeartbeats 400000 in
theorem compare_u32 (x y:Int) (w:World):Calls Tryz.prog 237 #[.int .u32 x, .int .u32 y] w fun e w'=>e = .returned (.int .i64 (cmpT x y))∧w=w':=by
 rcases Int.lt_trichotomy x y with h | h | h
 ·rw [cmpT_lt h]
  go_enter Tryz.func237,Tryz.ntmps237
  go_wp2_with (refine (nan_u32 _ _).mono ?_;rintro e w1 ⟨rfl,rfl⟩)
  go_ret
  exact ⟨rfl,rfl⟩
 ·subst h
  rw [cmpT_self]
  go_enter Tryz.func237,Tryz.ntmps237
  go_wp2_with (refine (nan_u32 _ _).mono ?_;rintro e w1 ⟨rfl,rfl⟩)
  go_ret
  exact ⟨rfl,rfl⟩
 ·rw [cmpT_gt h]
  go_enter Tryz.func237,Tryz.ntmps237
  go_wp2_with (refine (nan_u32 _ _).mono ?_;rintro e w1 ⟨rfl,rfl⟩)
  go_ret
  exact ⟨rfl,rfl⟩

/-- lists of counters, the first that differs tells -/
def lexT:List Int→List Int→Int
 | [],[]=>0
 | [],_ :: _ => -1
 | _ :: _,[]=>1
 | x :: l,y :: m=>if cmpT x y=0 then lexT l m else cmpT x y
theorem cmpT_zero {x y:Int}:cmpT x y=0↔x=y:=by
 unfold cmpT
 by_cases h1:x<y
 ·rw [if_pos h1];omega
 ·rw [if_neg h1]
  by_cases h2:y<x
  ·rw [if_pos h2];omega
  ·rw [if_neg h2];omega

theorem lexT_step : ∀ (k:Nat) (l m:List Int),k<l.length→k<m.length→lexT (l.drop k) (m.drop k)=if cmpT (l.getD k 0) (m.getD k 0)=0 then lexT (l.drop (k+1)) (m.drop (k+1)) else cmpT (l.getD k 0) (m.getD k 0):=by
 intro k l m h1 h2
 rw [List.drop_eq_getElem_cons h1,List.drop_eq_getElem_cons h2]
 simp [lexT,List.getD_eq_getElem?_getD,List.getElem?_eq_getElem h1,List.getElem?_eq_getElem h2]

set_option maxRecDepth 100000 in
set_option maxHeartbeats 400000 in
theorem lex_any (A1 A2:Option Addr) (n1 n2 c1 c2:Nat) (l1 l2:List Int) (w:World) (h1:Sl w 1 A1 n1 c1 (wds l1)) (h2:Sl w 1 A2 n2 c2 (wds l2)) :
  Calls Tryz.prog 207 #[.slice A1 n1 c1, .slice A2 n2 c2] w fun e w'=>e = .returned (.int .i64 (lexT l1 l2))∧w=w':=by
 have hm1:=h1.le
 have hm2:=h2.le
 have hl1:=Lib.hid h1.wlen
 have hl2:=Lib.hid h2.wlen
 obtain ⟨r,hr⟩ : ∃ r,r=lexT l1 l2:=⟨_,rfl⟩
 rw [← hr]
 have HR:=Lib.hid hr
 clear hr
 go_enter Tryz.func207,Tryz.ntmps207
 go_wp2
 go_loop [11] (fun v => ∃ k:Nat,k≤n1∧k≤n2∧v = .int .i64 k∧r=lexT (l1.drop k) (l2.drop k)) (fun v=>n1 - (intOf v).toNat)
 case atStart=>exact ⟨0,Nat.zero_le _,Nat.zero_le _,rfl,by simpa using HR.out⟩
 case round =>
  obtain ⟨k,hk1,hk2,rfl,hrk⟩:=hrel
  have RK:=Lib.hid hrk
  clear hrk
  by_cases q1:k<n1
  ·obtain ⟨a1,rfl,hc1,_⟩:=h1.word q1
   by_cases q2:k<n2
   ·obtain ⟨a2,rfl,hc2,_⟩:=h2.word q2
    have T:=lexT_step k l1 l2 (by rw [hl1.out];exact q1) (by rw [hl2.out];exact q2)
    by_cases q3:cmpT (l1.getD k 0) (l2.getD k 0)=0
    ·rw [if_pos q3] at T
     have HT:=Lib.hid T
     have q4:(cmpT (l1[k]?.getD 0) (l2[k]?.getD 0) != 0)=false:=by rw [← List.getD_eq_getElem?_getD, ← List.getD_eq_getElem?_getD,q3];rfl
     clear T q3
     go_wp2_with (refine (compare_u32 _ _ _).mono ?_;rintro e w1 ⟨rfl,rfl⟩)
     go_round
     case rel=>exact ⟨k+1,by omega,by omega,by go_num,by rw [RK.out,HT.out]⟩
     case measure=>simp [intOf];omega
    ·rw [if_neg q3] at T
     have HT:=Lib.hid T
     have q4:(cmpT (l1[k]?.getD 0) (l2[k]?.getD 0) != 0)=true:=by simpa [List.getD_eq_getElem?_getD] using q3
     clear T q3
     go_wp2_with (refine (compare_u32 _ _ _).mono ?_;rintro e w1 ⟨rfl,rfl⟩)
     go_ret
     exact ⟨ret_int (by rw [RK.out,HT.out];simp [List.getD_eq_getElem?_getD]),rfl⟩
   ·have e2:k=n2:=by omega
    have T:lexT (l1.drop k) (l2.drop k)=1:=by
     rw [List.drop_eq_getElem_cons (show k<l1.length by rw [hl1.out];exact q1),List.drop_eq_nil_of_le (show l2.length≤k by rw [hl2.out];omega)];rfl
    have HT:=Lib.hid T
    have E2:=Lib.hid e2
    clear T e2
    go_wp2
    go_ret
    exact ⟨ret_int (by rw [RK.out,HT.out]),rfl⟩
  ·have e1:k=n1:=by omega
   have E1:=Lib.hid e1
   clear e1
   by_cases q2:n1<n2
   ·have T:lexT (l1.drop k) (l2.drop k) = -1:=by
     rw [List.drop_eq_nil_of_le (show l1.length≤k by rw [hl1.out];omega),List.drop_eq_getElem_cons (show k<l2.length by rw [hl2.out,E1.out];exact q2)];rfl
    have HT:=Lib.hid T
    clear T
    go_wp2
    go_ret
    exact ⟨ret_int (by rw [RK.out,HT.out]),rfl⟩
   ·have T:lexT (l1.drop k) (l2.drop k)=0:=by
     rw [List.drop_eq_nil_of_le (show l1.length≤k by rw [hl1.out];omega),List.drop_eq_nil_of_le (show l2.length≤k by rw [hl2.out];omega)];rfl
    have HT:=Lib.hid T
    clear T
    go_wp2
    go_ret
    exact ⟨ret_int (by rw [RK.out,HT.out]),rfl⟩

/-- the first of three that is not 0 -/
def orT (x y z:Int):Int:=if x=0 then (if y=0 then z else y) else x
set_option maxRecDepth 100000 in
set_option maxHeartbeats 600000 in
theorem or_any (g:Nat) (t:TypeId) (x y z:Int) (w:World) (hb:Bk w g t #[.int .i64 x, .int .i64 y, .int .i64 z]) :
  Calls Tryz.prog 182 #[.slice (some ⟨g,0,none⟩) 3 3] w fun e w'=>e = .returned (.int .i64 (orT x y z))∧Ext w w':=by
 have hx:w.cell? ⟨g,0,none⟩=some (.int .i64 x):=hb.cell 0
 have hy:w.cell? ⟨g,1,none⟩=some (.int .i64 y):=hb.cell 1
 have hz:w.cell? ⟨g,2,none⟩=some (.int .i64 z):=hb.cell 2
 obtain ⟨r,hr⟩ : ∃ r,r=orT x y z:=⟨_,rfl⟩
 rw [← hr]
 have HR:=Lib.hid hr
 clear hr
 go_enter Tryz.func182,Tryz.ntmps182
 go_wp2
 go_loop [8] (fun v => ∃ k:Nat,k≤3∧v = .int .i64 k∧(0<k→x=0)∧(1<k→y=0)∧(2<k→z=0)) (fun v=>3 - (intOf v).toNat)
 case atStart=>exact ⟨0,by omega,rfl,by omega,by omega,by omega⟩
 case round =>
  obtain ⟨k,hk,rfl,k0,k1,k2⟩:=hrel
  have K0:=Lib.hid k0
  have K1:=Lib.hid k1
  have K2:=Lib.hid k2
  clear k0 k1 k2
  match k,hk with
  | 0,_ =>
   by_cases q:x=0
   ·have q':(x != 0)=false:=by simpa using q
    have Q:=Lib.hid q
    clear q
    go_wp2
    go_round
    case rel=>exact ⟨1,by omega,rfl,fun _=>Q.out,by omega,by omega⟩
    case measure=>simp [intOf]
   ·have q':(x != 0)=true:=by simpa using q
    go_wp2
    go_ret
    exact ⟨ret_int (by rw [HR.out];simp [orT,q]),Ext.refl _⟩
  | 1,_ =>
   by_cases q:y=0
   ·have q':(y != 0)=false:=by simpa using q
    have Q:=Lib.hid q
    clear q
    go_wp2
    go_round
    case rel=>exact ⟨2,by omega,rfl,fun _=>K0.out (by omega),fun _=>Q.out,by omega⟩
    case measure=>simp [intOf]
   ·have q':(y != 0)=true:=by simpa using q
    go_wp2
    go_ret
    exact ⟨ret_int (by rw [HR.out];simp [orT,q,K0.out (by omega)]),Ext.refl _⟩
  | 2,_ =>
   by_cases q:z=0
   ·have q':(z != 0)=false:=by simpa using q
    have Q:=Lib.hid q
    clear q
    go_wp2
    go_round
    case rel=>exact ⟨3,by omega,rfl,fun _=>K0.out (by omega),fun _=>K1.out (by omega),fun _=>Q.out⟩
    case measure=>simp [intOf]
   ·have q':(z != 0)=true:=by simpa using q
    go_wp2
    go_ret
    exact ⟨ret_int (by rw [HR.out];simp [orT,K1.out (by omega),K0.out (by omega)]),Ext.refl _⟩
  | 3,_ =>
   go_wp2
   go_ret
   exact ⟨ret_int (by rw [HR.out];simp [orT,K1.out (by omega),K0.out (by omega),K2.out (by omega)]),Ext.refl _⟩
  | k+4,hk=>omega

/-! ### stamp.Cmp -/
def cmpTT (e1:Int) (l1:List Int) (e2:Int) (l2:List Int):Int:=orT (cmpT l1.length l2.length) (cmpT e1 e2) (lexT l1 l2)
set_option maxRecDepth 100000 in
set_option maxHeartbeats 800000 in
theorem cmp_any (e1 e2:Int) (A1 A2:Option Addr) (n1 n2 c1 c2:Nat) (l1 l2:List Int) (w:World) (h1:Sl w 1 A1 n1 c1 (wds l1)) (h2:Sl w 1 A2 n2 c2 (wds l2)) :
  Calls Tryz.prog 146 #[.agg #[.int .u64 e1, .slice A1 n1 c1], .agg #[.int .u64 e2, .slice A2 n2 c2]] w fun e w'=>e = .returned (.int .i64 (cmpTT e1 l1 e2 l2))∧Ext w w':=by
 have hR:cmpTT e1 l1 e2 l2=orT (cmpT n1 n2) (cmpT e1 e2) (lexT l1 l2):=by unfold cmpTT;rw [h1.wlen,h2.wlen]
 rw [hR]
 clear hR
 go_enter Tryz.func146,Tryz.ntmps146
 go_upto_region 1 with fail
 obtain ⟨w0,hw0⟩ : ∃ w0,w0=(w.alloc (Obj.cells #[Value.int IntKind.u64 e1,Value.slice A1 n1 c1] 26)).alloc (Obj.cells #[Value.int IntKind.u64 e2,Value.slice A2 n2 c2] 26):=⟨_,rfl⟩
 have x0:Ext w w0:=hw0 ▸ ((Ext.refl w).alloc _).alloc _
 have a0:Bk w0 w.heap.size 26 #[Value.int IntKind.u64 e1,Value.slice A1 n1 c1]:=by subst hw0;exact (Bk.new _ _ _).alloc _
 have b0:Bk w0 (w.heap.size+1) 26 #[Value.int IntKind.u64 e2,Value.slice A2 n2 c2]:=by subst hw0;exact Bk.at (by simp)
 rw [← hw0]
 clear hw0
 have X:Ext w0 w0.drew:=(Ext.refl w0).drew
 have q1 : ∀ y:Xt w0.drew,y.W.cell? ⟨w.heap.size,0,none⟩=some (.int .u64 e1):=fun y=>(a0.ext (X.trans y.x)).cell 0
 have q2 : ∀ y:Xt w0.drew,y.W.cell? ⟨w.heap.size,1,none⟩=some (.slice A1 n1 c1):=fun y=>(a0.ext (X.trans y.x)).cell 1
 have q3 : ∀ y:Xt w0.drew,y.W.cell? ⟨w.heap.size+1,0,none⟩=some (.int .u64 e2):=fun y=>(b0.ext (X.trans y.x)).cell 0
 have q4 : ∀ y:Xt w0.drew,y.W.cell? ⟨w.heap.size+1,1,none⟩=some (.slice A2 n2 c2):=fun y=>(b0.ext (X.trans y.x)).cell 1
 refine wp_region_ord [0,1,3,0,8,24,63,0,128,0,512,2047,0,4096,0,16384,65535,131071,262143,524287] (.flo [0,1,2,3,4,5,7,8,9,10,12,13,14,15] (.ext 6 (.ext 11 (.one 16 (.one 17 (.one 18 (.flo [19] (.fin)))))))) (by kernel_rfl) (by kernel_rfl) (by intro _ _ d _ _ h;cases d<;>exact h) ?_
 (refine ord_flo (pick_cons rfl (pick_cons rfl (pick_cons rfl (pick_cons rfl (pick_cons rfl (pick_cons rfl (pick_cons rfl (pick_cons rfl (pick_cons rfl (pick_cons rfl (pick_cons rfl (pick_cons rfl (pick_cons rfl (pick_cons rfl pick_nil)))))))))))))) ?_;(repeat (go_big_quiet_step (fail)));refine wpQuiet_nil ?_;show ordWalk _ _ _ _ _ _ _)
 refine ord_ext (pick_cons rfl pick_nil) ?_;intro K_ hK_
 go_wp2_with (refine (compare_int _ _ _).mono ?_;rintro e w1 ⟨rfl,rfl⟩)
 refine ordNext.mk (Ext.refl _) ?_
 refine ord_ext (pick_cons rfl pick_nil) ?_;intro K_ hK_
 go_wp2_with (refine (compare_u64 _ _ _).mono ?_;rintro e w1 ⟨rfl,rfl⟩)
 refine ordNext.mk (Ext.refl _) ?_
 refine ord_one (pick_cons rfl pick_nil) ?_;intro K_ hK_
 go_wp2_with (refine (lex_any _ _ _ _ _ _ _ _ _ (h1.ext (x0.trans X)) (h2.ext (x0.trans X))).mono ?_;rintro e w1 ⟨rfl,rfl⟩)
 refine ord_one (pick_cons rfl pick_nil) ?_;intro K_ hK_
 go_wp2
 refine ord_one (pick_cons rfl pick_nil) ?_;intro K_ hK_
 go_wp2_with (refine (or_any _ _ _ _ _ _ (by exact (Bk.at (by simp)).drew)).mono ?_;rintro e w1 ⟨rfl,x1⟩)
 (refine ord_flo (pick_cons rfl pick_nil) ?_;(repeat (go_big_quiet_step (fail)));refine wpQuiet_nil ?_;show ordWalk _ _ _ _ _ _ _)
 refine ord_fin ?_
 go_wp2
 go_ret
 exact ⟨rfl,((x0.trans X).alloc _).trans x1⟩
end Go.Proofs.YtdgbkpoickbidaaGreatDoor
namespace Go.Proofs.YtdgbkpoickbidaaGreatDoor

theorem leq_iff (e1:Int) (l1:List Int) (e2:Int) (l2:List Int):leqT e1 l1 e2 l2=true↔l1.length=l2.length∧e1≤e2 ∧ ∀ k,k<l1.length→l1.getD k 0≤l2.getD k 0:=by
 unfold leqT
 exact decide_eq_true_iff
theorem leq_refl (e:Int) (l:List Int):leqT e l e l=true:=(leq_iff _ _ _ _).2 ⟨rfl,Int.le_refl _,fun _ _=>Int.le_refl _⟩
theorem leq_trans {e1 e2 e3:Int} {l1 l2 l3:List Int} (h:leqT e1 l1 e2 l2=true) (k:leqT e2 l2 e3 l3=true):leqT e1 l1 e3 l3=true:=by
 rw [leq_iff] at *
 obtain ⟨a1,a2,a3⟩:=h
 obtain ⟨b1,b2,b3⟩:=k
 exact ⟨by omega,by omega,fun i hi=>Int.le_trans (a3 i hi) (b3 i (by omega))⟩
theorem lex_le : ∀ (l m:List Int),l.length=m.length→(∀ k,k<l.length→l.getD k 0≤m.getD k 0)→lexT l m≤0
 | [],[],_,_=>Int.le_refl _
 | [],_ :: _,h,_=>by simp at h
 | _ :: _,[],h,_=>by simp at h
 | x :: l,y :: m,h,hh=>by
  have h0:x≤y:=by simpa using hh 0 (by simp)
  have hr:=lex_le l m (by simpa using h) (fun k hk=>by simpa using hh (k+1) (by simpa using hk))
  unfold lexT
  split
  ·exact hr
  ·unfold cmpT
   split
   ·omega
   ·split<;>omega
theorem lex_zero : ∀ (l m:List Int),lexT l m=0→l=m
 | [],[],_=>rfl
 | [],_ :: _,h=>by simp [lexT] at h
 | _ :: _,[],h=>by simp [lexT] at h
 | x :: l,y :: m,h=>by
  unfold lexT at h
  by_cases hc:cmpT x y=0
  ·rw [if_pos hc] at h
   rw [cmpT_zero.1 hc,lex_zero l m h]
  ·rw [if_neg hc] at h
   exact absurd h hc
theorem lex_self : ∀ l:List Int,lexT l l=0
 | []=>rfl
 | x :: l=>by
  unfold lexT
  rw [if_pos (cmpT_self x)]
  exact lex_self l

theorem cmp_zero {e1 e2:Int} {l1 l2:List Int}:cmpTT e1 l1 e2 l2=0↔e1=e2∧l1=l2:=by
 constructor
 ·intro h
  unfold cmpTT orT at h
  by_cases h1:cmpT (l1.length:Int) l2.length=0
  ·rw [if_pos h1] at h
   by_cases h2:cmpT e1 e2=0
   ·rw [if_pos h2] at h
    exact ⟨cmpT_zero.1 h2,lex_zero _ _ h⟩
   ·rw [if_neg h2] at h
    exact absurd h h2
  ·rw [if_neg h1] at h
   exact absurd h h1
 ·rintro ⟨rfl,rfl⟩
  simp [cmpTT,orT,cmpT_self,lex_self]
theorem cmp_le {e1 e2:Int} {l1 l2:List Int} (h:leqT e1 l1 e2 l2=true):cmpTT e1 l1 e2 l2≤0:=by
 obtain ⟨a1,a2,a3⟩:=(leq_iff _ _ _ _).1 h
 unfold cmpTT orT
 rw [a1,cmpT_self,if_pos rfl]
 split
 ·exact lex_le _ _ a1 a3
 ·unfold cmpT
  split
  ·omega
  ·split<;>omega
theorem getD_ext' {l1 l2:List Int} (hl:l1.length=l2.length) (h : ∀ k,k<l1.length→l1.getD k 0=l2.getD k 0):l1=l2:=(getD_ext hl).1 h
theorem cmp_both {e1 e2:Int} {l1 l2:List Int}:(leqT e1 l1 e2 l2=true∧leqT e2 l2 e1 l1=true)↔cmpTT e1 l1 e2 l2=0:=by
 rw [cmp_zero]
 constructor
 ·rintro ⟨h,k⟩
  rw [leq_iff] at h k
  obtain ⟨a1,a2,a3⟩:=h
  obtain ⟨b1,b2,b3⟩:=k
  exact ⟨by omega,getD_ext' a1 fun i hi=>Int.le_antisymm (a3 i hi) (b3 i (by omega))⟩
 ·rintro ⟨rfl,rfl⟩
  exact ⟨leq_refl _ _,leq_refl _ _⟩

theorem zip_getD (g:Int→Int→Int) (l1 l2:List Int) (k:Nat) (h1:k<l1.length) (h2:k<l2.length):(List.zipWith g l1 l2).getD k 0=g (l1.getD k 0) (l2.getD k 0):=by
 simp [List.getD_eq_getElem?_getD,List.getElem?_zipWith,List.getElem?_eq_getElem h1,List.getElem?_eq_getElem h2]
theorem join_up1 {e1 e2:Int} {l1 l2:List Int} (hl:l1.length=l2.length):leqT e1 l1 (max e1 e2) (List.zipWith max l1 l2)=true :=
 (leq_iff _ _ _ _).2 ⟨by simp;omega,by omega,fun k hk=>by rw [zip_getD _ _ _ _ hk (by omega)];omega⟩
theorem join_up2 {e1 e2:Int} {l1 l2:List Int} (hl:l1.length=l2.length):leqT e2 l2 (max e1 e2) (List.zipWith max l1 l2)=true :=
 (leq_iff _ _ _ _).2 ⟨by simp;omega,by omega,fun k hk=>by rw [zip_getD _ _ _ _ (by omega) hk];omega⟩
theorem meet_low1 {e1 e2:Int} {l1 l2:List Int} (hl:l1.length=l2.length):leqT (min e1 e2) (List.zipWith min l1 l2) e1 l1=true :=
 (leq_iff _ _ _ _).2 ⟨by simp;omega,by omega,fun k hk=>by simp at hk;rw [zip_getD _ _ _ _ (by omega) (by omega)];omega⟩
theorem meet_low2 {e1 e2:Int} {l1 l2:List Int} (hl:l1.length=l2.length):leqT (min e1 e2) (List.zipWith min l1 l2) e2 l2=true :=
 (leq_iff _ _ _ _).2 ⟨by simp;omega,by omega,fun k hk=>by simp at hk;rw [zip_getD _ _ _ _ (by omega) (by omega)];omega⟩
theorem join_least {e1 e2 e3:Int} {l1 l2 l3:List Int} (hl:l1.length=l2.length):leqT (max e1 e2) (List.zipWith max l1 l2) e3 l3=(leqT e1 l1 e3 l3&&leqT e2 l2 e3 l3):=by
 rw [Bool.eq_iff_iff,Bool.and_eq_true]
 constructor
 ·intro h
  exact ⟨leq_trans (join_up1 hl) h,leq_trans (join_up2 hl) h⟩
 ·rintro ⟨h,k⟩
  rw [leq_iff] at *
  obtain ⟨a1,a2,a3⟩:=h
  obtain ⟨b1,b2,b3⟩:=k
  refine ⟨by simp;omega,by omega,fun i hi=>?_⟩
  simp at hi
  rw [zip_getD _ _ _ _ (by omega) (by omega)]
  have:=a3 i (by omega)
  have:=b3 i (by omega)
  omega
theorem meet_greatest {e1 e2 e3:Int} {l1 l2 l3:List Int} (hl:l1.length=l2.length):leqT e3 l3 (min e1 e2) (List.zipWith min l1 l2)=(leqT e3 l3 e1 l1&&leqT e3 l3 e2 l2):=by
 rw [Bool.eq_iff_iff,Bool.and_eq_true]
 constructor
 ·intro h
  exact ⟨leq_trans h (meet_low1 hl),leq_trans h (meet_low2 hl)⟩
 ·rintro ⟨h,k⟩
  rw [leq_iff] at *
  obtain ⟨a1,a2,a3⟩:=h
  obtain ⟨b1,b2,b3⟩:=k
  refine ⟨by simp;omega,by omega,fun i hi=>?_⟩
  rw [zip_getD _ _ _ _ (by omega) (by omega)]
  have:=a3 i (by omega)
  have:=b3 i (by omega)
  omega
end Go.Proofs.YtdgbkpoickbidaaGreatDoor
namespace Go.Proofs.YtdgbkpoickbidaaGreatDoor

abbrev TV:=Int × List Int
def tcmp (x y:TV):Int:=cmpTT x.1 x.2 y.1 y.2
def tleq (x y:TV):Bool:=leqT x.1 x.2 y.1 y.2
theorem cmpT_neg (x y:Int):cmpT y x = -cmpT x y:=by
 unfold cmpT
 repeat' split
 all_goals omega
theorem cmpT_pos {x y:Int}:cmpT x y<0↔x<y:=by
 unfold cmpT
 repeat' split
 all_goals omega
theorem lexT_neg : ∀ l m:List Int,lexT m l = -lexT l m
 | [],[]=>rfl
 | [],_ :: _=>rfl
 | _ :: _,[]=>rfl
 | x :: l,y :: m=>by
  simp only [lexT]
  rw [cmpT_neg x y]
  by_cases h:cmpT x y=0
  ·rw [if_pos (by omega),if_pos h];exact lexT_neg l m
  ·rw [if_neg (by omega),if_neg h]
theorem lexT_trans : ∀ l m n:List Int,lexT l m≤0→lexT m n≤0→lexT l n≤0
 | [],[],n,_,h=>h
 | [],_ :: _,[],_,h=>by simp [lexT] at h
 | [],_ :: _,_ :: _,_,_=>by simp [lexT]
 | _ :: _,[],_,h,_=>by simp [lexT] at h
 | _ :: _,_ :: _,[],_,h=>by simp [lexT] at h
 | x :: l,y :: m,z :: n,h,k=>by
  simp only [lexT] at h k ⊢
  by_cases h1:cmpT x y=0
  ·have e:=cmpT_zero.1 h1
   subst e
   rw [if_pos h1] at h
   by_cases h2:cmpT x z=0
   ·rw [if_pos h2] at k ⊢
    exact lexT_trans l m n h k
   ·rw [if_neg h2] at k ⊢
    exact k
  ·rw [if_neg h1] at h
   have l1:x<y:=cmpT_pos.1 (by omega)
   by_cases h2:cmpT y z=0
   ·have e:=cmpT_zero.1 h2
    subst e
    rw [if_neg h1]
    exact h
   ·rw [if_neg h2] at k
    have l2:y<z:=cmpT_pos.1 (by omega)
    have l3:cmpT x z<0:=cmpT_pos.2 (by omega)
    rw [if_neg (by omega)]
    omega
theorem orT_le {a b c:Int}:orT a b c≤0↔a<0∨(a=0∧(b<0∨(b=0∧c≤0))):=by
 unfold orT
 split
 ·split<;>omega
 ·omega
theorem tcmp_neg (x y:TV):tcmp y x = -tcmp x y:=by
 unfold tcmp cmpTT
 rw [cmpT_neg x.2.length,cmpT_neg x.1,lexT_neg x.2]
 unfold orT
 by_cases h1:cmpT x.2.length y.2.length=0
 ·rw [if_pos (by omega),if_pos h1]
  by_cases h2:cmpT x.1 y.1=0
  ·rw [if_pos (by omega),if_pos h2]
  ·rw [if_neg (by omega),if_neg h2]
 ·rw [if_neg (by omega),if_neg h1]
theorem tcmp_trans (x y z:TV) (h:tcmp x y≤0) (k:tcmp y z≤0):tcmp x z≤0:=by
 unfold tcmp cmpTT at h k ⊢
 rw [orT_le] at h k ⊢
 rw [cmpT_pos,cmpT_zero,cmpT_pos,cmpT_zero] at h k ⊢
 rcases h with h | ⟨h1,h | ⟨h2,h3⟩⟩<;>rcases k with k | ⟨k1,k | ⟨k2,k3⟩⟩
 ·exact .inl (by omega)
 ·exact .inl (by omega)
 ·exact .inl (by omega)
 ·exact .inl (by omega)
 ·exact .inr ⟨by omega, .inl (by omega)⟩
 ·exact .inr ⟨by omega, .inl (by omega)⟩
 ·exact .inl (by omega)
 ·exact .inr ⟨by omega, .inl (by omega)⟩
 ·exact .inr ⟨by omega, .inr ⟨by omega,lexT_trans _ _ _ h3 k3⟩⟩
theorem tcmp_zero {x y:TV}:tcmp x y=0↔x=y:=by
 unfold tcmp
 rw [cmp_zero]
 exact ⟨fun h=>Prod.ext h.1 h.2,fun h=>by rw [h];exact ⟨rfl,rfl⟩⟩
theorem tcmp_lt_trans {x y z:TV} (h:tcmp x y<0) (k:tcmp y z≤0):tcmp x z<0:=by
 have h1:=tcmp_trans x y z (by omega) k
 rcases Int.lt_or_eq_of_le h1 with h2 | h2
 ·exact h2
 ·have e:=tcmp_zero.1 h2
  subst e
  have:=tcmp_neg x y
  omega
theorem tleq_refl (x:TV):tleq x x=true:=leq_refl _ _
theorem tleq_trans {x y z:TV} (h:tleq x y=true) (k:tleq y z=true):tleq x z=true:=leq_trans h k
theorem tleq_cmp {x y:TV} (h:tleq x y=true):tcmp x y≤0:=cmp_le h
theorem tleq_anti {x y:TV} (h:tleq x y=true) (k:tleq y x=true):x=y:=tcmp_zero.1 (cmp_both.1 ⟨h,k⟩)

/-! ### lists that rise -/
def Rising (l:List TV):Prop:=l.Pairwise fun x y=>tcmp x y<0
theorem rising_ext : ∀ {a b:List TV},Rising a→Rising b→(∀ x,x∈a↔x∈b)→a=b
 | [],[],_,_,_=>rfl
 | [],y :: b,_,_,h=>by have:=(h y).2 (by simp);simp at this
 | x :: a,[],_,_,h=>by have:=(h x).1 (by simp);simp at this
 | x :: a,y :: b,ha,hb,h=>by
  unfold Rising at ha hb
  rw [List.pairwise_cons] at ha hb
  have e:x=y:=by
   have h1:x∈y :: b:=(h x).1 (by simp)
   have h2:y∈x :: a:=(h y).2 (by simp)
   rcases List.mem_cons.1 h1 with h1 | h1
   ·exact h1
   ·rcases List.mem_cons.1 h2 with h2 | h2
    ·exact h2.symm
    ·have q1:=hb.1 x h1
     have q2:=ha.1 y h2
     have:=tcmp_neg x y
     omega
  subst e
  rw [rising_ext ha.2 hb.2 (fun z=>by
   constructor
   ·intro hz
    rcases List.mem_cons.1 ((h z).1 (List.mem_cons_of_mem _ hz)) with e | e
    ·have:=ha.1 z hz
     rw [e,tcmp_zero.2 rfl] at this
     omega
    ·exact e
   ·intro hz
    rcases List.mem_cons.1 ((h z).2 (List.mem_cons_of_mem _ hz)) with e | e
    ·have:=hb.1 z hz
     rw [e,tcmp_zero.2 rfl] at this
     omega
    ·exact e)]
theorem filter_len_le {α:Type} {p q:α→Bool} (h : ∀ z,p z=true→q z=true) : ∀ l:List α,(l.filter p).length≤(l.filter q).length
 | []=>Nat.le_refl _
 | x :: l=>by
  have ih:=filter_len_le h l
  rw [List.filter_cons,List.filter_cons]
  by_cases hp:p x=true
  ·rw [if_pos hp,if_pos (h x hp)];simpa using ih
  ·rw [if_neg hp]
   split
   ·exact Nat.le_succ_of_le ih
   ·exact ih
theorem filter_less {α:Type} {p q:α→Bool} (h : ∀ z,p z=true→q z=true) {a:α} : ∀ {l:List α},a∈l→p a=false→q a=true→(l.filter p).length<(l.filter q).length
 | x :: l,ha,hp,hq=>by
  rw [List.filter_cons,List.filter_cons]
  rcases List.mem_cons.1 ha with rfl | ha
  ·rw [if_neg (by rw [hp];decide),if_pos hq]
   exact Nat.lt_succ_of_le (filter_len_le h l)
  ·have ih:=filter_less h ha hp hq
   by_cases hx:p x=true
   ·rw [if_pos hx,if_pos (h x hx)];simpa using ih
   ·rw [if_neg hx]
    split
    ·exact Nat.lt_succ_of_lt ih
    ·exact ih
/-- a time of the list that none of the list is ahead of -/
def Least (L:List TV) (v:TV):Prop:=v∈L ∧ ∀ u∈L,tleq u v=true→u=v
theorem least_below : ∀ (n:Nat) (L:List TV) (v:TV),(L.filter fun u=>decide (tcmp u v<0)).length≤n→v∈L → ∃ m,Least L m∧tleq m v=true
 | n,L,v,hn,hv=>by
  by_cases h : ∃ u∈L,tleq u v=true∧u≠v
  ·obtain ⟨u,hu,huv,hne⟩:=h
   have hlt:tcmp u v<0:=by
    have:=tleq_cmp huv
    have h0:tcmp u v≠0:=fun e=>hne (tcmp_zero.1 e)
    omega
   have hlen:(L.filter fun z=>decide (tcmp z u<0)).length<(L.filter fun z=>decide (tcmp z v<0)).length:=by
    have hsub : ∀ z,decide (tcmp z u<0)=true→decide (tcmp z v<0)=true:=fun z hz=>by
     rw [decide_eq_true_iff] at hz ⊢
     exact tcmp_lt_trans hz (by omega)
    exact filter_less hsub hu (by rw [tcmp_zero.2 rfl];decide) (by rw [decide_eq_true_iff];exact hlt)
   match n,hn with
   | 0,hn=>omega
   | n+1,hn =>
    obtain ⟨m,h1,h2⟩:=least_below n L u (by omega) hu
    exact ⟨m,h1,tleq_trans h2 huv⟩
  ·refine ⟨v,⟨hv,fun u hu huv=>?_⟩,tleq_refl v⟩
   by_cases e:u=v
   ·exact e
   ·exact absurd ⟨u,hu,huv,e⟩ h
/-- M is the antichain of L -/
structure IsOf (L M:List TV):Prop where
 rising:Rising M
 mem : ∀ v,v∈M↔Least L v
theorem IsOf.unique {L M N:List TV} (h:IsOf L M) (k:IsOf L N):M=N:=rising_ext h.rising k.rising fun v=>(h.mem v).trans (k.mem v).symm
theorem Least.congr {L L':List TV} (h : ∀ v,v∈L↔v∈L') (v:TV):Least L v↔Least L' v :=
 ⟨fun q=>⟨(h v).1 q.1,fun u hu=>q.2 u ((h u).2 hu)⟩,fun q=>⟨(h v).2 q.1,fun u hu=>q.2 u ((h u).1 hu)⟩⟩
theorem IsOf.congr {L L' M:List TV} (h : ∀ v,v∈L↔v∈L') (k:IsOf L M):IsOf L' M:=⟨k.rising,fun v=>(k.mem v).trans (Least.congr h v)⟩
/-- beyond -/
def beyondV (M:List TV) (t:TV):Bool:=M.any fun x=>tleq x t
theorem beyond_iff {M:List TV} {t:TV}:beyondV M t=true ↔ ∃ x∈M,tleq x t=true:=by unfold beyondV;exact List.any_eq_true
/-- what the program has, when it has looked at so many of the sorted list -/
structure OfUpto (L S:List TV) (i:Nat) (M:List TV):Prop where
 rising:Rising M
 mem : ∀ v,v∈M↔Least L v∧v∈S.take i
theorem OfUpto.zero (L S:List TV):OfUpto L S 0 []:=⟨List.Pairwise.nil,fun v=>by simp⟩
theorem take_mem_succ {α:Type} {l:List α} {i:Nat} (h:i<l.length) (v:α):v∈l.take (i+1)↔v∈l.take i∨v=l[i]:=by
 rw [List.take_succ_eq_append_getElem h,List.mem_append,List.mem_singleton]
theorem OfUpto.skip {L S M:List TV} {i:Nat} (h:OfUpto L S i M) (hi:i<S.length) (hb:beyondV M S[i]=true):OfUpto L S (i+1) M:=by
 refine ⟨h.rising,fun v=>⟨fun hv=>?_,fun ⟨h1,h2⟩=>?_⟩⟩
 ·have:=(h.mem v).1 hv
  exact ⟨this.1,(take_mem_succ hi v).2 (.inl this.2)⟩
 ·rcases (take_mem_succ hi v).1 h2 with h2 | rfl
  ·exact (h.mem v).2 ⟨h1,h2⟩
  ·obtain ⟨x,hx,hxv⟩:=beyond_iff.1 hb
   have q:=(h.mem x).1 hx
   have e:=h1.2 x q.1.1 hxv
   rw [← e]
   exact hx
theorem OfUpto.put {L S M:List TV} {i:Nat} (h:OfUpto L S i M) (hi:i<S.length) (hs:S.Pairwise fun x y=>tcmp x y≤0) (hm : ∀ v,v∈S↔v∈L) (hb:beyondV M S[i]=false):OfUpto L S (i+1) (M++[S[i]]):=by
 have hno : ∀ x∈M,tleq x S[i]=false:=fun x hx=>by
  by_cases e:tleq x S[i]=true
  ·rw [beyond_iff.2 ⟨x,hx,e⟩] at hb;exact absurd hb (by decide)
  ·simpa using e
 have hat : ∀ v,v∈S→tcmp v S[i]<0→v∈S.take i:=fun v hv hlt=>by
  obtain ⟨j,hj,rfl⟩:=List.getElem_of_mem hv
  by_cases hji:j<i
  ·exact List.mem_take_iff_getElem.2 ⟨j,by omega,rfl⟩
  ·exfalso
   rcases Nat.lt_or_eq_of_le (Nat.le_of_not_lt hji) with q | q
   ·have:=List.pairwise_iff_getElem.1 hs i j hi hj q
    have:=tcmp_neg S[i] S[j]
    omega
   ·subst q
    rw [tcmp_zero.2 rfl] at hlt
    omega
 have hti:S[i]∈L:=(hm _).1 (List.getElem_mem hi)
 have hleast:Least L S[i]:=by
  refine ⟨hti,fun u hu huv=>?_⟩
  obtain ⟨m,h1,h2⟩:=least_below _ L u (Nat.le_refl _) hu
  have hmv:=tleq_trans h2 huv
  by_cases e:m=S[i]
  ·exact tleq_anti huv (e ▸ h2)
  ·have hlt:tcmp m S[i]<0:=by
    have:=tleq_cmp hmv
    have h0:tcmp m S[i]≠0:=fun q=>e (tcmp_zero.1 q)
    omega
   have hmM:m∈M:=(h.mem m).2 ⟨h1,hat m ((hm m).2 h1.1) hlt⟩
   rw [hno m hmM] at hmv
   exact absurd hmv (by decide)
 refine ⟨?_,fun v=>⟨fun hv=>?_,fun ⟨h1,h2⟩=>?_⟩⟩
 ·unfold Rising
  refine List.pairwise_append.2 ⟨h.rising,List.pairwise_singleton _ _,fun x hx y hy=>?_⟩
  rw [List.mem_singleton] at hy
  subst hy
  have hxt:=((h.mem x).1 hx).2
  obtain ⟨j,hj,e⟩:=List.mem_take_iff_getElem.1 hxt
  have q:=List.pairwise_iff_getElem.1 hs j i (by omega) hi (by omega)
  rw [e] at q
  have h0:tcmp x S[i]≠0:=fun z=>by
   have e2:=tcmp_zero.1 z
   have:=hno x hx
   rw [e2,tleq_refl] at this
   exact absurd this (by decide)
  omega
 ·rcases List.mem_append.1 hv with hv | hv
  ·have:=(h.mem v).1 hv
   exact ⟨this.1,(take_mem_succ hi v).2 (.inl this.2)⟩
  ·rw [List.mem_singleton] at hv
   subst hv
   exact ⟨hleast,(take_mem_succ hi _).2 (.inr rfl)⟩
 ·rcases (take_mem_succ hi v).1 h2 with h2 | rfl
  ·exact List.mem_append_left _ ((h.mem v).2 ⟨h1,h2⟩)
  ·exact List.mem_append_right _ (by simp)
theorem OfUpto.done {L S M:List TV} (h:OfUpto L S S.length M) (hm : ∀ v,v∈S↔v∈L):IsOf L M :=
 ⟨h.rising,fun v=>by rw [h.mem v,List.take_length,hm];exact ⟨fun q=>q.1,fun q=>⟨q,q.1⟩⟩⟩
/-! ### the antichain as a function -/
instance (L:List TV) (v:TV):Decidable (Least L v):=by unfold Least;exact inferInstance
open Go.RowKit
/-! ### writes to some blocks -/
/-- w' is w but for the blocks that S tells, and new ones -/
structure Upd (S:Nat→Prop) (w w':World):Prop where
 os:w'.os=w.os
 tape:w'.tape=w.tape
 output:w'.output=w.output
 size:w.heap.size≤w'.heap.size
 block : ∀ k,k<w.heap.size → ¬ S k→w'.heap[k]?=w.heap[k]?
theorem Upd.refl (S:Nat→Prop) (w:World):Upd S w w:=⟨rfl,rfl,rfl,Nat.le_refl _,fun _ _ _=>rfl⟩
theorem Upd.ext {S:Nat→Prop} {w w':World} (x:Ext w w'):Upd S w w':=⟨Below.os x,Below.tape x,Below.output x,Ext.size x,fun k hk _=>Below.block x k hk⟩
theorem Upd.mono {S T:Nat→Prop} {w w':World} (h:Upd S w w') (hs : ∀ k,k<w.heap.size→S k→T k):Upd T w w':=⟨h.os,h.tape,h.output,h.size,fun k hk hn=>h.block k hk (fun q=>hn (hs k hk q))⟩
theorem Upd.trans {S:Nat→Prop} {a b c:World} (h:Upd S a b) (k:Upd S b c):Upd S a c :=
 ⟨k.os.trans h.os,k.tape.trans h.tape,k.output.trans h.output,Nat.le_trans h.size k.size,fun q hq hn=>(k.block q (Nat.lt_of_lt_of_le hq h.size) hn).trans (h.block q hq hn)⟩
theorem Upd.setCell {S:Nat→Prop} {a w:World} (h:Upd S a w) {p:Addr} (hp:S p.block∨a.heap.size≤p.block) (u:Value):Upd S a (w.setCell p u):=by
 refine ⟨h.os,h.tape,h.output,by simpa using h.size,fun k hk hn=>?_⟩
 rw [Below.heap_setCell _ _ _ _ (fun e=>by
  rcases hp with hp | hp
  ·exact hn (e ▸ hp)
  ·omega)]
 exact h.block k hk hn
theorem Upd.alloc {S:Nat→Prop} {a w:World} (h:Upd S a w) (o:Obj):Upd S a (w.alloc o):=h.trans (Upd.ext ((Ext.refl w).alloc o))
theorem Upd.grown {S:Nat→Prop} {a w w':World} {row:Option Nat} (h:Upd S a w) (g:w.grownBy w' row) (hr : ∀ k,row=some k→S k∨a.heap.size≤k):Upd S a w' :=
 ⟨g.os.trans h.os,g.tape.trans h.tape,g.output.trans h.output,Nat.le_trans h.size g.size,fun k hk hn=>(g.block k (Nat.lt_of_lt_of_le hk h.size) (fun e=>by
  rcases hr k e.symm with q | q
  ·exact hn q
  ·omega)).trans (h.block k hk hn)⟩
theorem cell_of_heap {w w':World} {p:Addr} (h:w'.heap[p.block]?=w.heap[p.block]?):w'.cell? p=w.cell? p:=by unfold World.cell?;rw [h]
theorem Upd.cell {S:Nat→Prop} {w w':World} (h:Upd S w w') {p:Addr} {u:Value} (hn : ¬ S p.block) (hc:w.cell? p=some u):w'.cell? p=some u :=
 (cell_of_heap (h.block p.block (World.block_lt_of_cell? w p hc) hn)).trans hc
theorem Sl.upd {S:Nat→Prop} {w w':World} {size n c:Nat} {A:Option Addr} {xs:List Value} (h:Sl w size A n c xs) (x:Upd S w w') (hn : ∀ k,blk A c=some k → ¬ S k):Sl w' size A n c xs:=by
 refine ⟨h.1,h.2.1,h.2.2.1,h.2.2.2.1,fun h0=>?_⟩
 obtain ⟨ad,rfl,hc⟩:=h.2.2.2.2 h0
 refine ⟨ad,rfl,fun j u hu=>x.cell ?_ (hc j u hu)⟩
 rw [block_add]
 refine hn ad.block ?_
 have:=h.2.1
 cases c with
 | zero=>omega
 | succ c=>rfl
theorem Own.upd {S:Nat→Prop} {w w':World} {B size n c:Nat} {e:TypeId} {A:Option Addr} {xs:List Value} (h:Own w B e size A n c xs) (x:Upd S w w') (hn : ∀ k,blk A c=some k → ¬ S k):Own w' B e size A n c xs:=by
 refine ⟨h.1,?_⟩
 rcases h.2 with hz | ⟨g,cur,rfl,hb,hg,rest⟩
 ·exact .inl hz
 ·cases c with
  | zero =>
   obtain ⟨h1,_⟩:=rest
   exact .inl ⟨rfl,by omega⟩
  | succ c =>
   refine .inr ⟨g,cur,rfl,hb,?_,rest⟩
   rw [x.block g (Array.getElem?_eq_some_iff.1 hg).1 (hn g rfl)]
   exact hg
/-! ### lists of lists -/
/-- a slice's header -/
structure En where
 A:Option Addr
 n:Nat
 c:Nat
def En.v (x:En):Value := .slice x.A x.n x.c
def En.b (x:En):Option Nat:=blk x.A x.c
def En.zero:En:=⟨none,0,0⟩
def ensC (L:List En):List Value:=L.map En.v
theorem ensC_append (L M:List En):ensC (L++M)=ensC L++ensC M:=List.map_append
def ena (L:List En) (i:Nat):En:=L.getD i En.zero
theorem ena_append_old {L:List En} {x:En} {i:Nat} (h:i<L.length):ena (L++[x]) i=ena L i:=by
 unfold ena
 rw [List.getD_eq_getElem?_getD,List.getElem?_append_left h,List.getD_eq_getElem?_getD]
theorem ena_append_new (L:List En) (x:En):ena (L++[x]) L.length=x:=by
 unfold ena
 rw [List.getD_eq_getElem?_getD,List.getElem?_append_right (Nat.le_refl _),Nat.sub_self]
 rfl
section
variable (mk:Int→Nat→List Value) (size:Nat)
/-- so many marks -/
def marks_ (i:Int) (n:Nat):List Value:=(List.range n).flatMap (mk i)
variable {mk size}
theorem marks_zero (i:Int):marks_ mk i 0=[]:=rfl
theorem marks_succ (i:Int) (n:Nat):marks_ mk i (n+1)=marks_ mk i n++mk i n:=by
 unfold marks_
 rw [List.range_succ,List.flatMap_append,List.flatMap_singleton]
theorem marks_len (hs : ∀ i k,(mk i k).length=size) (i:Int) : ∀ n,(marks_ mk i n).length=n * size
 | 0=>by simp [marks_]
 | n+1=>by rw [marks_succ,List.length_append,marks_len hs i n,hs,Nat.succ_mul]
end
/-- the lists, each in a block of its own that lies from B on -/
structure Lists (w:World) (B:Nat) (e:TypeId) (size:Nat) (L:List En) (f:Nat→List Value):Prop where
 own : ∀ i,i<L.length→Own w B e size (ena L i).A (ena L i).n (ena L i).c (f i)
 apart : ∀ i j,i<L.length→j<L.length→i≠j → ∀ k,(ena L i).b=some k→(ena L j).b≠some k
/-- the blocks that the lists lie in -/
def Foot (L:List En) (k:Nat):Prop := ∃ i,i<L.length∧(ena L i).b=some k
theorem Lists.foot_lt {w:World} {B:Nat} {e:TypeId} {size:Nat} {L:List En} {f:Nat→List Value} (h:Lists w B e size L f) {k:Nat} (hk:Foot L k):B≤k∧k<w.heap.size:=by
 obtain ⟨i,hi,hb⟩:=hk
 exact (h.own i hi).lt k hb
theorem Lists.upd {S:Nat→Prop} {w w':World} {B:Nat} {e:TypeId} {size:Nat} {L:List En} {f:Nat→List Value} (h:Lists w B e size L f) (x:Upd S w w') (hn : ∀ k,Foot L k → ¬ S k):Lists w' B e size L f :=
 ⟨fun i hi=>(h.own i hi).upd x (fun k hk=>hn k ⟨i,hi,hk⟩),h.apart⟩
theorem Lists.nil (w:World) (B:Nat) (e:TypeId) (size:Nat) (f:Nat→List Value):Lists w B e size [] f:=⟨fun i hi=>by simp at hi,fun i j hi=>by simp at hi⟩
/-! ### the first phase: marks are written -/
structure Ph1 (mk:Int→Nat→List Value) (w wr:World) (B:Nat) (e:TypeId) (size:Nat) (L:List En) (i:Nat) (f:Nat→List Value):Prop where
 ls:Lists wr B e size L f
 done : ∀ j,j<i→j<L.length→f j=marks_ mk j (ena L j).n
 upd:Upd (Foot L) w wr
/-- within an entry -/
structure Ph1I (mk:Int→Nat→List Value) (w wr:World) (B:Nat) (e:TypeId) (size:Nat) (L:List En) (i k:Nat) (f:Nat→List Value):Prop where
 ph:Ph1 mk w wr B e size L i f
 part:(f i).take (k * size)=marks_ mk i k
theorem Ph1.enter {mk:Int→Nat→List Value} {w wr:World} {B:Nat} {e:TypeId} {size:Nat} {L:List En} {i:Nat} {f:Nat→List Value} (h:Ph1 mk w wr B e size L i f):Ph1I mk w wr B e size L i 0 f:=⟨h,by rw [Nat.zero_mul];rfl⟩
/-- a store into one of the lists -/
theorem Lists.put {w:World} {B:Nat} {e:TypeId} {size:Nat} {L:List En} {f:Nat→List Value} (h:Lists w B e size L f) {i g:Nat} (hi:i<L.length) (hA:(ena L i).A=some ⟨g,0,none⟩) (hc:0<(ena L i).c) (q:Nat) (u:Value) :
  Lists (w.setCell ⟨g,q,none⟩ u) B e size L (fun j=>if j=i then (f i).set q u else f j):=by
 have hb:(ena L i).b=some g:=by
  unfold En.b
  rw [hA]
  generalize (ena L i).c=c at hc
  cases c with
  | zero=>omega
  | succ c=>rfl
 refine ⟨fun j hj=>?_,h.apart⟩
 by_cases hji:j=i
 ·subst hji
  rw [if_pos rfl]
  have o:=h.own j hi
  rw [hA] at o ⊢
  exact o.put q u
 ·rw [if_neg hji]
  exact (h.own j hj).far (p:=⟨g,q,none⟩) (fun e=>h.apart i j hi hj (Ne.symm hji) g hb e) u
theorem set_take {xs:List Value} {k:Nat} (h:k<xs.length) (u:Value):(xs.set k u).take (k+1)=xs.take k++[u]:=by
 rw [List.take_succ_eq_append_getElem (by rw [List.length_set];exact h),List.take_set_of_le (Nat.le_refl k),List.getElem_set_self]
theorem Ph1I.put4 {mk:Int→Nat→List Value} {w wr:World} {B:Nat} {e:TypeId} {L:List En} {i k g:Nat} {f:Nat→List Value} (h:Ph1I mk w wr B e 4 L i k f) (hi:i<L.length) (hk:k<(ena L i).n) (hA:(ena L i).A=some ⟨g,0,none⟩) (hm:(ena L i).b=some g) {u v x y:Value} (hu:mk i k=[u,v,x,y]) :
  ∃ f',Ph1I mk w ((((wr.setCell ⟨g,k * 4,none⟩ u).setCell ⟨g,k * 4+1,none⟩ v).setCell ⟨g,k * 4+2,none⟩ x).setCell ⟨g,k * 4+3,none⟩ y) B e 4 L i (k+1) f':=by
 have hl:=(h.ph.ls.own i hi).1
 have hc:0<(ena L i).c:=by have:=(h.ph.ls.own i hi).le.1;omega
 refine ⟨_,⟨(((h.ph.ls.put hi hA hc (k * 4) u).put hi hA hc (k * 4+1) v).put hi hA hc (k * 4+2) x).put hi hA hc (k * 4+3) y,fun j hj hjl=>?_,(((h.ph.upd.setCell (.inl ⟨i,hi,hm⟩) u).setCell (.inl ⟨i,hi,hm⟩) v).setCell (.inl ⟨i,hi,hm⟩) x).setCell (.inl ⟨i,hi,hm⟩) y⟩,?_⟩
 ·rw [if_neg (by omega),if_neg (by omega),if_neg (by omega),if_neg (by omega)]
  exact h.ph.done j hj hjl
 ·simp only [↓reduceIte]
  rw [show (k+1) * 4=k * 4+3+1 by omega,set_take (by simp only [List.length_set,hl];omega),set_take (by simp only [List.length_set,hl];omega),set_take (by simp only [List.length_set,hl];omega),set_take (by rw [hl];omega),h.part,marks_succ,hu]
  simp
/-! ### the second phase: each grows -/
structure Ph2 (mk:Int→Nat→List Value) (w1 wr:World) (B:Nat) (e T:TypeId) (size:Nat) (L:List En) (i:Nat) (G:List En) (LA:Option Addr) (lc:Nat):Prop where
 len:G.length=i
 lst:Own wr w1.heap.size T 1 LA i lc (ensC G)
 rest : ∀ j,i≤j→j<L.length→Own wr B e size (ena L j).A (ena L j).n (ena L j).c (marks_ mk j (ena L j).n)
 read : ∀ j,j<i→Sl wr size (ena L j).A (ena L j).n (ena L j).c (marks_ mk j (ena L j).n)
 long : ∀ j,j<i→(ena G j).n=(ena L j).n+8∧Own wr B e size (ena G j).A (ena G j).n (ena G j).c (marks_ mk j (ena L j).n++marks_ mk (-1 - j) 8)
 at_ : ∀ j,j<i → ∀ k,(ena G j).b=some k→(ena L j).b=some k∨(w1.heap.size≤k∧blk LA lc≠some k)
 foot : ∀ k,Foot L k→k<w1.heap.size
 apart : ∀ i j,i<L.length→j<L.length→i≠j → ∀ k,(ena L i).b=some k→(ena L j).b≠some k
 upd:Upd (Foot L) w1 wr
theorem Ph2.start {mk:Int→Nat→List Value} {w wr:World} {B:Nat} {e:TypeId} {size:Nat} {L:List En} {f:Nat→List Value} (T:TypeId) (h:Ph1 mk w wr B e size L L.length f):Ph2 mk wr wr B e T size L 0 [] none 0 :=
 ⟨rfl,Own.nil _ _ _ _,fun j _ hj=>by have:=h.ls.own j hj;rwa [h.done j hj hj] at this,fun j hj=>by omega,fun j hj=>by omega,fun j hj=>by omega,fun k hk=>(h.ls.foot_lt hk).2,h.ls.apart,Upd.refl _ _⟩
/-- within an entry: x is being grown -/
structure Ph2I (mk:Int→Nat→List Value) (w2 wr:World) (B:Nat) (e:TypeId) (size:Nat) (L:List En) (i k:Nat) (A:Option Addr) (c:Nat):Prop where
 own:Own wr B e size A ((ena L i).n+k) c (marks_ mk i (ena L i).n++marks_ mk (-1 - i) k)
 at_:(A=(ena L i).A∧c=(ena L i).c) ∨ ∃ q,blk A c=some q∧w2.heap.size≤q
 read:Sl wr size (ena L i).A (ena L i).n (ena L i).c (marks_ mk i (ena L i).n)
 lt : ∀ q,(ena L i).b=some q→q<w2.heap.size
 upd:Upd (fun q=>(ena L i).b=some q) w2 wr
theorem Ph2.enter {mk:Int→Nat→List Value} {w1 wr:World} {B:Nat} {e T:TypeId} {size:Nat} {L:List En} {i:Nat} {G:List En} {LA:Option Addr} {lc:Nat} (h:Ph2 mk w1 wr B e T size L i G LA lc) (hi:i<L.length):Ph2I mk wr wr B e size L i 0 (ena L i).A (ena L i).c:=by
 have o:=h.rest i (Nat.le_refl _) hi
 exact ⟨by rw [marks_zero,List.append_nil];exact o, .inl ⟨rfl,rfl⟩,o.sl,fun q hq=>(o.lt q hq).2,Upd.refl _ _⟩
theorem Ph2I.step {mk:Int→Nat→List Value} {w2 wr w3:World} {B:Nat} {e:TypeId} {size:Nat} {L:List En} {i k:Nat} {A A3:Option Addr} {c c3:Nat} (h:Ph2I mk w2 wr B e size L i k A c) (hs : ∀ i k,(mk i k).length=size) (ob:Obj)
  (o3:Own w3 B e size A3 ((ena L i).n+k+1) c3 (marks_ mk i (ena L i).n++marks_ mk (-1 - i) k++mk (-1 - i) k)) (g3:(wr.alloc ob).grownBy w3 (blk A c)) (x3:(A3=A∧c3=c)∨(blk A3 c3=some (wr.alloc ob).heap.size∧Ext (wr.alloc ob) w3)):Ph2I mk w2 w3 B e size L i (k+1) A3 c3:=by
 have hsz:w2.heap.size≤(wr.alloc ob).heap.size:=Nat.le_trans h.upd.size ((Ext.refl wr).alloc ob).size
 have hin : ∀ q,blk A c=some q→(ena L i).b=some q∨w2.heap.size≤q:=fun q hq=>by
  rcases h.at_ with ⟨rfl,rfl⟩ | ⟨q',h1,h2⟩
  ·exact .inl hq
  ·rw [h1] at hq;injection hq with hq;exact .inr (by omega)
 refine ⟨by rw [marks_succ, ← List.append_assoc];exact o3,?_,?_,h.lt,(h.upd.alloc ob).grown g3 hin⟩
 ·rcases x3 with ⟨rfl,rfl⟩ | ⟨h1,_⟩
  ·exact h.at_
  ·exact .inr ⟨_,h1,hsz⟩
 ·have key:A3=(ena L i).A→c3=(ena L i).c→Sl w3 size (ena L i).A (ena L i).n (ena L i).c (marks_ mk i (ena L i).n):=fun ea ec=>by
   have:=Sl.take (k:=(ena L i).n) o3.sl (by omega)
   rw [List.append_assoc,List.take_left' (marks_len hs i _),ea,ec] at this
   exact this
  rcases x3 with ⟨rfl,rfl⟩ | ⟨h1,x⟩
  ·rcases h.at_ with ⟨ea,ec⟩ | ⟨q',h1,h2⟩
   ·exact key ea ec
   ·refine Sl.upd (S:=fun q=>blk A3 c3=some q) (h.read.ext ((Ext.refl wr).alloc ob)) ((Upd.refl _ _).grown g3 (fun k hk => .inl hk)) (fun q hq hq2=>?_)
    rw [h1] at hq2
    injection hq2 with hq2
    have:=h.lt q hq
    omega
  ·exact (h.read.ext ((Ext.refl wr).alloc ob)).ext x
/-- the entry is done: it is put to the long ones -/
theorem Ph2.next {mk:Int→Nat→List Value} {w1 w2 wr w4:World} {B:Nat} {e T:TypeId} {size:Nat} {L:List En} {i:Nat} {G:List En} {LA LA4:Option Addr} {lc lc4:Nat} {A:Option Addr} {c:Nat} (h:Ph2 mk w1 w2 B e T size L i G LA lc) (hi:i<L.length) (hx:Ph2I mk w2 wr B e size L i 8 A c) (ob:Obj)
  (o4:Own w4 w1.heap.size T 1 LA4 (i+1) lc4 (ensC G++[.slice A ((ena L i).n+8) c])) (g4:(wr.alloc ob).grownBy w4 (blk LA lc)) (x4:(LA4=LA∧lc4=lc)∨(blk LA4 lc4=some (wr.alloc ob).heap.size∧Ext (wr.alloc ob) w4)):Ph2 mk w1 w4 B e T size L (i+1) (G++[⟨A,(ena L i).n+8,c⟩]) LA4 lc4:=by
 have hfi : ∀ q,(ena L i).b=some q→Foot L q:=fun q hq=>⟨i,hi,hq⟩
 -- from w2 to w4 only entry i's block, and the long ones' list, have turned
 have hlt : ∀ q,blk LA lc=some q→w1.heap.size≤q∧q<w2.heap.size:=fun q hq=>h.lst.lt q hq
 have u4:Upd (fun q=>(ena L i).b=some q∨blk LA lc=some q) w2 w4:=((hx.upd.mono (fun k _ q=>Or.inl q)).alloc ob).grown g4 (fun k hk => .inl (.inr hk))
 have u5:Upd (fun q=>blk LA lc=some q) wr w4:=((Upd.refl _ _).alloc ob).grown g4 (fun k hk => .inl hk)
 have nl : ∀ q,Foot L q→blk LA lc≠some q:=fun q hq e1=>by have:=h.foot q hq;have:=(hlt q e1).1;omega
 have ni : ∀ j,j<L.length→j≠i → ∀ q,(ena L j).b=some q → ¬ ((ena L i).b=some q∨blk LA lc=some q):=fun j hj hji q hq e1=>by
  rcases e1 with e1 | e1
  ·exact h.apart j i hj hi hji q hq e1
  ·exact nl q ⟨j,hj,hq⟩ e1
 have hgl:=h.len
 have hxb : ∀ q,blk A c=some q→(ena L i).b=some q∨w2.heap.size≤q:=fun q hq=>by
  rcases hx.at_ with ⟨rfl,rfl⟩ | ⟨q',h1,h2⟩
  ·exact .inl hq
  ·rw [h1] at hq;injection hq with hq;exact .inr (by omega)
 have hll : ∀ q,blk LA4 lc4=some q→blk LA lc=some q∨wr.heap.size≤q:=fun q hq=>by
  rcases x4 with ⟨rfl,rfl⟩ | ⟨h1,_⟩
  ·exact .inl hq
  ·rw [h1] at hq;injection hq with hq;have:=((Ext.refl wr).alloc ob).size;exact .inr (by omega)
 refine ⟨by rw [List.length_append,hgl];rfl,by rw [ensC_append];exact o4,fun j hj hjl=>(h.rest j (by omega) hjl).upd u4 (ni j hjl (by omega)),fun j hj=>?_,fun j hj=>?_,fun j hj q hq=>?_,h.foot,h.apart,?_⟩
 ·by_cases hji:j<i
  ·exact (h.read j hji).upd u4 (ni j (by omega) (by omega))
  ·obtain rfl:j=i:=by omega
   exact hx.read.upd u5 (fun q hq=>nl q (hfi q hq))
 ·by_cases hji:j<i
  ·rw [ena_append_old (by omega)]
   obtain ⟨h1,h2⟩:=h.long j hji
   refine ⟨h1,h2.upd u4 (fun q hq e1=>?_)⟩
   rcases h.at_ j hji q hq with h3 | ⟨h3,h4⟩
   ·exact ni j (by omega) (by omega) q h3 e1
   ·rcases e1 with e1 | e1
    ·have:=h.foot q (hfi q e1);omega
    ·exact h4 e1
  ·obtain rfl:j=i:=by omega
   have e1:ena (G++[⟨A,(ena L j).n+8,c⟩]) j=⟨A,(ena L j).n+8,c⟩:=by rw [← hgl];exact ena_append_new G _
   rw [e1]
   refine ⟨rfl,hx.own.upd u5 (fun q hq e2=>?_)⟩
   rcases hxb q hq with h3 | h3
   ·exact nl q (hfi q h3) e2
   ·have:=(hlt q e2).2;omega
 ·by_cases hji:j<i
  ·rw [ena_append_old (by omega)] at hq
   rcases h.at_ j hji q hq with h3 | ⟨h3,h4⟩
   ·exact .inl h3
   ·refine .inr ⟨h3,fun e1=>?_⟩
    rcases hll q e1 with h5 | h5
    ·exact h4 h5
    ·have:=((h.long j hji).2.lt q hq).2
     have:=hx.upd.size
     omega
  ·obtain rfl:j=i:=by omega
   have e1:ena (G++[⟨A,(ena L j).n+8,c⟩]) j=⟨A,(ena L j).n+8,c⟩:=by rw [← hgl];exact ena_append_new G _
   rw [e1] at hq
   rcases hxb q hq with h3 | h3
   ·exact .inl h3
   ·refine .inr ⟨Nat.le_trans h.upd.size h3,fun e2=>?_⟩
    rcases hll q e2 with h5 | h5
    ·have:=(hlt q h5).2;omega
    ·have:=(hx.own.lt q hq).2;omega
 ·have hd : ∀ q,q<w2.heap.size→(ena L i).b=some q→Foot L q:=fun q _ hq=>hfi q hq
  exact (h.upd.trans ((hx.upd.mono hd).alloc ob)).grown g4 (fun q hq => .inr (hlt q hq).1)
/-! ### reading elements -/
theorem addr_off (ad:Addr) (j q:Nat) (hq:0<q):ad.add (j+q)=⟨(ad.add j).block,(ad.add j).off+q,none⟩:=by
 rw [← add_add']
 unfold Addr.add
 rw [if_neg (by omega)]
theorem own_at2 {w:World} {n c:Nat} {A:Option Addr} {xs:List Value} (h:Sl w 2 A n c xs) {k:Nat} (hk:k<n) {l:List Value} {a b:Value} (hl:l=[a,b]) (hx : ∀ q,q<2→xs[k * 2+q]?=l[q]?) :
  ∃ ad,A=some ad∧w.cell? (ad.add (k * 2))=some a∧w.cell? ⟨(ad.add (k * 2)).block,(ad.add (k * 2)).off+1,none⟩=some b:=by
 subst hl
 obtain ⟨ad,e,hc⟩:=h.2.2.2.2 (by omega)
 exact ⟨ad,e,hc _ _ (hx 0 (by omega)),by rw [← addr_off _ _ 1 (by omega)];exact hc _ _ (hx 1 (by omega))⟩
theorem own_at4 {w:World} {n c:Nat} {A:Option Addr} {xs:List Value} (h:Sl w 4 A n c xs) {k:Nat} (hk:k<n) {l:List Value} {a b x y:Value} (hl:l=[a,b,x,y]) (hx : ∀ q,q<4→xs[k * 4+q]?=l[q]?) :
  ∃ ad,A=some ad∧w.cell? (ad.add (k * 4))=some a∧w.cell? ⟨(ad.add (k * 4)).block,(ad.add (k * 4)).off+1,none⟩=some b∧w.cell? ⟨(ad.add (k * 4)).block,(ad.add (k * 4)).off+2,none⟩=some x∧w.cell? ⟨(ad.add (k * 4)).block,(ad.add (k * 4)).off+3,none⟩=some y:=by
 subst hl
 obtain ⟨ad,e,hc⟩:=h.2.2.2.2 (by omega)
 exact ⟨ad,e,hc _ _ (hx 0 (by omega)),by rw [← addr_off _ _ 1 (by omega)];exact hc _ _ (hx 1 (by omega)),by rw [← addr_off _ _ 2 (by omega)];exact hc _ _ (hx 2 (by omega)),by rw [← addr_off _ _ 3 (by omega)];exact hc _ _ (hx 3 (by omega))⟩
open Go.RowKit
theorem Own.base {w:World} {B B' s n c:Nat} {e:TypeId} {A:Option Addr} {xs:List Value} (h:Own w B e s A n c xs) (hb : ∀ k,blk A c=some k→B'≤k):Own w B' e s A n c xs:=by
 refine ⟨h.1,?_⟩
 rcases h.2 with hz | ⟨g,cur,rfl,_,hg,hnc,rest⟩
 ·exact .inl hz
 ·cases c with
  | zero=>exact .inl ⟨rfl,by omega⟩
  | succ c=>exact .inr ⟨g,cur,rfl,hb g rfl,hg,hnc,rest⟩
/-- new memory from lo on, below hi -/
structure KP (w:World) (lo hi:Nat) (e:TypeId) (size:Nat) (x:En) (xs:List Value):Prop where
 own:Own w lo e size x.A x.n x.c xs
 top : ∀ k,x.b=some k→k<hi
theorem KP.ext {w w':World} {lo hi:Nat} {e:TypeId} {size:Nat} {x:En} {xs:List Value} (h:KP w lo hi e size x xs) (y:Ext w w'):KP w' lo hi e size x xs:=⟨h.own.ext y,h.top⟩
theorem KP.upd {S:Nat→Prop} {w w':World} {lo hi:Nat} {e:TypeId} {size:Nat} {x:En} {xs:List Value} (h:KP w lo hi e size x xs) (y:Upd S w w') (hS : ∀ k,lo≤k→k<hi → ¬ S k):KP w' lo hi e size x xs :=
 ⟨h.own.upd y (fun k hk=>hS k (h.own.lt k hk).1 (h.top k hk)),h.top⟩
theorem KP.of {w:World} {lo:Nat} {e:TypeId} {size n c:Nat} {A:Option Addr} {xs:List Value} (h:Own w lo e size A n c xs):KP w lo w.heap.size e size ⟨A,n,c⟩ xs:=⟨h,fun k hk=>(h.lt k hk).2⟩
theorem ext_upd {S:Nat→Prop} {a w w':World} (h:Ext a w) (u:Upd S w w') (hS : ∀ k,S k→a.heap.size≤k):Ext a w' :=
 ⟨u.os.trans (Below.os h),u.tape.trans (Below.tape h),u.output.trans (Below.output h),Nat.le_trans h.size u.size,fun k hk=>(u.block k (Nat.lt_of_lt_of_le hk h.size) (fun q=>by have:=hS k q;omega)).trans (Below.block h k hk)⟩
theorem bk_upd {S:Nat→Prop} {w w':World} {g:Nat} {t:TypeId} {cs:Array Value} (h:Bk w g t cs) (u:Upd S w w') (hn : ¬ S g):Bk w' g t cs:=(u.block g (Array.getElem?_eq_some_iff.1 h).1 hn).trans h
open Go.RowKit
/-- a time that lies in memory -/
structure Tm where
 e:Int
 A:Option Addr
 c:Nat
 l:List Int
def Tm.zero:Tm:=⟨0,none,0,[]⟩
instance:Inhabited Tm:=⟨Tm.zero⟩
def Tm.v (x:Tm):TV:=(x.e,x.l)
def tmC (x:Tm):List Value:=[.int .u64 x.e, .slice x.A x.l.length x.c]
def tmsC (L:List Tm):List Value:=L.flatMap tmC
theorem tmsC_len (L:List Tm):(tmsC L).length=L.length * 2:=by
 unfold tmsC
 induction L with
 | nil=>rfl
 | cons d l ih=>rw [List.flatMap_cons,List.length_append,ih,List.length_cons,show (tmC d).length=2 from rfl];omega
theorem tmsC_at : ∀ (L:List Tm) (i j:Nat),i<L.length→j<2→(tmsC L)[i * 2+j]?=(tmC (L.getD i Tm.zero))[j]?
 | [],i,j,h,_=>absurd h (Nat.not_lt_zero _)
 | d :: l,0,j,_,hj=>by
  unfold tmsC
  rw [List.flatMap_cons,Nat.zero_mul,Nat.zero_add,List.getElem?_append_left (by rw [show (tmC d).length=2 from rfl];exact hj)]
  rfl
 | d :: l,i+1,j,h,hj=>by
  unfold tmsC
  rw [List.flatMap_cons,List.getElem?_append_right (by rw [show (tmC d).length=2 from rfl];omega),show (i+1) * 2+j - (tmC d).length=i * 2+j by rw [show (tmC d).length=2 from rfl];omega]
  exact tmsC_at l i j (Nat.lt_of_succ_lt_succ h) hj
theorem tmsC_append (L M:List Tm):tmsC (L++M)=tmsC L++tmsC M:=List.flatMap_append
theorem tmsC_one (L:List Tm) : ∀ u∈tmsC L,u.oneCell'=true:=by
 intro u hu
 obtain ⟨d,_,h⟩:=List.mem_flatMap.1 hu
 simp only [tmC,List.mem_cons,List.not_mem_nil,or_false] at h
 rcases h with rfl | rfl<;>rfl
theorem tmsC_take (L:List Tm) (k:Nat):(tmsC L).take (k * 2)=tmsC (L.take k):=by
 induction L generalizing k with
 | nil=>simp [tmsC]
 | cons x L ih =>
  cases k with
  | zero=>simp [tmsC]
  | succ k =>
   show (tmC x++tmsC L).take _=tmC x++tmsC (L.take k)
   rw [List.take_append,show (tmC x).length=2 from rfl,show (k+1) * 2 - 2=k * 2 by omega,ih,List.take_of_length_le (by show 2≤_;omega)]
/-- a list of times as readings give it -/
structure Tin (w:World) (A:Option Addr) (c:Nat) (L:List Tm):Prop where
 sl:Sl w 2 A L.length c (tmsC L)
 ls : ∀ x∈L,Sl w 1 x.A x.l.length x.c (wds x.l)
section
variable {w w':World} {A:Option Addr} {c:Nat} {L:List Tm}
theorem Tin.ext (h:Tin w A c L) (x:Ext w w'):Tin w' A c L:=⟨h.sl.ext x,fun y hy=>(h.ls y hy).ext x⟩
theorem Tin.nil (w:World):Tin w none 0 []:=⟨Sl.nil w 2,fun x hx=>(nomatch hx)⟩
theorem Tin.at (h:Tin w A c L) {i:Nat} (hi:i<L.length) : ∃ ad,A=some ad∧w.cell? (ad.add (i * 2))=some (.int .u64 (L.getD i Tm.zero).e)∧w.cell? ⟨(ad.add (i * 2)).block,(ad.add (i * 2)).off+1,none⟩=some (.slice (L.getD i Tm.zero).A (L.getD i Tm.zero).l.length (L.getD i Tm.zero).c) :=
 own_at2 h.sl hi (show tmC (L.getD i Tm.zero)=[.int .u64 (L.getD i Tm.zero).e, .slice (L.getD i Tm.zero).A (L.getD i Tm.zero).l.length (L.getD i Tm.zero).c] from rfl) (fun q hq=>tmsC_at L i q hi hq)
theorem Tin.take (h:Tin w A c L) {k:Nat} (hk:k≤L.length):Tin w A c (L.take k):=by
 have:=Sl.take (k:=k) h.sl hk
 rw [tmsC_take] at this
 exact ⟨by rw [List.length_take,Nat.min_eq_left hk];exact this,fun x hx=>h.ls x (List.mem_of_mem_take hx)⟩
end
theorem getT_mem {L:List Tm} {i:Nat} (h:i<L.length):L.getD i Tm.zero∈L:=by
 rw [List.getD_eq_getElem?_getD,List.getElem?_eq_getElem h]
 exact List.getElem_mem h
theorem getT_v {L:List Tm} {i:Nat} (h:i<L.length):(L.map Tm.v)[i]'(by rw [List.length_map];exact h)=(L.getD i Tm.zero).v:=by
 rw [List.getElem_map,List.getD_eq_getElem?_getD,List.getElem?_eq_getElem h]
 rfl
theorem elemTimes:Elem Tryz.prog 27 26 2 32 (.agg #[.int .u64 0, .slice none 0 0]):=⟨by kernel_rfl,by kernel_rfl,rfl,by decide⟩
/-- a list of times that a call has made, from block B on, each with counters of its own -/
structure Tout (w:World) (B:Nat) (A:Option Addr) (c:Nat) (L:List Tm):Prop where
 own:Own w B 26 2 A L.length c (tmsC L)
 ls : ∀ x∈L,Own w B 180 1 x.A x.l.length x.c (wds x.l) ∧ ∀ k,blk x.A x.c=some k→blk A c≠some k
 apart:L.Pairwise fun x y => ∀ k,blk x.A x.c=some k→blk y.A y.c≠some k
section
variable {w w':World} {B:Nat} {A:Option Addr} {c:Nat} {L:List Tm}
theorem Tout.ext (h:Tout w B A c L) (x:Ext w w'):Tout w' B A c L:=⟨h.own.ext x,fun y hy=>⟨(h.ls y hy).1.ext x,(h.ls y hy).2⟩,h.apart⟩
theorem Tout.mono (h:Tout w B A c L) {B':Nat} (hb:B'≤B):Tout w B' A c L:=⟨h.own.mono hb,fun y hy=>⟨(h.ls y hy).1.mono hb,(h.ls y hy).2⟩,h.apart⟩
theorem Tout.tin (h:Tout w B A c L):Tin w A c L:=⟨h.own.sl,fun x hx=>(h.ls x hx).1.sl⟩
theorem Tout.nil (w:World) (B:Nat):Tout w B none 0 []:=⟨Own.nil _ _ _ _,fun x hx=>(nomatch hx),List.Pairwise.nil⟩
theorem Tout.upd {S:Nat→Prop} (h:Tout w B A c L) (x:Upd S w w') (hn : ∀ k,B≤k → ¬ S k):Tout w' B A c L :=
 ⟨h.own.upd x (fun k hk=>hn k (h.own.lt k hk).1),fun y hy=>⟨(h.ls y hy).1.upd x (fun k hk=>hn k ((h.ls y hy).1.lt k hk).1),(h.ls y hy).2⟩,h.apart⟩
end
end Go.Proofs.YtdgbkpoickbidaaGreatDoor
namespace Go.Proofs.YtdgbkpoickbidaaGreatDoor
open Go.ChangeShapes Go.WideShapes Go.ChangeAt Go.RowKit Go.WideElems

section
variable {H:Type} {enc:TypeId × Value→H} {W:World}
theorem list2 {α:Type} {l:List α} (h:l.length=2) : ∃ a b,l=[a,b]:=by
 match l,h with
 | [a,b],_=>exact ⟨a,b,rfl⟩
theorem one_u64:Tryz.prog.cellsOf 23=1:=by kernel_rfl
theorem one_wds:Tryz.prog.cellsOf 24=1:=by kernel_rfl
theorem two_tm:Tryz.prog.cellsOf 26=2:=by kernel_rfl
/-- what is known of a time that comes in -/
structure TmIn (x:Tm):Prop where
 u:U32 x.l
 e:0≤x.e∧x.e≤18446744073709551615
theorem come_timeC {fuel:Nat} {cs:List Value} {y:DataW H × List MemPlace} (h:DataW.trod enc Tryz.prog W 0 (fun _=>true) true fuel 26 cs=some y) :
  ∃ x:Tm,cs=tmC x∧Sl W 1 x.A x.l.length x.c (wds x.l)∧TmIn x:=by
 obtain ⟨y0,y1,n,_,hl,h0,h1⟩:=Go.ChangeShapes.trod_struct2 Tryz.underlying26 h
 rw [two_tm] at hl
 obtain ⟨c0,c1,rfl⟩:=list2 hl
 have g0:DataW.trod enc Tryz.prog W 0 (fun _=>true) true n 23 [c0]=some y0:=by
  have:DataW.trod enc Tryz.prog W 0 (fun _=>true) true n 23 (([c0,c1].drop 0).take (Tryz.prog.cellsOf 23))=some y0:=h0
  rw [one_u64] at this
  exact this
 have g1:DataW.trod enc Tryz.prog W 0 (fun _=>true) true n 24 [c1]=some y1:=by
  have:DataW.trod enc Tryz.prog W 0 (fun _=>true) true n 24 (([c0,c1].drop 1).take (Tryz.prog.cellsOf 24))=some y1:=h1
  rw [one_wds] at this
  exact this
 obtain ⟨k,e0,_,w0⟩:=DataW.trod_int Tryz.underlying23 g0
 obtain ⟨A,m,c,l,rfl,hs,hu⟩:=come_words g1
 obtain rfl:c0 = .int .u64 k:=by simpa using e0
 have hm:=hs.wlen
 subst hm
 exact ⟨⟨k,A,c,l⟩,rfl,hs,⟨hu,wf_u64 w0⟩⟩
theorem come_timesC {fuel:Nat} {cs:List Value} {y:DataW H × List MemPlace} (h:DataW.trod enc Tryz.prog W 0 (fun _=>true) true fuel 27 cs=some y) :
  ∃ A c L,cs=[.slice A (List.length L) c]∧Tin W A c L ∧ ∀ x∈L,TmIn x:=by
 rcases Go.Deep.open_slice Tryz.underlying27 h with ⟨hcs,_⟩ | ⟨a,n,c,m,fu,D,Pl,hcs,_,hnc,hcm,hm,_,hx⟩
 ·exact ⟨none,0,[],hcs,Tin.nil W,fun x hx=>(nomatch hx)⟩
 ·rw [two_tm] at hx
  have hmn:n≤m:=by rw [hm];split<;>omega
  obtain ⟨F,hF⟩:=Go.Deep.choose_lt (α:=Tm) (n:=n) (p:=fun i d=>(∀ j,j<2→W.cell? (a.add (i * 2+j))=(tmC d)[j]?)∧Sl W 1 d.A d.l.length d.c (wds d.l)∧TmIn d) (fun i hi=>by
   obtain ⟨cs',h1,h2⟩:=hx i (by omega)
   obtain ⟨_,_,h3⟩:=World.cells?_some h1
   obtain ⟨d,rfl,h4⟩:=come_timeC h2
   exact ⟨d,fun j hj=>by rw [← add_add'];exact h3 j hj,h4⟩)
  have hlen:((List.range n).map F).length=n:=by simp
  have hmem : ∀ d∈(List.range n).map F,Sl W 1 d.A d.l.length d.c (wds d.l)∧TmIn d:=fun d hd=>by
   obtain ⟨i,hi,rfl⟩:=List.mem_map.1 hd
   exact (hF i (List.mem_range.1 hi)).2
  refine ⟨some a,c,(List.range n).map F,by rw [hlen];exact hcs,⟨⟨by rw [tmsC_len],by rw [hlen];exact hnc,hcm,(fun h=>nomatch h),fun _=>⟨a,rfl,fun j u hu=>?_⟩⟩,fun d hd=>(hmem d hd).1⟩,fun d hd=>(hmem d hd).2⟩
  have hj:j<n * 2:=by
   rcases Nat.lt_or_ge j (n * 2) with q | q
   ·exact q
   ·rw [List.getElem?_eq_none (by rw [tmsC_len,hlen];exact q)] at hu
    cases hu
  have e:j=j / 2 * 2+j % 2:=by omega
  rw [e,tmsC_at _ _ _ (by rw [hlen];omega) (by omega)] at hu
  have e2:((List.range n).map F).getD (j / 2) Tm.zero=F (j / 2):=by
   rw [List.getD_eq_getElem?_getD,List.getElem?_map,List.getElem?_range (by omega)]
   rfl
  rw [e2] at hu
  rw [e,(hF (j / 2) (by omega)).1 (j % 2) (by omega)]
  exact hu
set_option maxRecDepth 100000 in
theorem come_times {base:Nat} {v:Value} {d:DataW H} {p:List MemPlace} (hv:Value.okWide Tryz.prog W .any base 27 v) (h:DataW.Trod enc Tryz.prog W 0 (fun _=>true) true 27 v d p) :
  ∃ A c L,v = .slice A (List.length L) c∧Tin W A c L ∧ ∀ x∈L,TmIn x:=by
 obtain ⟨fuel,hf⟩:=h
 obtain ⟨A,c,l,e,h1,h2⟩:=come_timesC hf
 obtain ⟨A',n',c',rfl⟩:=okWide_slice Tryz.underlying27 hv
 have e':(Value.slice A' n' c') = .slice A l.length c:=by injection e
 exact ⟨A,c,l,e',h1,h2⟩
end
end Go.Proofs.YtdgbkpoickbidaaGreatDoor
