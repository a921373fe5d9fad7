/- penstocklaw14.valid, sound: are all rows such as may be? linear.Project's closure: a row's columns anew. A range over a function that tells of each thing it hands out what it is like in memory; the loop's body goes on each time. linear.each's closure at a projection: each update with a row and counters of its own, handed out. A join with its sides exchanged tells the same, with the halves of the rows exchanged. Plain. What is known of steps that are few and sound. Plain. Two joins, their sides exchanged, as steps come. slices.AppendSeq, slices.Collect, linear.all, linear.Project. The plain law of penstockref10.add: one more update, put into its place. Antichains: what is beyond both, with one more, the time that stands for another one. Plain. penstockref04.Cmp: what it answers. penstockref04.Cmp, its answer a name. penstockref01.sign, Cmp: they answer what datum's answer. Conditions: each theorem states its own. -/
import Derived.Test.YtdgbkpoickbidaaHz9
import Derived.Test.YtdgbkpoickbidaaHz3
import Derived.Test.YtdgbkpoickbidaaHz4
import Derived.Test.YtdgbkpoickbidaaHz5
import Derived.Test.YtdgbkpoickbidaaHz8
import Derived.Test.YtdgbkpoickbidaaHz2
import Derived.Test.YtdgbkpoickbidaaHz1
namespace Go.Proofs.Ytdgbkpoickbidaa
open Go.RowKit

def okR (u:Ud):Bool:=decide (checkR u.l=0)
def okL (L:List Ud):Bool:=L.all okR
def okM (M:List Stp):Bool:=M.all fun x=>okL x.L&&okL x.R
theorem refCheckY_lit (A:Option Addr) (c n:Nat) (l:List Dat) (w:World) (e1:Hid (n=l.length)) (h1:Hid (Rw w A c l)) (ht:Hid (∀ d∈l,d.s.size≤140737488355328)) :
  Calls Try.prog 31 #[.slice A n c] w fun e w'=>e = .returned (.int .i64 (checkR l))∧Ext w w':=refCheckZ_any A c n l w e1.out h1.out ht.out
set_option maxRecDepth 100000 in
set_option maxHeartbeats 4000000 in
theorem valid_any (A:Option Addr) (c n:Nat) (L:List Ud) (w:World) (hn:Hid (n=L.length)) (hL:Hid (Uin w A c L)) (ht:Hid (∀ u∈L, ∀ t∈u.l,t.s.size≤140737488355328)) (h9:n≤140737488355328) :
  Calls Try.prog 16 #[.slice A n c] w fun e w'=>e = .returned (.bool (okL L))∧Ext w w':=by
 obtain ⟨b,hb0⟩ : ∃ b,okL L=b:=⟨_,rfl⟩
 rw [hb0]
 have HB:=Lib.hid hb0
 clear hb0
 go_enter Try.func16,Try.ntmps16
 go_wp2
 go_loopg [3] n (fun z v3 wr => ∃ (i:Nat),z=n - i∧i≤n∧v3 = .int .i64 i∧Hid (∀ u∈L.take i,okR u=true)∧Hid (Ext w wr))
 case atStart=>exact ⟨0,rfl,Nat.zero_le _,rfl,Lib.hid (fun u hu=>by simp at hu),Lib.hid (Ext.refl _)⟩
 case round =>
  obtain ⟨i,rfl,hi,rfl,HC,HE⟩:=hrel
  by_cases hlt:i<n
  ·have hiL:i<L.length:=by rw [← hn.out];exact hlt
   have HIL:=Lib.hid hiL
   obtain ⟨ad,rfl,r0,_⟩:=(hL.out.ext HE.out).at hiL
   have HRW:=Lib.hid ((hL.out.ls _ (getU_mem hiL)).r.ext HE.out)
   have HTX:=Lib.hid (ht.out _ (getU_mem hiL))
   have HMM:=Lib.hid (getU_mem hiL)
   obtain ⟨y,hy⟩ : ∃ y,L.getD i Ud.zero=y:=⟨_,rfl⟩
   rw [hy] at r0 HRW HTX HMM
   have HY:=Lib.hid hy
   obtain ⟨yr,hyr⟩ : ∃ k,y.l.length=k:=⟨_,rfl⟩
   rw [hyr] at r0
   have HYR:=Lib.hid hyr.symm
   clear hy hyr hiL
   by_cases h0:checkR y.l=0
   ·have HK:=Lib.hid h0
    clear h0
    go_wp2_with (go_at_call 31;refine (refCheckY_lit y.A y.c yr y.l _ HYR HRW HTX).mono ?_;rw [HK.out];rintro e w1 ⟨rfl,x1⟩;have X1:=Lib.hid x1;clear x1)
    go_roundg (n - (i+1))
    case measure=>omega
    case rel=>exact ⟨i+1,by omega,by omega,by go_num,Lib.hid (fun u hu=>by
     rw [takeU HIL.out] at hu
     rcases List.mem_append.1 hu with q | q
     ·exact HC.out u q
     ·rw [List.mem_singleton.1 q,HY.out];exact decide_eq_true HK.out),Lib.hid (HE.out.trans X1.out)⟩
   ·obtain ⟨k,hk⟩ : ∃ k,checkR y.l=k:=⟨_,rfl⟩
    rw [hk] at h0
    have HK:=Lib.hid hk
    clear hk
    have hne:((k:Int) != 0)=true:=by simpa using h0
    go_wp2_with (go_at_call 31;refine (refCheckY_lit y.A y.c yr y.l _ HYR HRW HTX).mono ?_;rw [HK.out];rintro e w1 ⟨rfl,x1⟩;have X1:=Lib.hid x1;clear x1)
    go_ret
    refine ⟨ret_bool ?_,HE.out.trans X1.out⟩
    rw [← HB.out]
    have:okR y=false:=decide_eq_false (by rw [HK.out];exact h0)
    exact (List.all_eq_false.2 ⟨y,HMM.out,by rw [this];decide⟩).symm
  ·obtain rfl:i=n:=by omega
   go_wp2
   go_ret
   refine ⟨ret_bool ?_,HE.out⟩
   rw [← HB.out]
   have:=HC.out
   rw [hn.out,List.take_length] at this
   exact (List.all_eq_true.2 this).symm
theorem valid_at {v:Bool} (A:Option Addr) (c n:Nat) (L:List Ud) (w:World) (hv:Hid (okL L=v)) (hn:Hid (n=L.length)) (hL:Hid (Uin w A c L)) (ht:Hid (∀ u∈L, ∀ t∈u.l,t.s.size≤140737488355328)) (h9:n≤140737488355328) :
  Calls Try.prog 16 #[.slice A n c] w fun e w'=>e = .returned (.bool v)∧Ext w w':=hv.out ▸ valid_any A c n L w hn hL ht h9
set_option maxRecDepth 100000 in
set_option maxHeartbeats 4000000 in
theorem sound_any (A:Option Addr) (c n:Nat) (M:List Stp) (w:World) (hn:Hid (n=M.length)) (hM:Hid (Stin w A c M)) (hb:Hid (∀ x∈M,stpB x 140737488355328∧stpX x 140737488355328)) (h9:n≤140737488355328) :
  Calls Try.prog 6 #[.slice A n c] w fun e w' => ∃ v,e = .returned (.bool v)∧(v=true→okM M=true)∧Ext w w':=by
 go_enter Try.func6,Try.ntmps6
 go_wp2
 go_loopg [3] n (fun z v3 wr => ∃ (i:Nat),z=n - i∧i≤n∧v3 = .int .i64 i∧Hid (∀ x∈M.take i,(okL x.L&&okL x.R)=true)∧Hid (Ext w wr))
 case atStart=>exact ⟨0,rfl,Nat.zero_le _,rfl,Lib.hid (fun u hu=>by simp at hu),Lib.hid (Ext.refl _)⟩
 case round =>
  obtain ⟨i,rfl,hi,rfl,HC,HE⟩:=hrel
  by_cases hlt:i<n
  ·have hiM:i<M.length:=by rw [← hn.out];exact hlt
   have HIM:=Lib.hid hiM
   obtain ⟨x,hx⟩ : ∃ x,M.getD i Stp.zero=x:=⟨_,rfl⟩
   have hxm:x∈M:=hx ▸ getSt_mem hiM
   obtain ⟨ad,hA,_,_,q2,q3⟩:=(hM.out.ext HE.out).at hiM hx
   have HXR:Hid (StpR wr x):=Lib.hid ((hM.out.ls x hxm).ext HE.out)
   obtain ⟨⟨_,hl2,hl3⟩,ht2,ht3⟩:=hb.out x hxm
   have HT2:=Lib.hid ht2
   have HT3:=Lib.hid ht3
   have HX:=Lib.hid hx
   obtain ⟨nL,hnL⟩ : ∃ k,x.L.length=k:=⟨_,rfl⟩
   obtain ⟨nR,hnR⟩ : ∃ k,x.R.length=k:=⟨_,rfl⟩
   rw [hnL] at q2 hl2
   rw [hnR] at q3 hl3
   have HNL:=Lib.hid hnL.symm
   have HNR:=Lib.hid hnR.symm
   have D3:Hid (∀ W,Ext wr W→W.cell? ⟨(ad.add (i * 4)).block,(ad.add (i * 4)).off+3,none⟩=some (.slice x.B nR x.b)):=Lib.hid (fun W y=>y.cell q3)
   rw [hA]
   clear hnL hnR hx hxm hiM q3 ht2 ht3
   obtain ⟨a,ha⟩ : ∃ a,okL x.L=a:=⟨_,rfl⟩
   obtain ⟨b,hb2⟩ : ∃ b,okL x.R=b:=⟨_,rfl⟩
   have HA:=Lib.hid ha
   have HB:=Lib.hid hb2
   clear ha hb2
   have m1:True:=trivial
   cases a with
   | true =>
    cases b with
    | true =>
     go_wp2_with (first
      | (have z:=m1;clear z m1;go_at_call 16;refine (valid_at x.A x.c nL x.L _ HA HNL (Lib.hid HXR.out.u) HT2 hl2).mono ?_;rintro e w1 ⟨rfl,x1⟩;have X1:=Lib.hid x1;have q3:=D3.out _ x1;clear x1)
      | (go_at_call 16;refine (valid_at x.B x.b nR x.R _ HB HNR (Lib.hid (HXR.out.v.ext X1.out)) HT3 hl3).mono ?_;rintro e w2 ⟨rfl,x2⟩;have X2:=Lib.hid (X1.out.trans x2);clear x2))
     rw [← hA]
     go_roundg (n - (i+1))
     case measure=>omega
     case rel=>exact ⟨i+1,by omega,by omega,by go_num,Lib.hid (fun u hu=>by
      rw [takeSt HIM.out] at hu
      rcases List.mem_append.1 hu with q | q
      ·exact HC.out u q
      ·rw [List.mem_singleton.1 q,HX.out,HA.out,HB.out];rfl),Lib.hid (HE.out.trans X2.out)⟩
    | false =>
     go_wp2_with (first
      | (have z:=m1;clear z m1;go_at_call 16;refine (valid_at x.A x.c nL x.L _ HA HNL (Lib.hid HXR.out.u) HT2 hl2).mono ?_;rintro e w1 ⟨rfl,x1⟩;have X1:=Lib.hid x1;have q3:=D3.out _ x1;clear x1)
      | (go_at_call 16;refine (valid_at x.B x.b nR x.R _ HB HNR (Lib.hid (HXR.out.v.ext X1.out)) HT3 hl3).mono ?_;rintro e w2 ⟨rfl,x2⟩;have X2:=Lib.hid (X1.out.trans x2);clear x2))
     go_ret
     exact ⟨_,rfl,fun h=>(nomatch h),HE.out.trans X2.out⟩
   | false =>
    cases b with
    | true =>
     go_wp2_with (first
      | (have z:=m1;clear z m1;go_at_call 16;refine (valid_at x.A x.c nL x.L _ HA HNL (Lib.hid HXR.out.u) HT2 hl2).mono ?_;rintro e w1 ⟨rfl,x1⟩;have X1:=Lib.hid x1;have q3:=D3.out _ x1;clear x1)
      | (go_at_call 16;refine (valid_at x.B x.b nR x.R _ HB HNR (Lib.hid (HXR.out.v.ext X1.out)) HT3 hl3).mono ?_;rintro e w2 ⟨rfl,x2⟩;have X2:=Lib.hid (X1.out.trans x2);clear x2))
     go_ret
     exact ⟨_,rfl,fun h=>(nomatch h),HE.out.trans X2.out⟩
    | false =>
     go_wp2_with (first
      | (have z:=m1;clear z m1;go_at_call 16;refine (valid_at x.A x.c nL x.L _ HA HNL (Lib.hid HXR.out.u) HT2 hl2).mono ?_;rintro e w1 ⟨rfl,x1⟩;have X1:=Lib.hid x1;have q3:=D3.out _ x1;clear x1)
      | (go_at_call 16;refine (valid_at x.B x.b nR x.R _ HB HNR (Lib.hid (HXR.out.v.ext X1.out)) HT3 hl3).mono ?_;rintro e w2 ⟨rfl,x2⟩;have X2:=Lib.hid (X1.out.trans x2);clear x2))
     go_ret
     exact ⟨_,rfl,fun h=>(nomatch h),HE.out.trans X2.out⟩
  ·obtain rfl:i=n:=by omega
   go_wp2
   go_ret
   refine ⟨_,rfl,fun _=>?_,HE.out⟩
   have:=HC.out
   rw [hn.out,List.take_length] at this
   exact List.all_eq_true.2 this
open Go.RowKit
def projR (cols:List Int) (l:List Dat):List Dat:=cols.map fun c=>l.getD c.toNat Dat.zero
theorem projR_take {cols:List Int} {l:List Dat} {i:Nat} (h:i<cols.length):projR (cols.take (i+1)) l=projR (cols.take i) l++[l.getD (cols.getD i 0).toNat Dat.zero]:=by
 unfold projR
 rw [List.take_succ_eq_append_getElem h,List.map_append,List.getD_eq_getElem?_getD (l:=cols),List.getElem?_eq_getElem h]
 rfl
/-- what the closure leaves -/
def ProjOut (ub:Nat) (cols:List Int) (l:List Dat) (e:Int) (B:Option Addr) (b bc:Nat) (d:Int) (w:World) (r:Ending) (w':World):Prop:=r = .returned (.bool true) ∧ ∃ (A':Option Addr) (n' c':Nat),n'=cols.length∧Bk w' ub 51 #[.slice A' n' c', .int .u64 e, .slice B b bc, .int .i64 d] ∧
 Own w' w.heap.size 55 4 A' n' c' (rowC (projR cols l))∧Upd (fun k=>k=ub) w w'
set_option maxRecDepth 100000 in
set_option maxHeartbeats 4000000 in
theorem proj1_any (ub gb n c cn cc b bc:Nat) (A CA B:Option Addr) (e d:Int) (l:List Dat) (cols:List Int) (w:World) (hu:Hid (Bk w ub 51 #[.slice A n c, .int .u64 e, .slice B b bc, .int .i64 d])) (hg:Hid (Bk w gb 22 #[.slice CA cn cc])) (hl:Hid (Rw w A c l)) (hn:Hid (n=l.length)) (hc:Hid (Is w CA cc cols)) (hcn:Hid (cn=cols.length)) (hr:Hid (∀ x∈cols,0≤x∧x<l.length)) (h1:cn≤1000) :
  Calls Try.prog 26 #[.pointer (some ⟨ub,0,none⟩), .pointer (some ⟨gb,0,none⟩)] w (ProjOut ub cols l e B b bc d w):=by
 have g0:=hg.out.cell 0
 go_enter Try.func26,Try.ntmps26
 go_wp2
 go_loopg [4,10] cn (fun z v4 v10 wr => ∃ (i q c0:Nat) (A0:Option Addr),z=cn - i∧i≤cn∧q≤i∧v4 = .slice A0 q c0∧v10 = .int .i64 i∧Hid (q=i)∧Hid (Own wr w.heap.size 55 4 A0 q c0 (rowC (projR (cols.take i) l)))∧Hid (Ext w wr))
 case atStart=>exact ⟨0,0,0,none,rfl,Nat.zero_le _,Nat.le_refl _,rfl,rfl,Lib.hid rfl,Lib.hid (Own.nil _ _ _ _),Lib.hid (Ext.refl w)⟩
 case round =>
  obtain ⟨i,q,c0,A0,rfl,hi,hq,rfl,rfl,HQ,HO,HE⟩:=hrel
  by_cases hlt:i<cn
  ·have hil:i<cols.length:=by rw [← hcn.out];exact hlt
   obtain ⟨ad,hA,q0⟩:=(hc.out.ext HE.out).at hil
   have hx0:=hr.out _ (by rw [List.getD_eq_getElem?_getD,List.getElem?_eq_getElem hil];exact List.getElem_mem hil:cols.getD i 0∈cols)
   have HT:=Lib.hid (projR_take (l:=l) hil)
   obtain ⟨j,hj⟩ : ∃ j:Nat,cols.getD i 0=(j:Int):=⟨(cols.getD i 0).toNat,by omega⟩
   rw [hj] at q0 HT hx0
   rw [Int.toNat_natCast] at HT
   have hjn:j<n:=by rw [hn.out];omega
   obtain ⟨bd,hB,p0,p1,p2,p3⟩:=(hl.out.ext HE.out).at (i:=j) (by rw [← hn.out];exact hjn)
   obtain ⟨x,hx⟩ : ∃ x,l.getD j Dat.zero=x:=⟨_,rfl⟩
   rw [hx] at p0 p1 p2 p3 HT
   rw [hA]
   have bu:=Bk.ext hu.out HE.out
   have u0:=bu.cell 0
   have U1:=Lib.hid (((Ext.refl wr).alloc (.cells #[.int .u8 1, .bool false, .int .i64 0, .string ⟨#[]⟩] 55)).cell u0)
   have u1:=U1.out
   have pp0:=((Ext.refl wr).alloc (.cells #[.int .u8 1, .bool false, .int .i64 0, .string ⟨#[]⟩] 55)).cell p0
   have pp1:=((Ext.refl wr).alloc (.cells #[.int .u8 1, .bool false, .int .i64 0, .string ⟨#[]⟩] 55)).cell p1
   have pp2:=((Ext.refl wr).alloc (.cells #[.int .u8 1, .bool false, .int .i64 0, .string ⟨#[]⟩] 55)).cell p2
   have pp3:=((Ext.refl wr).alloc (.cells #[.int .u8 1, .bool false, .int .i64 0, .string ⟨#[]⟩] 55)).cell p3
   rw [hB] at u0 u1
   clear hx0 hx hil hj bu
   go_upto_region 8 with fail
   obtain ⟨w2,hw2⟩ : ∃ w2,w2=wr.alloc (.cells #[.int .u8 x.k, .bool x.b, .int .i64 x.n, .string x.s] 55):=⟨_,rfl⟩
   have X2:Hid (Ext wr w2):=Lib.hid (by rw [hw2];exact (Ext.refl wr).alloc _)
   have b2:Bk w2 wr.heap.size 55 #[.int .u8 x.k, .bool x.b, .int .i64 x.n, .string x.s]:=by
    rw [hw2]
    exact Bk.new wr 55 #[.int .u8 x.k, .bool x.b, .int .i64 x.n, .string x.s]
   rw [← hw2]
   clear hw2 pp0 pp1 pp2 pp3 u1 u0
   have e0:=b2.cell 0
   have e1:=b2.cell 1
   have e2:=b2.cell 2
   have e3:=b2.cell 3
   have HOW:Hid (Own (w2.alloc (.cells #[.int .u8 x.k, .bool x.b, .int .i64 x.n, .string x.s] 55)) w.heap.size 55 4 A0 q c0 (rowC (projR (cols.take i) l))):=Lib.hid ((HO.out.ext X2.out).alloc _)
   have hws:w.heap.size≤w2.heap.size:=Nat.le_trans HE.out.size X2.out.size
   go_wp2_with (at_builtin;refine wpList_append_two _ elem_dat w.heap.size _ _ rfl rfl A0 q c0 (rowC (projR (cols.take i) l)) rfl HOW.out (some ⟨w2.heap.size,0,none⟩) 1 1 (datC x) rfl (Sl.one w2 #[.int .u8 x.k, .bool x.b, .int .i64 x.n, .string x.s] 55 4 rfl) (by intro u hu;simp [datC] at hu;rcases hu with rfl | rfl | rfl | rfl<;>rfl) (by omega) (by decide) (by simp;omega) ?_;intro A5 c5 w5 o5 g5 x5;have HO5:=Lib.hid o5;have HG5:=Lib.hid g5;clear o5 g5 x5)
   rw [← hA]
   go_roundg (cn - (i+1))
   case measure=>omega
   case rel =>
    have hrow : ∀ k,blk A0 c0=some k→w.heap.size≤k:=fun k hk=>(HO.out.lt k hk).1
    refine ⟨i+1,q+1,c5,A5,rfl,by omega,by omega,rfl,by go_num,Lib.hid (by rw [HQ.out]),Lib.hid (by rw [HT.out,rowC_append,show rowC [x]=datC x by simp [rowC]];exact HO5.out),Lib.hid (((HE.out.trans X2.out).alloc _).grown HG5.out hrow)⟩
  ·obtain rfl:cn=i:=by omega
   have bu:=Bk.ext hu.out HE.out
   have u0:=bu.cell 0
   have f0:=bu.free 0
   have HB:=Lib.hid bu
   clear bu
   go_wp2
   go_ret
   refine ⟨rfl,A0,q,c0,by rw [HQ.out,hcn.out],HB.out.set 0 _,?_,?_⟩
   ·have:=HO.out
    rw [hcn.out,List.take_length] at this
    exact this.far (fun e=>by have h1:w.heap.size≤ub:=(HO.out.lt ub e).1;have:=hu.out.lt;omega) _
   ·exact (Upd.ext (S:=fun k=>k=ub) HE.out).setCell (p:=⟨ub,0,none⟩) (.inl (Eq.refl ub)) _
open Go.RowKit
/-- a loop goes round: the iterator's word, at whatever the loop has to keep -/
def Tells {α:Type} (P:Program) (gf:Nat) (lb:Array Value) (encs:α→Array Value) (Px:α→World→Prop) (Kp:World→World→Prop) (S:List α→Prop) (N:Nat) (w:World):Prop :=
 ∀ (l:Nat) (J:List α→World→Prop) (W:World),Ext w W→(∀ s X Y,J s X→Ext X Y→J s Y) →
  (∀ pre x X,J pre X→Px x X→pre.length<N→YieldAt Fence.wide 6 P l (encs x) X fun e Y=>e = .returned (.bool true)∧J (pre++[x]) Y∧Kp X Y)→J [] W →
  CallsIn Fence.wide 7 P gf (#[.func (.yield l) #[] #[]]++lb) W fun e Y=>(∃ v,e = .returned v) ∧ ∃ xs,S xs∧J xs Y
/-- how a round's body ends -/
def goesOn (B:Nat) (Kp:World→World→Prop) (T:World→Prop) (W:World):Exit→Act→World→Prop
 | .normal,_,Y=>KeepsFrom B W Y∧Kp W Y∧T Y
 | _,_,_=>False
theorem range_told {α:Type} {P:Program} {g:Operand} {ps:Array Tmp} {assign body:Code} {Q:Exit→Act→World→Prop} {a:Act} {w:World} {gf:Nat} {lb:Array Value} (hg:a.eval g = .func (.func gf) #[] lb) (eg : ∀ args w,(callFunc gf args).run P w = .ok (.enter gf args) w)
  {encs:α→Array Value} {Px:α→World→Prop} {Kp:World→World→Prop} {S:List α→Prop} {N:Nat} (hseq:Tells P gf lb encs Px Kp S N w) (hps : ∀ x,(encs x).size=ps.size)
  (hKt : ∀ {A B C:World},Kp A B→Kp B C→Kp A C) (hKb : ∀ (W:World) (l:Nat) (o':Obj),w.heap.size≤l→Kp W (W.putObj l o'))
  (I:List α→World→Prop) (hI:OwnFrom w.heap.size I) (h0:I [] w) (Ax:α→Act→World→Prop) (hAx : ∀ x a',OwnFrom w.heap.size (fun (_:Unit) W=>Ax x a' W))
  (hassign : ∀ (l:Nat) (pre:List α) (x:α) (W:World) (K:Act→World→Prop),I pre W→Px x W→(∀ a' Y,KeepsFrom w.heap.size W Y→Kp W Y→I pre Y→Ax x a' Y→K a' Y) →
   assign.wpIn (rnd l) 6 P (Exit.then K (fun _ _ _=>False)) { tmps:=(ps.zip (encs x)).foldl (fun t (p,v)=>t.setIfInBounds p v) a.tmps,defers:=[] } W)
  (hbody : ∀ (l:Nat) (pre:List α) (x:α) (a':Act) (W:World),I pre W→Ax x a' W→pre.length<N→body.wpIn (rnd l) 6 P (goesOn w.heap.size Kp (I (pre++[x])) W) a' W)
  (hdone : ∀ (D:Nat) (xs:List α) (W:World),w.heap.size≤D→S xs→I xs W→W.heap[D]?=some (.deferred (some []))→Q .normal { a with defers:={ target := .collected D,args := #[] } :: a.defers } W) :
  (Code.rangeFunc g ps assign body).wpIn Fence.wide 8 P Q a w:=by
 refine wpIn_rangeFunc fun fn _=>?_
 obtain ⟨rc,hrc⟩ : ∃ rc:LoopState→Loop,rc=fun st=>{ state:=st,pending:=none,fn,tmps:=a.tmps,params:=ps,assign,body,defers:=w.heap.size }:=⟨_,rfl⟩
 obtain ⟨V,hV⟩ : ∃ V,V=(w.alloc (.deferred (some []))).alloc (.loop (rc .ready)):=⟨_,rfl⟩
 have xV:Ext w V:=by rw [hV];exact ((Ext.refl w).alloc _).alloc _
 have hVl:V.heap[w.heap.size+1]?=some (.loop (rc .ready)):=by
  have:=heap_alloc_new (w.alloc (.deferred (some []))) (.loop (rc .ready))
  rw [hV]
  simpa using this
 have hVd:V.heap[w.heap.size]?=some (.deferred (some [])):=by
  rw [hV]
  exact ((Ext.refl _).alloc _).heap (heap_alloc_new w _)
 refine ⟨w.heap.size+1,[{ target := .collected w.heap.size,args := #[] }],V,{ target := .fn (.func gf) lb,args := #[.func (.yield (w.heap.size+1)) #[] #[]] },V,gf, #[.func (.yield (w.heap.size+1)) #[] #[]]++lb,V,?_,?_,fun _ _=>trivial,?_,fun h=>(by cases h),?_⟩
 ·rw [hV,hrc];exact run_enterLoop_outer _ _ _ _ _
 ·simp only [resolve,hg]
  simp [go_sem]
 ·simp [invoke,go_sem,eg]
 refine (hseq (w.heap.size+1) (fun pre W=>I pre W∧W.heap[w.heap.size+1]?=some (.loop (rc .ready))∧W.heap[w.heap.size]?=some (.deferred (some []))) V xV
  (fun s X Y h x=>⟨hI s X Y none h.1 (ext_grown x) (fun r e=>(by cases e)),x.heap h.2.1,x.heap h.2.2⟩) ?_ ⟨hI [] w V none h0 (ext_grown xV) (fun r e=>(by cases e)),hVl,hVd⟩).mono ?_
 ·rintro pre x X ⟨hi,hl,hd⟩ hp hlen
  have hy:=run_yield (P:=P) (args:=encs x) hl (by rw [hrc];exact hps x)
  refine ⟨(rc .ready).fn,_,_,_,hy,roundIn_of_wpIn trivial ?_⟩
  rw [hrc]
  refine hassign _ pre x X _ hi hp fun a' Y ky pk hi2 ax=>?_
  have hl2:=ky.same _ _ (by omega) hl rfl
  have hd2:=ky.same _ _ (Nat.le_refl _) hd rfl
  have hlt:w.heap.size+1<Y.heap.size:=(Array.getElem?_eq_some_iff.1 hl2).1
  refine ⟨_,run_beginRound hl2 (by rw [hrc]),?_⟩
  obtain ⟨Z,hZ⟩ : ∃ Z,Z=Y.putObj (w.heap.size+1) (.loop { rc .ready with state := .busy }):=⟨_,rfl⟩
  have zl:Z.heap[w.heap.size+1]?=some (.loop { rc .ready with state := .busy }):=by rw [hZ];exact World.putObj_heap_same hlt
  have zd:Z.heap[w.heap.size]?=some (.deferred (some [])):=by rw [hZ];exact (World.putObj_heap_other (by omega)).trans hd2
  have zi:I pre Z:=by rw [hZ];exact hI.putObj _ hi2 (by omega) hl2 rfl
  have za:Ax x a' Z:=by rw [hZ];exact (hAx x a').putObj (s:=()) _ ax (by omega) hl2 rfl
  have zk:Kp X Z:=by rw [hZ];exact hKt pk (hKb _ _ _ (by omega))
  rw [← hZ]
  refine wpIn_mono (hbody _ pre x a' Z zi za hlen) fun e a3 W3 hp=>?_
  cases e with
  | normal =>
   obtain ⟨k3,p3,i3⟩:=hp
   have l3:=k3.same _ _ (by omega) zl rfl
   have d3:=k3.same _ _ (Nat.le_refl _) zd rfl
   have hr:=run_endRound (P:=P) none l3
   refine ⟨_,_,hr,rfl,⟨hI.putObj _ i3 (by omega) l3 rfl,?_,(World.putObj_heap_other (by omega)).trans d3⟩,hKt (hKt zk p3) (hKb _ _ _ (by omega))⟩
   rw [World.putObj_heap_same (Array.getElem?_eq_some_iff.1 l3).1]
   rw [hrc]
   rfl
  | _=>exact hp.elim
 ·rintro e Y ⟨⟨v,rfl⟩,xs,hS,hi,hl,hd⟩
  have hr:=run_endLoop (P:=P) hl (by rw [hrc];simp)
  exact ⟨_,_,hr,by
   rw [hrc]
   exact hdone _ xs _ (Nat.le_refl _) hS (hI.putObj _ hi (by omega) hl rfl) ((World.putObj_heap_other (by omega)).trans hd)⟩
open Go.RowKit
attribute [local go_sem] Oper.semAt_some

def projU (cols:List Int) (u:UV):UV:=((projR cols u.1.1,u.1.2),u.2)
theorem map_snoc {α:Type} {f:UV→α} {pre:List Ud} {l:List Ud} {i:Nat} {g:Ud→α} (h:pre.map g=(l.take i).map fun x=>f x.uv) (hi:i<l.length) {x:Ud} (hx:g x=f (l.getD i Ud.zero).uv):(pre++[x]).map g=(l.take (i+1)).map fun x=>f x.uv:=by
 rw [takeU hi,List.map_append,List.map_append,h]
 simp [hx]
set_option maxRecDepth 100000 in
set_option maxHeartbeats 8000000 in
theorem each1_in (li lb db gb n c cn cc:Nat) (A CA:Option Addr) (cols:List Int) (L:List Ud) (J:List Ud→World→Prop) (w W:World) (hW:Hid (Ext w W)) (hJ:Hid (∀ s X Y,J s X→Ext X Y→J s Y))
  (hY : ∀ pre x X,J pre X→UdO X x→pre.length<n→YieldAt Fence.wide 6 Try.prog li #[udV x] X fun e Y=>e = .returned (.bool true)∧J (pre++[x]) Y∧Upd (fun k=>w.heap.size≤k) X Y)
  (hl:Hid (Bk w lb 33 #[.slice A n c])) (hd:Hid (Bk w db 74 #[.func (.func 26) #[] #[.pointer (some ⟨gb,0,none⟩)]])) (hg:Hid (Bk w gb 22 #[.slice CA cn cc]))
  (hL:Hid (Uin w A c L)) (hn:Hid (n=L.length)) (hc:Hid (Is w CA cc cols)) (hcn:Hid (cn=cols.length)) (hr:Hid (∀ y∈L, ∀ x∈cols,0≤x∧x<y.l.length)) (h1:cn≤1000) (h9:n≤1000000) (hz:Hid (∀ y∈L,y.l.length≤100000∧y.t.l.length≤100000)) (h:J [] W) :
  CallsIn Fence.wide 7 Try.prog 62 #[.func (.yield li) #[] #[], .pointer (some ⟨lb,0,none⟩), .pointer (some ⟨db,0,none⟩)] W fun e Y=>(∃ v,e = .returned v) ∧ ∃ xs:List Ud,xs.map Ud.uv=L.map (fun x=>projU cols x.uv)∧J xs Y:=by
 have l0:=hW.out.cell (hl.out.cell 0)
 refine callsIn_of_wp Try.func62 rfl trivial ?_ rfl
 simp only [Try.ntmps62,List.size_toArray,List.length_cons,List.length_nil,Nat.reduceAdd,Nat.reduceSub,Array.replicate_succ,Array.replicate_zero,List.push_toArray,List.append_toArray,List.nil_append,List.cons_append]
 gi_wp2
 gi_loopw [8] (fun v wr => ∃ (i:Nat) (pre:List Ud),v = .int .i64 i∧i≤n∧Hid (pre.map Ud.uv=(L.take i).map fun x=>projU cols x.uv)∧Hid (J pre wr)∧Hid (Ext w wr)) (fun v _=>n - (intOf v).toNat)
 case atStart=>exact ⟨0,[],rfl,Nat.zero_le _,Lib.hid rfl,Lib.hid h,hW⟩
 case round =>
  obtain ⟨i,pre,rfl,hi,HP,HJr,HX⟩:=hrel
  by_cases hlt:i<n
  ·have hil:i<L.length:=by rw [← hn.out];exact hlt
   obtain ⟨ad,hA,p0,p1,p2,p3⟩:=(hL.out.ext HX.out).at hil
   have hmem:L.getD i Ud.zero∈L:=by rw [List.getD_eq_getElem?_getD,List.getElem?_eq_getElem hil];exact List.getElem_mem hil
   have HSN:=Lib.hid (fun (x:Ud) hx=>map_snoc (g:=Ud.uv) (f:=projU cols) HP.out hil (x:=x) hx)
   have HUR:=Lib.hid ((hL.out.ext HX.out).ls _ hmem)
   have HRX:=Lib.hid (hr.out _ hmem)
   have hz1:=hz.out _ hmem
   obtain ⟨x,hx⟩ : ∃ x,L.getD i Ud.zero=x:=⟨_,rfl⟩
   rw [hx] at p0 p1 p2 p3 HSN HUR HRX hz1
   obtain ⟨nx,hnx⟩ : ∃ nx,x.l.length=nx:=⟨_,rfl⟩
   obtain ⟨tx,htx⟩ : ∃ tx,x.t.l.length=tx:=⟨_,rfl⟩
   have hzn:nx≤100000:=by rw [← hnx];exact hz1.1
   have hzt:tx≤100000:=by rw [← htx];exact hz1.2
   have HNX:=Lib.hid hnx.symm
   have HTX:=Lib.hid htx.symm
   rw [hnx] at p0
   rw [htx] at p2
   rw [hA]
   clear hx hil hmem hnx htx hz1
   gi_wp2
   refine wpIn_wide.2 ?_
   obtain ⟨w0,hw0⟩ : ∃ w0,w0=wr.alloc (Obj.cells #[.slice x.A nx x.c, .int .u64 x.t.e, .slice x.t.A tx x.t.c, .int .i64 x.d] 51):=⟨_,rfl⟩
   have x0:Ext wr w0:=hw0 ▸ (Ext.refl wr).alloc _
   have a0:Bk w0 wr.heap.size 51 #[.slice x.A nx x.c, .int .u64 x.t.e, .slice x.t.A tx x.t.c, .int .i64 x.d]:=by subst hw0;exact Bk.new _ _ _
   have hs0:w0.heap.size=wr.heap.size+1:=by rw [hw0];simp
   rw [← hw0]
   clear hw0 p0 p1 p2 p3
   have X:Ext w0 w0.drew:=(Ext.refl w0).drew
   have q0 : ∀ y:Xt w0.drew,y.W.cell? ⟨wr.heap.size,0,none⟩=some (.slice x.A nx x.c):=fun y=>(a0.ext (X.trans y.x)).cell 0
   have q2 : ∀ y:Xt w0.drew,y.W.cell? ⟨wr.heap.size,2,none⟩=some (.slice x.t.A tx x.t.c):=fun y=>(a0.ext (X.trans y.x)).cell 2
   have HR:=Lib.hid (HUR.out.r.ext (x0.trans X))
   have HT:Hid (Sl wr 1 x.t.A tx x.t.c (wds x.t.l)):=Lib.hid (by rw [HTX.out];exact HUR.out.t)
   refine wp_region_ord [0,1,3,0,8,24,63,127,255,511,1023,2047] (.flo [0,1,3,4,5] (.ext 2 (.one 6 (.flo [7] (.one 8 (.flo [9,10] (.one 11 (.fin)))))))) (by kernel_rfl) (by kernel_rfl) (by intro _ _ d _ _ h;cases d<;>exact h) ?_
   (refine ord_flo (pick_cons rfl (pick_cons rfl (pick_cons rfl (pick_cons rfl (pick_cons rfl pick_nil))))) ?_;(repeat (go_big_quiet_step (fail)));refine wpQuiet_nil ?_;show ordWalk _ _ _ _ _ _ _)
   refine ord_ext (pick_cons rfl pick_nil) ?_;intro K_ hK_
   go_wp2_with (go_at_call 54;refine (clone_lit x.A x.c nx x.l _ HNX HR (by omega)).mono ?_;rintro e w1 ⟨⟨A1,c1,rfl,o1,b1⟩,x1⟩)
   refine ordNext.mk x1 ?_
   refine ord_one (pick_cons rfl pick_nil) ?_;intro K_ hK_
   have hs1:=(X.trans x1).size
   go_wp2_with (go_at_call 55;refine (clone_words x.t.A tx x.t.c _ _ (HT.out.ext ((x0.trans X).trans x1)) (wds_one _) (by omega)).mono ?_;rintro e w2 ⟨A2,c2,rfl,o2,x2⟩)
   have XE:Ext w0 w2:=(X.trans x1).trans x2
   have O1:Hid (Own w2 w0.heap.size 55 4 A1 nx c1 (rowC x.l)):=Lib.hid ((Own.ext o1 x2).mono X.size)
   have O2:Hid (Own w2 w0.heap.size 103 1 A2 tx c2 (wds x.t.l)):=Lib.hid (Own.mono o2 hs1)
   have a2:=a0.ext XE
   have p0:=a2.cell 0
   have f0:=a2.free 0
   have hs2:=XE.size
   clear o1 o2 b1 q0 q2
   (refine ord_flo (pick_cons rfl pick_nil) ?_;(repeat (go_big_quiet_step (fail)));refine wpQuiet_nil ?_;show ordWalk _ _ _ _ _ _ _)
   refine ord_one (pick_cons rfl pick_nil) ?_;intro K_ hK_
   go_wp2
   obtain ⟨w3,hw3⟩ : ∃ w3,w3=w2.setCell ⟨wr.heap.size,0,none⟩ (.slice A1 nx c1):=⟨_,rfl⟩
   have a3:Bk w3 wr.heap.size 51 #[.slice A1 nx c1, .int .u64 x.t.e, .slice x.t.A tx x.t.c, .int .i64 x.d]:=by rw [hw3];exact a2.set 0 _
   have O1:Hid (Own w3 w0.heap.size 55 4 A1 nx c1 (rowC x.l)):=Lib.hid (by rw [hw3];exact O1.out.far (O1.out.ne (by show wr.heap.size<_;omega)) _)
   have O2:Hid (Own w3 w0.heap.size 103 1 A2 tx c2 (wds x.t.l)):=Lib.hid (by rw [hw3];exact O2.out.far (O2.out.ne (by show wr.heap.size<_;omega)) _)
   have X3:Hid (Ext wr w3):=Lib.hid (by rw [hw3];exact (x0.trans XE).set (p:=⟨wr.heap.size,0,none⟩) (Nat.le_refl _) _)
   rw [← hw3]
   clear hw3 p0 f0
   have p2:=a3.cell 2
   have f2:=a3.free 2
   (refine ord_flo (pick_cons rfl (pick_cons rfl pick_nil)) ?_;(repeat (go_big_quiet_step (fail)));refine wpQuiet_nil ?_;show ordWalk _ _ _ _ _ _ _)
   refine ord_one (pick_cons rfl pick_nil) ?_;intro K_ hK_
   go_wp2
   obtain ⟨w4,hw4⟩ : ∃ w4,w4=w3.setCell ⟨wr.heap.size,2,none⟩ (.slice A2 tx c2):=⟨_,rfl⟩
   have a4:Bk w4 wr.heap.size 51 #[.slice A1 nx c1, .int .u64 x.t.e, .slice A2 tx c2, .int .i64 x.d]:=by rw [hw4];exact a3.set 2 _
   have O1:Hid (Own w4 w0.heap.size 55 4 A1 nx c1 (rowC x.l)):=Lib.hid (by rw [hw4];exact O1.out.far (O1.out.ne (by show wr.heap.size<_;omega)) _)
   have O2:Hid (Own w4 w0.heap.size 103 1 A2 tx c2 (wds x.t.l)):=Lib.hid (by rw [hw4];exact O2.out.far (O2.out.ne (by show wr.heap.size<_;omega)) _)
   have X4:Hid (Ext wr w4):=Lib.hid (by rw [hw4];exact X3.out.set (p:=⟨wr.heap.size,2,none⟩) (Nat.le_refl _) _)
   rw [← hw4]
   clear hw4 p2 f2
   refine ord_fin ?_
   have HS0:Hid (wr.heap.size<w0.heap.size):=Lib.hid (by omega)
   have BB:=Lib.hid a4
   have X5:=Lib.hid (HX.out.trans X4.out)
   have d0:=X5.out.cell (hd.out.cell 0)
   clear a0 a2 a3 a4 X XE x0 x1 x2 hs0 hs1 hs2
   have HRW:Hid (Rw w4 A1 c1 x.l):=Lib.hid (by have q:=O1.out.sl;rw [HNX.out] at q;exact q)
   gi_wp2_with (refine ⟨trivial,?_⟩;gi_at_call 26;refine (callsIn_wide.2 (proj1_any wr.heap.size gb nx c1 cn cc tx c2 A1 CA A2 x.t.e x.d x.l cols w4 BB (Lib.hid (hg.out.ext X5.out)) HRW HNX (Lib.hid (hc.out.ext X5.out)) hcn HRX h1)).mono ?_;rintro e w5 ⟨rfl,A5,n5,c5,h5,b5,o5,u5⟩;have E5:=Lib.hid (ext_upd2 X4.out u5 (fun k hk e=>by omega));have hpl:(projR cols x.l).length=n5:=(by rw [h5];simp [projR]);obtain ⟨z,hz⟩ : ∃ z:Ud,z=⟨A5,c5,projR cols x.l,⟨x.t.e,A2,c2,x.t.l⟩,x.d⟩:=⟨_,rfl⟩;have HZ:=Lib.hid hz;have UO:Hid (UdO w5 z):=Lib.hid (by rw [hz];exact ⟨by rw [hpl];exact o5.mono (Nat.zero_le _),by rw [← HTX.out];exact (O2.out.upd u5 (fun k hk e=>by have q:=(O2.out.lt k hk).1;have:=HS0.out;omega)).mono (Nat.zero_le _)⟩);have hv:udV z = .agg #[.slice A5 n5 c5, .int .u64 x.t.e, .slice A2 tx c2, .int .i64 x.d]:=(by rw [hz];unfold udV;rw [hpl, ← HTX.out]);obtain ⟨fn,tmps,assign,body,hy,hR⟩:=hY pre z w5 (hJ.out _ _ _ HJr.out E5.out) UO.out (by have q:=congrArg List.length HP.out;rw [List.length_map,List.length_map,List.length_take] at q;omega);rw [hv] at hy;have b0:=b5.cell 0;have b1:=b5.cell 1;have b2:=b5.cell 2;have b3:=b5.cell 3;clear h5 o5 u5 hpl hz hv)
   refine hR.mono ?_
   rintro e w6 ⟨rfl,hJ6,u6⟩
   have X6:=Lib.hid (ext_upd2 (HX.out.trans E5.out) u6 (fun k hk e=>by omega))
   have J6:=Lib.hid hJ6
   clear hJ6 u6
   gi_wp2
   go_roundw
   case rel=>exact ⟨i+1,pre++[z],by go_num,by omega,Lib.hid (HSN.out z (by rw [HZ.out];rfl)),J6,X6⟩
   case measure=>simp [intOf];omega
  ·obtain rfl:i=n:=by omega
   gi_wp2
   go_end0
   exact ⟨⟨_,rfl⟩,pre,by rw [HP.out,hn.out,List.take_length],HJr.out⟩
/-- the iterator's contract -/
theorem each1_tells {lb db gb n c cn cc:Nat} {A CA:Option Addr} {cols:List Int} {L:List Ud} {w:World} (hl:Bk w lb 33 #[.slice A n c]) (hd:Bk w db 74 #[.func (.func 26) #[] #[.pointer (some ⟨gb,0,none⟩)]]) (hg:Bk w gb 22 #[.slice CA cn cc])
  (hL:Uin w A c L) (hn:n=L.length) (hc:Is w CA cc cols) (hcn:cn=cols.length) (hr : ∀ y∈L, ∀ x∈cols,0≤x∧x<y.l.length) (h1:cn≤1000) (h9:n≤1000000) (hz : ∀ y∈L,y.l.length≤100000∧y.t.l.length≤100000) {w1:World} (x:Ext w w1) :
  Tells Try.prog 62 #[.pointer (some ⟨lb,0,none⟩), .pointer (some ⟨db,0,none⟩)] (fun x => #[udV x]) (fun x X=>UdO X x) (Upd fun k=>w.heap.size≤k) (fun xs=>xs.map Ud.uv=L.map fun x=>projU cols x.uv) n w1:=fun l J W hW hJ hY h =>
 each1_in l lb db gb n c cn cc A CA cols L J w W (Lib.hid (x.trans hW)) (Lib.hid hJ) hY (Lib.hid hl) (Lib.hid hd) (Lib.hid hg) (Lib.hid hL) (Lib.hid hn) (Lib.hid hc) (Lib.hid hcn) (Lib.hid hr) h1 h9 (Lib.hid hz) h
open Go.RowKit
/-! ### lists in another order -/
theorem flat_both {α β:Type} (a b:α→List β) : ∀ R:List α,(R.flatMap fun v=>a v++b v).Perm (R.flatMap a++R.flatMap b)
 | []=>List.Perm.refl _
 | v :: R=>by
  rw [List.flatMap_cons,List.flatMap_cons,List.flatMap_cons]
  have ih:=flat_both a b R
  refine ((ih.append_left (a v++b v))).trans ?_
  rw [List.append_assoc,List.append_assoc]
  refine List.Perm.append_left (a v) ?_
  rw [← List.append_assoc, ← List.append_assoc]
  exact List.perm_append_comm.append_right _
theorem flat_one {α β:Type} (p:α→Bool) (f:α→β) : ∀ R:List α,(R.filter p).map f=R.flatMap fun v=>if p v=true then [f v] else []
 | []=>rfl
 | v :: R=>by
  rw [List.flatMap_cons, ← flat_one p f R]
  cases h:p v with
  | true=>rw [List.filter_cons_of_pos h,if_pos rfl];rfl
  | false=>rw [List.filter_cons_of_neg (by rw [h];decide),if_neg (by decide)];rfl
theorem flat_swap {α β γ:Type} (p:α→β→Bool) (f:α→β→γ) (R:List β) : ∀ L:List α,(L.flatMap fun u=>(R.filter (p u)).map (f u)).Perm (R.flatMap fun v=>(L.filter fun u=>p u v).map fun u=>f u v)
 | []=>by
  rw [List.flatMap_nil,show (R.flatMap fun v=>(([]:List α).filter fun u=>p u v).map fun u=>f u v)=[] from List.flatMap_eq_nil_iff.2 fun _ _=>rfl]
 | u :: L=>by
  rw [List.flatMap_cons]
  refine ((flat_swap p f R L).append_left _).trans ?_
  rw [flat_one]
  refine (flat_both _ _ R).symm.trans ?_
  refine List.Perm.of_eq (congrArg (fun g=>R.flatMap g) (funext fun v=>?_))
  show (if p u v=true then [f u v] else [])++_=((u :: L).filter fun u=>p u v).map fun u=>f u v
  rw [List.filter_cons]
  split
  ·rfl
  ·rfl
/-! ### the halves exchanged -/
theorem joinTV_comm (s t:TV):joinTV s t=joinTV t s:=by
 unfold joinTV
 rw [Int.max_comm]
 congr 1
 exact List.zipWith_comm_of_comm (fun x y=>Int.max_comm x y)
theorem nmEq_comm (cs co:List Int) (x u:UV):nmEq cs co x u=nmEq co cs u x:=by
 unfold nmEq
 have e2:decide (x.1.2.2.length=u.1.2.2.length)=decide (u.1.2.2.length=x.1.2.2.length):=decide_eq_decide.2 ⟨Eq.symm,Eq.symm⟩
 rw [e2]
 by_cases h:namT cs x.1.1=namT co u.1.1
 ·rw [h]
 ·rw [decide_eq_false h,decide_eq_false (fun q=>h (Eq.symm q)),Bool.and_false,Bool.and_false]
/-- the columns of the second half, then the first -/
def turnC (n m:Nat):List Int:=(List.range n).map (fun i=>((m+i:Nat):Int))++(List.range m).map fun i=>((i:Nat):Int)
theorem projR_app (a b:List Int) (l:List Dat):projR (a++b) l=projR a l++projR b l:=by
 unfold projR
 rw [List.map_append]
theorem projR_turn (a b:List Dat):projR (turnC b.length a.length) (a++b)=b++a:=by
 unfold turnC
 rw [projR_app]
 congr 1
 ·unfold projR
  rw [List.map_map]
  refine List.ext_getElem (by simp) fun i h1 h2=>?_
  rw [List.getElem_map,List.getElem_range]
  show (a++b).getD (Int.toNat ((a.length+i:Nat):Int)) Dat.zero=_
  rw [Int.toNat_natCast,List.getD_eq_getElem?_getD,List.getElem?_append_right (by omega),Nat.add_sub_cancel_left,List.getElem?_eq_getElem h2]
  rfl
 ·unfold projR
  rw [List.map_map]
  refine List.ext_getElem (by simp) fun i h1 h2=>?_
  rw [List.getElem_map,List.getElem_range]
  show (a++b).getD (Int.toNat ((i:Nat):Int)) Dat.zero=_
  rw [Int.toNat_natCast,List.getD_eq_getElem?_getD,List.getElem?_append_left h2,List.getElem?_eq_getElem h2]
  rfl
theorem turnC_len (n m:Nat):(turnC n m).length=n+m:=by unfold turnC;simp
theorem turnC_in (n m:Nat) : ∀ x∈turnC n m,0≤x∧x<(n+m:Nat):=fun x hx=>by
 rcases List.mem_append.1 hx with h | h
 ·obtain ⟨i,hi,rfl⟩:=List.mem_map.1 h
  have:=List.mem_range.1 hi
  omega
 ·obtain ⟨i,hi,rfl⟩:=List.mem_map.1 h
  have:=List.mem_range.1 hi
  omega
theorem both_turn {n m:Nat} {u x:UV} (hu:u.1.1.length=n) (hx:x.1.1.length=m):projU (turnC n m) (bothV x u)=bothV u x:=by
 unfold projU bothV
 rw [show projR (turnC n m) (x.1.1++u.1.1)=u.1.1++x.1.1 by rw [← hu, ← hx];exact projR_turn _ _,joinTV_comm,Int.mul_comm]
/-- rows of so many columns -/
def Cols (n:Nat) (L:List UV):Prop := ∀ u∈L,u.1.1.length=n
section
variable {n m:Nat} {lc rc:List Int} {Ta Tb L R:List UV}
theorem both_turns (hR:Cols m R) (hL:Cols n L):(R.flatMap fun u=>(mtV lc rc u L).map fun x=>bothV x u)=(R.flatMap fun u=>(mtV lc rc u L).map fun x=>projU (turnC n m) (bothV u x)):=by
 refine congrArg List.flatten (List.map_congr_left fun u hu=>List.map_congr_left fun x hx=>?_)
 exact (both_turn (hL x (List.mem_filter.1 hx).1) (hR u hu)).symm
theorem map_flat {α β γ:Type} (f:β→γ) (g:α→List β) (l:List α):(l.flatMap g).map f=l.flatMap fun x=>(g x).map f:=List.map_flatMap ..
/-- WHAT A TELLS IS WHAT B TELLS, TURNED, IN ANOTHER ORDER -/
theorem push_turn (hTa:Cols n Ta) (hL:Cols n L) (hTb:Cols m Tb) (hR:Cols m R):((pushA rc lc Tb Ta R L).map (projU (turnC n m))).Perm (pushA lc rc Ta Tb L R):=by
 unfold pushA outL outRr
 rw [List.map_append,map_flat,map_flat]
 simp only [List.map_map]
 have e1:(R.flatMap fun u=>(mtV lc rc u Ta).map (projU (turnC n m) ∘ fun x=>bothV u x))=R.flatMap fun u=>(mtV lc rc u Ta).map fun x=>bothV x u:=(both_turns hR hTa).symm
 have e2:(L.flatMap fun u=>(mtV rc lc u (Tb++R)).map (projU (turnC n m) ∘ fun x=>bothV x u))=L.flatMap fun u=>(mtV rc lc u Tb).map (fun x=>bothV u x)++(mtV rc lc u R).map fun x=>bothV u x:=by
  refine congrArg List.flatten (List.map_congr_left fun u hu=>?_)
  show (mtV rc lc u (Tb++R)).map _=_
  unfold mtV
  rw [← List.map_append, ← List.filter_append]
  refine List.map_congr_left fun x hx=>?_
  rcases List.mem_append.1 (List.mem_filter.1 hx).1 with q | q
  ·exact both_turn (hL u hu) (hTb x q)
  ·exact both_turn (hL u hu) (hR x q)
 have e3:(R.flatMap fun u=>(mtV lc rc u (Ta++L)).map fun x=>bothV x u)=R.flatMap fun u=>(mtV lc rc u Ta).map (fun x=>bothV x u)++(mtV lc rc u L).map fun x=>bothV x u:=by
  refine congrArg List.flatten (List.map_congr_left fun u _=>?_)
  unfold mtV
  rw [← List.map_append, ← List.filter_append]
 rw [e1,e2,e3]
 have s:(L.flatMap fun u=>(mtV rc lc u R).map fun x=>bothV u x).Perm (R.flatMap fun u=>(mtV lc rc u L).map fun x=>bothV x u):=by
  have:=flat_swap (fun u x=>nmEq rc lc x u) (fun u x=>bothV u x) R L
  refine this.trans (List.Perm.of_eq (congrArg (fun g=>R.flatMap g) (funext fun v=>?_)))
  unfold mtV
  rw [show (fun u:UV=>nmEq rc lc v u)=fun x=>nmEq lc rc x v from funext fun u=>nmEq_comm ..]
 refine ((flat_both _ _ L).append_left _).trans ?_
 refine (((s.append_left _)).append_left _).trans ?_
 refine List.Perm.trans ?_ ((flat_both _ _ R).symm.append_left _)
 rw [← List.append_assoc, ← List.append_assoc]
 exact List.perm_append_comm.append_right _
theorem push_cols (hTa:Cols n Ta) (hL:Cols n L) (hTb:Cols m Tb) (hR:Cols m R):Cols (n+m) (pushA lc rc Ta Tb L R):=fun u hu=>by
 unfold pushA outL outRr mtV at hu
 rcases List.mem_append.1 hu with h | h
 ·obtain ⟨y,hy,h⟩:=List.mem_flatMap.1 h
  obtain ⟨x,hx,rfl⟩:=List.mem_map.1 h
  show (y.1.1++x.1.1).length=_
  rw [List.length_append,hL y hy,hTb x (List.mem_filter.1 hx).1]
 ·obtain ⟨y,hy,h⟩:=List.mem_flatMap.1 h
  obtain ⟨x,hx,rfl⟩:=List.mem_map.1 h
  show (x.1.1++y.1.1).length=_
  rw [List.length_append,hR y hy]
  rcases List.mem_append.1 (List.mem_filter.1 hx).1 with q | q
  ·rw [hTa x q]
  ·rw [hL x q]
theorem sum_cols {N k:Nat} {D:List UV} (h : ∀ u∈D,GoodJ N u) (hc:Cols k D):Cols k (UdS.sumV D):=fun u hu=>by
 obtain ⟨_,_,y,hy,e⟩:=UdS.sumV_mem (gj_num h) hu
 rw [← e]
 exact hc y hy
theorem proj_mem {cols:List Int} {l:List Dat} (h : ∀ x∈cols,0≤x∧x<l.length) : ∀ d∈projR cols l,d∈l:=fun d hd=>by
 obtain ⟨c,hc,rfl⟩:=List.mem_map.1 hd
 have:=h c hc
 rw [List.getD_eq_getElem?_getD,List.getElem?_eq_getElem (show c.toNat<l.length by omega)]
 exact List.getElem_mem _
theorem proj_good {N:Nat} {cols:List Int} {u:UV} (h:GoodJ N u) (hc:cols.length≤N) (hi : ∀ x∈cols,0≤x∧x<u.1.1.length):GoodJ N (projU cols u) :=
 ⟨fun d hd=>h.ck d (proj_mem hi d hd),fun d hd=>h.nr d (proj_mem hi d hd),h.num,by show (projR cols u.1.1).length≤N;unfold projR;rw [List.length_map];exact hc,h.tl,h.tu⟩
/-- THE LAW -/
theorem turn_law (hTa:Cols n Ta) (hL:Cols n L) (hTb:Cols m Tb) (hR:Cols m R) (ga : ∀ u∈pushA lc rc Ta Tb L R,GoodJ 64 u) (gb : ∀ u∈pushA rc lc Tb Ta R L,GoodJ 64 u) (h64:n+m≤64) :
  UdS.sumV ((UdS.sumV (pushA rc lc Tb Ta R L)).map (projU (turnC n m)))=UdS.sumV (pushA lc rc Ta Tb L R):=by
 have hc:Cols (m+n) (pushA rc lc Tb Ta R L):=push_cols hTb hR hTa hL
 have hf : ∀ u,u.1.1.length=m+n→GoodJ 64 u→GoodJ 64 (projU (turnC n m) u):=fun u hl g=>proj_good g (by rw [turnC_len];exact h64) (fun x hx=>by have:=turnC_in n m x hx;omega)
 rw [show (UdS.sumV (pushA rc lc Tb Ta R L)).map (projU (turnC n m))=(UdS.sumV (pushA rc lc Tb Ta R L)).map fun x=>((fun k:UK=>(projR (turnC n m) k.1,k.2)) x.1,x.2) from rfl,
  sumJ_turn gb (fun k:UK=>(projR (turnC n m) k.1,k.2)) (fun u hu=>hf u (hc u hu) (gb u hu)) (fun u hu=>hf u (sum_cols gb hc u hu) (gj_sum gb u hu))]
 exact sumJ_perm (push_turn hTa hL hTb hR) ga
end
open Go.RowKit
def lv (M:List Stp) (i:Nat):List UV:=(lefts (M.take i)).map Ud.uv
def rv (M:List Stp) (i:Nat):List UV:=(rights (M.take i)).map Ud.uv
section
variable {M:List Stp} {i:Nat}
theorem lv_succ (h:i<M.length):lv M (i+1)=lv M i++(M.getD i Stp.zero).L.map Ud.uv:=by
 unfold lv;rw [lefts_succ h,List.map_append]
theorem rv_succ (h:i<M.length):rv M (i+1)=rv M i++(M.getD i Stp.zero).R.map Ud.uv:=by
 unfold rv;rw [rights_succ h,List.map_append]
theorem lefts_take : ∀ u∈lefts (M.take i),u∈lefts M:=fun u hu=>by
 obtain ⟨x,hx,h⟩:=List.mem_flatMap.1 hu
 exact List.mem_flatMap.2 ⟨x,List.mem_of_mem_take hx,h⟩
theorem rights_take : ∀ u∈rights (M.take i),u∈rights M:=fun u hu=>by
 obtain ⟨x,hx,h⟩:=List.mem_flatMap.1 hu
 exact List.mem_flatMap.2 ⟨x,List.mem_of_mem_take hx,h⟩
theorem in_sum {α:Type} (f:α→Nat) {l:List α} {x:α} (h:x∈l):f x≤(l.map f).sum:=by
 induction l with
 | nil=>cases h
 | cons a l ih =>
  rw [List.map_cons,List.sum_cons]
  rcases List.mem_cons.1 h with rfl | h
  ·omega
  ·have:=ih h
   omega
theorem len_le : ∀ M:List Stp,(lefts M).length+(rights M).length≤(M.map scost).sum
 | []=>Nat.zero_le _
 | x :: M=>by
  have ih:=len_le M
  unfold lefts rights at ih ⊢
  rw [List.flatMap_cons,List.flatMap_cons,List.length_append,List.length_append,List.map_cons,List.sum_cons]
  unfold scost
  unfold scost at ih
  omega
theorem few_len (h:Few M) (i:Nat):(lv M i).length+(rv M i).length≤120:=by
 have h1:=len_le (M.take i)
 have h2:=scosts_le M i
 unfold Few at h
 unfold scosts at h h2
 unfold lv rv
 rw [List.length_map,List.length_map]
 omega
theorem few_step (h:Few M) (hi:i<M.length):(lv M i).length+(rv M i).length+(M.getD i Stp.zero).L.length+(M.getD i Stp.zero).R.length≤120:=by
 have:=few_len h (i+1)
 rw [lv_succ hi,rv_succ hi,List.length_append,List.length_append,List.length_map,List.length_map] at this
 omega
theorem few_loops (h:Few M) {x:Stp} (hx:x∈M) {u:Ud} (hu:u∈x.L∨u∈x.R):u.t.l.length≤100000:=by
 have h1:=in_sum scost hx
 unfold Few scosts at h
 rw [List.take_length] at h
 have h2:ycost u≤scost x:=by
  unfold scost lcost
  rw [List.take_length,List.take_length]
  rcases hu with hu | hu
  ·have:=in_sum ycost hu
   omega
  ·have:=in_sum ycost hu
   omega
 unfold ycost at h2
 omega
theorem ok_row {u:Ud} (h:okR u=true):u.l.length≤32 ∧ ∀ d∈u.l,d.check=0:=by
 have h1:=of_decide_eq_true h
 unfold checkR at h1
 split at h1
 ·exact absurd h1 (by decide)
 ·exact ⟨by omega,(checkL_ok _).1 h1⟩
theorem ok_of (h:okM M=true) {x:Stp} (hx:x∈M):(∀ u∈x.L,okR u=true) ∧ ∀ u∈x.R,okR u=true:=by
 have:=List.all_eq_true.1 h x hx
 rw [Bool.and_eq_true] at this
 exact ⟨List.all_eq_true.1 this.1,List.all_eq_true.1 this.2⟩
theorem good_of_in (hf:Few M) (ho:okM M=true) {x:Stp} (hx:x∈M) (hi:StpIn x):(∀ u∈x.L,GoodJ 32 u.uv) ∧ ∀ u∈x.R,GoodJ 32 u.uv:=by
 have hg : ∀ u:Ud,UdIn u→okR u=true→u.t.l.length≤100000→GoodJ 32 u.uv:=fun u h1 h2 h3=>⟨(ok_row h2).2,h1.r.int,h1.d,(ok_row h2).1,h3,h1.t.u⟩
 exact ⟨fun u hu=>hg u (hi.u u hu) ((ok_of ho hx).1 u hu) (few_loops hf hx (.inl hu)),fun u hu=>hg u (hi.v u hu) ((ok_of ho hx).2 u hu) (few_loops hf hx (.inr hu))⟩
theorem alk_cols {p:Int} {S:List Ud} (h:AlkF p S) {n:Nat} (hn:p=n) : ∀ u∈S,u.uv.1.1.length=n:=fun u hu=>by
 have:=h.1 u hu
 show u.l.length=n
 omega
theorem alk_le {p:Int} {S:List Ud} (h:AlkF p S) (hS : ∀ u∈S,okR u=true):p≤32:=by
 rcases h.2 with e | ⟨u,hu,e⟩
 ·omega
 ·have:=(ok_row (hS u hu)).1
  omega
theorem ok_lefts (h:okM M=true) : ∀ u∈lefts M,okR u=true:=fun u hu=>by
 obtain ⟨x,hx,h2⟩:=List.mem_flatMap.1 hu
 exact (ok_of h hx).1 u h2
theorem ok_rights (h:okM M=true) : ∀ u∈rights M,okR u=true:=fun u hu=>by
 obtain ⟨x,hx,h2⟩:=List.mem_flatMap.1 hu
 exact (ok_of h hx).2 u h2
theorem lv_cols {p:Int} {n:Nat} (h:AlkF p (lefts M)) (hn:p=n) (i:Nat):Cols n (lv M i):=fun u hu=>by
 obtain ⟨x,hx,rfl⟩:=List.mem_map.1 hu
 exact alk_cols h hn x (lefts_take x hx)
theorem rv_cols {p:Int} {n:Nat} (h:AlkF p (rights M)) (hn:p=n) (i:Nat):Cols n (rv M i):=fun u hu=>by
 obtain ⟨x,hx,rfl⟩:=List.mem_map.1 hu
 exact alk_cols h hn x (rights_take x hx)
theorem step_cols {p q:Int} {n m:Nat} (h:AlkF p (lefts M)) (hn:p=n) (h2:AlkF q (rights M)) (hm:q=m) {x:Stp} (hx:x∈M):Cols n (x.L.map Ud.uv)∧Cols m (x.R.map Ud.uv):=by
 refine ⟨fun u hu=>?_,fun u hu=>?_⟩
 ·obtain ⟨y,hy,rfl⟩:=List.mem_map.1 hu
  exact alk_cols h hn y (List.mem_flatMap.2 ⟨x,hx,hy⟩)
 ·obtain ⟨y,hy,rfl⟩:=List.mem_map.1 hu
  exact alk_cols h2 hm y (List.mem_flatMap.2 ⟨x,hx,hy⟩)
/-- the columns as they are made -/
theorem turnC_fst (n m i:Nat) (h:i<n):(List.range (i+1)).map (fun k=>((m+k:Nat):Int))=(List.range i).map (fun k=>((m+k:Nat):Int))++[((m+i:Nat):Int)]:=by
 rw [List.range_succ,List.map_append]
 rfl
theorem turnC_snd (m i:Nat):(List.range (i+1)).map (fun k=>((k:Nat):Int))=(List.range i).map (fun k=>((k:Nat):Int))++[(i:Int)]:=by
 rw [List.range_succ,List.map_append]
 rfl
end
open Go.RowKit
structure TuI (w wr:World) (ga gb:Nat) (l r:List Int) (a1 b1 a2 b2:SdM) (M:List Stp) (i:Nat) (AC:Option Addr) (cn cc:Nat) (cols:List Int):Prop where
 ja:JS wr ga l r a1 b1 (lv M i) (rv M i)
 jb:JS wr gb r l a2 b2 (rv M i) (lv M i)
 dj : ∀ k,JF ga a1 b1 k → ¬ JF gb a2 b2 k
 fa : ∀ k,JF ga a1 b1 k→w.heap.size≤k
 fb : ∀ k,JF gb a2 b2 k→w.heap.size≤k
 x:Ext w wr
 co:Own wr 0 3 1 AC cn cc (ints cols)
section
variable {w wr v1 v2 v3:World} {ga gb:Nat} {l r:List Int} {a1 b1 a2 b2 a3 b3 a4 b4:SdM} {M:List Stp} {i cn cc:Nat} {AC:Option Addr} {cols:List Int}
theorem TuI.ext (h:TuI w wr ga gb l r a1 b1 a2 b2 M i AC cn cc cols) (x:Ext wr v1):TuI w v1 ga gb l r a1 b1 a2 b2 M i AC cn cc cols :=
 ⟨h.ja.ext x,h.jb.ext x,h.dj,h.fa,h.fb,h.x.trans x,h.co.ext x⟩
/-- what stays as one of them is pushed -/
theorem TuI.keep (h:TuI w wr ga gb l r a1 b1 a2 b2 M i AC cn cc cols) {v:World} (u:Upd (JF ga a1 b1) wr v):JS v gb r l a2 b2 (rv M i) (lv M i)∧Ext w v∧Own v 0 3 1 AC cn cc (ints cols) :=
 ⟨h.jb.upd u h.ja.noDat (fun k h1 h2=>h.dj k h2 h1),ext_upd2 h.x u (fun k h1 h2=>by have:=h.fa k h2;omega),h.co.upd u (fun k hk q=>(h.ja.noDat k q).2.2 (h.co.ty hk))⟩
/-- one step more -/
theorem TuI.step (h:TuI w wr ga gb l r a1 b1 a2 b2 M i AC cn cc cols) (hi:i<M.length) {x:Stp} (hx:M.getD i Stp.zero=x) {A B:Option Addr} {k q:Nat} {N O:List Ud}
  (p:PushS wr v1 ga l r a1 b1 a3 b3 (lv M i) (rv M i) (x.L.map Ud.uv) (x.R.map Ud.uv) A k N) (p2:PushS v1 v2 gb r l a2 b2 a4 b4 (rv M i) (lv M i) (x.R.map Ud.uv) (x.L.map Ud.uv) B q O) :
  TuI w v2 ga gb l r a3 b3 a4 b4 M (i+1) AC cn cc cols∧Uin v2 A k N∧Uin v2 B q O:=by
 obtain ⟨j2,x2,c2⟩:=h.keep p.x
 have hlt1:wr.heap.size≤v1.heap.size:=p.x.size
 have hd : ∀ k,JF ga a3 b3 k → ¬ JF gb a2 b2 k:=fun k h1 h2=>by
  rcases p.f k h1 with q1 | q1
  ·exact h.dj k q1 h2
  ·have:=h.jb.lt h2;omega
 have ja:=p.s.upd p2.x j2.noDat (fun k h1 h2=>hd k h1 h2)
 rw [← hx, ← lv_succ hi, ← rv_succ hi] at ja
 have jb:=p2.s
 rw [← hx, ← lv_succ hi, ← rv_succ hi] at jb
 refine ⟨⟨ja,jb,fun k h1 h2=>?_,fun k h1=>?_,fun k h1=>?_,ext_upd2 x2 p2.x (fun k h1 h2=>by have:=h.fb k h2;omega),c2.upd p2.x (fun k hk q=>(j2.noDat k q).2.2 (c2.ty hk))⟩,(p.u.upd p2.x (fun k h1 _ h2=>by have:=h.jb.lt h2;omega)).uin,p2.u.uin⟩
 ·rcases p2.f k h2 with q1 | q1
  ·exact hd k h1 q1
  ·have:=p.s.lt h1;omega
 ·rcases p.f k h1 with q1 | q1
  ·exact h.fa k q1
  ·have:=h.x.size;omega
 ·rcases p2.f k h1 with q1 | q1
  ·exact h.fb k q1
  ·have:=x2.size;omega
theorem PushS.ext {w w1 w2:World} {g k:Nat} {a b c d:SdM} {Ta Tb L R:List UV} {A:Option Addr} {N:List Ud} (h:PushS w w1 g l r a b c d Ta Tb L R A k N) (x:Ext w1 w2):PushS w w2 g l r a b c d Ta Tb L R A k N :=
 ⟨h.ln,h.u.ext x,h.v,h.s.ext x,h.f,upd_step h.x (Upd.ext (S:=fun _=>False) x) (fun _ _ q=>q.elim),h.dj⟩
theorem sumV_le (T:List UV):(UdS.sumV T).length≤T.length:=by
 have h1 : ∀ (R:List UV) (x:UV),(UdS.addV R x).length≤R.length+1:=fun R x=>by
  induction R with
  | nil=>exact Nat.le_refl _
  | cons y R ih =>
   unfold UdS.addV
   repeat' split
   all_goals first | (simp only [List.length_cons];omega) | (simp;omega) | simp
 have h2 : ∀ (D R:List UV),(D.foldl UdS.addV R).length≤R.length+D.length:=fun D=>by
  induction D with
  | nil=>exact fun R=>Nat.le_refl _
  | cons y D ih =>
   intro R
   have q1:=ih (UdS.addV R y)
   have q2:=h1 R y
   rw [List.foldl_cons,List.length_cons]
   omega
 have:=h2 T []
 rw [List.length_nil,Nat.zero_add] at this
 exact Nat.le_trans (List.length_filter_le _ _) this
/-- what is known of what the second tells -/
structure RoundF (l r:List Int) (M:List Stp) (i np nq:Nat) (x:Stp):Prop where
 c:Cols (nq+np) (UdS.sumV (pushA r l (rv M i) (lv M i) (x.R.map Ud.uv) (x.L.map Ud.uv)))
 law:UdS.sumV ((UdS.sumV (pushA r l (rv M i) (lv M i) (x.R.map Ud.uv) (x.L.map Ud.uv))).map (projU (turnC np nq)))=UdS.sumV (pushA l r (lv M i) (rv M i) (x.L.map Ud.uv) (x.R.map Ud.uv))
 g : ∀ u∈UdS.sumV (pushA r l (rv M i) (lv M i) (x.R.map Ud.uv) (x.L.map Ud.uv)),GoodJ 64 u
 gp : ∀ u∈(UdS.sumV (pushA r l (rv M i) (lv M i) (x.R.map Ud.uv) (x.L.map Ud.uv))).map (projU (turnC np nq)),GoodJ 64 u
 n:(UdS.sumV (pushA r l (rv M i) (lv M i) (x.R.map Ud.uv) (x.L.map Ud.uv))).length≤500000
theorem round_f {np nq:Nat} {x:Stp} (ga : ∀ u∈lv M i,GoodJ 32 u) (gb : ∀ u∈rv M i,GoodJ 32 u) (gL : ∀ u∈x.L.map Ud.uv,GoodJ 32 u) (gR : ∀ u∈x.R.map Ud.uv,GoodJ 32 u) (ca:Cols np (lv M i)) (cb:Cols nq (rv M i)) (cL:Cols np (x.L.map Ud.uv)) (cR:Cols nq (x.R.map Ud.uv)) (h64:np+nq≤64)
  (hl:(lv M i).length+(rv M i).length+x.L.length+x.R.length≤120) (l r:List Int):RoundF l r M i np nq x:=by
 have g1 : ∀ u∈pushA l r (lv M i) (rv M i) (x.L.map Ud.uv) (x.R.map Ud.uv),GoodJ 64 u:=push_good ga gb gL gR
 have g2 : ∀ u∈pushA r l (rv M i) (lv M i) (x.R.map Ud.uv) (x.L.map Ud.uv),GoodJ 64 u:=push_good gb ga gR gL
 have c2:Cols (nq+np) (pushA r l (rv M i) (lv M i) (x.R.map Ud.uv) (x.L.map Ud.uv)):=push_cols cb cR ca cL
 have c3:=sum_cols g2 c2
 refine ⟨c3,turn_law ca cL cb cR g1 g2 h64,gj_sum g2,fun u hu=>?_,Nat.le_trans (sumV_le _) (Nat.le_trans (pushA_le _ _ _ _ _ 500 (by rw [List.length_map];omega) (by rw [List.length_map];omega) _ (by rw [List.length_map];omega)) (by decide))⟩
 obtain ⟨v,hv,rfl⟩:=List.mem_map.1 hu
 have h1:=c3 v hv
 exact proj_good (gj_sum g2 v hv) (by rw [turnC_len];exact h64) (fun y hy=>by have:=turnC_in np nq y hy;omega)
theorem lv_good (hf:Few M) (ho:okM M=true) (hi : ∀ x∈M,StpIn x) (i:Nat):(∀ u∈lv M i,GoodJ 32 u) ∧ ∀ u∈rv M i,GoodJ 32 u:=by
 refine ⟨fun u hu=>?_,fun u hu=>?_⟩
 ·obtain ⟨y,hy,rfl⟩:=List.mem_map.1 hu
  obtain ⟨x,hx,h⟩:=List.mem_flatMap.1 (lefts_take y hy)
  exact (good_of_in hf ho hx (hi x hx)).1 y h
 ·obtain ⟨y,hy,rfl⟩:=List.mem_map.1 hu
  obtain ⟨x,hx,h⟩:=List.mem_flatMap.1 (rights_take y hy)
  exact (good_of_in hf ho hx (hi x hx)).2 y h
end
open Go.RowKit
theorem LsR.far {w w':World} {A:Option Addr} {c:Nat} {L:List Ud} (h:LsR w A c L) {row:Option Nat} (g:w.grownBy w' row) (hr : ∀ r,row=some r → ∃ o:Obj,w.heap[r]?=some o∧o.isCells=false):LsR w' A c L:=by
 have hn : ∀ k e,Ty w k e → ¬ row=some k:=fun k e ht q=>by
  obtain ⟨o,h1,h2⟩:=hr k q
  obtain ⟨cur,z,h3⟩:=ht
  rw [h1] at h3
  injection h3 with h3
  rw [h3] at h2
  cases h2
 have U:Upd (fun k=>row=some k) w w':=(Upd.refl _ w).grown g (fun k hk => .inl hk)
 exact ⟨h.ow.upd U (fun k hk=>hn k _ (h.ow.ty hk)),fun x hx=>⟨(h.el x hx).rw.upd U (fun k hk=>hn k _ ((h.el x hx).rw.ty hk)),(h.el x hx).ts.upd U (fun k hk=>hn k _ ((h.el x hx).ts.ty hk))⟩⟩
theorem UdO.far {w w':World} {x:Ud} (h:UdO w x) {row:Option Nat} (g:w.grownBy w' row) (hr : ∀ r,row=some r → ∃ o:Obj,w.heap[r]?=some o∧o.isCells=false):UdO w' x:=by
 have:=LsR.far (A:=none) (c:=0) (L:=[x]) (w:=w) (w':=w')
 have hn : ∀ k e,Ty w k e → ¬ row=some k:=fun k e ht q=>by
  obtain ⟨o,h1,h2⟩:=hr k q
  obtain ⟨cur,z,h3⟩:=ht
  rw [h1] at h3
  injection h3 with h3
  rw [h3] at h2
  cases h2
 have U:Upd (fun k=>row=some k) w w':=(Upd.refl _ w).grown g (fun k hk => .inl hk)
 exact ⟨h.rw.upd U (fun k hk=>hn k _ (h.rw.ty hk)),h.ts.upd U (fun k hk=>hn k _ (h.ts.ty hk))⟩
/-- what is collected so far -/
def SqI (w:World) (ob:Nat) (pre:List Ud) (W:World):Prop := ∃ A c,Bk W ob 33 #[.slice A pre.length c]∧LsR W A c pre∧(∀ k,blk A c=some k→w.heap.size≤k)∧Ext w W
theorem SqI.own {w w1:World} {ob:Nat} (h:w.heap.size≤w1.heap.size):OwnFrom w1.heap.size (SqI w ob):=fun s W W' row ⟨A,c,h1,h2,h3,h4⟩ hg hr =>
 ⟨A,c,bk_far h1 hg (fun r e=>(hr r e).2),h2.far hg (fun r e=>(hr r e).2),h3,h4.grown hg (fun k hk=>Nat.le_trans h (hr k hk).1)⟩
/-- what the assignment leaves -/
def SqA (f:Nat→Act) (ob b0:Nat) (y:Ud) (a':Act) (W:World):Prop := ∃ (bx:Nat),Bk W bx 51 #[.slice y.A y.l.length y.c, .int .u64 y.t.e, .slice y.t.A y.t.l.length y.t.c, .int .i64 y.d]∧UdO W y∧a'=f bx
theorem SqA.own (f:Nat→Act) (ob b0:Nat) (y:Ud) (a':Act):OwnFrom b0 (fun (_:Unit) W=>SqA f ob b0 y a' W):=fun _ W W' row ⟨bx,h1,h2,h3⟩ hg hr =>
 ⟨bx,bk_far h1 hg (fun r e=>(hr r e).2),h2.far hg (fun r e=>(hr r e).2),h3⟩
/-- the list that is handed back -/
def SeqOut (S:List Ud→Prop) (w:World) (e:Ending) (w':World):Prop := ∃ A c xs,e = .returned (.slice A (List.length xs) c)∧S xs∧LsR w' A c xs∧Ext w w'
set_option maxRecDepth 100000 in
set_option maxHeartbeats 8000000 in
theorem seq_any (lb:Array Value) (S:List Ud→Prop) (N:Nat) (w:World) (ht : ∀ w1,Ext w w1→Tells Try.prog 62 lb (fun x => #[udV x]) (fun x X=>UdO X x) (Upd fun k=>w.heap.size≤k) S N w1) (hN:N≤1000000) :
  Calls Try.prog 61 #[.slice none 0 0, .func (.func 62) #[] lb] w (SeqOut S w):=by
 refine (callsIn_wide (n:=8)).1 ?_
 refine callsIn_of_wp_marks Try.func61 rfl trivial ?_ rfl
 refine wpIn_wide.2 (wp_mono ?_ strict_le)
 simp only [Try.ntmps61,List.size_toArray,List.length_cons,List.length_nil,Nat.reduceAdd,Nat.reduceSub,Array.replicate_succ,Array.replicate_zero,List.push_toArray,List.append_toArray,List.nil_append,List.cons_append]
 go_wp2
 obtain ⟨w1,hw1⟩ : ∃ w1,w1=w.alloc (.cells #[.slice none 0 0] 33):=⟨_,rfl⟩
 have HOB:Hid (Bk w1 w.heap.size 33 #[.slice none 0 0]):=Lib.hid (by rw [hw1];exact Bk.new w _ _)
 have X1:Hid (Ext w w1):=Lib.hid (hw1 ▸ (Ext.refl w).alloc _)
 have hsb:w.heap.size<w1.heap.size:=HOB.out.lt
 rw [← hw1]
 clear hw1
 refine (wpIn_wide (n:=8)).1 ?_
 refine range_told (gf:=62) (lb:=lb) rfl (enters_of Try.func62 (by kernel_rfl) rfl) (ht w1 X1.out) (fun _=>rfl) (fun h k=>h.trans k) (fun W l o' h=>(Upd.refl _ W).grown (grownBy_putObj' W l o') (fun k hk => .inl (by injection hk with hk;omega)))
  (SqI w w.heap.size) (SqI.own X1.out.size) ⟨none,0,HOB.out,LsR.nil w1,fun k hk=>(nomatch hk),X1.out⟩
  (fun y a' W=>SqA (fun bx=>({ tmps := #[.slice none 0 0, .func (.func 62) #[] lb, .pointer (some ⟨w.heap.size,0,none⟩),undef, .slice none 0 0, .pointer (some ⟨bx,0,none⟩), .func (.func 62) #[] lb,udV y,undef,undef,undef,undef,undef],defers:=[] }:Act)) w.heap.size w1.heap.size y a' W) (fun y a'=>SqA.own _ _ _ y a') ?assign ?body ?done
 case assign =>
  rintro l pre y W K2 ⟨A2,c2,h1,h2,h3,h4⟩ hy hK2
  dsimp only [udV]
  refine in_region rfl (fun _ _ h=>h) ?_
  go_wp2
  have hxa:Ext W (W.alloc (.cells #[.slice y.A y.l.length y.c, .int .u64 y.t.e, .slice y.t.A y.t.l.length y.t.c, .int .i64 y.d] 51)):=(Ext.refl W).alloc _
  exact hK2 _ _ (keeps_ext hxa) (Upd.ext hxa) ⟨A2,c2,h1.ext hxa,h2.ext hxa,h3,h4.trans hxa⟩ ⟨W.heap.size,Bk.new W _ _,hy.ext hxa,rfl⟩
 case body =>
  rintro l pre y act W ⟨A2,c2,h1,h2,h3,h4⟩ ⟨bx,hbx,hyo,rfl⟩ hlen
  obtain ⟨ny,hny⟩ : ∃ ny,y.l.length=ny:=⟨_,rfl⟩
  obtain ⟨ty,hty⟩ : ∃ ty,y.t.l.length=ty:=⟨_,rfl⟩
  obtain ⟨q,hq⟩ : ∃ q,pre.length=q:=⟨_,rfl⟩
  dsimp only [udV]
  rw [hny,hty] at hbx ⊢
  rw [hq] at h1 hlen
  have b0:=hbx.cell 0
  have b1:=hbx.cell 1
  have b2:=hbx.cell 2
  have b3:=hbx.cell 3
  have j0:=h1.cell 0
  have HOW:Hid (Own (W.alloc (.cells #[.slice y.A ny y.c, .int .u64 y.t.e, .slice y.t.A ty y.t.c, .int .i64 y.d] 51)) 0 51 4 A2 q c2 (udsC pre)):=Lib.hid (by rw [← hq];exact h2.ow.alloc _)
  have HH:=Lib.hid h1
  have HL2:=Lib.hid h2
  have HYO:=Lib.hid hyo
  have HX4:=Lib.hid h4
  have H3:=Lib.hid h3
  have HQ:=Lib.hid hq
  have HNY:=Lib.hid hny
  have HTY:=Lib.hid hty
  clear h1 h2 hyo h4 h3 hbx hq hny hty
  refine wpIn_block ?_
  refine in_region rfl (fun _ _ h=>h) ?_
  go_wp2_with (at_builtin;refine wpList_append_two _ elem_ud 0 _ _ rfl rfl A2 q c2 (udsC pre) rfl HOW.out (some ⟨W.heap.size,0,none⟩) 1 1 [.slice y.A ny y.c, .int .u64 y.t.e, .slice y.t.A ty y.t.c, .int .i64 y.d] rfl (Sl.one W #[.slice y.A ny y.c, .int .u64 y.t.e, .slice y.t.A ty y.t.c, .int .i64 y.d] 51 4 rfl) (by intro u hu;simp at hu;rcases hu with rfl | rfl | rfl | rfl<;>rfl) (by omega) (by decide) (by simp) ?_;intro A5 c5 w5 o5 g5 x5;have HO5:=Lib.hid o5;have HG5:=Lib.hid g5;have HX5:=Lib.hid x5;have bo5:Bk w5 w.heap.size 33 #[.slice A2 q c2]:=Bk.grown (HH.out.alloc _) g5 (fun z=>absurd ((HL2.out.ow.ty z).ne HH.out.ty) (by decide));have HB5:=Lib.hid bo5;have j2:=bo5.cell 0;have j3:=bo5.free 0;clear o5 g5 x5 bo5)
  have hne:NoDat W fun k=>blk A2 c2=some k:=fun k hk=>ty_noDat (HL2.out.ow.ty hk) (by decide) (by decide) (by decide)
  have hno:NoDat w5 fun k=>k=w.heap.size:=fun k hk=>by subst hk;exact ty_noDat HB5.out.ty (by decide) (by decide) (by decide)
  have u5:Upd (fun k=>blk A2 c2=some k) W w5:=((Upd.refl _ W).trans (Upd.ext ((Ext.refl W).alloc _))).trans ((Upd.refl _ _).grown HG5.out (fun k hk => .inl hk))
  have u6:Upd (fun k=>k=w.heap.size) w5 (w5.setCell ⟨w.heap.size,0,none⟩ (.slice A5 (q+1) c5)):=(Upd.refl (fun k=>k=w.heap.size) w5).setCell (p:=⟨w.heap.size,0,none⟩) (.inl (Eq.refl _)) _
  have hl5:LsR w5 A5 c5 (pre++[y]):=by
   refine ⟨?_,fun x hx=>?_⟩
   ·have:=HO5.out
    rw [← HQ.out, ← HNY.out, ← HTY.out] at this
    have e:udsC (pre++[y])=udsC pre++[.slice y.A y.l.length y.c, .int .u64 y.t.e, .slice y.t.A y.t.l.length y.t.c, .int .i64 y.d]:=by unfold udsC;rw [List.flatMap_append];rfl
    rw [e,List.length_append]
    exact this
   ·rcases List.mem_append.1 hx with hx | hx
    ·exact (HL2.out.el x hx).upd u5 hne
    ·rw [List.mem_singleton.1 hx];exact HYO.out.upd u5 hne
  have hob:blk A5 c5≠some w.heap.size:=fun z=>absurd ((hl5.ow.ty z).ne HB5.out.ty) (by decide)
  have hsz:=HX4.out.size
  have hA2 : ∀ k,blk A2 c2=some k→w.heap.size≤k:=H3.out
  have hc6 : ∀ k,(blk A2 c2=some k∨k=w.heap.size) → ∃ o:Obj,W.heap[k]?=some o∧o.isCells=true:=fun k hk=>by
   rcases hk with hk | rfl
   ·obtain ⟨cur,z,e⟩:=HL2.out.ow.ty hk
    exact ⟨_,e,rfl⟩
   ·exact ⟨_,HH.out,rfl⟩
  have u56:Upd (fun k=>blk A2 c2=some k∨k=w.heap.size) W (w5.setCell ⟨w.heap.size,0,none⟩ (.slice A5 (q+1) c5)):=(u5.mono fun _ _ h => .inl h).trans (u6.mono fun _ _ h => .inr h)
  refine ⟨keeps_upd u56 hc6,u56.mono (fun k _ hk=>?_),A5,c5,?_,hl5.upd u6 hno (fun k hk e=>hob (e ▸ hk)),fun k hk=>?_,?_⟩
  ·rcases hk with hk | rfl
   ·exact hA2 k hk
   ·exact Nat.le_refl _
  ·rw [List.length_append,HQ.out];exact HB5.out.set 0 _
  ·rcases HX5.out with ⟨e1,e2⟩ | ⟨e1,_⟩
   ·rw [e1,e2] at hk;exact hA2 k hk
   ·rw [e1] at hk
    injection hk with hk
    simp at hk
    omega
  ·exact ext_upd2 HX4.out u56 (fun k hk e=>by
    rcases e with e | e
    ·have:=hA2 k e;omega
    ·omega)
 case done =>
  rintro D xs W hD hS ⟨A2,c2,h1,h2,h3,h4⟩ hd
  have j0:=h1.cell 0
  obtain ⟨q,hq⟩ : ∃ q,xs.length=q:=⟨_,rfl⟩
  rw [hq] at j0
  have HQ:=Lib.hid hq
  have HL2:=Lib.hid h2
  have HX4:=Lib.hid h4
  have HD:=Lib.hid hd
  clear h1 h2 h4 hq hd
  go_wp2
  refine leaves_marks (B:=w.heap.size) (v := .slice A2 q c2) (fun w=>by rw [results_tmp (t:=4) rfl];rfl) [{ target := .collected D,args := #[] }] W ⟨⟨D,rfl,HD.out,by omega⟩,fun e he=>(nomatch he),trivial⟩ (fun w' hs=>⟨A2,c2,xs,by rw [HQ.out],hS,HL2.out.upd hs (fun k hk=>?_) (fun k hk e=>?_),ext_upd2 HX4.out hs (fun k hk e=>by have:=e.1;omega)⟩)
  ·obtain ⟨_,x,hx⟩:=hk
   refine ⟨?_,?_,?_⟩<;>(rintro ⟨cur,z,q2⟩;rw [hx] at q2;cases q2)
  ·obtain ⟨_,x,hx⟩:=e
   obtain ⟨cur,z,q2⟩:=HL2.out.ow.ty hk
   rw [hx] at q2
   cases q2
set_option maxRecDepth 100000 in
set_option maxHeartbeats 4000000 in
theorem collect_any (lb:Array Value) (S:List Ud→Prop) (N:Nat) (w:World) (ht:Hid (∀ w0,Ext w w0 → ∀ w1,Ext w0 w1→Tells Try.prog 62 lb (fun x => #[udV x]) (fun x X=>UdO X x) (Upd fun k=>w0.heap.size≤k) S N w1)) (hN:N≤1000000) :
  Calls Try.prog 45 #[.func (.func 62) #[] lb] w (SeqOut S w):=by
 go_enter Try.func45,Try.ntmps45
 go_wp2_with (go_at_call 61;refine (seq_any lb S N w (ht.out w (Ext.refl w)) hN).mono ?_;rintro e w1 ⟨A,c,xs,rfl,h1,h2,x1⟩;have H1:=Lib.hid h1;have H2:=Lib.hid h2;have X1:=Lib.hid x1;clear h1 h2 x1)
 go_ret
 exact ⟨A,c,xs,rfl,H1.out,H2.out,X1.out⟩
theorem each_any (n c:Nat) (A:Option Addr) (f:Value) (w:World) (hf:f.oneCell'=true) :
  Calls Try.prog 46 #[.slice A n c,f] w fun e w'=>e = .returned (.func (.func 62) #[] #[.pointer (some ⟨w.heap.size,0,none⟩), .pointer (some ⟨w.heap.size+1,0,none⟩)])∧w'=(w.alloc (.cells #[.slice A n c] 33)).alloc (.cells #[f] 74):=by
 go_enter Try.func46,Try.ntmps46
 go_wp2
 go_ret
 exact ⟨rfl,rfl⟩
/-- the rows' columns anew -/
def ProjTold (cols:List Int) (L:List Ud) (w:World) (e:Ending) (w':World):Prop:=SeqOut (fun xs=>xs.map Ud.uv=L.map fun x=>projU cols x.uv) w e w'
theorem all_proj (gb n c cn cc:Nat) (A CA:Option Addr) (cols:List Int) (L:List Ud) (w:World) (hg:Hid (Bk w gb 22 #[.slice CA cn cc]))
  (hL:Hid (Uin w A c L)) (hn:Hid (n=L.length)) (hc:Hid (Is w CA cc cols)) (hcn:Hid (cn=cols.length)) (hr:Hid (∀ y∈L, ∀ x∈cols,0≤x∧x<y.l.length)) (h1:cn≤1000) (h9:n≤1000000) (hz:Hid (∀ y∈L,y.l.length≤100000∧y.t.l.length≤100000)) :
  Calls Try.prog 25 #[.slice A n c, .func (.func 26) #[] #[.pointer (some ⟨gb,0,none⟩)]] w (ProjTold cols L w):=by
 go_enter Try.func25,Try.ntmps25
 obtain ⟨W,hW⟩ : ∃ W,W=(w.alloc (.cells #[.slice A n c] 33)).alloc (.cells #[.func (.func 26) #[] #[.pointer (some ⟨gb,0,none⟩)]] 74):=⟨_,rfl⟩
 have XW:Ext w W:=hW ▸ ((Ext.refl w).alloc _).alloc _
 have hbl:Bk W w.heap.size 33 #[.slice A n c]:=by rw [hW];exact (Bk.new w _ _).alloc _
 have hbd:Bk W (w.heap.size+1) 74 #[.func (.func 26) #[] #[.pointer (some ⟨gb,0,none⟩)]]:=by rw [hW];exact Bk.at (by simp)
 have HC:=(collect_any #[.pointer (some ⟨w.heap.size,0,none⟩), .pointer (some ⟨w.heap.size+1,0,none⟩)] (fun xs=>xs.map Ud.uv=L.map fun x=>projU cols x.uv) n W (Lib.hid fun w0 x0 w1 x1=>each1_tells (hbl.ext x0) (hbd.ext x0) (hg.out.ext (XW.trans x0)) (hL.out.ext (XW.trans x0)) hn.out (hc.out.ext (XW.trans x0)) hcn.out hr.out h1 h9 hz.out x1) h9)
 rw [hW] at HC XW
 have HX:=Lib.hid XW
 have HCC:=Lib.hid HC
 clear hbl hbd hW HC XW
 go_wp2_with (first | (go_at_call 46;refine (each_any n c A _ w rfl).mono ?_;rintro e w1 ⟨rfl,rfl⟩) | (go_at_call 45;refine (HCC.out).mono ?_;rintro e w1 ⟨A1,c1,xs,rfl,h1,h2,x1⟩;have H1:=Lib.hid h1;have H2:=Lib.hid h2;have X1:=Lib.hid x1;clear h1 h2 x1))
 go_ret
 exact ⟨A1,c1,xs,rfl,H1.out,H2.out,HX.out.trans X1.out⟩
theorem project_any (n c cn cc:Nat) (A CA:Option Addr) (cols:List Int) (L:List Ud) (w:World)
  (hL:Hid (Uin w A c L)) (hn:Hid (n=L.length)) (hc:Hid (Is w CA cc cols)) (hcn:Hid (cn=cols.length)) (hr:Hid (∀ y∈L, ∀ x∈cols,0≤x∧x<y.l.length)) (h1:cn≤1000) (h9:n≤1000000) (hz:Hid (∀ y∈L,y.l.length≤100000∧y.t.l.length≤100000)) :
  Calls Try.prog 10 #[.slice A n c, .slice CA cn cc] w (ProjTold cols L w):=by
 go_enter Try.func10,Try.ntmps10
 have HX:Hid (Ext w (w.alloc (.cells #[.slice CA cn cc] 22))):=Lib.hid ((Ext.refl w).alloc _)
 have HB:Hid (Bk (w.alloc (.cells #[.slice CA cn cc] 22)) w.heap.size 22 #[.slice CA cn cc]):=Lib.hid (Bk.new w _ _)
 go_wp2_with (go_at_call 25;refine (all_proj w.heap.size n c cn cc A CA cols L _ HB (Lib.hid (hL.out.ext HX.out)) hn (Lib.hid (hc.out.ext HX.out)) hcn hr h1 h9 hz).mono ?_;rintro e w1 ⟨A1,c1,xs,rfl,h1,h2,x1⟩;have H1:=Lib.hid h1;have H2:=Lib.hid h2;have X1:=Lib.hid x1;clear h1 h2 x1)
 go_ret
 exact ⟨A1,c1,xs,rfl,H1.out,H2.out,HX.out.trans X1.out⟩
open Go.RowKit
namespace UdS
theorem addV_split : ∀ (P R:List V) (x:V),(∀ y∈P,cmpV y x<0)→addV (P++R) x=P++addV R x
 | [],_,_,_=>rfl
 | y :: P,R,x,h=>by
  show (if cmpV y x<0 then y :: addV (P++R) x else _)=_
  rw [if_pos (h y (List.mem_cons_self ..)),addV_split P R x (fun z hz=>h z (List.mem_cons_of_mem _ hz))]
  rfl
theorem addV_eq (y x:V) (R:List V) (h:cmpV y x=0):addV (y :: R) x=(y.1,w64 (y.2+x.2)) :: R:=by
 show (if cmpV y x<0 then _ else if cmpV y x=0 then _ else _)=_
 rw [if_neg (by omega),if_pos h]
theorem addV_gt (y x:V) (R:List V) (h:0<cmpV y x):addV (y :: R) x=x :: y :: R:=by
 show (if cmpV y x<0 then _ else if cmpV y x=0 then _ else _)=_
 rw [if_neg (by omega),if_neg (by omega)]
theorem addV_len : ∀ (R:List V) (x:V),(addV R x).length≤R.length+1
 | [],_=>Nat.le_refl _
 | y :: R,x=>by
  unfold addV
  split
  ·rw [List.length_cons,List.length_cons];have:=addV_len R x;omega
  ·split
   ·rw [List.length_cons,List.length_cons];omega
   ·rw [List.length_cons,List.length_cons];omega
/-- strictly sorted -/
def Srt (L:List Ud):Prop:=L.Pairwise fun a b=>kcmp a.k b.k<0
theorem Srt.of {L:List Ud} (h:(L.map Ud.uv).Pairwise fun a b=>cmpV a b<0):Srt L:=List.pairwise_map.1 h
theorem Srt.below {L:List Ud} (h:Srt L) {k:Nat} (hk:k<L.length) {x:Ud} (hx:kcmp (L.getD k Ud.zero).k x.k≤0) : ∀ z∈L.take k,kcmp z.k x.k<0:=fun z hz=>by
 have hp:Srt (L.take (k+1)):=List.Pairwise.sublist (List.take_sublist _ _) h
 rw [takeU hk] at hp
 exact kcmp_tot.lt_of_lt_le ((List.pairwise_append.1 hp).2.2 z hz _ (by simp)) hx
theorem add_at_eq {L:List Ud} (h:Srt L) {k:Nat} (hk:k<L.length) {x y:Ud} (hy:L.getD k Ud.zero=y) (hx:kcmp y.k x.k=0) {s:Int} (hs:w64 (y.d+x.d)=s):(L.set k ⟨y.A,y.c,y.l,y.t,s⟩).map Ud.uv=addV (L.map Ud.uv) x.uv:=by
 have e:L=L.take k++y :: L.drop (k+1):=by rw [← hy, ← dropU hk,List.take_append_drop]
 have hb:=h.below hk (x:=x) (by rw [hy,hx];exact Int.le_refl _)
 have hl:(L.take k).length=k:=by rw [List.length_take];omega
 have e2:L.set k ⟨y.A,y.c,y.l,y.t,s⟩=L.take k++⟨y.A,y.c,y.l,y.t,s⟩ :: L.drop (k+1):=by
  have q:L.set k (⟨y.A,y.c,y.l,y.t,s⟩:Ud)=(L.take k++y :: L.drop (k+1)).set k ⟨y.A,y.c,y.l,y.t,s⟩:=congrArg (fun l=>List.set l k (⟨y.A,y.c,y.l,y.t,s⟩:Ud)) e
  rw [q,List.set_append_right _ _ (by rw [hl];exact Nat.le_refl _),hl,Nat.sub_self,List.set_cons_zero]
 rw [e2]
 have e3:L.map Ud.uv=(L.take k).map Ud.uv++y.uv :: (L.drop (k+1)).map Ud.uv:=by
  have q:=congrArg (List.map Ud.uv) e
  rwa [List.map_append,List.map_cons] at q
 rw [e3,addV_split _ _ _ (fun z hz=>by obtain ⟨q,hq,rfl⟩:=List.mem_map.1 hz;exact hb q hq),addV_eq _ _ _ (show cmpV y.uv x.uv=0 from hx),List.map_append,List.map_cons, ← hs]
 rfl
theorem add_at_new {L:List Ud} (h:Srt L) {k:Nat} (hk:k≤L.length) {x z:Ud} (hz:z.uv=x.uv) (h1 : ∀ j,k=j+1→kcmp (L.getD j Ud.zero).k x.k<0) (h2 : ∀ y,(L.drop k).head?=some y→0<kcmp y.k x.k):(L.take k++z :: L.drop k).map Ud.uv=addV (L.map Ud.uv) x.uv:=by
 have hb : ∀ y∈L.take k,kcmp y.k x.k<0:=by
  cases k with
  | zero=>intro y hy;simp at hy
  | succ j =>
   intro y hy
   have hj:=h1 j rfl
   rw [takeU (show j<L.length by omega)] at hy
   rcases List.mem_append.1 hy with hy | hy
   ·exact h.below (by omega) (Int.le_of_lt hj) y hy
   ·rw [List.mem_singleton.1 hy];exact hj
 have e3:L.map Ud.uv=(L.take k).map Ud.uv++(L.drop k).map Ud.uv:=by rw [← List.map_append,List.take_append_drop]
 rw [e3,addV_split _ _ _ (fun z hz=>by obtain ⟨q,hq,rfl⟩:=List.mem_map.1 hz;exact hb q hq),List.map_append,List.map_cons,hz]
 congr 1
 cases hd:L.drop k with
 | nil=>rfl
 | cons y R =>
  rw [List.map_cons,addV_gt _ _ _ (show 0<cmpV y.uv x.uv from h2 y (by rw [hd];rfl))]
def usumTo (L:List Ud) (i:Nat):List V:=((L.take i).map Ud.uv).foldl addV []
theorem usumTo_succ {L:List Ud} {i:Nat} {x:Ud} (hi:i<L.length) (hx:L.getD i Ud.zero=x):usumTo L (i+1)=addV (usumTo L i) x.uv:=by
 unfold usumTo
 rw [takeU hi,hx,List.map_append,List.foldl_append]
 rfl
theorem usumTo_len (L:List Ud) : ∀ i,(usumTo L i).length≤i
 | 0=>by unfold usumTo;simp
 | i+1=>by
  have ih:=usumTo_len L i
  by_cases hi:i<L.length
  ·rw [usumTo_succ hi rfl]
   have:=addV_len (usumTo L i) (L.getD i Ud.zero).uv
   omega
  ·have e:usumTo L (i+1)=usumTo L i:=by unfold usumTo;rw [List.take_of_length_le (by omega),List.take_of_length_le (by omega)]
   rw [e];omega
theorem usumTo_srt {L:List Ud} (hin : ∀ x∈L,InN x.uv) (i:Nat):(usumTo L i).Pairwise fun a b=>cmpV a b<0 :=
 (Summed.all ((L.take i).map Ud.uv) (fun y hy=>by obtain ⟨x,hx,rfl⟩:=List.mem_map.1 hy;exact hin x (List.mem_of_mem_take hx))).sorted
theorem udsC_set3 (L:List Ud) (k:Nat) (y:Ud) (s:Int) (hk:k<L.length) (hy:L.getD k Ud.zero=y):(udsC L).set (k * 4+3) (.int .i64 s)=udsC (L.set k ⟨y.A,y.c,y.l,y.t,s⟩):=by
 have e:L=L.take k++y :: L.drop (k+1):=by rw [← hy, ← dropU hk,List.take_append_drop]
 have hl:(L.take k).length=k:=by rw [List.length_take];omega
 have e2:L.set k ⟨y.A,y.c,y.l,y.t,s⟩=L.take k++⟨y.A,y.c,y.l,y.t,s⟩ :: L.drop (k+1):=by
  have q:L.set k (⟨y.A,y.c,y.l,y.t,s⟩:Ud)=(L.take k++y :: L.drop (k+1)).set k ⟨y.A,y.c,y.l,y.t,s⟩:=congrArg (fun l=>List.set l k (⟨y.A,y.c,y.l,y.t,s⟩:Ud)) e
  rw [q,List.set_append_right _ _ (by rw [hl];exact Nat.le_refl _),hl,Nat.sub_self,List.set_cons_zero]
 rw [e2]
 have e3:udsC L=udsC (L.take k)++(udC y++udsC (L.drop (k+1))):=by
  have q:=congrArg udsC e
  rw [udsC_append] at q
  exact q
 rw [e3,List.set_append_right _ _ (by rw [udsC_len,hl];omega),udsC_len,hl,Nat.add_sub_cancel_left,udsC_append]
 rfl
end UdS
end Go.Proofs.Ytdgbkpoickbidaa
namespace Go.Proofs.Ytdgbkpoickbidaa

def same (x y:TV):Bool:=decide (x.2.length=y.2.length)
/-! ### the time that stands for another one -/
open Go.RowKit
set_option maxRecDepth 100000 in
set_option maxHeartbeats 400000 in
theorem rsign_any (x y:Int) (w:World):Calls Try.prog 74 #[.int .u64 x, .int .u64 y] w fun e w'=>e = .returned (.int .i64 (cmpT x y))∧w=w':=by
 rcases Int.lt_trichotomy x y with h | h | h
 ·rw [cmpT_lt h]
  go_enter Try.func74,Try.ntmps74
  go_wp2
  go_ret
  exact ⟨rfl,rfl⟩
 ·subst h
  rw [cmpT_self]
  go_enter Try.func74,Try.ntmps74
  go_wp2
  go_ret
  exact ⟨rfl,rfl⟩
 ·rw [cmpT_gt h]
  have h2 : ¬ x<y:=by omega
  go_enter Try.func74,Try.ntmps74
  go_wp2
  go_ret
  exact ⟨rfl,rfl⟩
theorem rsign_at {v:Int} (x y:Int) (w:World) (h:Hid (cmpT x y=v)):Calls Try.prog 74 #[.int .u64 x, .int .u64 y] w fun e w'=>e = .returned (.int .i64 v)∧w=w':=h.out ▸ rsign_any x y w
/-- what is told when k counters have been looked at -/
def fromK (l1 l2:List Int) (k:Nat) (v:Int):Int:=if v=0 then lexT (l1.drop k) (l2.drop k) else v
set_option maxRecDepth 100000 in
set_option maxHeartbeats 2000000 in
theorem rcmp_off (e1 e2:Int) (A1 A2:Option Addr) (n1 n2 c1 c2:Nat) (w:World) (v:Int) (hv:Hid (cmpT n1 n2=v)) (v0:(v==0)=false) (hn1:n1≤1000000) (hn2:n2≤1000000) :
  Calls Try.prog 64 #[.agg #[.int .u64 e1, .slice A1 n1 c1], .agg #[.int .u64 e2, .slice A2 n2 c2]] w fun e w'=>e = .returned (.int .i64 v)∧Ext w w':=by
 have w1_:IntKind.u64.wrap (n1:Int)=n1:=IntWalk.u64_in _ (by omega)
 have w2_:IntKind.u64.wrap (n2:Int)=n2:=IntWalk.u64_in _ (by omega)
 go_enter Try.func64,Try.ntmps64
 go_wp2_with (go_at_call 74;refine (rsign_at _ _ _ hv).mono ?_;rintro r w1 ⟨rfl,rfl⟩)
 refine wp_loop_rounds 1 ?_
 rw [rounds_succ]
 go_wp2
 all_goals go_ret
 all_goals exact ⟨rfl,((Ext.refl w).alloc _).alloc _⟩
set_option maxRecDepth 100000 in
set_option maxHeartbeats 4000000 in
theorem rcmp_same (e1 e2:Int) (A1 A2:Option Addr) (n c1 c2:Nat) (l1 l2:List Int) (w:World) (h1:Sl w 1 A1 n c1 (wds l1)) (h2:Sl w 1 A2 n c2 (wds l2)) (u1:U32 l1) (u2:U32 l2) (hn:n≤1000000) :
  Calls Try.prog 64 #[.agg #[.int .u64 e1, .slice A1 n c1], .agg #[.int .u64 e2, .slice A2 n c2]] w fun e w'=>e = .returned (.int .i64 (fromK l1 l2 0 (cmpT e1 e2)))∧Ext w w':=by
 have HL1:=Lib.hid h1.wlen
 have HL2:=Lib.hid h2.wlen
 have HU1:=Lib.hid u1
 have HU2:=Lib.hid u2
 have w1_:IntKind.u64.wrap (n:Int)=n:=IntWalk.u64_in _ (by omega)
 have hs:Hid (cmpT n n=0):=Lib.hid (cmpT_self _)
 obtain ⟨R,hR⟩ : ∃ R,fromK l1 l2 0 (cmpT e1 e2)=R:=⟨_,rfl⟩
 rw [hR]
 have HR:=Lib.hid hR
 obtain ⟨v,hv⟩ : ∃ v,cmpT e1 e2=v:=⟨_,rfl⟩
 have hv1:=Lib.hid hv
 have HV:Hid (fromK l1 l2 0 v=R):=Lib.hid (by rw [← hv];exact hR)
 clear hR hv u1 u2
 have m1:True:=trivial
 go_enter Try.func64,Try.ntmps64
 go_wp2_with (first
  | (go_at_call 74;have mk:=m1;clear m1 mk;refine (rsign_at _ _ _ hs).mono ?_;rintro r w1 ⟨rfl,rfl⟩;have m2:True:=trivial)
  | (go_at_call 74;have mk:=m2;clear m2 mk;refine (rsign_at _ _ _ hv1).mono ?_;rintro r w1 ⟨rfl,rfl⟩))
 obtain ⟨w0,hw0⟩ : ∃ w0,w0=(w.alloc (Obj.cells #[Value.int IntKind.u64 e1,Value.slice A1 n c1] 47)).alloc (Obj.cells #[Value.int IntKind.u64 e2,Value.slice A2 n c2] 47):=⟨_,rfl⟩
 have x0:Ext w w0:=hw0 ▸ ((Ext.refl w).alloc _).alloc _
 have b1:w0.cell? ⟨w.heap.size,1,none⟩=some (Value.slice A1 n c1):=by subst hw0;go_simp
 have b2:w0.cell? ⟨w.heap.size+1,1,none⟩=some (Value.slice A2 n c2):=by subst hw0;go_simp
 rw [← hw0]
 clear hw0
 go_loopw [5,6] (fun u v wr => ∃ (k:Nat) (z:Int),k≤n∧v = .int .i64 k∧u = .int .i64 z∧Hid (fromK l1 l2 k z=R)∧Ext w0 wr) (fun _ v _=>n - (intOf v).toNat)
 case atStart=>exact ⟨0,v,Nat.zero_le _,rfl,rfl,HV,Ext.refl _⟩
 case round =>
  obtain ⟨k,z,hk,rfl,rfl,HZ,er⟩:=hrel
  have d1:wr.cell? ⟨w.heap.size,1,none⟩=some (Value.slice A1 n c1):=er.cell b1
  have d2:wr.cell? ⟨w.heap.size+1,1,none⟩=some (Value.slice A2 n c2):=er.cell b2
  by_cases hlt:k<n
  ·by_cases hz:z=0
   ·subst hz
    obtain ⟨a1,ha1,hc1,_⟩:=(h1.ext (x0.trans er)).word hlt
    obtain ⟨a2,ha2,hc2,_⟩:=(h2.ext (x0.trans er)).word hlt
    obtain ⟨x,hx⟩ : ∃ x,l1.getD k 0=x:=⟨_,rfl⟩
    obtain ⟨y,hy⟩ : ∃ y,l2.getD k 0=y:=⟨_,rfl⟩
    obtain ⟨q,hq⟩ : ∃ q,cmpT x y=q:=⟨_,rfl⟩
    have ux:=HU1.out.getD k
    have uy:=HU2.out.getD k
    rw [hx] at ux hc1
    rw [hy] at uy hc2
    have wx:IntKind.u64.wrap x=x:=IntWalk.u64_in _ (by omega)
    have wy:IntKind.u64.wrap y=y:=IntWalk.u64_in _ (by omega)
    have HN:Hid (fromK l1 l2 (k+1) q=R):=Lib.hid (by
     have h:=HZ.out
     have e1:=HL1.out
     have e2:=HL2.out
     unfold fromK at h ⊢
     rw [if_pos rfl,lexT_step k l1 l2 (by omega) (by omega),hx,hy,hq] at h
     exact h)
    have HQ:=Lib.hid hq
    clear hq hx hy HZ
    go_wp2
    have X:Ext wr wr.drew:=(Ext.refl wr).drew
    have q1 : ∀ y:Xt wr.drew,y.W.cell? ⟨w.heap.size,1,none⟩=some (.slice A1 n c1):=fun y=>y.x.cell (X.cell d1)
    have q2 : ∀ y:Xt wr.drew,y.W.cell? ⟨w.heap.size+1,1,none⟩=some (.slice A2 n c2):=fun y=>y.x.cell (X.cell d2)
    have q3 : ∀ y:Xt wr.drew,y.W.cell? (a1.add k)=some (.int .u32 x):=fun y=>y.x.cell (X.cell hc1)
    have q4 : ∀ z:Xt wr.drew,z.W.cell? (a2.add k)=some (.int .u32 y):=fun z=>z.x.cell (X.cell hc2)
    refine wp_region_ord [0,1,0,7,15,31,0,64,0,448,960,1984,4095,8191] (.flo [0,1,2,3,4,5,6,7,8,9,10,11] (.one 12 (.flo [13] (.fin)))) (by kernel_rfl) (by kernel_rfl) (by intro _ _ d _ _ h;cases d<;>exact h) ?_
    (refine ord_flo (pick_cons rfl (pick_cons rfl (pick_cons rfl (pick_cons rfl (pick_cons rfl (pick_cons rfl (pick_cons rfl (pick_cons rfl (pick_cons rfl (pick_cons rfl (pick_cons rfl (pick_cons rfl pick_nil)))))))))))) ?_;(repeat (go_big_quiet_step (fail)));refine wpQuiet_nil ?_;show ordWalk _ _ _ _ _ _ _)
    refine ord_one (pick_cons rfl pick_nil) ?_;intro K_ hK_
    go_wp2_with (go_at_call 74;refine (rsign_at _ _ _ HQ).mono ?_;rintro r w1 ⟨rfl,rfl⟩)
    (refine ord_flo (pick_cons rfl pick_nil) ?_;(repeat (go_big_quiet_step (fail)));refine wpQuiet_nil ?_;show ordWalk _ _ _ _ _ _ _)
    refine ord_fin ?_
    go_wp2
    rw [← ha1, ← ha2]
    go_roundw
    case rel=>exact ⟨k+1,q,by omega,by go_num,rfl,HN,er.trans X⟩
    case measure=>simp [intOf];omega
   ·have z0:(z==0)=false:=by simpa using hz
    have HF:Hid (z=R):=Lib.hid (by have h:=HZ.out;unfold fromK at h;rwa [if_neg hz] at h)
    clear hz HZ
    go_wp2
    go_ret
    exact ⟨by rw [← HF.out];rfl,x0.trans er⟩
  ·obtain rfl:k=n:=by omega
   have HF:Hid (z=R):=Lib.hid (by
    have h:=HZ.out
    have e1:=HL1.out
    have e2:=HL2.out
    unfold fromK at h
    split at h
    ·rename_i h0
     rw [List.drop_eq_nil_of_le (by omega),List.drop_eq_nil_of_le (by omega)] at h
     rw [h0]
     exact h
    ·exact h)
   clear HZ
   go_wp2
   all_goals go_ret
   all_goals exact ⟨by rw [← HF.out];rfl,x0.trans er⟩
theorem rcmp_any (e1 e2:Int) (A1 A2:Option Addr) (n1 n2 c1 c2:Nat) (l1 l2:List Int) (w:World) (h1:Sl w 1 A1 n1 c1 (wds l1)) (h2:Sl w 1 A2 n2 c2 (wds l2)) (u1:U32 l1) (u2:U32 l2) (hn1:n1≤1000000) (hn2:n2≤1000000) :
  Calls Try.prog 64 #[.agg #[.int .u64 e1, .slice A1 n1 c1], .agg #[.int .u64 e2, .slice A2 n2 c2]] w fun e w'=>e = .returned (.int .i64 (cmpTT e1 l1 e2 l2))∧Ext w w':=by
 have hl1:=h1.wlen
 have hl2:=h2.wlen
 unfold cmpTT
 rw [hl1,hl2]
 by_cases h:n1=n2
 ·subst h
  rw [show orT (cmpT n1 n1) (cmpT e1 e2) (lexT l1 l2)=fromK l1 l2 0 (cmpT e1 e2) by
   rw [cmpT_self];rfl]
  exact rcmp_same e1 e2 A1 A2 n1 c1 c2 l1 l2 w h1 h2 u1 u2 hn1
 ·have h9:cmpT n1 n2≠0:=fun h9=>h (by have:=cmpT_zero.1 h9;omega)
  rw [show orT (cmpT n1 n2) (cmpT e1 e2) (lexT l1 l2)=cmpT n1 n2 from if_neg h9]
  exact rcmp_off e1 e2 A1 A2 n1 n2 c1 c2 w _ (Lib.hid rfl) (by simpa using h9) hn1 hn2
open Go.RowKit
theorem rtc_at {v:Int} (e1 e2:Int) (A1 A2:Option Addr) (n1 n2 c1 c2:Nat) (l1 l2:List Int) (w:World) (hr:Hid (tcmp (e1,l1) (e2,l2)=v)) (h1:Hid (Sl w 1 A1 n1 c1 (wds l1))) (h2:Hid (Sl w 1 A2 n2 c2 (wds l2))) (u1:Hid (U32 l1)) (u2:Hid (U32 l2)) (hn1:n1≤1000000) (hn2:n2≤1000000) :
  Calls Try.prog 64 #[.agg #[.int .u64 e1, .slice A1 n1 c1], .agg #[.int .u64 e2, .slice A2 n2 c2]] w fun e w'=>e = .returned (.int .i64 v)∧Ext w w':=hr.out ▸ rcmp_any e1 e2 A1 A2 n1 n2 c1 c2 l1 l2 w h1.out h2.out u1.out u2.out hn1 hn2
open Go.RowKit
def signI (l s:Bool):Int:=if l then -1 else if s then 0 else 1
set_option maxRecDepth 100000 in
set_option maxHeartbeats 400000 in
theorem sign_any (l s:Bool) (w:World):Calls Try.prog 84 #[.bool l, .bool s] w fun e w'=>e = .returned (.int .i64 (signI l s))∧w=w':=by
 cases l<;>cases s
 all_goals
  go_enter Try.func84,Try.ntmps84
  go_wp2
  go_ret
  exact ⟨rfl,rfl⟩
set_option maxRecDepth 100000 in
set_option maxHeartbeats 800000 in
theorem rcmp_klt (ka na kb nb:Int) (ba bb:Bool) (sa sb:ByteArray) (w:World) (h:ka<kb):Calls Try.prog 73 #[.agg #[.int .u8 (ka), .bool (ba), .int .i64 (na), .string (sa)], .agg #[.int .u8 (kb), .bool (bb), .int .i64 (nb), .string (sb)]] w fun e w'=>e = .returned (.int .i64 (-1))∧Ext w w':=by
 have z:(ka != kb)=true:=by simp;omega
 go_enter Try.func73,Try.ntmps73
 go_wp2_with (go_at_call 84;refine (sign_any _ _ _).mono ?_;rintro e w1 ⟨rfl,rfl⟩)
 go_ret
 exact ⟨rfl,((Ext.refl w).alloc _).alloc _⟩
set_option maxRecDepth 100000 in
set_option maxHeartbeats 800000 in
theorem rcmp_kgt (ka na kb nb:Int) (ba bb:Bool) (sa sb:ByteArray) (w:World) (h:kb<ka):Calls Try.prog 73 #[.agg #[.int .u8 (ka), .bool (ba), .int .i64 (na), .string (sa)], .agg #[.int .u8 (kb), .bool (bb), .int .i64 (nb), .string (sb)]] w fun e w'=>e = .returned (.int .i64 (1))∧Ext w w':=by
 have z:(ka != kb)=true:=by simp;omega
 have z2:decide (ka<kb)=false:=by simp;omega
 go_enter Try.func73,Try.ntmps73
 go_wp2_with (go_at_call 84;refine (sign_any _ _ _).mono ?_;rintro e w1 ⟨rfl,rfl⟩)
 go_ret
 exact ⟨rfl,((Ext.refl w).alloc _).alloc _⟩
set_option maxRecDepth 100000 in
set_option maxHeartbeats 800000 in
theorem rcmp_b_false_false (na nb:Int) (sa sb:ByteArray) (w:World)  : Calls Try.prog 73 #[.agg #[.int .u8 (2), .bool (false), .int .i64 (na), .string (sa)], .agg #[.int .u8 (2), .bool (false), .int .i64 (nb), .string (sb)]] w fun e w'=>e = .returned (.int .i64 (0))∧Ext w w':=by
 go_enter Try.func73,Try.ntmps73
 go_wp2_with (go_at_call 84;refine (sign_any _ _ _).mono ?_;rintro e w1 ⟨rfl,rfl⟩)
 go_ret
 exact ⟨rfl,((Ext.refl w).alloc _).alloc _⟩
set_option maxRecDepth 100000 in
set_option maxHeartbeats 800000 in
theorem rcmp_b_false_true (na nb:Int) (sa sb:ByteArray) (w:World)  : Calls Try.prog 73 #[.agg #[.int .u8 (2), .bool (false), .int .i64 (na), .string (sa)], .agg #[.int .u8 (2), .bool (true), .int .i64 (nb), .string (sb)]] w fun e w'=>e = .returned (.int .i64 (-1))∧Ext w w':=by
 go_enter Try.func73,Try.ntmps73
 go_wp2_with (go_at_call 84;refine (sign_any _ _ _).mono ?_;rintro e w1 ⟨rfl,rfl⟩)
 go_ret
 exact ⟨rfl,((Ext.refl w).alloc _).alloc _⟩
set_option maxRecDepth 100000 in
set_option maxHeartbeats 800000 in
theorem rcmp_b_true_false (na nb:Int) (sa sb:ByteArray) (w:World)  : Calls Try.prog 73 #[.agg #[.int .u8 (2), .bool (true), .int .i64 (na), .string (sa)], .agg #[.int .u8 (2), .bool (false), .int .i64 (nb), .string (sb)]] w fun e w'=>e = .returned (.int .i64 (1))∧Ext w w':=by
 go_enter Try.func73,Try.ntmps73
 go_wp2_with (go_at_call 84;refine (sign_any _ _ _).mono ?_;rintro e w1 ⟨rfl,rfl⟩)
 go_ret
 exact ⟨rfl,((Ext.refl w).alloc _).alloc _⟩
set_option maxRecDepth 100000 in
set_option maxHeartbeats 800000 in
theorem rcmp_b_true_true (na nb:Int) (sa sb:ByteArray) (w:World)  : Calls Try.prog 73 #[.agg #[.int .u8 (2), .bool (true), .int .i64 (na), .string (sa)], .agg #[.int .u8 (2), .bool (true), .int .i64 (nb), .string (sb)]] w fun e w'=>e = .returned (.int .i64 (0))∧Ext w w':=by
 go_enter Try.func73,Try.ntmps73
 go_wp2_with (go_at_call 84;refine (sign_any _ _ _).mono ?_;rintro e w1 ⟨rfl,rfl⟩)
 go_ret
 exact ⟨rfl,((Ext.refl w).alloc _).alloc _⟩
set_option maxRecDepth 100000 in
set_option maxHeartbeats 800000 in
theorem rcmp_nlt (na nb:Int) (ba bb:Bool) (sa sb:ByteArray) (w:World) (h:na<nb):Calls Try.prog 73 #[.agg #[.int .u8 (3), .bool (ba), .int .i64 (na), .string (sa)], .agg #[.int .u8 (3), .bool (bb), .int .i64 (nb), .string (sb)]] w fun e w'=>e = .returned (.int .i64 (-1))∧Ext w w':=by
 have z:(na==nb)=false:=by simp;omega
 go_enter Try.func73,Try.ntmps73
 go_wp2_with (go_at_call 84;refine (sign_any _ _ _).mono ?_;rintro e w1 ⟨rfl,rfl⟩)
 go_ret
 exact ⟨rfl,((Ext.refl w).alloc _).alloc _⟩
set_option maxRecDepth 100000 in
set_option maxHeartbeats 800000 in
theorem rcmp_neq (na:Int) (ba bb:Bool) (sa sb:ByteArray) (w:World)  : Calls Try.prog 73 #[.agg #[.int .u8 (3), .bool (ba), .int .i64 (na), .string (sa)], .agg #[.int .u8 (3), .bool (bb), .int .i64 (na), .string (sb)]] w fun e w'=>e = .returned (.int .i64 (0))∧Ext w w':=by
 have z2:decide (na<na)=false:=by simp
 go_enter Try.func73,Try.ntmps73
 go_wp2_with (go_at_call 84;refine (sign_any _ _ _).mono ?_;rintro e w1 ⟨rfl,rfl⟩)
 go_ret
 exact ⟨rfl,((Ext.refl w).alloc _).alloc _⟩
set_option maxRecDepth 100000 in
set_option maxHeartbeats 800000 in
theorem rcmp_ngt (na nb:Int) (ba bb:Bool) (sa sb:ByteArray) (w:World) (h:nb<na):Calls Try.prog 73 #[.agg #[.int .u8 (3), .bool (ba), .int .i64 (na), .string (sa)], .agg #[.int .u8 (3), .bool (bb), .int .i64 (nb), .string (sb)]] w fun e w'=>e = .returned (.int .i64 (1))∧Ext w w':=by
 have z:(na==nb)=false:=by simp;omega
 have z2:decide (na<nb)=false:=by simp;omega
 go_enter Try.func73,Try.ntmps73
 go_wp2_with (go_at_call 84;refine (sign_any _ _ _).mono ?_;rintro e w1 ⟨rfl,rfl⟩)
 go_ret
 exact ⟨rfl,((Ext.refl w).alloc _).alloc _⟩
set_option maxRecDepth 100000 in
set_option maxHeartbeats 800000 in
theorem rcmp_slt (na nb:Int) (ba bb:Bool) (sa sb:ByteArray) (w:World) (h:Op.bytesLess sa.toList sb.toList=true):Calls Try.prog 73 #[.agg #[.int .u8 (4), .bool (ba), .int .i64 (na), .string (sa)], .agg #[.int .u8 (4), .bool (bb), .int .i64 (nb), .string (sb)]] w fun e w'=>e = .returned (.int .i64 (-1))∧Ext w w':=by
 go_enter Try.func73,Try.ntmps73
 go_wp2_with (go_at_call 84;refine (sign_any _ _ _).mono ?_;rintro e w1 ⟨rfl,rfl⟩)
 go_ret
 exact ⟨rfl,((Ext.refl w).alloc _).alloc _⟩
set_option maxRecDepth 100000 in
set_option maxHeartbeats 800000 in
theorem rcmp_seq (na nb:Int) (ba bb:Bool) (sa sb:ByteArray) (w:World) (h:Op.bytesLess sa.toList sb.toList=false) (h2:(sa.toList==sb.toList)=true):Calls Try.prog 73 #[.agg #[.int .u8 (4), .bool (ba), .int .i64 (na), .string (sa)], .agg #[.int .u8 (4), .bool (bb), .int .i64 (nb), .string (sb)]] w fun e w'=>e = .returned (.int .i64 (0))∧Ext w w':=by
 go_enter Try.func73,Try.ntmps73
 go_wp2_with (go_at_call 84;refine (sign_any _ _ _).mono ?_;rintro e w1 ⟨rfl,rfl⟩)
 go_ret
 exact ⟨rfl,((Ext.refl w).alloc _).alloc _⟩
set_option maxRecDepth 100000 in
set_option maxHeartbeats 800000 in
theorem rcmp_sgt (na nb:Int) (ba bb:Bool) (sa sb:ByteArray) (w:World) (h:Op.bytesLess sa.toList sb.toList=false) (h2:(sa.toList==sb.toList)=false):Calls Try.prog 73 #[.agg #[.int .u8 (4), .bool (ba), .int .i64 (na), .string (sa)], .agg #[.int .u8 (4), .bool (bb), .int .i64 (nb), .string (sb)]] w fun e w'=>e = .returned (.int .i64 (1))∧Ext w w':=by
 go_enter Try.func73,Try.ntmps73
 go_wp2_with (go_at_call 84;refine (sign_any _ _ _).mono ?_;rintro e w1 ⟨rfl,rfl⟩)
 go_ret
 exact ⟨rfl,((Ext.refl w).alloc _).alloc _⟩
set_option maxRecDepth 100000 in
set_option maxHeartbeats 800000 in
theorem rcmp_oth (k:Int) (na nb:Int) (ba bb:Bool) (sa sb:ByteArray) (w:World) (h2 : ¬ k=2) (h3 : ¬ k=3) (h4 : ¬ k=4):Calls Try.prog 73 #[.agg #[.int .u8 (k), .bool (ba), .int .i64 (na), .string (sa)], .agg #[.int .u8 (k), .bool (bb), .int .i64 (nb), .string (sb)]] w fun e w'=>e = .returned (.int .i64 (0))∧Ext w w':=by
 have z:(k != k)=false:=by simp
 have z2:(k==2)=false:=by simpa using h2
 have z3:(k==3)=false:=by simpa using h3
 have z4:(k==4)=false:=by simpa using h4
 go_enter Try.func73,Try.ntmps73
 go_wp2
 go_ret
 exact ⟨rfl,((Ext.refl w).alloc _).alloc _⟩
theorem rdcmp_any (ka na kb nb:Int) (ba bb:Bool) (sa sb:ByteArray) (w:World):Calls Try.prog 73 #[.agg #[.int .u8 (ka), .bool (ba), .int .i64 (na), .string (sa)], .agg #[.int .u8 (kb), .bool (bb), .int .i64 (nb), .string (sb)]] w fun e w'=>e = .returned (.int .i64 (cmpD ⟨ka,ba,na,sa⟩ ⟨kb,bb,nb,sb⟩))∧Ext w w':=by
 unfold cmpD
 simp only
 by_cases h:ka=kb
 ·subst h
  rw [if_pos rfl]
  by_cases h2:ka=2
  ·subst h2
   rw [if_pos rfl]
   cases ba<;>cases bb
   ·exact rcmp_b_false_false na nb sa sb w
   ·exact rcmp_b_false_true na nb sa sb w
   ·exact rcmp_b_true_false na nb sa sb w
   ·exact rcmp_b_true_true na nb sa sb w
  rw [if_neg h2]
  by_cases h3:ka=3
  ·subst h3
   rw [if_pos rfl]
   rcases Int.lt_trichotomy na nb with h | h | h
   ·rw [cmpI_lt h];exact rcmp_nlt na nb ba bb sa sb w h
   ·subst h;rw [cmpI_self];exact rcmp_neq na ba bb sa sb w
   ·rw [cmpI_gt h];exact rcmp_ngt na nb ba bb sa sb w h
  rw [if_neg h3]
  by_cases h4:ka=4
  ·subst h4
   rw [if_pos rfl]
   unfold cmpS
   cases h1:Op.bytesLess sa.toList sb.toList
   ·cases h2:(sa.toList==sb.toList)
    ·exact rcmp_sgt na nb ba bb sa sb w h1 h2
    ·exact rcmp_seq na nb ba bb sa sb w h1 h2
   ·exact rcmp_slt na nb ba bb sa sb w h1
  rw [if_neg h4]
  exact rcmp_oth ka na nb ba bb sa sb w h2 h3 h4
 ·rw [if_neg h]
  rcases Int.lt_or_gt_of_ne h with h | h
  ·rw [cmpI_lt h];exact rcmp_klt ka na kb nb ba bb sa sb w h
  ·rw [cmpI_gt h];exact rcmp_kgt ka na kb nb ba bb sa sb w h
theorem rcmp_at {c:Int} (ka na kb nb:Int) (ba bb:Bool) (sa sb:ByteArray) (w:World) (h:Hid (cmpD ⟨ka,ba,na,sa⟩ ⟨kb,bb,nb,sb⟩=c)):Calls Try.prog 73 #[.agg #[.int .u8 (ka), .bool (ba), .int .i64 (na), .string (sa)], .agg #[.int .u8 (kb), .bool (bb), .int .i64 (nb), .string (sb)]] w fun e w'=>e = .returned (.int .i64 c)∧Ext w w':=h.out ▸ rdcmp_any ka na kb nb ba bb sa sb w
theorem rcmpD_lit {v:Int} (ka na kb nb:Int) (ba bb:Bool) (sa sb:ByteArray) (w:World) (h:Hid (cmpD ⟨ka,ba,na,sa⟩ ⟨kb,bb,nb,sb⟩=v)) :
  Calls Try.prog 73 #[.agg #[.int .u8 ka, .bool ba, .int .i64 na, .string sa], .agg #[.int .u8 kb, .bool bb, .int .i64 nb, .string sb]] w fun e w'=>e = .returned (.int .i64 v)∧Ext w w':=rcmp_at _ _ _ _ _ _ _ _ _ h
end Go.Proofs.Ytdgbkpoickbidaa
