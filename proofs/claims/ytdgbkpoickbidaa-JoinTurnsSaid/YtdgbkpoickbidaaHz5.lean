/- (*join.side).matches: the updates of a side that an update of the other one matches, handed out one by one. What a join tells, as values. Plain. slices.Clone at rows. slices.Clone at a row, its facts hidden. slices.Clone at updates. delta.copied: an update with a row and counters of its own. join.copied: an update with a row and counters of its own. (*join.side).add: updates are laid in. slices.Grow of nothing, slices.Concat of two rows. join.both: an update out of two. What a push has told so far, in memory: the variable's block, its list. A function that leaves with many marks of ranges over functions. (*join.side).all: all updates of a side, in whatever order. slices.insertionSortCmpFunc at updates: it sorts, those that are alike in their order. Conditions: each theorem states its own. -/
import Derived.Test.YtdgbkpoickbidaaHz4
import Derived.RangeFuncBound
import Derived.Shelf.Abstract
import Derived.Shelf.RegionOpen
import Derived.WalkKit
import Derived.OwnWalkIn
import Derived.TacticsInMore
import Derived.LoopNIn
import Derived.LoopIn
import Derived.Test.YtdgbkpoickbidaaHz3
import Derived.Test.YtdgbkpoickbidaaHz2
import Derived.Test.YtdgbkpoickbidaaHz1
import Derived.Maps.RangeWalk
import Derived.Deep.LoopGhost
namespace Go.Proofs.Ytdgbkpoickbidaa
open Go.RowKit
attribute [local go_sem] Oper.semAt_some

theorem ext_grown {w w':World} (x:Ext w w'):w.grownBy w' none:=⟨Below.os x,Below.tape x,Below.output x,x.size,fun k hk _=>Below.block x k hk⟩
theorem abides_ext {β:Type} {B:Nat} {J:β→World→Prop} (h:AbidesFrom B J) {s:β} {w w':World} (hs:J s w) (x:Ext w w'):J s w':=h s w w' none hs (ext_grown x) (fun r e=>(by cases e))
/-- those of a list that are of one depth -/
def depthF (L:List Ud) (tu:Nat):List Ud:=L.filter fun x=>decide (x.t.l.length=tu)
/-- those that a name matches -/
def mtL (E:List Ls) (nm:List UInt8 × Bool) (tu:Nat):List Ud:=if nm.2=true then depthF (fnd E nm.1).l tu else []
/-- what the iterator reads in memory -/
structure MtI (S:Nat→Prop) (W:World) (bo bu bs:Nat) (po ps:Addr) (o s:SdM) (u:Ud) (nu tu cn:Nat):Prop where
 co:W.cell? ⟨bo,0,none⟩=some (.pointer (some po))
 cs:W.cell? ⟨bs,0,none⟩=some (.pointer (some ps))
 u0:W.cell? ⟨bu,0,none⟩=some (.slice u.A nu u.c)
 u2:W.cell? ⟨bu,2,none⟩=some (.slice u.t.A tu u.t.c)
 oc:W.cell? po=some (.slice o.CA cn o.cc)
 sm:W.cell? ⟨ps.block,ps.off+1,none⟩=some (.map (some s.mb))
 ol:Is W o.CA o.cc o.cols
 ur:Rw W u.A u.c u.l
 sr:SdR W s
 nu:nu=u.l.length
 tu:tu=u.t.l.length
 cn:cn=o.cols.length
 nb : ¬ S bo ∧ ¬ S bu ∧ ¬ S bs ∧ ¬ S ps.block
 nl : ∀ k,s.blks k → ¬ S k
 nd:NoDat W S
theorem val_inj {p:Ud→Prop} : ∀ {a b:List { x // p x }},a.map Subtype.val=b.map Subtype.val→a=b
 | [],[],_=>rfl
 | [],_ :: _,h=>by simp at h
 | _ :: _,[],h=>by simp at h
 | x :: a,y :: b,h=>by
  rw [List.map_cons,List.map_cons] at h
  injection h with h1 h2
  rw [Subtype.ext h1,val_inj h2]
theorem attach_of {M:List Ud} {pre:List { x // x∈M }} (h:pre.map Subtype.val=M):pre=M.attach:=val_inj (by rw [h,List.attach_map_subtype_val])
theorem depth_take {L:List Ud} {i tu:Nat} (h:i<L.length):depthF (L.take (i+1)) tu=depthF (L.take i) tu++(if (L.getD i Ud.zero).t.l.length=tu then [L.getD i Ud.zero] else []):=by
 unfold depthF
 rw [takeU h,List.filter_append]
 congr 1
 by_cases e:(L.getD i Ud.zero).t.l.length=tu
 ·rw [if_pos e,List.filter_cons_of_pos (by exact decide_eq_true e)];rfl
 ·rw [if_neg e,List.filter_cons_of_neg (by rw [decide_eq_true_iff];exact e)];rfl
theorem depth_lt {L:List Ud} {i tu:Nat} (h:i<L.length) (e:(L.getD i Ud.zero).t.l.length=tu):(depthF (L.take i) tu).length<(depthF L tu).length∧L.getD i Ud.zero∈depthF L tu:=by
 have h1:=depth_take (tu:=tu) h
 rw [if_pos e] at h1
 have h2:depthF L tu=depthF (L.take (i+1)) tu++depthF (L.drop (i+1)) tu:=by
  unfold depthF
  rw [← List.filter_append,List.take_append_drop]
 rw [h2,h1]
 exact ⟨by simp,by simp⟩
set_option maxRecDepth 100000 in
set_option maxHeartbeats 4000000 in
theorem matches1_in (S S0:Nat→Prop) (n l bo bu bs nu tu cn:Nat) (po ps:Addr) (o s:SdM) (u:Ud) (r:List UInt8) (is:Bool) (M:List Ud) (J Jx:List { x // x∈M }→World→Prop) (w W:World) (hn:1≤n) (hW:Hid (Ext w W)) (hSS:Hid (∀ k,k<w.heap.size→S k→S0 k)) (hJ:Hid (AbidesFrom W.heap.size J))
  (hY : ∀ pre x W1,J pre W1→pre.length<M.length→YieldAt Fence.wide (n - 1) Try.prog l #[udV x.1] W1 fun e W'=>(e = .returned (.bool true)∧J (pre++[x]) W'∧Upd S W1 W')∨(e = .returned (.bool false)∧Jx (pre++[x]) W'))
  (hI:Hid (MtI S0 w bo bu bs po ps o s u nu tu cn)) (hq:Hid (namT o.cols u.l=(r,is))) (hM:Hid (M=mtL s.E (r,is) tu)) (hg:Hid (NamR u.l)) (h1:cn≤1000) (h0:Hid (∀ x∈o.cols,0≤x)) (h9:Hid ((fnd s.E r).l.length≤1000000)) (h:J [] W) :
  CallsIn Fence.wide n Try.prog 33 #[.func (.yield l) #[] #[], .pointer (some ⟨bo,0,none⟩), .pointer (some ⟨bu,0,none⟩), .pointer (some ⟨bs,0,none⟩)] W fun e W'=>(∃ v,e = .returned v)∧((∃ ys,ys=M.attach∧J ys W')∨(∃ pre,True∧Jx pre W')):=by
 have c0:=hW.out.cell hI.out.co
 have c1:=hW.out.cell hI.out.cs
 have c2:=hW.out.cell hI.out.u0
 have c3:=hI.out.u2
 have c4:=hW.out.cell hI.out.oc
 refine callsIn_of_wp Try.func33 rfl trivial ?_ rfl
 simp only [Try.ntmps33,List.size_toArray,List.length_cons,List.length_nil,Nat.reduceAdd,Nat.reduceSub,Array.replicate_succ,Array.replicate_zero,List.push_toArray,List.append_toArray,List.nil_append,List.cons_append]
 cases is with
 | false =>
  gi_wp2_with (refine ⟨trivial,?_⟩;gi_at_call 34;refine (callsIn_wide.2 (name_any po o.CA u.A cn o.cc nu u.c o.cols u.l r false _ hq c4 (Lib.hid hI.out.cn) (Lib.hid hI.out.nu) (Lib.hid (hI.out.ol.ext hW.out)) (Lib.hid (hI.out.ur.ext hW.out)) hg h1 h0)).mono ?_;rintro e w2 ⟨rfl,x2⟩;have X2:=Lib.hid x2;clear x2)
  refine bodyPost_ret (results_none rfl _ _ _) rfl ?_
  exact ⟨⟨_,rfl⟩, .inl ⟨[],attach_of (by rw [hM.out];rfl),abides_ext hJ.out h X2.out⟩⟩
 | true =>
  have hrl:r.length≤1009000:=namT_len hq.out hg.out (by rw [← hI.out.cn];exact h1)
  have HLK:Hid (∀ V,OwnsJ V s.mb s.nn s.D→(Instr.lookup 59 (.map (some s.mb)) (.string ⟨r.toArray⟩) false).run Try.prog V = .ok (.slice (fnd s.E r).A (fnd s.E r).l.length (fnd s.E r).c) V):=Lib.hid (fun V hV=>hI.out.sr.look hV (by omega))
  have HMM:Hid (M=depthF (fnd s.E r).l tu):=Lib.hid (by rw [hM.out];rfl)
  have HFL:Hid (∀ V,SdR V s→Uin V (fnd s.E r).A (fnd s.E r).c (fnd s.E r).l):=Lib.hid (fun V hV=>(hV.fnd r).uin)
  have hl9:=h9.out
  obtain ⟨f,hf⟩ : ∃ f,fnd s.E r=f:=⟨_,rfl⟩
  rw [hf] at HLK HMM HFL hl9
  obtain ⟨fl,hfn⟩ : ∃ fl,f.l.length=fl:=⟨_,rfl⟩
  rw [hfn] at HLK hl9
  have HFN:=Lib.hid hfn
  clear hf hfn h9
  gi_wp2_with (refine ⟨trivial,?_⟩;gi_at_call 34;refine (callsIn_wide.2 (name_any po o.CA u.A cn o.cc nu u.c o.cols u.l r true _ hq c4 (Lib.hid hI.out.cn) (Lib.hid hI.out.nu) (Lib.hid (hI.out.ol.ext hW.out)) (Lib.hid (hI.out.ur.ext hW.out)) hg h1 h0)).mono ?_;rintro e w2 ⟨rfl,x2⟩;have X2:=Lib.hid x2;have k1:=x2.cell c1;have k5:=x2.cell (hW.out.cell hI.out.sm);have k6:=HLK.out w2 (OwnsJ.ext hI.out.sr.mp (hW.out.trans x2));clear x2)
  have HJ2:=Lib.hid (abides_ext hJ.out h X2.out)
  clear k1 k5 k6
  gi_loopw [25] (fun v wr => ∃ (i:Nat) (pre:List { x // x∈M }),v = .int .i64 i∧i≤fl∧Hid (pre.map Subtype.val=depthF (f.l.take i) tu)∧Hid (J pre wr)∧Hid (Upd S W wr)) (fun v _=>fl - (intOf v).toNat)
  case atStart=>exact ⟨0,[],rfl,Nat.zero_le _,Lib.hid rfl,HJ2,Lib.hid (Upd.ext X2.out)⟩
  case round =>
   obtain ⟨i,pre,rfl,hi,HP,HJr,HU⟩:=hrel
   by_cases hlt:i<fl
   ·have hil:i<f.l.length:=by rw [HFN.out];exact hlt
    have HU0:Hid (Upd S0 w wr):=Lib.hid (((Upd.ext hW.out).trans HU.out).mono hSS.out)
    have HSR:=Lib.hid (hI.out.sr.upd HU0.out hI.out.nd hI.out.nl)
    obtain ⟨ad,hA,p0,p1,p2,p3⟩:=(HFL.out wr HSR.out).at hil
    have HDT:=Lib.hid (depth_take (tu:=tu) hil)
    have HDL:=Lib.hid (fun e=>depth_lt (tu:=tu) hil e)
    have q2:wr.cell? ⟨bu,2,none⟩=some (.slice u.t.A tu u.t.c):=HU0.out.cell hI.out.nb.2.1 c3
    obtain ⟨x,hx⟩ : ∃ x,f.l.getD i Ud.zero=x:=⟨_,rfl⟩
    rw [hx] at p0 p1 p2 p3 HDT HDL
    rw [hA]
    clear hx hil
    by_cases hd:x.t.l.length=tu
    ·have hxm:x∈M:=by rw [HMM.out];exact (HDL.out hd).2
     have hpl:pre.length<M.length:=by
      have:=(HDL.out hd).1
      rw [← HP.out, ← HMM.out,List.length_map] at this
      exact this
     obtain ⟨fn,tmps,assign,body,hy,hR⟩:=hY pre ⟨x,hxm⟩ (wr.alloc (.cells #[.slice x.A x.l.length x.c, .int .u64 x.t.e, .slice x.t.A x.t.l.length x.t.c, .int .i64 x.d] 51)) (abides_ext hJ.out HJr.out ((Ext.refl wr).alloc _)) hpl
     dsimp only [udV] at hy
     rw [hd] at hy hR p2
     have q3:=((Ext.refl wr).alloc (.cells #[.slice x.A x.l.length x.c, .int .u64 x.t.e, .slice x.t.A tu x.t.c, .int .i64 x.d] 51)).cell q2
     have HD:=Lib.hid hd
     clear hd
     gi_wp2
     refine hR.mono ?_
     rintro e W3 (⟨rfl,hJ3,hk3⟩ | ⟨rfl,hJx3⟩)
     ·gi_wp2
      go_roundw
      case rel=>exact ⟨i+1,pre++[⟨x,hxm⟩],by go_num,by omega,Lib.hid (by rw [HDT.out,List.map_append,HP.out,if_pos HD.out];rfl),Lib.hid hJ3,Lib.hid ((HU.out.trans (Upd.ext ((Ext.refl wr).alloc _))).trans hk3)⟩
      case measure=>simp [intOf];omega
     ·gi_wp2
      refine bodyPost_ret (results_none rfl _ _ _) rfl ?_
      exact ⟨⟨_,rfl⟩, .inr ⟨_,trivial,hJx3⟩⟩
    ·have q3:=((Ext.refl wr).alloc (.cells #[.slice x.A x.l.length x.c, .int .u64 x.t.e, .slice x.t.A x.t.l.length x.t.c, .int .i64 x.d] 51)).cell q2
     have hdi:((x.t.l.length:Int)==(tu:Int))=false:=by simp;omega
     have HD:=Lib.hid hd
     clear hd
     gi_wp2
     refine ⟨fun _ h=>(by cases h),?_⟩
     gi_wp2
     go_roundw
     case rel=>exact ⟨i+1,pre,by go_num,by omega,Lib.hid (by rw [HDT.out,HP.out,if_neg HD.out,List.append_nil]),Lib.hid (abides_ext hJ.out HJr.out ((Ext.refl wr).alloc _)),Lib.hid (HU.out.trans (Upd.ext ((Ext.refl wr).alloc _)))⟩
     case measure=>simp [intOf];omega
   ·obtain rfl:i=fl:=by omega
    gi_wp2
    go_end0
    exact ⟨⟨_,rfl⟩, .inl ⟨pre,attach_of (by rw [HP.out,HMM.out, ← HFN.out,List.take_length]),HJr.out⟩⟩
/-- the iterator's contract -/
theorem matches_stops {S0:Nat→Prop} {n bo bu bs nu tu cn:Nat} {po ps:Addr} {o s:SdM} {u:Ud} {M:List Ud} {w:World} (hn:1≤n) (hI:MtI S0 w bo bu bs po ps o s u nu tu cn) (hM:M=mtL s.E (namT o.cols u.l) tu) (hg:NamR u.l) (h1:cn≤1000) (h0 : ∀ x∈o.cols,0≤x) (h9 : ∀ k,(fnd s.E k).l.length≤1000000) :
  SeqStopsK Fence.wide n Try.prog 33 #[.pointer (some ⟨bo,0,none⟩), .pointer (some ⟨bu,0,none⟩), .pointer (some ⟨bs,0,none⟩)] (fun x:{ x // x∈M } => #[udV x.1]) (Upd fun k=>S0 k∨w.heap.size≤k) (fun ys=>ys=M.attach) (fun _=>True) M.length w:=fun l J Jx W hW hJ _ hY h=>by
 rcases hq:namT o.cols u.l with ⟨r,is⟩
 rw [hq] at hM
 exact matches1_in _ S0 n l bo bu bs nu tu cn po ps o s u r is M J Jx w W hn (Lib.hid hW) (Lib.hid fun k hk h=>by rcases h with h | h;exact h;omega) (Lib.hid hJ) hY (Lib.hid hI) (Lib.hid hq) (Lib.hid hM) (Lib.hid hg) h1 (Lib.hid h0) (Lib.hid (h9 r)) h
set_option maxRecDepth 100000 in
set_option maxHeartbeats 400000 in
theorem matches_any (ps po:Addr) (A B:Option Addr) (n c m b:Nat) (e d:Int) (w:World) :
  Calls Try.prog 21 #[.pointer (some ps), .pointer (some po), .agg #[.slice A n c, .int .u64 e, .slice B m b, .int .i64 d]] w fun r w'=>r = .returned (.func (.func 33) #[] #[.pointer (some ⟨w.heap.size+1,0,none⟩), .pointer (some ⟨w.heap.size+1+1,0,none⟩), .pointer (some ⟨w.heap.size,0,none⟩)]) ∧
   Bk w' w.heap.size 69 #[.pointer (some ps)]∧Bk w' (w.heap.size+1) 69 #[.pointer (some po)]∧Bk w' (w.heap.size+1+1) 51 #[.slice A n c, .int .u64 e, .slice B m b, .int .i64 d]∧Ext w w'∧w'.heap.size=w.heap.size+3:=by
 go_enter Try.func21,Try.ntmps21
 go_wp2
 go_ret
 exact ⟨rfl,(((Bk.new w _ _).alloc _).alloc _),((Bk.at (by simp)).alloc _),Bk.at (by simp),(((Ext.refl w).alloc _).alloc _).alloc _,by simp⟩
open Go.RowKit
def joinTV (s t:TV):TV:=(max s.1 t.1,List.zipWith max s.2 t.2)
def bothV (u v:UV):UV:=((u.1.1++v.1.1,joinTV u.1.2 v.1.2),wrap64 (u.2 * v.2))
/-- does u (of the other side, by its columns co) match x? -/
def nmEq (cs co:List Int) (x u:UV):Bool:=(namT co u.1.1).2&&decide (namT cs x.1.1=namT co u.1.1)&&decide (x.1.2.2.length=u.1.2.2.length)
def mtV (cs co:List Int) (u:UV) (T:List UV):List UV:=T.filter fun x=>nmEq cs co x u
theorem mt_val {s:SdM} {T:List UV} (h:SdV s T) (co:List Int) (u:Ud):(mtL s.E (namT co u.l) u.t.l.length).map Ud.uv=mtV s.cols co u.uv T:=by
 unfold mtL mtV nmEq
 rw [show u.uv.1.1=u.l from rfl,show u.uv.1.2.2=u.t.l from rfl]
 rcases hq:namT co u.l with ⟨r,is⟩
 cases is with
 | false =>
  rw [if_neg (fun h=>Bool.noConfusion (show false=true from h))]
  simp
 | true =>
  rw [if_pos rfl]
  unfold depthF
  rw [show (fun x:Ud=>decide (x.t.l.length=u.t.l.length))=(fun x:UV=>decide (x.1.2.2.length=u.t.l.length)) ∘ Ud.uv from rfl, ← List.filter_map,h.get,List.filter_filter]
  congr 1
  funext x
  rw [Bool.and_comm,Bool.true_and]
theorem gj_nam {N:Nat} {u:UV} (h:GoodJ N u):NamR u.1.1:=by
 refine ⟨fun d hd=>?_,h.nr,fun d hd=>?_⟩
 ·obtain ⟨hk,_⟩:=form_of (show checkT d.k d.b d.n d.s=0 from h.ck d hd)
  exact hk
 ·have h0:checkT d.k d.b d.n d.s=0:=h.ck d hd
  have hf:=form_of h0
  rw [checkT_on hf] at h0
  split at h0
  ·split at h0
   ·exact absurd h0 (by decide)
   ·omega
  ·exact absurd h0 (by decide)
open Go.RowKit
theorem elem_dat:Elem Try.prog 49 55 4 32 (.agg #[.int .u8 0, .bool false, .int .i64 0, .string ⟨#[]⟩]):=⟨by kernel_rfl,by kernel_rfl,rfl,by decide⟩
/-- a row that a call has made, in blocks from B on -/
def RowOut (B n:Nat) (l:List Dat) (e:Ending) (w':World):Prop := ∃ A c,e = .returned (.slice A n c)∧Own w' B 55 4 A n c (rowC l)∧(∀ ad,A=some ad→B≤ad.block∧ad.block<w'.heap.size)
theorem blk_some {A:Option Addr} {c g:Nat} (h:blk A c=some g) : ∃ ad,A=some ad∧ad.block=g:=by
 cases A with
 | none=>cases c<;>exact nomatch h
 | some ad =>
  cases c with
  | zero=>exact nomatch h
  | succ c=>exact ⟨ad,rfl,by injection h⟩
set_option maxRecDepth 100000 in
set_option maxHeartbeats 1000000 in
theorem cloneRow_any (A:Option Addr) (c n:Nat) (l:List Dat) (w:World) (hn:n=l.length) (h:Rw w A c l) (hs:n≤1000000000) :
  Calls Try.prog 54 #[.slice A n c] w fun e w'=>RowOut w.heap.size n l e w'∧Ext w w':=by
 have hnil:=fun (W:World)=>Lib.run_eql_slice_nil (P:=Try.prog) W 49 55 A n c 0 0 Try.underlying49
 cases A with
 | none =>
  have hc:c=0:=h.2.2.2.1 rfl
  have hn0:n=0:=by have:=h.2.1;omega
  have hl:l=[]:=List.eq_nil_of_length_eq_zero (by omega)
  subst hc hn0 hl
  clear h hn
  go_enter Try.func54,Try.ntmps54
  go_wp2
  go_ret
  exact ⟨⟨none,0,rfl,Own.nil _ _ _ _,fun ad e=>nomatch e⟩,Ext.refl w⟩
 | some ad =>
  have HN:=Lib.hid hn
  have hh:Sl w 4 (some ad) n c (rowC l):=by rw [hn];exact h
  have H:=Lib.hid hh
  clear h hn hh
  go_enter Try.func54,Try.ntmps54
  go_wp2_with (at_builtin;(refine wpList_append_two _ elem_dat w.heap.size _ _ rfl rfl (some ⟨w.heap.size,0,none⟩) 0 0 [] rfl ((Own.empty _ w.heap.size _ 4 _)) (some ad) n c (rowC l) rfl (Sl.ext H.out ((Ext.refl w).alloc _)) (rowC_one l) (by omega) (by decide) (by simp) ?_;intro A' c' w2 o2 g2 h2))
  go_ret
  refine ⟨⟨A',c',by simp,by simpa using o2,fun a e=>?_⟩,((Ext.refl w).alloc _).grown g2 (by simp [blk])⟩
  subst e
  rcases h2 with ⟨e1,e2⟩ | ⟨e1,_⟩
  ·injection e1 with e1
   subst e1
   exact ⟨Nat.le_refl _,Nat.lt_of_lt_of_le (by simp) g2.size⟩
  ·obtain ⟨a2,e2,e3⟩:=blk_some e1
   injection e2 with e2
   have e4:(w.alloc (.cells #[] 55)).heap.size=w.heap.size+1:=by simp
   have e5:=(o2.lt _ e1).2
   rw [e2,e3]
   omega
open Go.RowKit
theorem clone_lit (A:Option Addr) (c n:Nat) (l:List Dat) (w:World) (e1:Hid (n=l.length)) (h1:Hid (Rw w A c l)) (hs:n≤1000000000) :
  Calls Try.prog 54 #[.slice A n c] w fun e w'=>RowOut w.heap.size n l e w'∧Ext w w':=cloneRow_any A c n l w e1.out h1.out hs
open Go.RowKit
set_option maxRecDepth 100000 in
set_option maxHeartbeats 400000 in
theorem clone_ups (A:Option Addr) (n c:Nat) (L:List Ud) (w:World) (hm:Hid (n=L.length)) (h:Hid (Uin w A c L)) (hn:n≤1000000) :
  Calls Try.prog 38 #[.slice A n c] w fun e w' => ∃ A' c',e = .returned (.slice A' n c')∧Own w' w.heap.size 51 4 A' n c' (udsC L)∧Ext w w':=by
 have hs:Hid (Sl w 4 A n c (udsC L)):=Lib.hid (by rw [hm.out];exact h.out.sl)
 have hnil:=fun (W:World)=>Lib.run_eql_slice_nil (P:=Try.prog) W 33 51 A n c 0 0 Try.underlying33
 rcases A with _ | a
 ·obtain rfl:c=0:=hs.out.2.2.2.1 rfl
  have hn0:n=0:=by have:=hs.out.2.1;omega
  subst hn0
  have hx:udsC L=[]:=List.eq_nil_of_length_eq_zero (by simpa using hs.out.1)
  rw [hx]
  go_enter Try.func38,Try.ntmps38
  go_wp2
  go_ret
  exact ⟨none,0,rfl,Own.nil _ _ _ _,Ext.refl _⟩
 ·go_enter Try.func38,Try.ntmps38
  go_wp2_with (at_builtin;refine wpList_append_gen _ elem_ud w.heap.size _ _ (by rfl) (by rfl) _ 0 0 [] (by rfl) (Own.empty _ _ _ _ _) (some a) n c (udsC L) (by rfl) (hs.out.ext ((Ext.refl w).alloc _)) (udsC_one L) (by omega) (by omega) (by simp) ?_;intro A' c' w1 ho1 hg1 hk1)
  go_ret
  refine ⟨A',c',by simp,by simpa using ho1,?_⟩
  exact ((Ext.refl w).alloc _).grown hg1 (by simp [blk])
open Go.RowKit
theorem Bk.set4 {w:World} {g:Nat} {t:TypeId} {a b c d:Value} (h:Bk w g t #[a,b,c,d]) (u v x y:Value) :
  ((((w.setCell ⟨g,0,none⟩ u).setCell ⟨g,1,none⟩ v).setCell ⟨g,2,none⟩ x).setCell ⟨g,3,none⟩ y).cell? ⟨g,0,none⟩=some u∧((((w.setCell ⟨g,0,none⟩ u).setCell ⟨g,1,none⟩ v).setCell ⟨g,2,none⟩ x).setCell ⟨g,3,none⟩ y).cell? ⟨g,1,none⟩=some v ∧
   ((((w.setCell ⟨g,0,none⟩ u).setCell ⟨g,1,none⟩ v).setCell ⟨g,2,none⟩ x).setCell ⟨g,3,none⟩ y).cell? ⟨g,2,none⟩=some x∧((((w.setCell ⟨g,0,none⟩ u).setCell ⟨g,1,none⟩ v).setCell ⟨g,2,none⟩ x).setCell ⟨g,3,none⟩ y).cell? ⟨g,3,none⟩=some y:=by
 have bb:=(((h.set 0 u).set 1 v).set 2 x).set 3 y
 exact ⟨bb.cell 0,bb.cell 1,bb.cell 2,bb.cell 3⟩
def UCopyOut (x:Ud) (nx tx:Nat) (w:World) (r:Ending) (w':World):Prop := ∃ (A:Option Addr) (c:Nat) (B:Option Addr) (b:Nat),r = .returned (.agg #[.slice A nx c, .int .u64 x.t.e, .slice B tx b, .int .i64 x.d]) ∧
 Own w' w.heap.size 55 4 A nx c (rowC x.l)∧Own w' w.heap.size 103 1 B tx b (wds x.t.l)∧Ext w w'
set_option maxRecDepth 100000 in
set_option maxHeartbeats 4000000 in
theorem ucopied_any (x:Ud) (nx tx:Nat) (w:World) (hnx:Hid (nx=x.l.length)) (htx:Hid (tx=x.t.l.length)) (hx:Hid (UdR w x)) (h9:nx≤1000000000) (h8:tx≤1000000000) :
  Calls Try.prog 41 #[.agg #[.slice x.A nx x.c, .int .u64 x.t.e, .slice x.t.A tx x.t.c, .int .i64 x.d]] w (UCopyOut x nx tx w):=by
 have HT:Hid (Sl w 1 x.t.A tx x.t.c (wds x.t.l)):=Lib.hid (by rw [htx.out];exact hx.out.t)
 go_enter Try.func41,Try.ntmps41
 go_upto_region 1 with fail
 obtain ⟨w0,hw0⟩ : ∃ w0,w0=(w.alloc (Obj.cells #[.slice x.A nx x.c, .int .u64 x.t.e, .slice x.t.A tx x.t.c, .int .i64 x.d] 51)).alloc (Obj.cells #[.slice none 0 0, .int .u64 0, .slice none 0 0, .int .i64 0] 51):=⟨_,rfl⟩
 have x0:Ext w w0:=hw0 ▸ ((Ext.refl w).alloc _).alloc _
 have a0:Bk w0 w.heap.size 51 #[.slice x.A nx x.c, .int .u64 x.t.e, .slice x.t.A tx x.t.c, .int .i64 x.d]:=by subst hw0;exact (Bk.new _ _ _).alloc _
 have b0:Bk w0 (w.heap.size+1) 51 #[.slice none 0 0, .int .u64 0, .slice none 0 0, .int .i64 0]:=by subst hw0;exact Bk.at (by simp)
 have hs0:w0.heap.size=w.heap.size+2:=by rw [hw0];simp
 rw [← hw0]
 clear hw0
 have X:Ext w0 w0.drew:=(Ext.refl w0).drew
 have q0 : ∀ y:Xt w0.drew,y.W.cell? ⟨w.heap.size,0,none⟩=some (.slice x.A nx x.c):=fun y=>(a0.ext (X.trans y.x)).cell 0
 have q2 : ∀ y:Xt w0.drew,y.W.cell? ⟨w.heap.size,2,none⟩=some (.slice x.t.A tx x.t.c):=fun y=>(a0.ext (X.trans y.x)).cell 2
 have HR:=Lib.hid (hx.out.r.ext (x0.trans X))
 refine wp_region_ord [0,1,3,0,8,24,63,63,255,511,1023,2047] (.flo [0,1,3,4,5] (.ext 2 (.pur [7] (.one 6 (.one 8 (.flo [9,10] (.one 11 (.fin)))))))) (by kernel_rfl) (by kernel_rfl) (by intro _ _ d _ _ h;cases d<;>exact h) ?_
 (refine ord_flo (pick_cons rfl (pick_cons rfl (pick_cons rfl (pick_cons rfl (pick_cons rfl pick_nil))))) ?_;(repeat (go_big_quiet_step (fail)));refine wpQuiet_nil ?_;show ordWalk _ _ _ _ _ _ _)
 refine ord_ext (pick_cons rfl pick_nil) ?_;intro K_ hK_
 go_wp2_with (go_at_call 54;refine (clone_lit x.A x.c nx x.l _ hnx HR h9).mono ?_;rintro e w1 ⟨⟨A1,c1,rfl,o1,b1⟩,x1⟩)
 refine ordNext.mk x1 ?_
 (refine ord_pur (pick_cons rfl pick_nil) ?_;(repeat (go_big_quiet_step (fail)));refine wpQuiet_nil ?_;show ordWalk _ _ _ _ _ _ _)
 refine ord_one (pick_cons rfl pick_nil) ?_;intro K_ hK_
 have hs1:=(X.trans x1).size
 go_wp2_with (go_at_call 55;refine (clone_words x.t.A tx x.t.c _ _ (HT.out.ext ((x0.trans X).trans x1)) (wds_one _) (by omega)).mono ?_;rintro e w2 ⟨A2,c2,rfl,o2,x2⟩)
 have XE:Ext w0 w2:=(X.trans x1).trans x2
 have O1:Hid (Own w2 w0.heap.size 55 4 A1 nx c1 (rowC x.l)):=Lib.hid ((Own.ext o1 x2).mono X.size)
 have O2:Hid (Own w2 w0.heap.size 103 1 A2 tx c2 (wds x.t.l)):=Lib.hid (Own.mono o2 hs1)
 have a2:=a0.ext XE
 have b2:=b0.ext XE
 have p0:=a2.cell 0
 have f0:=a2.free 0
 have hs2:=XE.size
 clear o1 o2 b1 q0 q2
 refine ord_one (pick_cons rfl pick_nil) ?_;intro K_ hK_
 go_wp2
 obtain ⟨w3,hw3⟩ : ∃ w3,w3=w2.setCell ⟨w.heap.size,0,none⟩ (.slice A1 nx c1):=⟨_,rfl⟩
 have a3:Bk w3 w.heap.size 51 #[.slice A1 nx c1, .int .u64 x.t.e, .slice x.t.A tx x.t.c, .int .i64 x.d]:=by rw [hw3];exact a2.set 0 _
 have b3:Bk w3 (w.heap.size+1) 51 #[.slice none 0 0, .int .u64 0, .slice none 0 0, .int .i64 0]:=by rw [hw3];exact b2.far (by simp) _
 have O1:Hid (Own w3 w0.heap.size 55 4 A1 nx c1 (rowC x.l)):=Lib.hid (by rw [hw3];exact O1.out.far (O1.out.ne (by show w.heap.size<_;omega)) _)
 have O2:Hid (Own w3 w0.heap.size 103 1 A2 tx c2 (wds x.t.l)):=Lib.hid (by rw [hw3];exact O2.out.far (O2.out.ne (by show w.heap.size<_;omega)) _)
 have X3:Hid (Ext w w3):=Lib.hid (by rw [hw3];exact (x0.trans XE).set (p:=⟨w.heap.size,0,none⟩) (Nat.le_refl _) _)
 rw [← hw3]
 clear hw3 p0 f0
 have p2:=a3.cell 2
 have f2:=a3.free 2
 (refine ord_flo (pick_cons rfl (pick_cons rfl pick_nil)) ?_;(repeat (go_big_quiet_step (fail)));refine wpQuiet_nil ?_;show ordWalk _ _ _ _ _ _ _)
 refine ord_one (pick_cons rfl pick_nil) ?_;intro K_ hK_
 go_wp2
 obtain ⟨w4,hw4⟩ : ∃ w4,w4=w3.setCell ⟨w.heap.size,2,none⟩ (.slice A2 tx c2):=⟨_,rfl⟩
 have a4:Bk w4 w.heap.size 51 #[.slice A1 nx c1, .int .u64 x.t.e, .slice A2 tx c2, .int .i64 x.d]:=by rw [hw4];exact a3.set 2 _
 have b4:Bk w4 (w.heap.size+1) 51 #[.slice none 0 0, .int .u64 0, .slice none 0 0, .int .i64 0]:=by rw [hw4];exact b3.far (by simp) _
 have O1:Hid (Own w4 w0.heap.size 55 4 A1 nx c1 (rowC x.l)):=Lib.hid (by rw [hw4];exact O1.out.far (O1.out.ne (by show w.heap.size<_;omega)) _)
 have O2:Hid (Own w4 w0.heap.size 103 1 A2 tx c2 (wds x.t.l)):=Lib.hid (by rw [hw4];exact O2.out.far (O2.out.ne (by show w.heap.size<_;omega)) _)
 have X4:Hid (Ext w w4):=Lib.hid (by rw [hw4];exact X3.out.set (p:=⟨w.heap.size,2,none⟩) (Nat.le_refl _) _)
 rw [← hw4]
 clear hw4 p2 f2
 refine ord_fin ?_
 have r0:=a4.cell 0
 have r1:=a4.cell 1
 have r2:=a4.cell 2
 have r3:=a4.cell 3
 have s0:=b4.cell 0
 have s1:=b4.cell 1
 have s2:=b4.cell 2
 have s3:=b4.cell 3
 have g0:=b4.free 0
 have g1:=b4.free 1
 have g2:=b4.free 2
 have g3:=b4.free 3
 have BB:=Lib.hid b4
 clear a0 b0 a2 b2 a3 b3 a4 b4
 go_wp2
 have bb:=BB.out.set4 (.slice A1 nx c1) (.int .u64 x.t.e) (.slice A2 tx c2) (.int .i64 x.d)
 refine bodyPost_ret (v := .agg #[.slice A1 nx c1, .int .u64 x.t.e, .slice A2 tx c2, .int .i64 x.d]) (by simp [results,Try.results41,go_sem,bb.1,bb.2.1,bb.2.2.1,bb.2.2.2]) rfl ⟨A1,c1,A2,c2,rfl,?_,?_,?_⟩
 ·exact ((((O1.out.far (O1.out.ne (by show w.heap.size+1<_;omega)) _).far (O1.out.ne (by show w.heap.size+1<_;omega)) _).far (O1.out.ne (by show w.heap.size+1<_;omega)) _).far (O1.out.ne (by show w.heap.size+1<_;omega)) _).mono (by omega)
 ·exact ((((O2.out.far (O2.out.ne (by show w.heap.size+1<_;omega)) _).far (O2.out.ne (by show w.heap.size+1<_;omega)) _).far (O2.out.ne (by show w.heap.size+1<_;omega)) _).far (O2.out.ne (by show w.heap.size+1<_;omega)) _).mono (by omega)
 ·exact (((X4.out.set (p:=⟨w.heap.size+1,0,none⟩) (by simp) _).set (p:=⟨w.heap.size+1,1,none⟩) (by simp) _).set (p:=⟨w.heap.size+1,2,none⟩) (by simp) _).set (p:=⟨w.heap.size+1,3,none⟩) (by simp) _
open Go.RowKit
set_option maxRecDepth 100000 in
set_option maxHeartbeats 4000000 in
theorem jcopied_any (x:Ud) (nx tx:Nat) (w:World) (hnx:Hid (nx=x.l.length)) (htx:Hid (tx=x.t.l.length)) (hx:Hid (UdR w x)) (h9:nx≤1000000000) (h8:tx≤1000000000) :
  Calls Try.prog 37 #[.agg #[.slice x.A nx x.c, .int .u64 x.t.e, .slice x.t.A tx x.t.c, .int .i64 x.d]] w (UCopyOut x nx tx w):=by
 have HT:Hid (Sl w 1 x.t.A tx x.t.c (wds x.t.l)):=Lib.hid (by rw [htx.out];exact hx.out.t)
 go_enter Try.func37,Try.ntmps37
 go_upto_region 1 with fail
 obtain ⟨w0,hw0⟩ : ∃ w0,w0=(w.alloc (Obj.cells #[.slice x.A nx x.c, .int .u64 x.t.e, .slice x.t.A tx x.t.c, .int .i64 x.d] 51)).alloc (Obj.cells #[.slice none 0 0, .int .u64 0, .slice none 0 0, .int .i64 0] 51):=⟨_,rfl⟩
 have x0:Ext w w0:=hw0 ▸ ((Ext.refl w).alloc _).alloc _
 have a0:Bk w0 w.heap.size 51 #[.slice x.A nx x.c, .int .u64 x.t.e, .slice x.t.A tx x.t.c, .int .i64 x.d]:=by subst hw0;exact (Bk.new _ _ _).alloc _
 have b0:Bk w0 (w.heap.size+1) 51 #[.slice none 0 0, .int .u64 0, .slice none 0 0, .int .i64 0]:=by subst hw0;exact Bk.at (by simp)
 have hs0:w0.heap.size=w.heap.size+2:=by rw [hw0];simp
 rw [← hw0]
 clear hw0
 have X:Ext w0 w0.drew:=(Ext.refl w0).drew
 have q0 : ∀ y:Xt w0.drew,y.W.cell? ⟨w.heap.size,0,none⟩=some (.slice x.A nx x.c):=fun y=>(a0.ext (X.trans y.x)).cell 0
 have q2 : ∀ y:Xt w0.drew,y.W.cell? ⟨w.heap.size,2,none⟩=some (.slice x.t.A tx x.t.c):=fun y=>(a0.ext (X.trans y.x)).cell 2
 have HR:=Lib.hid (hx.out.r.ext (x0.trans X))
 refine wp_region_ord [0,1,3,0,8,24,63,63,255,511,1023,2047] (.flo [0,1,3,4,5] (.ext 2 (.pur [7] (.one 6 (.one 8 (.flo [9,10] (.one 11 (.fin)))))))) (by kernel_rfl) (by kernel_rfl) (by intro _ _ d _ _ h;cases d<;>exact h) ?_
 (refine ord_flo (pick_cons rfl (pick_cons rfl (pick_cons rfl (pick_cons rfl (pick_cons rfl pick_nil))))) ?_;(repeat (go_big_quiet_step (fail)));refine wpQuiet_nil ?_;show ordWalk _ _ _ _ _ _ _)
 refine ord_ext (pick_cons rfl pick_nil) ?_;intro K_ hK_
 go_wp2_with (go_at_call 54;refine (clone_lit x.A x.c nx x.l _ hnx HR h9).mono ?_;rintro e w1 ⟨⟨A1,c1,rfl,o1,b1⟩,x1⟩)
 refine ordNext.mk x1 ?_
 (refine ord_pur (pick_cons rfl pick_nil) ?_;(repeat (go_big_quiet_step (fail)));refine wpQuiet_nil ?_;show ordWalk _ _ _ _ _ _ _)
 refine ord_one (pick_cons rfl pick_nil) ?_;intro K_ hK_
 have hs1:=(X.trans x1).size
 go_wp2_with (go_at_call 55;refine (clone_words x.t.A tx x.t.c _ _ (HT.out.ext ((x0.trans X).trans x1)) (wds_one _) (by omega)).mono ?_;rintro e w2 ⟨A2,c2,rfl,o2,x2⟩)
 have XE:Ext w0 w2:=(X.trans x1).trans x2
 have O1:Hid (Own w2 w0.heap.size 55 4 A1 nx c1 (rowC x.l)):=Lib.hid ((Own.ext o1 x2).mono X.size)
 have O2:Hid (Own w2 w0.heap.size 103 1 A2 tx c2 (wds x.t.l)):=Lib.hid (Own.mono o2 hs1)
 have a2:=a0.ext XE
 have b2:=b0.ext XE
 have p0:=a2.cell 0
 have f0:=a2.free 0
 have hs2:=XE.size
 clear o1 o2 b1 q0 q2
 refine ord_one (pick_cons rfl pick_nil) ?_;intro K_ hK_
 go_wp2
 obtain ⟨w3,hw3⟩ : ∃ w3,w3=w2.setCell ⟨w.heap.size,0,none⟩ (.slice A1 nx c1):=⟨_,rfl⟩
 have a3:Bk w3 w.heap.size 51 #[.slice A1 nx c1, .int .u64 x.t.e, .slice x.t.A tx x.t.c, .int .i64 x.d]:=by rw [hw3];exact a2.set 0 _
 have b3:Bk w3 (w.heap.size+1) 51 #[.slice none 0 0, .int .u64 0, .slice none 0 0, .int .i64 0]:=by rw [hw3];exact b2.far (by simp) _
 have O1:Hid (Own w3 w0.heap.size 55 4 A1 nx c1 (rowC x.l)):=Lib.hid (by rw [hw3];exact O1.out.far (O1.out.ne (by show w.heap.size<_;omega)) _)
 have O2:Hid (Own w3 w0.heap.size 103 1 A2 tx c2 (wds x.t.l)):=Lib.hid (by rw [hw3];exact O2.out.far (O2.out.ne (by show w.heap.size<_;omega)) _)
 have X3:Hid (Ext w w3):=Lib.hid (by rw [hw3];exact (x0.trans XE).set (p:=⟨w.heap.size,0,none⟩) (Nat.le_refl _) _)
 rw [← hw3]
 clear hw3 p0 f0
 have p2:=a3.cell 2
 have f2:=a3.free 2
 (refine ord_flo (pick_cons rfl (pick_cons rfl pick_nil)) ?_;(repeat (go_big_quiet_step (fail)));refine wpQuiet_nil ?_;show ordWalk _ _ _ _ _ _ _)
 refine ord_one (pick_cons rfl pick_nil) ?_;intro K_ hK_
 go_wp2
 obtain ⟨w4,hw4⟩ : ∃ w4,w4=w3.setCell ⟨w.heap.size,2,none⟩ (.slice A2 tx c2):=⟨_,rfl⟩
 have a4:Bk w4 w.heap.size 51 #[.slice A1 nx c1, .int .u64 x.t.e, .slice A2 tx c2, .int .i64 x.d]:=by rw [hw4];exact a3.set 2 _
 have b4:Bk w4 (w.heap.size+1) 51 #[.slice none 0 0, .int .u64 0, .slice none 0 0, .int .i64 0]:=by rw [hw4];exact b3.far (by simp) _
 have O1:Hid (Own w4 w0.heap.size 55 4 A1 nx c1 (rowC x.l)):=Lib.hid (by rw [hw4];exact O1.out.far (O1.out.ne (by show w.heap.size<_;omega)) _)
 have O2:Hid (Own w4 w0.heap.size 103 1 A2 tx c2 (wds x.t.l)):=Lib.hid (by rw [hw4];exact O2.out.far (O2.out.ne (by show w.heap.size<_;omega)) _)
 have X4:Hid (Ext w w4):=Lib.hid (by rw [hw4];exact X3.out.set (p:=⟨w.heap.size,2,none⟩) (Nat.le_refl _) _)
 rw [← hw4]
 clear hw4 p2 f2
 refine ord_fin ?_
 have r0:=a4.cell 0
 have r1:=a4.cell 1
 have r2:=a4.cell 2
 have r3:=a4.cell 3
 have s0:=b4.cell 0
 have s1:=b4.cell 1
 have s2:=b4.cell 2
 have s3:=b4.cell 3
 have g0:=b4.free 0
 have g1:=b4.free 1
 have g2:=b4.free 2
 have g3:=b4.free 3
 have BB:=Lib.hid b4
 clear a0 b0 a2 b2 a3 b3 a4 b4
 go_wp2
 have bb:=BB.out.set4 (.slice A1 nx c1) (.int .u64 x.t.e) (.slice A2 tx c2) (.int .i64 x.d)
 refine bodyPost_ret (v := .agg #[.slice A1 nx c1, .int .u64 x.t.e, .slice A2 tx c2, .int .i64 x.d]) (by simp [results,Try.results37,go_sem,bb.1,bb.2.1,bb.2.2.1,bb.2.2.2]) rfl ⟨A1,c1,A2,c2,rfl,?_,?_,?_⟩
 ·exact ((((O1.out.far (O1.out.ne (by show w.heap.size+1<_;omega)) _).far (O1.out.ne (by show w.heap.size+1<_;omega)) _).far (O1.out.ne (by show w.heap.size+1<_;omega)) _).far (O1.out.ne (by show w.heap.size+1<_;omega)) _).mono (by omega)
 ·exact ((((O2.out.far (O2.out.ne (by show w.heap.size+1<_;omega)) _).far (O2.out.ne (by show w.heap.size+1<_;omega)) _).far (O2.out.ne (by show w.heap.size+1<_;omega)) _).far (O2.out.ne (by show w.heap.size+1<_;omega)) _).mono (by omega)
 ·exact (((X4.out.set (p:=⟨w.heap.size+1,0,none⟩) (by simp) _).set (p:=⟨w.heap.size+1,1,none⟩) (by simp) _).set (p:=⟨w.heap.size+1,2,none⟩) (by simp) _).set (p:=⟨w.heap.size+1,3,none⟩) (by simp) _
open Go.RowKit
theorem upd_step {U V:Nat→Prop} {a b c:World} (h:Upd U a b) (k:Upd V b c) (hv : ∀ q,q<a.heap.size→V q→U q):Upd U a c :=
 ⟨k.os.trans h.os,k.tape.trans h.tape,k.output.trans h.output,Nat.le_trans h.size k.size,fun q hq hn=>(k.block q (Nat.lt_of_lt_of_le hq h.size) (fun e=>hn (hv q hq e))).trans (h.block q hq hn)⟩
/-- what of a side stays as updates come -/
structure SdK (w:World) (s s':SdM):Prop where
 cols:s'.cols=s.cols
 CA:s'.CA=s.CA
 cc:s'.cc=s.cc
 mb:s'.mb=s.mb
 fr : ∀ k,s'.blks k→s.blks k∨w.heap.size≤k
theorem SdK.refl (w:World) (s:SdM):SdK w s s:=⟨rfl,rfl,rfl,rfl,fun _ h => .inl h⟩
theorem SdK.trans {a b:World} {s s1 s2:SdM} (h:SdK a s s1) (k:SdK b s1 s2) (hs:a.heap.size≤b.heap.size):SdK a s s2 :=
 ⟨k.cols.trans h.cols,k.CA.trans h.CA,k.cc.trans h.cc,k.mb.trans h.mb,fun q hq=>by
  rcases k.fr q hq with q1 | q1
  ·exact h.fr q q1
  ·exact .inr (Nat.le_trans hs q1)⟩
/-- what add leaves -/
def AddOut (jb o:Nat) (cs:Array Value) (s:SdM) (T:List UV) (w:World) (e:Ending) (w':World):Prop :=
 (∃ v,e = .returned v) ∧ ∃ s',Bk w' jb 65 (cs.setIfInBounds (o+2) (.slice s'.A s'.r.length s'.c))∧SdR w' s'∧SdV s' T∧SdK w s s'∧Upd (fun k=>s.blks k∨k=jb) w w'
theorem set_set {cs:Array Value} {i:Nat} {u v:Value}:(cs.setIfInBounds i u).setIfInBounds i v=cs.setIfInBounds i v:=by
 apply Array.ext'
 simp
theorem set_get {cs:Array Value} {i j:Nat} {u v:Value} (h:j≠i) (e:cs[j]?=some v):(cs.setIfInBounds i u)[j]?=some v:=by
 rw [Array.getElem?_setIfInBounds_ne (Ne.symm h)];exact e
theorem set_here {cs:Array Value} {i:Nat} {u v:Value} (e:cs[i]?=some v):(cs.setIfInBounds i u)[i]?=some u:=by
 have hlt:i<cs.size:=(Array.getElem?_eq_some_iff.1 e).1
 simp [hlt]
theorem set_id {cs:Array Value} {i:Nat} {v:Value} (e:cs[i]?=some v):cs.setIfInBounds i v=cs:=by
 apply Array.ext'
 obtain ⟨hlt,rfl⟩:=Array.getElem?_eq_some_iff.1 e
 simp only [Array.toList_setIfInBounds]
 rw [← Array.getElem_toList hlt]
 exact List.set_getElem_self _
theorem SdK.upd {w wr w2:World} {s s1:SdM} {jb:Nat} (HK:SdK w s s1) (HU:Upd (fun k=>s.blks k∨k=jb) w wr) (k:Upd (fun k=>s1.blks k∨k=jb) wr w2):Upd (fun k=>s.blks k∨k=jb) w w2:=upd_step HU k fun q hq h=>by
 rcases h with h | h
 ·rcases HK.fr q h with h | h
  ·exact .inl h
  ·omega
 ·exact .inr h
theorem add_put {w wr wA w5 w6:World} {jb o fl nx tx c3 c5 b3:Nat} {cs:Array Value} {s s1:SdM} {T:List UV} {x:Ud} {r:List UInt8} {A3 A5 B3:Option Addr} (HB:Bk wr jb 65 (cs.setIfInBounds (o+2) (.slice s1.A s1.r.length s1.c))) (HS:SdR wr s1) (HV:SdV s1 T) (HK:SdK w s s1) (HU:Upd (fun k=>s.blks k∨k=jb) w wr)
  (hq:namT s.cols x.l=(r,true)) (XA:Ext wr wA) (HO5:Own w5 0 51 4 A5 (fl+1) c5 (udsC (fnd s1.E r).l++[.slice A3 nx c3, .int .u64 x.t.e, .slice B3 tx b3, .int .i64 x.d])) (hfl:(fnd s1.E r).l.length=fl) (hnx:nx=x.l.length) (htx:tx=x.t.l.length)
  (o3:Own wA 0 55 4 A3 nx c3 (rowC x.l)) (t3:Own wA 0 103 1 B3 tx b3 (wds x.t.l)) (HG5:wA.grownBy w5 (blk (fnd s1.E r).A (fnd s1.E r).c)) (HX5:(A5=(fnd s1.E r).A∧c5=(fnd s1.E r).c)∨(blk A5 c5=some wA.heap.size∧Ext wA w5))
  (HM7:OwnsJ w6 s.mb (s1.nn+1) (s1.D.put (.string r) (.held (.slice A5 (fl+1) c5)))) (HG6:w5.grownBy w6 (some s.mb)) :
  ∃ s2,Bk w6 jb 65 (cs.setIfInBounds (o+2) (.slice s2.A s2.r.length s2.c))∧SdR w6 s2∧SdV s2 (T++[x.uv])∧SdK w s s2∧Upd (fun k=>s.blks k∨k=jb) w w6:=by
 subst hnx htx hfl
 have HF:=HS.fnd r
 have U5:Upd (fun k=>blk (fnd s1.E r).A (fnd s1.E r).c=some k) wA w5:=(Upd.refl _ wA).grown HG5 (fun k hk => .inl hk)
 have U:Upd (fun k=>blk (fnd s1.E r).A (fnd s1.E r).c=some k) wr w5:=(Upd.ext XA).trans U5
 have ND:NoDat wA (fun k=>blk (fnd s1.E r).A (fnd s1.E r).c=some k):=fun k hk=>ty_noDat ((HF.ow.ext XA).ty hk) (by decide) (by decide) (by decide)
 have hx:LsR w5 A5 c5 ((fnd s1.E r).l++[(⟨A3,c3,x.l,⟨x.t.e,B3,b3,x.t.l⟩,x.d⟩:Ud)]):=by
  refine ⟨by rw [udsC_append,List.length_append];exact HO5,fun y hy=>?_⟩
  rcases List.mem_append.1 hy with hy | hy
  ·exact ((HF.el y hy).ext XA).upd U5 ND
  ·rw [List.mem_singleton] at hy
   subst hy
   exact UdO.upd ⟨o3,t3⟩ U5 ND
 have hb : ∀ k,blk A5 c5=some k→blk (fnd s1.E r).A (fnd s1.E r).c=some k∨wr.heap.size≤k:=fun k hk=>by
  rcases HX5 with ⟨e1,e2⟩ | ⟨e1,_⟩
  ·rw [e1,e2] at hk;exact .inl hk
  ·rw [e1] at hk
   injection hk with hk
   exact .inr (by rw [← hk];exact XA.size)
 obtain ⟨y,hy⟩ : ∃ y:Ls,y=⟨r,A5,c5,(fnd s1.E r).l++[(⟨A3,c3,x.l,⟨x.t.e,B3,b3,x.t.l⟩,x.d⟩:Ud)]⟩:=⟨_,rfl⟩
 have ey:lsV y = .slice A5 ((fnd s1.E r).l.length+1) c5:=by subst hy;simp [lsV]
 have mb:=HK.mb
 have um:Upd (fun k=>k=s1.mb) w5 w6:=(Upd.refl _ w5).grown HG6 (fun k hk => .inl (by injection hk with hk;exact hk.symm.trans mb.symm))
 have hR:SdR w6 (s1.put y):=by
  refine HS.put (x:=y) (w2:=w5) (by subst hy;exact U) (by subst hy;exact hx) (by subst hy;exact hb) ?_ (by rw [mb];exact HG6)
  rw [ey,mb]
  subst hy
  exact HM7
 have hj1 : ¬ s1.blks jb:=fun q=>HS.not_bk HB (by decide) q
 refine ⟨s1.put y,?_,hR,?_,?_,?_⟩
 ·have h1:Bk w5 jb 65 (cs.setIfInBounds (o+2) (.slice s1.A s1.r.length s1.c)):=(Bk.ext HB XA).upd U5 (fun q=>hj1 (HS.fnd_blk r q))
  exact h1.upd um (fun q=>hj1 (.inl q))
 ·exact HV.put HS.nd (x:=y) (u:=⟨A3,c3,x.l,⟨x.t.e,B3,b3,x.t.l⟩,x.d⟩) (by subst hy;rfl) (by subst hy;rw [HK.cols];exact hq)
 ·refine HK.trans (b:=wr) ⟨rfl,rfl,rfl,rfl,fun k hk=>?_⟩ HU.size
  rcases hk with hk | hk | ⟨z,hz,hk⟩
  ·exact .inl (.inl hk)
  ·exact .inl (.inr (.inl hk))
  ·rcases put_case hz with q | q
   ·exact .inl (.inr (.inr ⟨z,q.1,hk⟩))
   ·subst q
    subst hy
    rcases hb k hk with q | q
    ·exact .inl (HS.fnd_blk r q)
    ·exact .inr q
 ·exact HK.upd HU ((U.mono fun k _ hk => .inl (HS.fnd_blk r hk)).trans (um.mono fun k _ hk => .inl (.inl hk)))
theorem add_rest {w wr wA w5:World} {jb o m nx tx c3 c5 b3:Nat} {cs:Array Value} {s s1:SdM} {T:List UV} {x:Ud} {A3 A5 B3:Option Addr} (HB:Bk wr jb 65 (cs.setIfInBounds (o+2) (.slice s1.A s1.r.length s1.c))) (HS:SdR wr s1) (HV:SdV s1 T) (HK:SdK w s s1) (HU:Upd (fun k=>s.blks k∨k=jb) w wr)
  (hq:namT s.cols x.l=([],false)) (XA:Ext wr wA) (HO5:Own w5 0 51 4 A5 (m+1) c5 (udsC s1.r++[.slice A3 nx c3, .int .u64 x.t.e, .slice B3 tx b3, .int .i64 x.d])) (hm:m=s1.r.length) (hnx:nx=x.l.length) (htx:tx=x.t.l.length)
  (o3:Own wA 0 55 4 A3 nx c3 (rowC x.l)) (t3:Own wA 0 103 1 B3 tx b3 (wds x.t.l)) (HG5:wA.grownBy w5 (blk s1.A s1.c)) (HX5:(A5=s1.A∧c5=s1.c)∨(blk A5 c5=some wA.heap.size∧Ext wA w5)) :
  ∃ s2,Bk (w5.setCell ⟨jb,o+2,none⟩ (.slice A5 (m+1) c5)) jb 65 (cs.setIfInBounds (o+2) (.slice s2.A s2.r.length s2.c))∧SdR (w5.setCell ⟨jb,o+2,none⟩ (.slice A5 (m+1) c5)) s2∧SdV s2 (T++[x.uv])∧SdK w s s2∧Upd (fun k=>s.blks k∨k=jb) w (w5.setCell ⟨jb,o+2,none⟩ (.slice A5 (m+1) c5)):=by
 subst hnx htx hm
 have U5:Upd (fun k=>blk s1.A s1.c=some k) wA w5:=(Upd.refl _ wA).grown HG5 (fun k hk => .inl hk)
 have U:Upd (fun k=>blk s1.A s1.c=some k) wr w5:=(Upd.ext XA).trans U5
 have ND:NoDat wA (fun k=>blk s1.A s1.c=some k):=fun k hk=>ty_noDat ((HS.rs.ow.ext XA).ty hk) (by decide) (by decide) (by decide)
 have hx:LsR w5 A5 c5 (s1.r++[(⟨A3,c3,x.l,⟨x.t.e,B3,b3,x.t.l⟩,x.d⟩:Ud)]):=by
  refine ⟨by rw [udsC_append,List.length_append];exact HO5,fun y hy=>?_⟩
  rcases List.mem_append.1 hy with hy | hy
  ·exact ((HS.rs.el y hy).ext XA).upd U5 ND
  ·rw [List.mem_singleton] at hy
   subst hy
   exact UdO.upd ⟨o3,t3⟩ U5 ND
 have hb : ∀ k,blk A5 c5=some k→blk s1.A s1.c=some k∨wr.heap.size≤k:=fun k hk=>by
  rcases HX5 with ⟨e1,e2⟩ | ⟨e1,_⟩
  ·rw [e1,e2] at hk;exact .inl hk
  ·rw [e1] at hk
   injection hk with hk
   exact .inr (by rw [← hk];exact XA.size)
 have hR:=HS.rest U hx hb
 have hj1 : ¬ s1.blks jb:=fun q=>HS.not_bk HB (by decide) q
 have h1:Bk w5 jb 65 (cs.setIfInBounds (o+2) (.slice s1.A s1.r.length s1.c)):=(Bk.ext HB XA).upd U5 (fun q=>hj1 (.inr (.inl q)))
 have uj:Upd (fun k=>k=jb) w5 (w5.setCell ⟨jb,o+2,none⟩ (.slice A5 (s1.r.length+1) c5)):=(Upd.refl (fun k=>k=jb) w5).setCell (p:=⟨jb,o+2,none⟩) (.inl (Eq.refl jb)) _
 refine ⟨s1.rest A5 c5 (s1.r++[(⟨A3,c3,x.l,⟨x.t.e,B3,b3,x.t.l⟩,x.d⟩:Ud)]),?_,?_,?_,?_,?_⟩
 ·have:=h1.set (o+2) (.slice A5 (s1.r.length+1) c5)
  rw [set_set] at this
  have e:(s1.r++[(⟨A3,c3,x.l,⟨x.t.e,B3,b3,x.t.l⟩,x.d⟩:Ud)]).length=s1.r.length+1:=by simp
  show Bk _ _ _ (cs.setIfInBounds (o+2) (.slice A5 (s1.r++[(⟨A3,c3,x.l,⟨x.t.e,B3,b3,x.t.l⟩,x.d⟩:Ud)]).length c5))
  rw [e]
  exact this
 ·refine hR.upd uj (fun k hk=>by subst hk;exact ty_noDat h1.ty (by decide) (by decide) (by decide)) (fun k hk e=>?_)
  subst e
  exact hR.not_bk h1 (by decide) hk
 ·exact HV.rest (u:=⟨A3,c3,x.l,⟨x.t.e,B3,b3,x.t.l⟩,x.d⟩) (by rw [HK.cols];exact hq)
 ·refine HK.trans (b:=wr) ⟨rfl,rfl,rfl,rfl,fun k hk=>?_⟩ HU.size
  rcases hk with hk | hk | hk
  ·exact .inl (.inl hk)
  ·rcases hb k hk with q | q
   ·exact .inl (.inr (.inl q))
   ·exact .inr q
  ·exact .inl (.inr (.inr hk))
 ·exact HK.upd HU ((U.mono fun k _ hk => .inl (.inr (.inl hk))).trans (uj.mono fun k _ hk => .inr hk))
set_option maxRecDepth 100000 in
set_option maxHeartbeats 8000000 in
theorem add_any (jb o n c cn:Nat) (cs:Array Value) (s:SdM) (T:List UV) (LA:Option Addr) (L:List Ud) (w:World) (hj:Hid (Bk w jb 65 cs)) (hcn:Hid (cn=s.cols.length)) (e0:Hid (cs[o]?=some (.slice s.CA cn s.cc))) (e1:Hid (cs[o+1]?=some (.map (some s.mb)))) (e2:Hid (cs[o+2]?=some (.slice s.A s.r.length s.c)))
  (hs:Hid (SdR w s)) (hv:Hid (SdV s T)) (hn:Hid (n=L.length)) (hL:Hid (∀ w',Upd (fun k=>s.blks k∨k=jb) w w'→Uin w' LA c L)) (hg:Hid (∀ x∈L,NamR x.l∧x.l.length≤100000∧x.t.l.length≤100000)) (h1:cn≤1000) (h0:Hid (∀ x∈s.cols,0≤x)) (hT:Hid (T.length+n≤100000)) (h9:n≤100000) :
  Calls Try.prog 23 #[.pointer (some ⟨jb,o,none⟩), .slice LA n c] w (AddOut jb o cs s (T++L.map Ud.uv) w):=by
 go_enter Try.func23,Try.ntmps23
 go_wp2
 go_loopg [10] n (fun z v10 wr => ∃ (i:Nat) (s1:SdM),z=n - i∧i≤n∧v10 = .int .i64 i∧Hid (Bk wr jb 65 (cs.setIfInBounds (o+2) (.slice s1.A s1.r.length s1.c)))∧Hid (SdR wr s1)∧Hid (SdV s1 (T++(L.take i).map Ud.uv))∧Hid (SdK w s s1)∧Hid (Upd (fun k=>s.blks k∨k=jb) w wr))
 case atStart=>exact ⟨0,s,rfl,Nat.zero_le _,rfl,Lib.hid (by rw [set_id e2.out];exact hj.out),hs,Lib.hid (by simpa using hv.out),Lib.hid (SdK.refl w s),Lib.hid (Upd.refl _ w)⟩
 case round =>
  obtain ⟨i,s1,rfl,hi,rfl,HB,HS,HV,HK,HU⟩:=hrel
  by_cases hlt:i<n
  ·have hil:i<L.length:=by rw [← hn.out];exact hlt
   obtain ⟨ad,rfl,p0,p1,p2,p3⟩:=(hL.out wr HU.out).at hil
   have hxu:=Lib.hid ((hL.out wr HU.out).ls _ (getU_mem hil))
   have hgx:=hg.out _ (getU_mem hil)
   have HT:=Lib.hid (takeU hil)
   obtain ⟨x,hx⟩ : ∃ x,L.getD i Ud.zero=x:=⟨_,rfl⟩
   rw [hx] at p0 p1 p2 p3 hxu hgx HT
   clear hx hil
   obtain ⟨hgr,hxl,hxt⟩:=hgx
   have HG:=Lib.hid hgr
   obtain ⟨nx,hnx⟩ : ∃ nx,x.l.length=nx:=⟨_,rfl⟩
   obtain ⟨tx,htx⟩ : ∃ tx,x.t.l.length=tx:=⟨_,rfl⟩
   rw [hnx] at p0 hxl
   rw [htx] at p2 hxt
   have HNX:=Lib.hid hnx.symm
   have HTX:=Lib.hid htx.symm
   clear hnx htx hgr
   rcases hq:namT s.cols x.l with ⟨r,is⟩
   have HQ:=Lib.hid hq
   clear hq
   have HCL:Hid (Is wr s.CA s.cc s.cols):=Lib.hid (by have:=HS.out.cl.sl;rw [HK.out.cols,HK.out.CA,HK.out.cc] at this;exact this)
   have HCS:Hid (wr.cell? ⟨jb,o,none⟩=some (.slice s.CA cn s.cc)):=Lib.hid (by rw [HB.out.cell];exact set_get (by omega) e0.out)
   cases is with
   | true =>
    have HNM:Hid ((wr.alloc (.cells #[.slice x.A nx x.c, .int .u64 x.t.e, .slice x.t.A tx x.t.c, .int .i64 x.d] 51)).cell? ⟨jb,o,none⟩=some (.slice s.CA cn s.cc)):=Lib.hid (((Ext.refl wr).alloc _).cell HCS.out)
    go_upto_region 5 with (go_at_call 34;refine (name_any ⟨jb,o,none⟩ s.CA x.A cn s.cc nx x.c s.cols x.l r true _ HQ HNM.out hcn HNX (Lib.hid (HCL.out.ext ((Ext.refl wr).alloc _))) (Lib.hid (hxu.out.r.ext ((Ext.refl wr).alloc _))) HG h1 h0).mono ?_;rintro e w2 ⟨rfl,x2⟩;have X2:=Lib.hid x2;clear x2)
    have bx:Bk w2 wr.heap.size 51 #[.slice x.A nx x.c, .int .u64 x.t.e, .slice x.t.A tx x.t.c, .int .i64 x.d]:=Bk.ext (Bk.new wr _ _) X2.out
    have XW:Hid (Ext wr w2):=Lib.hid (((Ext.refl wr).alloc _).trans X2.out)
    have bj:Bk w2 jb 65 (cs.setIfInBounds (o+2) (.slice s1.A s1.r.length s1.c)):=HB.out.ext XW.out
    have hcnt:s1.nn≤100000:=by
     have q1:=HV.out.cnt
     have q2:=hT.out
     have q3:(L.take i).length≤i:=List.length_take_le _ _
     rw [List.length_append,List.length_map] at q1
     omega
    have hcnl:s1.r.length≤100000:=by
     have q1:=HV.out.all.length_eq
     have q2:=hT.out
     have q3:(L.take i).length≤i:=List.length_take_le _ _
     rw [List.length_map,List.length_append,List.length_append,List.length_map] at q1
     omega
    have hrl:r.length≤1009000:=namT_len HQ.out HG.out (by rw [← hcn.out];exact h1)
    have HFL:=HS.out.fnd r
    have HFB:Hid (∀ b,blk (fnd s1.E r).A (fnd s1.E r).c=some b→s1.blks b):=Lib.hid (fun b hb=>HS.out.fnd_blk r hb)
    have HLK:Hid (∀ W,OwnsJ W s1.mb s1.nn s1.D→(Instr.lookup 59 (.map (some s1.mb)) (.string ⟨r.toArray⟩) false).run Try.prog W = .ok (.slice (fnd s1.E r).A (fnd s1.E r).l.length (fnd s1.E r).c) W):=Lib.hid (fun W hW=>HS.out.look hW (by omega))
    have hfl:(fnd s1.E r).l.length≤100000:=by
     have q1:=congrArg List.length (HV.out.get r)
     have q2:=hT.out
     have q3:(L.take i).length≤i:=List.length_take_le _ _
     have q4:=List.length_filter_le (fun u:UV=>decide (namT s1.cols u.1.1=(r,true))) (T++(L.take i).map Ud.uv)
     rw [List.length_append,List.length_map] at q4
     rw [List.length_map] at q1
     omega
    obtain ⟨f,hf⟩ : ∃ f,fnd s1.E r=f:=⟨_,rfl⟩
    rw [hf] at HFL HFB HLK hfl
    obtain ⟨fl,hfn⟩ : ∃ fl,f.l.length=fl:=⟨_,rfl⟩
    rw [hfn] at HLK hfl
    have HF:=Lib.hid hf
    have HFN:=Lib.hid hfn
    have HFL:=Lib.hid HFL
    clear hf hfn
    have hjS : ¬ blk f.A f.c=some jb:=fun q=>HS.out.not_bk HB.out (by decide) (HFB.out _ q)
    have hbS : ¬ blk f.A f.c=some wr.heap.size:=fun q=>by have:=HS.out.lt (HFB.out _ q);omega
    have hmS : ¬ blk f.A f.c=some s1.mb:=fun q=>by
     obtain ⟨cur,z,e⟩:=HFL.out.ow.ty q
     obtain ⟨es,cl,hb2,_⟩:=HS.out.mp
     rw [hb2] at e
     cases e
    have HNS:Hid (¬ blk f.A f.c=some jb ∧ ¬ blk f.A f.c=some wr.heap.size ∧ ¬ blk f.A f.c=some s1.mb):=Lib.hid ⟨hjS,hbS,hmS⟩
    have xd:Ext w2 w2.drew:=(Ext.refl w2).drew
    have Q1 : ∀ y:Yt (fun k=>blk f.A f.c=some k) w2.drew,y.W.cell? ⟨jb,o+1,none⟩=some (.map (some s.mb)):=fun y=>by
     rw [Bk.cell (Bk.upd (bj.ext xd) y.x hjS)]
     exact set_get (by omega) e1.out
    have Q2 : ∀ y:Yt (fun k=>blk f.A f.c=some k) w2.drew,(Instr.lookup 59 (.map (some s.mb)) (.string ⟨r.toArray⟩) false).run Try.prog y.W = .ok (.slice f.A fl f.c) y.W:=fun y=>by
     have:=HLK.out y.W (OwnsJ.upd (OwnsJ.ext HS.out.mp (XW.out.trans xd)) y.x hmS)
     rwa [HK.out.mb] at this
    have Q3 : ∀ y:Yt (fun k=>blk f.A f.c=some k) w2.drew,y.W.cell? ⟨wr.heap.size,0,none⟩=some (.slice x.A nx x.c):=fun y=>Bk.cell (Bk.upd (bx.ext xd) y.x hbS) 0
    have Q4 : ∀ y:Yt (fun k=>blk f.A f.c=some k) w2.drew,y.W.cell? ⟨wr.heap.size,1,none⟩=some (.int .u64 x.t.e):=fun y=>Bk.cell (Bk.upd (bx.ext xd) y.x hbS) 1
    have Q5 : ∀ y:Yt (fun k=>blk f.A f.c=some k) w2.drew,y.W.cell? ⟨wr.heap.size,2,none⟩=some (.slice x.t.A tx x.t.c):=fun y=>Bk.cell (Bk.upd (bx.ext xd) y.x hbS) 2
    have Q6 : ∀ y:Yt (fun k=>blk f.A f.c=some k) w2.drew,y.W.cell? ⟨wr.heap.size,3,none⟩=some (.int .i64 x.d):=fun y=>Bk.cell (Bk.upd (bx.ext xd) y.x hbS) 3
    clear hjS hbS hmS
    refine wp_region_ordU (S:=(fun k=>blk f.A f.c=some k)) [0,1,3,7,0,0,32,96,224,0,992,0,2048,6144,16352,32767] (.flo [0,1,2,3,4,5,6,7,8,9,10,11] (.ext 12 (.ext 13 (.ext 14 (.one 15 (.fin)))))) (by kernel_rfl) (by kernel_rfl) (by intro _ _ d _ _ h;cases d<;>exact h) ?_
    (refine ord_floU (pick_cons rfl (pick_cons rfl (pick_cons rfl (pick_cons rfl (pick_cons rfl (pick_cons rfl (pick_cons rfl (pick_cons rfl (pick_cons rfl (pick_cons rfl (pick_cons rfl (pick_cons rfl pick_nil)))))))))))) ?_;(repeat (go_big_quiet_step (fail)));refine wpQuiet_nil ?_;show ordWalkU _ _ _ _ _ _ _ _)
    refine ord_extU (pick_cons rfl pick_nil) ?_;intro K_ hK_
    go_wp2_with (go_at_call 37;refine (jcopied_any x nx tx _ HNX HTX (Lib.hid (hxu.out.ext (XW.out.trans xd))) (by omega) (by omega)).mono ?_;rintro e w3 ⟨A3,c3,B3,b3,rfl,o3,t3,x3⟩;have O3:=Lib.hid o3;have T3:=Lib.hid t3;have X3:=Lib.hid x3;clear o3 t3)
    refine ordNextU.mk (Upd.ext x3) ?_
    clear x3
    refine ord_extU (pick_cons rfl pick_nil) ?_;intro K_ hK_
    go_wp2
    refine ordNextU.mk (Upd.ext ((Ext.refl _).alloc _)) ?_
    refine ord_extU (pick_cons rfl pick_nil) ?_;intro K_ hK_
    have XA:Hid (Ext wr (w3.alloc (.cells #[.slice A3 nx c3, .int .u64 x.t.e, .slice B3 tx b3, .int .i64 x.d] 51))):=Lib.hid (((XW.out.trans xd).trans X3.out).alloc _)
    have HOW:Hid (Own (w3.alloc (.cells #[.slice A3 nx c3, .int .u64 x.t.e, .slice B3 tx b3, .int .i64 x.d] 51)) 0 51 4 f.A fl f.c (udsC f.l)):=Lib.hid (by rw [← HFN.out];exact HFL.out.ow.ext XA.out)
    clear Q1 Q2 Q3 Q4 Q5 Q6
    go_wp2_with (at_builtin;refine wpList_append_two _ elem_ud 0 _ _ rfl rfl f.A fl f.c (udsC f.l) rfl HOW.out (some ⟨w3.heap.size,0,none⟩) 1 1 [.slice A3 nx c3, .int .u64 x.t.e, .slice B3 tx b3, .int .i64 x.d] rfl (Sl.one w3 #[.slice A3 nx c3, .int .u64 x.t.e, .slice B3 tx b3, .int .i64 x.d] 51 4 rfl) (by intro u hu;simp at hu;rcases hu with rfl | rfl | rfl | rfl<;>rfl) (by omega) (by decide) (Nat.zero_le _) ?_;intro A5 c5 w5 o5 g5 x5;have HO5:=Lib.hid o5;have HG5:=Lib.hid g5;have HX5:=Lib.hid x5;clear o5 g5 x5)
    go_simp
    have U5:Upd (fun k=>blk f.A f.c=some k) (w3.alloc (.cells #[.slice A3 nx c3, .int .u64 x.t.e, .slice B3 tx b3, .int .i64 x.d] 51)) w5:=(Upd.refl _ _).grown HG5.out (fun k hk => .inl hk)
    refine ordNextU.mk U5 ?_
    have HU5:=Lib.hid U5
    clear U5
    have HM5:Hid (OwnsJ w5 s1.mb s1.nn s1.D):=Lib.hid (OwnsJ.upd (OwnsJ.ext HS.out.mp XA.out) HU5.out HNS.out.2.2)
    have HM6:Hid (OwnsJ w5 s.mb s1.nn s1.D):=Lib.hid (by have:=HM5.out;rwa [HK.out.mb] at this)
    have HKY:=Lib.hid (keyOfJ (k:=r) (by omega))
    refine ord_oneU (pick_cons rfl pick_nil) ?_;intro K_ hK_
    go_wp2_with (at_mapUpdate;refine wpList_mapUpdate_own _ rfl _ _ _ 59 rfl 9 33 keyedJ Try.underlying59 tokJ s.mb s1.nn s1.D rfl HM6.out (by unfold maxLen;omega) (.string ⟨r.toArray⟩) (.slice A5 (fl+1) c5) (.string r) rfl rfl HKY.out (.held (.slice A5 (fl+1) c5)) [] rfl ?_;intro w6 m6 g6;have HM7:=Lib.hid m6;have HG6:=Lib.hid g6;clear m6 g6)
    go_simp
    refine ord_finU ?_
    go_wp2
    obtain ⟨s2,b2,r2,v2,k2,u2⟩:=add_put HB.out HS.out HV.out HK.out HU.out HQ.out XA.out (by rw [HF.out];exact HO5.out) (by rw [HF.out];exact HFN.out) HNX.out HTX.out ((O3.out.mono (Nat.zero_le _)).alloc _) ((T3.out.mono (Nat.zero_le _)).alloc _) (by rw [HF.out];exact HG5.out) (by rw [HF.out];exact HX5.out) HM7.out HG6.out
    go_roundg (n - (i+1))
    case measure=>omega
    case rel=>exact ⟨i+1,s2,rfl,by omega,by go_num,Lib.hid b2,Lib.hid r2,Lib.hid (by rw [HT.out,List.map_append, ← List.append_assoc];exact v2),Lib.hid k2,Lib.hid u2⟩
   | false =>
    have hr0:=namT_false HQ.out
    subst hr0
    have HNM:Hid ((wr.alloc (.cells #[.slice x.A nx x.c, .int .u64 x.t.e, .slice x.t.A tx x.t.c, .int .i64 x.d] 51)).cell? ⟨jb,o,none⟩=some (.slice s.CA cn s.cc)):=Lib.hid (((Ext.refl wr).alloc _).cell HCS.out)
    go_upto_region 6 with (go_at_call 34;refine (name_any ⟨jb,o,none⟩ s.CA x.A cn s.cc nx x.c s.cols x.l [] false _ HQ HNM.out hcn HNX (Lib.hid (HCL.out.ext ((Ext.refl wr).alloc _))) (Lib.hid (hxu.out.r.ext ((Ext.refl wr).alloc _))) HG h1 h0).mono ?_;rintro e w2 ⟨rfl,x2⟩;have X2:=Lib.hid x2;clear x2)
    have bx:Bk w2 wr.heap.size 51 #[.slice x.A nx x.c, .int .u64 x.t.e, .slice x.t.A tx x.t.c, .int .i64 x.d]:=Bk.ext (Bk.new wr _ _) X2.out
    have XW:Hid (Ext wr w2):=Lib.hid (((Ext.refl wr).alloc _).trans X2.out)
    have bj:Bk w2 jb 65 (cs.setIfInBounds (o+2) (.slice s1.A s1.r.length s1.c)):=HB.out.ext XW.out
    have hcnt:s1.nn≤100000:=by
     have q1:=HV.out.cnt
     have q2:=hT.out
     have q3:(L.take i).length≤i:=List.length_take_le _ _
     rw [List.length_append,List.length_map] at q1
     omega
    have hcnl:s1.r.length≤100000:=by
     have q1:=HV.out.all.length_eq
     have q2:=hT.out
     have q3:(L.take i).length≤i:=List.length_take_le _ _
     rw [List.length_map,List.length_append,List.length_append,List.length_map] at q1
     omega
    obtain ⟨m,hm⟩ : ∃ m,s1.r.length=m:=⟨_,rfl⟩
    rw [hm] at bj hcnl
    have HMR:=Lib.hid hm.symm
    clear hm
    have xd:Ext w2 w2.drew:=(Ext.refl w2).drew
    have e22:(cs.setIfInBounds (o+2) (Value.slice s1.A m s1.c))[o+2]?=some (.slice s1.A m s1.c):=set_here e2.out
    have Q1 : ∀ y:Xt w2.drew,y.W.cell? ⟨jb,o+2,none⟩=some (.slice s1.A m s1.c):=fun y=>by rw [Bk.cell ((Bk.ext bj xd).ext y.x)];exact e22
    have Q3 : ∀ y:Xt w2.drew,y.W.cell? ⟨wr.heap.size,0,none⟩=some (.slice x.A nx x.c):=fun y=>Bk.cell ((Bk.ext bx xd).ext y.x) 0
    have Q4 : ∀ y:Xt w2.drew,y.W.cell? ⟨wr.heap.size,1,none⟩=some (.int .u64 x.t.e):=fun y=>Bk.cell ((Bk.ext bx xd).ext y.x) 1
    have Q5 : ∀ y:Xt w2.drew,y.W.cell? ⟨wr.heap.size,2,none⟩=some (.slice x.t.A tx x.t.c):=fun y=>Bk.cell ((Bk.ext bx xd).ext y.x) 2
    have Q6 : ∀ y:Xt w2.drew,y.W.cell? ⟨wr.heap.size,3,none⟩=some (.int .i64 x.d):=fun y=>Bk.cell ((Bk.ext bx xd).ext y.x) 3
    have E22:=Lib.hid e22
    clear e22
    refine wp_region_ord [0,0,2,6,14,0,32,96,254,511,1023,2047] (.pur [0] (.flo [1,2,3,4,5] (.ext 6 (.ext 7 (.one 8 (.flo [9,10] (.one 11 (.fin)))))))) (by kernel_rfl) (by kernel_rfl) (by intro _ _ d _ _ h;cases d<;>exact h) ?_
    (refine ord_pur (pick_cons rfl pick_nil) ?_;(repeat (go_big_quiet_step (fail)));refine wpQuiet_nil ?_;show ordWalk _ _ _ _ _ _ _)
    (refine ord_flo (pick_cons rfl (pick_cons rfl (pick_cons rfl (pick_cons rfl (pick_cons rfl pick_nil))))) ?_;(repeat (go_big_quiet_step (fail)));refine wpQuiet_nil ?_;show ordWalk _ _ _ _ _ _ _)
    refine ord_ext (pick_cons rfl pick_nil) ?_;intro K_ hK_
    go_wp2_with (go_at_call 37;refine (jcopied_any x nx tx _ HNX HTX (Lib.hid (hxu.out.ext (XW.out.trans xd))) (by omega) (by omega)).mono ?_;rintro e w3 ⟨A3,c3,B3,b3,rfl,o3,t3,x3⟩;have O3:=Lib.hid o3;have T3:=Lib.hid t3;have X3:=Lib.hid x3;clear o3 t3)
    refine ordNext.mk x3 ?_
    clear x3
    refine ord_ext (pick_cons rfl pick_nil) ?_;intro K_ hK_
    go_wp2
    refine ordNext.mk ((Ext.refl _).alloc _) ?_
    have XA:Hid (Ext wr (w3.alloc (.cells #[.slice A3 nx c3, .int .u64 x.t.e, .slice B3 tx b3, .int .i64 x.d] 51))):=Lib.hid (((XW.out.trans xd).trans X3.out).alloc _)
    have HOW:Hid (Own (w3.alloc (.cells #[.slice A3 nx c3, .int .u64 x.t.e, .slice B3 tx b3, .int .i64 x.d] 51)) 0 51 4 s1.A m s1.c (udsC s1.r)):=Lib.hid (by rw [HMR.out];exact HS.out.rs.ow.ext XA.out)
    clear Q1 Q3 Q4 Q5 Q6
    refine ord_one (pick_cons rfl pick_nil) ?_;intro K_ hK_
    go_wp2_with (at_builtin;refine wpList_append_two _ elem_ud 0 _ _ rfl rfl s1.A m s1.c (udsC s1.r) rfl HOW.out (some ⟨w3.heap.size,0,none⟩) 1 1 [.slice A3 nx c3, .int .u64 x.t.e, .slice B3 tx b3, .int .i64 x.d] rfl (Sl.one w3 #[.slice A3 nx c3, .int .u64 x.t.e, .slice B3 tx b3, .int .i64 x.d] 51 4 rfl) (by intro u hu;simp at hu;rcases hu with rfl | rfl | rfl | rfl<;>rfl) (by omega) (by decide) (Nat.zero_le _) ?_;intro A5 c5 w5 o5 g5 x5;have HO5:=Lib.hid o5;have HG5:=Lib.hid g5;have HX5:=Lib.hid x5;clear o5 g5 x5)
    go_simp
    (refine ord_flo (pick_cons rfl (pick_cons rfl pick_nil)) ?_;(repeat (go_big_quiet_step (fail)));refine wpQuiet_nil ?_;show ordWalk _ _ _ _ _ _ _)
    refine ord_one (pick_cons rfl pick_nil) ?_;intro K_ hK_
    have bj5:Bk w5 jb 65 (cs.setIfInBounds (o+2) (.slice s1.A m s1.c)):=Bk.upd (Bk.ext (by have:=HB.out;rwa [← HMR.out] at this) XA.out) ((Upd.refl (fun k=>blk s1.A s1.c=some k) _).grown HG5.out (fun k hk => .inl hk)) (fun q=>HS.out.not_bk HB.out (by decide) (.inr (.inl q)))
    have j0:=bj5.cell (o+2)
    rw [E22.out] at j0
    have j1:=bj5.free (o+2)
    clear bj5
    go_wp2
    refine ord_fin ?_
    go_wp2
    obtain ⟨s2,b2,r2,v2,k2,u2⟩:=add_rest HB.out HS.out HV.out HK.out HU.out HQ.out XA.out HO5.out HMR.out HNX.out HTX.out ((O3.out.mono (Nat.zero_le _)).alloc _) ((T3.out.mono (Nat.zero_le _)).alloc _) HG5.out HX5.out
    go_roundg (n - (i+1))
    case measure=>omega
    case rel=>exact ⟨i+1,s2,rfl,by omega,by go_num,Lib.hid b2,Lib.hid r2,Lib.hid (by rw [HT.out,List.map_append, ← List.append_assoc];exact v2),Lib.hid k2,Lib.hid u2⟩
  ·obtain rfl:i=n:=by omega
   go_wp2
   go_returns
   exact ⟨⟨_,rfl⟩,s1,HB.out,HS.out,by have:=HV.out;rwa [hn.out,List.take_length] at this,HK.out,HU.out⟩
end Go.Proofs.Ytdgbkpoickbidaa
namespace Go.Proofs.Ytdgbkpoickbidaa.RowCat
open Go.RowKit

set_option maxRecDepth 100000 in
theorem run_append_zeros {P:Program} (w:World) (t u ty e:TypeId) (i:TypeInfo) (z:Value) (ht:P.underlying t=some (.slice e)) (hu:P.underlying u=some (.int .i64)) (hi:P.info? e=some i) (hz:i.zero=some z) (hs:0<i.size)
  (n:Nat) (h0:0<n) (h63:(n:Int)≤9223372036854775807) (h48:n * i.bytes≤281474976710656) :
  (Builtin.append_ #[t,u] ty #[.slice none 0 0, .int .i64 n]).run P w =
   .ok (.slice (some ⟨w.heap.size,0,none⟩) n (grownCap w n 0 e)) (w.drew.alloc (.cells (Builtin.zeroCells z.cells n++Builtin.zeroCells z.cells (grownCap w n 0 e - n)) e)):=by
 have hn:n≠0:=by omega
 have hw:IntKind.i64.wrap (n:Int)=n:=IntWalk.i64_in _ (by omega)
 have hneg : ¬ ((n:Int)<0):=by omega
 have h63' : ¬ (9223372036854775807<(n:Int)):=by omega
 have h48' : ¬ (281474976710656<Builtin.nextslicecap n 0 * i.bytes):=by rw [nextslicecap_zero h0];omega
 have h48z : ¬ (281474976710656<(n:Int) * (i.bytes:Int)):=by rw [← Int.natCast_mul];omega
 have hsz : ¬ (i.size=0):=by omega
 simp [Builtin.append_,asInt,asIntOf,run_underlying ht,run_underlying hu,sizeOf,typeInfo,zeroValue,hi,hz,hw,hneg,hn,h63',h48',h48z,hsz,Question.forced,run_firstCells_none,newRow,grownCap]
 intro h
 have:=Nat.mul_pos h0 hs
 omega
theorem run_grow {n:Nat} (w:World) (ty:TypeId) (h0:0<n) (h9:n≤1000000) : ∃ g c w',(Builtin.append_ #[49,3] ty #[.slice none 0 0, .int .i64 n]).run Try.prog w = .ok (.slice (some ⟨g,0,none⟩) n c) w'∧n≤c∧Own w' w.heap.size 55 4 (some ⟨g,0,none⟩) 0 c []∧Ext w w':=by
 obtain ⟨i,hi,hz,hs,hby⟩:=info_parts elem_dat.info
 have hr:=run_append_zeros (P:=Try.prog) w 49 3 ty 55 i _ elem_dat.under Try.underlying3 hi hz (by omega) n h0 (by omega) (by rw [hby];omega)
 have hge:=grownCap_ge w n 0 55
 have hcm:grownCap w n 0 55≤maxLen:=grownCap_le_maxLen w n 0 55 (by unfold maxLen;omega)
 refine ⟨w.heap.size,_,_,hr,hge,⟨rfl, .inr ⟨w.heap.size,_,rfl,Nat.le_refl _,heap_alloc_new w.drew _,Nat.zero_le _,hcm,?_,rfl⟩⟩,((Ext.refl w).drew).alloc _⟩
 refine Nat.le_of_eq (Eq.symm ?_)
 simp only [Array.size_append,size_zeroCells,elem_dat.zsize]
 rw [← Nat.add_mul,Nat.add_sub_cancel' hge]
theorem wpList_grow (w:World) {ops:Array Oper} {rest:List Oper} {o:Oper} {a:Act} {Q:Exit→Act→World→Prop} (s x:Operand)
  (ho:o.op = .call { callee := .builtin .append,args := #[s,x],argTypes := #[49,3] }) (hgd:o.guard=none) {n:Nat} (hs:a.eval s = .slice none 0 0) (hx:a.eval x = .int .i64 n) (h0:0<n) (h9:n≤1000000)
  (h : ∀ g c w',n≤c→Own w' w.heap.size 55 4 (some ⟨g,0,none⟩) 0 c []→Ext w w'→wpList Try.prog ops Q rest (a.put o.dst (.slice (some ⟨g,0,none⟩) n c)) w'):wpList Try.prog ops Q (o :: rest) a w :=
 wpList_plain hgd fun _ hK=>by
  obtain ⟨g,c,w',hrun,h1,h2,h3⟩:=run_grow (n:=n) w o.type h0 h9
  unfold Oper.wp execOp
  simp only [ho,resolve,invoke,builtin,Sem.run_bind,Sem.run_pure,Result.andThen_ok,List.map_toArray,List.map_cons,List.map_nil,hs,hx,hrun]
  exact hK _ _ (h g c w' h1 h2 h3)
/-- what Grow leaves -/
def GrowOut (w:World) (e:Ending) (w':World):Prop := ∃ A c,e = .returned (.slice A 0 c)∧Own w' w.heap.size 55 4 A 0 c []∧Ext w w'
set_option maxRecDepth 100000 in
set_option maxHeartbeats 1000000 in
theorem grow_any (n:Nat) (w:World) (h9:n≤1000000):Calls Try.prog 53 #[.slice none 0 0, .int .i64 n] w (GrowOut w):=by
 go_enter Try.func53,Try.ntmps53
 rcases Nat.eq_zero_or_pos n with h0 | h0
 ·subst h0
  go_wp2
  go_ret
  exact ⟨none,0,rfl,Own.nil _ _ _ _,Ext.refl w⟩
 ·have h0z:(0:Int)<(n:Int):=by omega
  have hneg : ¬ ((n:Int)<0):=by omega
  go_wp2_with (at_builtin;refine wpList_grow _ _ _ rfl rfl (n:=n) rfl rfl h0 h9 ?_;intro g c w1 hc o1 x1;have HO1:=Lib.hid o1;have HX1:=Lib.hid x1;clear o1 x1)
  go_ret
  exact ⟨_,_,rfl,HO1.out,HX1.out⟩
/-- what Concat leaves -/
def CatOut (w:World) (L:List Dat) (e:Ending) (w':World):Prop := ∃ A n c,e = .returned (.slice A n c)∧n=L.length∧Own w' w.heap.size 55 4 A n c (rowC L)∧Ext w w'
set_option maxRecDepth 100000 in
set_option maxHeartbeats 4000000 in
theorem concat_any (g n1 n2 c1 c2:Nat) (A1 A2:Option Addr) (L1 L2:List Dat) (w:World) (hb:Hid (Bk w g 49 #[.slice A1 n1 c1, .slice A2 n2 c2])) (h1:Hid (n1=L1.length)) (h2:Hid (n2=L2.length)) (s1:Hid (Sl w 4 A1 n1 c1 (rowC L1))) (s2:Hid (Sl w 4 A2 n2 c2 (rowC L2))) (h9:n1+n2≤1000000) :
  Calls Try.prog 36 #[.slice (some ⟨g,0,none⟩) 2 2] w (CatOut w (L1++L2)):=by
 have q0:w.cell? ⟨g,0,none⟩=some (.slice A1 n1 c1):=hb.out.cell 0
 have q1:w.cell? ⟨g,1,none⟩=some (.slice A2 n2 c2):=hb.out.cell 1
 have w1:IntKind.i64.wrap ((n1:Int)+(n2:Int))=((n1+n2:Nat):Int):=by rw [← Int.natCast_add];exact IntWalk.i64_in _ (by omega)
 have p1 : ¬ ((n1:Int)<0):=by omega
 have p2 : ¬ (((n1+n2:Nat):Int)<0):=by omega
 go_enter Try.func36,Try.ntmps36
 go_wp2
 refine wp_loop_rounds 3 ?_
 rw [rounds_succ]
 go_wp2
 rw [rounds_succ]
 go_wp2
 rw [rounds_succ]
 have m1:True:=trivial
 go_wp2_with (go_at_call 53;have mk:=m1;clear m1 mk;refine (grow_any (n1+n2) _ h9).mono ?_;rintro r w3 ⟨A3,c3,rfl,o3,x3⟩;have HO3:=Lib.hid o3;have X3:=Lib.hid x3;have q0:=x3.cell q0;have q1:=x3.cell q1;clear o3 x3)
 have m2:True:=trivial
 refine wp_loop_rounds 3 ?_
 rw [rounds_succ]
 go_wp2_with (at_builtin;have mk:=m2;clear m2 mk;refine wpList_append_two _ elem_dat w.heap.size _ _ rfl rfl A3 0 c3 [] rfl HO3.out A1 n1 c1 (rowC L1) rfl (s1.out.ext X3.out) (rowC_one _) (by omega) (by decide) X3.out.size ?_;intro A4 c4 w4 o4 g4 x4;rw [Nat.zero_add,List.nil_append] at o4;rw [Nat.zero_add];have HO4:=Lib.hid o4;have X4:=Lib.hid (X3.out.grown g4 (fun k hk=>(HO3.out.lt k hk).1));have q0:=X4.out.cell (hb.out.cell 0);have q1:=X4.out.cell (hb.out.cell 1);clear o4 g4 x4)
 have m3:True:=trivial
 rw [rounds_succ]
 go_wp2_with (at_builtin;have mk:=m3;clear m3 mk;refine wpList_append_two _ elem_dat w.heap.size _ _ rfl rfl A4 n1 c4 (rowC L1) rfl HO4.out A2 n2 c2 (rowC L2) rfl (s2.out.ext X4.out) (rowC_one _) (by omega) (by decide) X4.out.size ?_;intro A5 c5 w5 o5 g5 x5;have HO5:=Lib.hid o5;have X5:=Lib.hid (X4.out.grown g5 (fun k hk=>(HO4.out.lt k hk).1));clear o5 g5 x5)
 rw [rounds_succ]
 go_wp2
 go_ret
 exact ⟨_,_,_,rfl,by rw [List.length_append,h1.out,h2.out],by rw [rowC_append];exact HO5.out,X5.out⟩
end Go.Proofs.Ytdgbkpoickbidaa.RowCat
namespace Go.Proofs.Ytdgbkpoickbidaa
open Go.RowKit

/-- what both leaves -/
def BothOut (x y:Ud) (w:World) (e:Ending) (w':World):Prop := ∃ (A:Option Addr) (m c:Nat) (B:Option Addr) (k b:Nat),e = .returned (.agg #[.slice A m c, .int .u64 (max x.t.e y.t.e), .slice B k b, .int .i64 (wrap64 (x.d * y.d))])∧m=(x.l++y.l).length∧k=(List.zipWith max x.t.l y.t.l).length ∧
 Own w' w.heap.size 55 4 A m c (rowC (x.l++y.l))∧Own w' w.heap.size 103 1 B k b (wds (List.zipWith max x.t.l y.t.l))∧Ext w w'
set_option maxRecDepth 100000 in
set_option maxHeartbeats 4000000 in
theorem both_any (x y:Ud) (nx ny tx:Nat) (w:World) (hnx:Hid (nx=x.l.length)) (hny:Hid (ny=y.l.length)) (htx:Hid (tx=x.t.l.length)) (hty:Hid (tx=y.t.l.length)) (hx:Hid (UdR w x)) (hy:Hid (UdR w y)) (ux:Hid (U32 x.t.l)) (uy:Hid (U32 y.t.l)) (h9:nx≤100000) (h8:ny≤100000) (h7:tx≤1000000) :
  Calls Try.prog 22 #[.agg #[.slice x.A nx x.c, .int .u64 x.t.e, .slice x.t.A tx x.t.c, .int .i64 x.d], .agg #[.slice y.A ny y.c, .int .u64 y.t.e, .slice y.t.A tx y.t.c, .int .i64 y.d]] w (BothOut x y w):=by
 have T1:Hid (Sl w 1 x.t.A tx x.t.c (wds x.t.l)):=Lib.hid (by rw [htx.out];exact hx.out.t)
 have T2:Hid (Sl w 1 y.t.A tx y.t.c (wds y.t.l)):=Lib.hid (by rw [hty.out];exact hy.out.t)
 go_enter Try.func22,Try.ntmps22
 go_upto_region 2 with (go_at_call 35;refine (join_same x.t.e y.t.e x.t.A y.t.A tx x.t.c y.t.c x.t.l y.t.l _ (T1.out.ext ((((Ext.refl w).alloc _).alloc _).alloc _)) (T2.out.ext ((((Ext.refl w).alloc _).alloc _).alloc _)) ux.out uy.out (by omega)).mono ?_;rintro e w1 ⟨A1,c1,rfl,o1,x1⟩;have O1:=Lib.hid o1;have X1:=Lib.hid x1;clear o1 x1)
 obtain ⟨w2,hw2⟩ : ∃ w2,w2=w1.alloc (Obj.cells #[.int .u64 (max x.t.e y.t.e), .slice A1 tx c1] 47):=⟨_,rfl⟩
 have x12:Ext w1 w2:=hw2 ▸ (Ext.refl w1).alloc _
 have bx:Bk w2 w.heap.size 51 #[.slice x.A nx x.c, .int .u64 x.t.e, .slice x.t.A tx x.t.c, .int .i64 x.d]:=Bk.ext (Bk.ext (((Bk.new w _ _).alloc _).alloc _) X1.out) x12
 have bY:Bk w2 (w.heap.size+1) 51 #[.slice y.A ny y.c, .int .u64 y.t.e, .slice y.t.A tx y.t.c, .int .i64 y.d]:=Bk.ext (Bk.ext ((Bk.at (by simp)).alloc _) X1.out) x12
 have bz:Bk w2 (w.heap.size+1+1) 51 #[.slice none 0 0, .int .u64 0, .slice none 0 0, .int .i64 0]:=Bk.ext (Bk.ext (Bk.at (by simp)) X1.out) x12
 have bt:Bk w2 w1.heap.size 47 #[.int .u64 (max x.t.e y.t.e), .slice A1 tx c1]:=by rw [hw2];exact Bk.new _ _ _
 have hs1:w.heap.size+3≤w1.heap.size:=Nat.le_trans (by simp) X1.out.size
 have XW:Hid (Ext w w2):=Lib.hid ((((((Ext.refl w).alloc _).alloc _).alloc _).trans X1.out).trans x12)
 have OT:Hid (Own w2 w.heap.size 103 1 A1 tx c1 (wds (List.zipWith max x.t.l y.t.l))):=Lib.hid ((Own.ext O1.out x12).mono (by simp;omega))
 have OG:Hid (∀ k,blk A1 c1=some k→w.heap.size+3≤k):=Lib.hid (fun k hk=>by have:=(O1.out.lt k hk).1;simp at this;omega)
 have HT:=Lib.hid (show w1.heap.size=w1.heap.size from rfl)
 rw [← hw2]
 clear hw2 x12 HT
 have q0 : ∀ u:Xt w2.drew,u.W.cell? ⟨w.heap.size,0,none⟩=some (.slice x.A nx x.c):=fun u=>(bx.ext (((Ext.refl w2).drew).trans u.x)).cell 0
 have q1 : ∀ u:Xt w2.drew,u.W.cell? ⟨w.heap.size+1,0,none⟩=some (.slice y.A ny y.c):=fun u=>(bY.ext (((Ext.refl w2).drew).trans u.x)).cell 0
 have q2 : ∀ u:Xt w2.drew,u.W.cell? ⟨w.heap.size,3,none⟩=some (.int .i64 x.d):=fun u=>(bx.ext (((Ext.refl w2).drew).trans u.x)).cell 3
 have q3 : ∀ u:Xt w2.drew,u.W.cell? ⟨w.heap.size+1,3,none⟩=some (.int .i64 y.d):=fun u=>(bY.ext (((Ext.refl w2).drew).trans u.x)).cell 3
 have q4 : ∀ u:Xt w2.drew,u.W.cell? ⟨w1.heap.size,0,none⟩=some (.int .u64 (max x.t.e y.t.e)):=fun u=>(bt.ext (((Ext.refl w2).drew).trans u.x)).cell 0
 have q5 : ∀ u:Xt w2.drew,u.W.cell? ⟨w1.heap.size,1,none⟩=some (.slice A1 tx c1):=fun u=>(bt.ext (((Ext.refl w2).drew).trans u.x)).cell 1
 have S1:Hid (Sl w2 4 x.A nx x.c (rowC x.l)):=Lib.hid (by rw [hnx.out];exact hx.out.r.ext XW.out)
 have S2:Hid (Sl w2 4 y.A ny y.c (rowC y.l)):=Lib.hid (by rw [hny.out];exact hy.out.r.ext XW.out)
 refine wp_region_ord [0,1,0,4,15,31,0,0,128,0,512,1920,4095,8191] (.flo [0,1,2,3,6,7,8,9,10,11] (.ext 4 (.ext 5 (.flo [12] (.one 13 (.fin)))))) (by kernel_rfl) (by kernel_rfl) (by intro _ _ d _ _ h;cases d<;>exact h) ?_
 (refine ord_flo (pick_cons rfl (pick_cons rfl (pick_cons rfl (pick_cons rfl (pick_cons rfl (pick_cons rfl (pick_cons rfl (pick_cons rfl (pick_cons rfl (pick_cons rfl pick_nil)))))))))) ?_;(repeat (go_big_quiet_step (fail)));refine wpQuiet_nil ?_;show ordWalk _ _ _ _ _ _ _)
 refine ord_ext (pick_cons rfl pick_nil) ?_;intro K_ hK_
 go_wp2
 refine ordNext.mk ((Ext.refl _).alloc _) ?_
 obtain ⟨w3,hw3⟩ : ∃ w3,w3=(w2.alloc (Obj.cells #[.slice x.A nx x.c, .slice y.A ny y.c] 49)).drew:=⟨_,rfl⟩
 have x3:Ext w2 w3:=hw3 ▸ ((Ext.refl w2).alloc _).drew
 have b3:Hid (Bk w3 w2.heap.size 49 #[.slice x.A nx x.c, .slice y.A ny y.c]):=Lib.hid (by rw [hw3];exact Bk.new w2 _ _)
 rw [← hw3]
 clear hw3
 refine ord_ext (pick_cons rfl pick_nil) ?_;intro K_ hK_
 go_wp2_with (go_at_call 36;refine (RowCat.concat_any w2.heap.size nx ny x.c y.c x.A y.A x.l y.l _ b3 hnx hny (Lib.hid (S1.out.ext x3)) (Lib.hid (S2.out.ext x3)) (by omega)).mono ?_;rintro e w4 ⟨A4,n4,c4,rfl,hn4,o4,x4⟩;have O4:=Lib.hid o4;have X4:=Lib.hid x4;have HN4:=Lib.hid hn4;clear o4 hn4)
 refine ordNext.mk x4 ?_
 (refine ord_flo (pick_cons rfl pick_nil) ?_;(repeat (go_big_quiet_step (fail)));refine wpQuiet_nil ?_;show ordWalk _ _ _ _ _ _ _)
 refine ord_one (pick_cons rfl pick_nil) ?_;intro K_ hK_
 have bz4:Bk w4 (w.heap.size+1+1) 51 #[.slice none 0 0, .int .u64 0, .slice none 0 0, .int .i64 0]:=(bz.ext x3).ext x4
 have f0:=bz4.free 0
 have f1:=bz4.free 1
 have f2:=bz4.free 2
 have f3:=bz4.free 3
 have z0:=bz4.cell 0
 have z1:=bz4.cell 1
 have z2:=bz4.cell 2
 have z3:=bz4.cell 3
 have HZ:=Lib.hid bz4
 have X34:=Lib.hid (x3.trans x4)
 have XX:=Lib.hid x3.size
 have H22:=Lib.hid (show w.heap.size+1+1<w2.heap.size from bz.lt)
 clear q0 q1 q2 q3 q4 q5 bx bY bz bt bz4 x3 x4
 go_wp2
 refine ord_fin ?_
 go_wp2
 have bb:=HZ.out.set4 (.slice A4 n4 c4) (.int .u64 (max x.t.e y.t.e)) (.slice A1 tx c1) (.int .i64 (wrap64 (x.d * y.d)))
 have NA:blk A1 c1≠some (w.heap.size+1+1):=fun q=>by have:=OG.out _ q;omega
 have N4:blk A4 c4≠some (w.heap.size+1+1):=fun q=>by have:=(O4.out.lt _ q).1;have:=H22.out;have:=XX.out;omega
 have hz:w.heap.size≤w.heap.size+1+1:=by omega
 refine bodyPost_ret (v := .agg #[.slice A4 n4 c4, .int .u64 (max x.t.e y.t.e), .slice A1 tx c1, .int .i64 (wrap64 (x.d * y.d))]) (by simp [results,Try.results22,go_sem,bb.1,bb.2.1,bb.2.2.1,bb.2.2.2]) rfl ⟨A4,n4,c4,A1,tx,c1,rfl,HN4.out,?_,?_,?_,?_⟩
 ·rw [List.length_zipWith, ← htx.out, ← hty.out,Nat.min_self]
 ·exact ((((O4.out.far N4 _).far N4 _).far N4 _).far N4 _).mono (Nat.le_trans XW.out.size XX.out)
 ·exact (((((OT.out.ext X34.out).far NA _).far NA _).far NA _).far NA _)
 ·exact ((((XW.out.trans X34.out).set (p:=⟨w.heap.size+1+1,0,none⟩) hz _).set (p:=⟨w.heap.size+1+1,1,none⟩) hz _).set (p:=⟨w.heap.size+1+1,2,none⟩) hz _).set (p:=⟨w.heap.size+1+1,3,none⟩) hz _
open Go.RowKit
structure OutR (w:World) (p0 ob:Nat) (A:Option Addr) (n c:Nat) (L:List Ud):Prop where
 bk:Bk w ob 33 #[.slice A n c]
 ln:n=L.length
 u:Uout w p0 A c L
/-- the blocks that a round writes to -/
def OutS (ob:Nat) (A:Option Addr) (c:Nat) (k:Nat):Prop:=k=ob∨blk A c=some k
section
variable {w w':World} {p0 ob n c:Nat} {A:Option Addr} {L:List Ud}
theorem OutR.ext (h:OutR w p0 ob A n c L) (x:Ext w w'):OutR w' p0 ob A n c L:=⟨h.bk.ext x,h.ln,h.u.ext x⟩
/-- what is no cells turns -/
theorem OutR.far (h:OutR w p0 ob A n c L) {row:Option Nat} (g:w.grownBy w' row) (hr : ∀ r,row=some r → ∃ o:Obj,w.heap[r]?=some o∧o.isCells=false):OutR w' p0 ob A n c L:=by
 have hn : ∀ k e,Ty w k e → ¬ row=some k:=fun k e ht q=>by
  obtain ⟨o,h1,h2⟩:=hr k q
  obtain ⟨cur,z,h3⟩:=ht
  rw [h1] at h3
  injection h3 with h3
  rw [h3] at h2
  cases h2
 have U:Upd (fun k=>row=some k) w w':=(Upd.refl _ w).grown g (fun k hk => .inl hk)
 refine ⟨h.bk.upd U (hn _ _ h.bk.ty),h.ln,h.u.updB U (fun k hk=>?_)⟩
 rcases h.u.ty hk with q | q | q<;>exact hn _ _ q
theorem OutR.upd {S:Nat→Prop} (h:OutR w p0 ob A n c L) (x:Upd S w w') (h1 : ¬ S ob) (h2 : ∀ k,p0≤k→k<w.heap.size → ¬ S k):OutR w' p0 ob A n c L:=⟨h.bk.upd x h1,h.ln,h.u.upd x h2⟩
theorem OutS.cells (h:OutR w p0 ob A n c L) {k:Nat} (hk:OutS ob A c k) : ∃ o:Obj,w.heap[k]?=some o∧o.isCells=true:=by
 rcases hk with rfl | hk
 ·exact ⟨_,h.bk,rfl⟩
 ·obtain ⟨cur,z,q⟩:=h.u.own.ty hk
  exact ⟨_,q,rfl⟩
theorem OutS.noDat (h:OutR w p0 ob A n c L):NoDat w (OutS ob A c):=fun k hk=>by
 rcases hk with rfl | hk
 ·exact ty_noDat h.bk.ty (by decide) (by decide) (by decide)
 ·exact ty_noDat (h.u.own.ty hk) (by decide) (by decide) (by decide)
theorem keeps_upd {S:Nat→Prop} {B:Nat} (u:Upd S w w') (h : ∀ k,S k → ∃ o:Obj,w.heap[k]?=some o∧o.isCells=true):KeepsFrom B w w' :=
 ⟨u.size,fun k o _ hk ho=>(u.block k (Array.getElem?_eq_some_iff.1 hk).1 (fun q=>by
  obtain ⟨o',h1,h2⟩:=h k q
  rw [hk] at h1
  injection h1 with h1
  rw [h1,h2] at ho
  cases ho)).trans hk⟩
theorem keeps_ext {B:Nat} (x:Ext w w'):KeepsFrom B w w':=keeps_upd (S:=fun _=>False) (Upd.ext x) (fun _ h=>h.elim)
/-- one more is put behind, and the variable stored -/
theorem OutR.push {w2 w3:World} {A3:Option Addr} {c3 m k:Nat} (h:OutR w p0 ob A n c L) (x2:Ext w w2) {x:Ud} (hm:m=x.l.length) (hk:k=x.t.l.length) (orr:Own w2 w.heap.size 55 4 x.A m x.c (rowC x.l)) (ot:Own w2 w.heap.size 103 1 x.t.A k x.t.c (wds x.t.l)) (hp:p0≤w.heap.size)
  (o3:Own w3 p0 51 4 A3 (n+1) c3 (udsC L++[.slice x.A m x.c, .int .u64 x.t.e, .slice x.t.A k x.t.c, .int .i64 x.d])) (ob3:Obj) (g3:(w2.alloc ob3).grownBy w3 (blk A c)) (x3:(A3=A∧c3=c)∨(blk A3 c3=some (w2.alloc ob3).heap.size∧Ext (w2.alloc ob3) w3)) :
  OutR (w3.setCell ⟨ob,0,none⟩ (.slice A3 (n+1) c3)) p0 ob A3 (n+1) c3 (L++[x])∧Upd (OutS ob A c) w (w3.setCell ⟨ob,0,none⟩ (.slice A3 (n+1) c3))∧(∀ q,blk A3 c3=some q→blk A c=some q∨w.heap.size≤q):=by
 subst hm hk
 have hl:=h.ln
 have hu:=Uout.push h.u x2 orr ot hp ob3 (by rw [← hl];exact o3) g3
 have u3:Upd (OutS ob A c) w w3:=((Upd.ext x2).alloc _).trans ((Upd.refl _ _).grown g3 (fun k hk => .inl (.inr hk)))
 have hob:blk A c≠some ob:=fun q=>by
  have:=(h.u.own.ty q).ne h.bk.ty
  exact absurd this (by decide)
 have b3:Bk w3 ob 33 #[.slice A n c]:=Bk.grown ((h.bk.ext x2).alloc _) g3 hob
 have uj:Upd (fun k=>k=ob) w3 (w3.setCell ⟨ob,0,none⟩ (.slice A3 (n+1) c3)):=(Upd.refl (fun k=>k=ob) w3).setCell (p:=⟨ob,0,none⟩) (.inl (Eq.refl ob)) _
 refine ⟨⟨b3.set 0 _,by rw [List.length_append,hl];rfl,hu.updB uj (fun k hk e=>?_)⟩,u3.trans (uj.mono fun k _ hk => .inl hk),fun q hq=>?_⟩
 ·subst e
  rcases hu.ty hk with q | q | q<;>exact absurd (q.ne b3.ty) (by decide)
 ·rcases x3 with ⟨e1,e2⟩ | ⟨e1,_⟩
  ·rw [e1,e2] at hq;exact .inl hq
  ·rw [e1] at hq
   injection hq with hq
   have:=x2.size
   simp at hq
   exact .inr (by omega)
theorem ext_upd2 {S:Nat→Prop} {w1:World} (e:Ext w w1) (u:Upd S w1 w') (hS : ∀ k,k<w.heap.size → ¬ S k):Ext w w' :=
 ⟨u.os.trans (Below.os e),u.tape.trans (Below.tape e),u.output.trans (Below.output e),Nat.le_trans e.size u.size,fun k hk=>(u.block k (Nat.lt_of_lt_of_le hk e.size) (hS k hk)).trans (Below.block e k hk)⟩
theorem not_def {k:Nat} (h : ∃ o:Obj,w.heap[k]?=some o∧o.isCells=true) : ∀ x,w.heap[k]?≠some (.deferred x):=fun x q=>by
 obtain ⟨o,h1,h2⟩:=h
 rw [q] at h1
 injection h1 with h1
 rw [← h1] at h2
 cases h2
/-- the state of a range within a push -/
structure PuJ (w1 W:World) (p0 ob:Nat) (A1:Option Addr) (c1:Nat) (B:List UV) (A:Option Addr) (q c:Nat) (M:List Ud):Prop where
 o:OutR W p0 ob A q c M
 v:M.map Ud.uv=B
 k : ∀ k,blk A c=some k→blk A1 c1=some k∨w1.heap.size≤k
 u:Upd (fun k=>OutS ob A1 c1 k∨w1.heap.size≤k) w1 W
def PuK (w1:World) (p0 ob:Nat) (A1:Option Addr) (c1:Nat) (B:List UV) (W:World):Prop := ∃ A q c M,PuJ w1 W p0 ob A1 c1 B A q c M
theorem bk_far {g:Nat} {t:TypeId} {cs:Array Value} (h:Bk w g t cs) {row:Option Nat} (hg:w.grownBy w' row) (hr : ∀ r,row=some r → ∃ o:Obj,w.heap[r]?=some o∧o.isCells=false):Bk w' g t cs:=h.grown hg (fun e=>by
 obtain ⟨o,h1,h2⟩:=hr g e
 rw [show w.heap[g]?=_ from h] at h1
 injection h1 with h1
 rw [← h1] at h2
 cases h2)
theorem PuK.own {β:Type} {w1:World} {A1:Option Addr} {c1:Nat} (f:β→List UV):OwnFrom w1.heap.size (fun s W=>PuK w1 p0 ob A1 c1 (f s) W):=fun s W W' row ⟨A,q,c,M,h⟩ hg hr =>
 ⟨A,q,c,M,h.o.far hg (fun r e=>(hr r e).2),h.v,h.k,h.u.trans ((Upd.refl _ W).grown hg (fun k hk => .inl (.inr (hr k hk).1)))⟩
/-- what the assignment leaves: the loop variable's block -/
def PuA (w1:World) (ob:Nat) (f:Nat→Act) (y:Ud) (a':Act) (W:World):Prop := ∃ (bx:Nat) (A:Option Addr) (q c:Nat),Bk W bx 51 #[.slice y.A y.l.length y.c, .int .u64 y.t.e, .slice y.t.A y.t.l.length y.t.c, .int .i64 y.d]∧Bk W ob 33 #[.slice A q c]∧blk A c≠some bx∧w1.heap.size≤bx∧a'=f bx
theorem PuA.own {w1:World} (f:Nat→Act) (y:Ud) (a':Act):OwnFrom w1.heap.size (fun (_:Unit) W=>PuA w1 ob f y a' W):=fun _ W W' row ⟨bx,A,q,c,h1,h2,h3,h4,h5⟩ hg hr =>
 ⟨bx,A,q,c,bk_far h1 hg (fun r e=>(hr r e).2),bk_far h2 hg (fun r e=>(hr r e).2),h3,h4,h5⟩
theorem kp_put {w1:World} {S:Nat→Prop} (W:World) (l:Nat) (o':Obj) (h:w1.heap.size≤l):Upd (fun k=>S k∨w1.heap.size≤k) W (W.putObj l o'):=(Upd.refl _ W).grown (grownBy_putObj' W l o') (fun k hk => .inl (.inr (by injection hk with hk;omega)))
end
open Go.RowKit
def Marks (B:Nat) (w:World):List Deferred→Prop
 | []=>True
 | d :: ds=>(∃ D,d={ target := .collected D,args := #[] }∧w.heap[D]?=some (.deferred (some []))∧B≤D)∧(∀ e∈ds,e.target≠d.target)∧Marks B w ds
/-- nothing has turned but blocks for deferred calls, from B on -/
def Shut (B:Nat) (w w':World):Prop:=Upd (fun k=>B≤k ∧ ∃ x,w.heap[k]?=some (.deferred x)) w w'
theorem Shut.refl (B:Nat) (w:World):Shut B w w:=Upd.refl _ w
theorem Marks.keep {B:Nat} {w w':World} : ∀ {ds:List Deferred},Marks B w ds→(∀ d∈ds, ∀ D,d.target = .collected D→w'.heap[D]?=w.heap[D]?)→Marks B w' ds
 | [],_,_=>trivial
 | d :: ds,⟨⟨D,h1,h2,hB⟩,h3,h4⟩,k=>⟨⟨D,h1,(k d (List.mem_cons_self ..) D (by rw [h1])).trans h2,hB⟩,h3,Marks.keep h4 fun e he=>k e (List.mem_cons_of_mem _ he)⟩
theorem Marks.at {B:Nat} {w:World} : ∀ {ds:List Deferred},Marks B w ds → ∀ d∈ds, ∃ D,d.target = .collected D∧w.heap[D]?=some (.deferred (some []))
 | e :: ds,⟨⟨D,h1,h2,_⟩,_,h4⟩,d,hd=>by
  rcases List.mem_cons.1 hd with rfl | hd
  ·exact ⟨D,by rw [h1],h2⟩
  ·exact Marks.at h4 d hd
theorem Marks.lt {B:Nat} {w:World} {ds:List Deferred} (h:Marks B w ds) {d:Deferred} (hd:d∈ds) {D:Nat} (e:d.target = .collected D):w.heap[D]?=some (.deferred (some [])):=by
 obtain ⟨D',h1,h2⟩:=h.at d hd
 rw [h1] at e
 injection e with e
 rw [← e]
 exact h2
theorem Marks.upd {B:Nat} {S:Nat→Prop} {w w':World} {ds:List Deferred} (h:Marks B w ds) (u:Upd S w w') (hS : ∀ k,S k → ∀ x,w.heap[k]?≠some (.deferred x)):Marks B w' ds:=h.keep fun d hd D e=>by
 have h1:=h.lt hd e
 exact u.block D (Array.getElem?_eq_some_iff.1 h1).1 (fun q=>hS D q _ h1)
theorem Marks.ext {B:Nat} {w w':World} {ds:List Deferred} (h:Marks B w ds) (x:Ext w w'):Marks B w' ds:=h.upd (S:=fun _=>False) (Upd.ext x) (fun _ q=>q.elim)
/-- one mark more, of a block that is new -/
theorem Marks.cons {B:Nat} {w w':World} {ds:List Deferred} {D:Nat} (h:Marks B w ds) (h2:Marks B w' ds) (hD:w.heap.size≤D) (hB:B≤w.heap.size) (hd:w'.heap[D]?=some (.deferred (some []))):Marks B w' ({ target := .collected D,args := #[] } :: ds) :=
 ⟨⟨D,rfl,hd,Nat.le_trans hB hD⟩,fun e he q=>by
  have:=h.lt he (D:=D) q
  have:=(Array.getElem?_eq_some_iff.1 this).1
  omega,h2⟩
theorem leaves_marks {B n:Nat} {P:Program} {fn:Func} {tmps:Array Value} {v:Value} {R:Ending→World→Prop} (hv : ∀ w,(results fn tmps).run P w = .ok v w) : ∀ (ds:List Deferred) (w:World),Marks B w ds→(∀ w',Shut B w w'→R (.returned v) w')→LeavesInM Fence.wide n P fn tmps R ds .returning w
 | [],w,_,h=>⟨v,hv w,h w (Shut.refl B w)⟩
 | d :: ds,w,⟨⟨D,h1,h2,hB⟩,h3,h4⟩,h=>by
  have hlt:D<w.heap.size:=(Array.getElem?_eq_some_iff.1 h2).1
  refine ⟨by simp, .inl ⟨D,w.putObj D (.deferred none),by rw [h1],run_takeDeferred h2,?_⟩⟩
  refine leaves_marks hv ds _ (h4.keep fun e he D' hD'=>World.putObj_heap_other (fun q=>h3 e he (by rw [hD',h1,q]))) (fun w' hw=>h w' ?_)
  have g:=grownBy_putObj' w D (.deferred none)
  have u1:Upd (fun k=>B≤k ∧ ∃ x,w.heap[k]?=some (.deferred x)) w (w.putObj D (.deferred none)):=(Upd.refl _ w).grown g (fun k hk => .inl (by injection hk with hk;exact ⟨hk ▸ hB,_,hk ▸ h2⟩))
  refine u1.trans (Upd.mono hw fun k _ hk=>?_)
  obtain ⟨hk0,x,hx⟩:=hk
  refine ⟨hk0,?_⟩
  by_cases e:k=D
  ·exact ⟨_,e ▸ h2⟩
  ·rw [World.putObj_heap_other e] at hx
   exact ⟨x,hx⟩
open Go.RowKit
theorem keyOf_str_inv {key:Value} {kl:Lit} (h:keyOf Try.prog 9 key=some kl) : ∃ x,key = .string x:=by
 have hu:Try.prog.underlying 9=some .string:=Try.underlying9
 cases key<;>simp [keyOf,hu,mapKey] at h
 exact ⟨_,rfl⟩
/-- the lists that are still to come -/
def leftL (E:List Ls) (left:Lit→Bool):List Ud:=(E.filter fun y=>left (.string y.k)).flatMap Ls.l
theorem left_strike {E:List Ls} {left:Lit→Bool} (h:(E.map Ls.k).Nodup) {x:Ls} (hx:x∈E) (hl:left (.string x.k)=true):(leftL E left).Perm (x.l++leftL E fun z=>left z && !z.sameKey (.string x.k)):=by
 show ((E.filter fun y=>left (.string y.k)).flatMap Ls.l).Perm (x.l++(E.filter fun y=>left (.string y.k) && !(Lit.string y.k).sameKey (.string x.k)).flatMap Ls.l)
 induction E with
 | nil=>cases hx
 | cons y E ih =>
  rw [List.map_cons,List.nodup_cons] at h
  have same : ∀ z:Ls,z.k≠x.k→(Lit.string z.k).sameKey (.string x.k)=false:=fun z hz=>Maps.sameKey_ne (fun e=>hz (by injection e))
  by_cases e:y.k=x.k
  ·have hyx:y=x:=nd_eq (E:=y :: E) (by rw [List.map_cons,List.nodup_cons];exact h) (List.mem_cons_self ..) hx e
   subst hyx
   rw [List.filter_cons_of_pos (p:=fun y:Ls=>left (.string y.k)) hl,List.flatMap_cons,List.filter_cons_of_neg (p:=fun z:Ls=>left (.string z.k) && !(Lit.string z.k).sameKey (.string y.k)) (by simp [Lit.sameKey])]
   refine List.Perm.append_left _ ?_
   rw [List.filter_congr (q:=fun z=>left (.string z.k) && !(Lit.string z.k).sameKey (.string y.k)) (fun z hz=>by
    rw [same z (fun q=>h.1 (q ▸ List.mem_map.2 ⟨z,hz,rfl⟩))]
    simp)]
  ·have hx2:x∈E:=by
    rcases List.mem_cons.1 hx with q | q
    ·exact absurd (by rw [q]) e
    ·exact q
   have hs:=same y e
   cases hy:left (.string y.k) with
   | true =>
    rw [List.filter_cons_of_pos (p:=fun y:Ls=>left (.string y.k)) hy,List.filter_cons_of_pos (p:=fun y:Ls=>left (.string y.k) && !(Lit.string y.k).sameKey (.string x.k)) (by simp only [hy,hs];rfl),List.flatMap_cons,List.flatMap_cons]
    refine ((ih h.2 hx2).append_left y.l).trans ?_
    rw [← List.append_assoc, ← List.append_assoc]
    exact List.perm_append_comm.append_right _
   | false =>
    rw [List.filter_cons_of_neg (p:=fun y:Ls=>left (.string y.k)) (by rw [hy];exact Bool.false_ne_true),List.filter_cons_of_neg (p:=fun y:Ls=>left (.string y.k) && !(Lit.string y.k).sameKey (.string x.k)) (by simp only [hy];exact Bool.false_ne_true)]
    exact ih h.2 hx2
/-- what all leaves -/
def AllOut (s:SdM) (w:World) (e:Ending) (w':World):Prop := ∃ (A:Option Addr) (n c:Nat) (M:List Ud),e = .returned (.slice A n c)∧n=M.length∧Own w' w.heap.size 51 4 A n c (udsC M)∧M.Perm (s.r++s.E.flatMap Ls.l)∧Ext w w'
set_option maxRecDepth 100000 in
set_option maxHeartbeats 8000000 in
theorem all_any (jb o m:Nat) (s:SdM) (w:World) (h1:w.cell? ⟨jb,o+1,none⟩=some (.map (some s.mb))) (h2:w.cell? ⟨jb,o+2,none⟩=some (.slice s.A m s.c)) (hm:Hid (m=s.r.length)) (hs:Hid (SdR w s)) (hn:Hid ((s.r++s.E.flatMap Ls.l).length≤100000)) (h9:m≤100000) :
  Calls Try.prog 30 #[.pointer (some ⟨jb,o,none⟩)] w (AllOut s w):=by
 go_enter Try.func30,Try.ntmps30
 go_wp2_with (first
  | (go_at_call 38;refine (clone_ups s.A m s.c s.r _ hm (Lib.hid hs.out.rs.uin) (by omega)).mono ?_;rintro e w1 ⟨A1,c1,rfl,o1,x1⟩;have O1:=Lib.hid o1;have X1:=Lib.hid x1;have HS1:=Lib.hid (hs.out.ext x1);have k1:=x1.cell h1;clear o1 x1)
  | (at_range;refine wpList_range_own _ rfl _ 59 rfl 9 33 keyedJ Try.underlying59 tokJ s.mb s.nn s.D rfl HS1.out.mp ?_;intro w0 hrg0 hg0 hs0))
 go_frame
 have HR0:=Lib.hid hrg0
 have X0:Hid (Ext w1 w0):=Lib.hid ((Ext.refl w1).grown hg0 (fun k hk=>by cases hk))
 have HL0:Hid (∀ y∈s.E,Maps.has s.D (.string y.k)=true):=Lib.hid (fun y hy=>(HS1.out.has _).2 ⟨y,hy,rfl⟩)
 have HP0:Hid ((s.r++leftL s.E (Maps.has s.D)).Perm (s.r++s.E.flatMap Ls.l)):=Lib.hid (by
  unfold leftL
  rw [List.filter_eq_self.2 (fun y hy=>HL0.out y hy)])
 have hbl:s.mb<w1.heap.size:=World.ownsMap.lt HS1.out.mp
 have HNB:Hid (blk A1 c1≠some w1.heap.size):=Lib.hid (fun q=>by have:=(O1.out.lt _ q).2;omega)
 have HMB:Hid (s.mb<w.heap.size):=Lib.hid (World.ownsMap.lt hs.out.mp)
 clear hrg0 hg0 hs0
 go_loopg [3] (Maps.size s.D) (fun z v3 wr => ∃ (left:Lit→Bool) (cnt:Nat) (A:Option Addr) (c q:Nat) (M:List Ud),z=cnt∧v3 = .slice A q c∧Hid (q=M.length)∧Hid (wr.ranges Try.prog 9 tokJ s.mb w1.heap.size s.nn s.D left cnt)∧Hid ((M++leftL s.E left).Perm (s.r++s.E.flatMap Ls.l))∧Hid (∀ kl,left kl=true→Maps.has s.D kl=true)∧Hid (Own wr w.heap.size 51 4 A q c (udsC M))∧Hid (blk A c≠some w1.heap.size)∧Hid (Ext w wr∧w1.heap.size<wr.heap.size))
 case atStart=>exact ⟨_,_,A1,c1,m,s.r,rfl,rfl,hm,HR0,HP0,Lib.hid (fun _ h=>h),Lib.hid (O1.out.ext X0.out),HNB,Lib.hid ⟨X1.out.trans X0.out,World.ranges.lt HR0.out⟩⟩
 case round =>
  clear HR0 HP0
  obtain ⟨left,cnt,A,c,q,M,rfl,rfl,HQ,HR,HP,HL,HO,HN,HE⟩:=hrel
  go_wp2_with (first
   | (at_next;refine wpList_next_ranges _ rfl _ rfl 9 keyedJ tokJ Value.string (fun v:Value=>v) (fun key kl h=>keyOf_str_inv h) (fun v y _=>⟨v,rfl⟩) s.mb w1.heap.size s.nn s.D left _ rfl HR.out ?_ ?_))
  ·intro hc0 hl0
   have HF0:Hid (leftL s.E left=[]):=Lib.hid (by unfold leftL;rw [List.filter_eq_nil_iff.2 (fun y _=>by rw [hl0];exact Bool.false_ne_true)];rfl)
   clear hl0 hc0
   go_wp2
   go_ret
   exact ⟨A,q,c,M,rfl,HQ.out,HO.out,by have:=HP.out;rwa [HF0.out,List.append_nil] at this,HE.out.1⟩
  ·intro sk v kl y ps w3 cnt1 hks hlx hy hat hrg1 hlt hg1 hs1 hen
   obtain ⟨x,hx,hkx⟩:=(HS1.out.has kl).1 (HL.out kl hlx)
   subst hkx
   have hv:v=lsV x:=by
    have h1:=hat .nil
    rw [HS1.out.atk x hx] at h1
    unfold tokJ at hy
    injection hy with hy
    rw [← (Prod.mk.inj hy).1] at h1
    injection h1 with h1
    exact h1.symm
   subst hv
   have HX:=Lib.hid hx
   have HRG:=Lib.hid hrg1
   have E1:Hid (Ext w w3):=Lib.hid (HE.out.1.grown hg1 (fun k hk=>by injection hk with hk;have:=X1.out.size;omega))
   have HLx:=Lib.hid hlx
   have HOw:Hid (Own w3 w.heap.size 51 4 A q c (udsC M)):=Lib.hid (HO.out.kept hg1 (by
    cases hb:blk A c with
    | none=>exact .inl rfl
    | some k=>exact .inr (fun e=>by injection e with e;exact HN.out (by rw [hb,e]))))
   have HS3:=Lib.hid hs1
   have HLeft:Hid (∀ kl,(left kl && !kl.sameKey (.string x.k))=true→Maps.has s.D kl=true):=Lib.hid (fun k hk=>HL.out k (by cases h:left k with | true=>rfl | false=>rw [h] at hk;simp at hk))
   have HPN:Hid ((M++x.l++leftL s.E (fun z=>left z && !z.sameKey (.string x.k))).Perm (s.r++s.E.flatMap Ls.l)):=Lib.hid (by
    refine List.Perm.trans ?_ HP.out
    rw [List.append_assoc]
    exact (left_strike hs.out.nd hx hlx).symm.append_left M)
   have hlen:q+x.l.length≤100000:=by
    have q1:=HPN.out.length_eq
    have q2:=hn.out
    rw [List.length_append,List.length_append, ← HQ.out] at q1
    omega
   have HXS:Hid (Sl w3 4 x.A x.l.length x.c (udsC x.l)):=Lib.hid ((hs.out.es x hx).ow.sl.ext E1.out)
   clear hx hrg1 hg1 hlx hat hy hks hs1
   obtain ⟨nx,hnx⟩ : ∃ nx,x.l.length=nx:=⟨_,rfl⟩
   have HNX:=Lib.hid hnx
   replace hen:(Instr.entry (Value.pointer (some ⟨w1.heap.size,0,none⟩))).run Try.prog w3 = .ok (.tuple #[.string sk, .slice x.A x.l.length x.c]) w3:=hen
   show wpList _ _ _ _ (_:Act) _
   unfold lsV
   simp only [hnx] at hen hlen ⊢
   rw [hnx] at HXS
   clear hnx
   have hwt:=E1.out.size
   go_wp2_with (at_builtin;refine wpList_append_two _ elem_ud w.heap.size _ _ rfl rfl A q c (udsC M) rfl HOw.out x.A nx x.c (udsC x.l) rfl HXS.out (udsC_one _) (by omega) (by decide) hwt ?_;intro A5 c5 w5 o5 g5 x5;have HO5:=Lib.hid o5;have HG5:=Lib.hid g5;have HX5:=Lib.hid x5;clear o5 g5 x5)
   go_roundg cnt1
   case measure=>omega
   case rel =>
    have hrow : ∀ k,blk A c=some k→w.heap.size≤k:=fun k hk=>(HOw.out.lt k hk).1
    refine ⟨_,cnt1,A5,c5,q+nx,M++x.l,rfl,rfl,Lib.hid (by rw [List.length_append,HQ.out,HNX.out]),Lib.hid (HRG.out.kept HG5.out (fun h=>?_) (fun h=>?_)),HPN,HLeft,Lib.hid (by rw [udsC_append];exact HO5.out),Lib.hid (fun e=>?_),Lib.hid ⟨E1.out.grown HG5.out (fun k hk=>hrow k hk),?_⟩⟩
    ·have:=hrow _ h.symm;have:=HMB.out;omega
    ·exact HN.out h.symm
    ·rcases HX5.out with ⟨e1,e2⟩ | ⟨e1,_⟩
     ·exact HN.out (by rw [← e1, ← e2];exact e)
     ·rw [e1] at e;injection e with e;have:=HE.out.2;have:=HS3.out;omega
    ·have:=HE.out.2;have:=HS3.out;have:=HG5.out.size;omega
end Go.Proofs.Ytdgbkpoickbidaa
namespace Go.Proofs.Ytdgbkpoickbidaa.UdS
open Go.RowKit

/-- what stands at the end of the first of two lists -/
theorem getD_mid (P:List Ud) (x:Ud) (Q:List Ud):(P++x :: Q).getD P.length Ud.zero=x:=by
 rw [List.getD_eq_getElem?_getD,List.getElem?_append_right (Nat.le_refl _),Nat.sub_self]
 rfl
theorem set_mid (P:List Ud) (x y:Ud) (Q:List Ud):(P++x :: Q).set P.length y=P++y :: Q:=by
 rw [List.set_append_right _ _ (Nat.le_refl _),Nat.sub_self]
 rfl
/-- the list that is being sorted: P, the sorted part up to its last place, the one that is being put in, the rest -/
theorem Arr.two {w:World} {B g c q:Nat} {P s2 Q:List Ud} {x y:Ud} (h:Arr w B g c (P++y :: x :: Q)) (hq:q=P.length) :
  (w.cell? ⟨g,q * 4,none⟩=some (.slice y.A y.l.length y.c)∧w.cell? ⟨g,q * 4+1,none⟩=some (.int .u64 y.t.e)∧w.cell? ⟨g,q * 4+2,none⟩=some (.slice y.t.A y.t.l.length y.t.c)∧w.cell? ⟨g,q * 4+3,none⟩=some (.int .i64 y.d))∧w.cell? ⟨g,(q+1) * 4,none⟩=some (.slice x.A x.l.length x.c)∧w.cell? ⟨g,(q+1) * 4+1,none⟩=some (.int .u64 x.t.e)∧w.cell? ⟨g,(q+1) * 4+2,none⟩=some (.slice x.t.A x.t.l.length x.t.c)∧w.cell? ⟨g,(q+1) * 4+3,none⟩=some (.int .i64 x.d):=by
 subst hq
 have h1:=h.at (i:=P.length) (by simp)
 have h2:=h.at (i:=P.length+1) (by simp)
 rw [getD_mid] at h1
 have e:(P++y :: x :: Q).getD (P.length+1) Ud.zero=x:=by
  have:=getD_mid (P++[y]) x Q
  rwa [List.append_assoc,List.length_append] at this
 rw [e] at h2
 exact ⟨h1,h2⟩
theorem Arr.swap {w:World} {B g c q:Nat} {P Q:List Ud} {x y:Ud} (h:Arr w B g c (P++y :: x :: Q)) (hq:q=P.length) :
  Arr (put4 (put4 w g (q+1) y y.l.length y.t.l.length) g q x x.l.length x.t.l.length) B g c (P++x :: y :: Q):=by
 subst hq
 have h1:=(h.set (P.length+1) y).set P.length x
 have e:((P++y :: x :: Q).set (P.length+1) y).set P.length x=P++x :: y :: Q:=by
  have e1:(P++y :: x :: Q).set (P.length+1) y=P++y :: y :: Q:=by
   have:=set_mid (P++[y]) x y Q
   rwa [List.append_assoc,List.length_append,List.append_assoc] at this
  rw [e1,set_mid]
 rwa [e] at h1
/-- the inner loop's relation -/
def InsIn (B g c a:Nat) (P S T Q D':List Ud) (x:Ud) (w wi:World) (j:Nat) (s1 s2:List Ud):Prop :=
 j=a+s1.length∧D'=s1++s2∧(∀ y∈s2,cmpC x y<0)∧Arr wi B g c (P++(s1++x :: (s2++(T++Q))))∧w.grownBy wi (some g)∧Rws wi g (x :: S)
/-- the outer loop's relation -/
def InsOut (B g c a:Nat) (P S Q:List Ud) (w wo:World) (i:Nat) (D D' T:List Ud):Prop :=
 S=D++T∧i=a+D.length∧Stable cmpC D D'∧Arr wo B g c (P++(D'++(T++Q)))∧w.grownBy wo (some g)∧Rws wo g S
theorem stable_len {L M:List Ud} (h:Stable cmpC L M):M.length=L.length:=by
 have key : ∀ (n:Nat) (L M:List Ud),L.length≤n→Stable cmpC L M→M.length=L.length:=by
  intro n
  induction n with
  | zero =>
   intro L M hn h
   have:L=[]:=List.eq_nil_of_length_eq_zero (by omega)
   subst this
   cases M with
   | nil=>rfl
   | cons y M=>exact absurd ((h.mem cmpC_tot y).1 (List.mem_cons_self ..)) List.not_mem_nil
  | succ n ih =>
   intro L M hn h
   cases M with
   | nil =>
    cases L with
    | nil=>rfl
    | cons y L=>exact absurd ((h.mem cmpC_tot y).2 (List.mem_cons_self ..)) List.not_mem_nil
   | cons y M =>
    have hy:=(h.mem cmpC_tot y).1 (List.mem_cons_self ..)
    have p1 : ∀ K:List Ud,(alike cmpC y K).length+(K.filter fun z => !(cmpC y z==0)).length=K.length:=fun K=>by
     unfold alike
     rw [← List.length_append]
     exact (List.filter_append_perm (fun z=>cmpC y z==0) K).length_eq
    have h1:=p1 L
    have h2:=p1 (y :: M)
    have h3:(alike cmpC y L).length=(alike cmpC y (y :: M)).length:=by rw [h.same y]
    have h4:0<(alike cmpC y L).length:=List.length_pos_of_mem (List.mem_filter.2 ⟨hy,by rw [beq_iff_eq];exact cmpC_tot.refl y⟩)
    have h5:=ih (L.filter fun z => !(cmpC y z==0)) ((y :: M).filter fun z => !(cmpC y z==0)) (by omega) ⟨h.sorted.filter _,fun z=>by
     have q:=h.same z
     unfold alike at q ⊢
     rw [List.filter_filter,List.filter_filter]
     have e : ∀ K:List Ud,K.filter (fun a=>(cmpC z a==0) && !(cmpC y a==0))=(K.filter (fun a=>cmpC z a==0)).filter (fun a => !(cmpC y a==0)):=fun K=>by
      rw [List.filter_filter]
      congr 1
      funext a
      rw [Bool.and_comm]
     rw [e,e,q]⟩
    omega
 exact key L.length L M (Nat.le_refl _) h
end Go.Proofs.Ytdgbkpoickbidaa.UdS
