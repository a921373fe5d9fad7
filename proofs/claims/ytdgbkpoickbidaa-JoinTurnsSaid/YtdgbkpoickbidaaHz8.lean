/- (*join.Join).Push: what comes of updates on both sides. A join in memory, its blocks: made, pushed, kept as others are written. penstocklaw14.update, known: what the chapter's first example fixes. The frame of every law of this seat: a law that reads, makes new memory and returns true has its post; ways, times and integers that come in; the witness's world. What comes in: times, lists of counters, integers. What comes in: lists of times. How much a reading holds. The bounds of integers that come in. Plain. Numbers of 64 bits: of a datum, of a row. Plain. Conditions: each theorem states its own. -/
import Derived.Test.YtdgbkpoickbidaaHz5
import Derived.Test.YtdgbkpoickbidaaHz7
import Derived.Test.YtdgbkpoickbidaaHz4
import Derived.Test.YtdgbkpoickbidaaHz1
import Derived.Test.YtdgbkpoickbidaaRows
import Derived.ProofKit
import Derived.OpenShut
import Derived.Lay
import Derived.Lib.SmallJoins
import Derived.Deep.DeepHandedRow
import Derived.MakeChecks
import Derived.Test.YtdgbkpoickbidaaHz2
import Derived.Deep.Slices
import Derived.Test.YtdgbkpoickbidaaHz3
namespace Go.Proofs.Ytdgbkpoickbidaa
open Go.RowKit

/-- what comes of the left side's updates, of the right side's -/
def outL (lc rc:List Int) (T:List UV) (L:List UV):List UV:=L.flatMap fun u=>(mtV rc lc u T).map fun x=>bothV u x
def outRr (lc rc:List Int) (T:List UV) (R:List UV):List UV:=R.flatMap fun u=>(mtV lc rc u T).map fun x=>bothV x u
theorem flat_len {α:Type} (f:UV→List α) (k:Nat) (h : ∀ u,(f u).length≤k) : ∀ L:List UV,(L.flatMap f).length≤L.length * k
 | []=>Nat.zero_le _
 | u :: L=>by
  rw [List.flatMap_cons,List.length_append,List.length_cons,Nat.succ_mul]
  have:=flat_len f k h L
  have:=h u
  omega
theorem outL_len (lc rc:List Int) (T L:List UV):(outL lc rc T L).length≤L.length * T.length:=flat_len _ _ (fun u=>by rw [List.length_map];exact List.length_filter_le _ _) L
theorem outRr_len (lc rc:List Int) (T R:List UV):(outRr lc rc T R).length≤R.length * T.length:=flat_len _ _ (fun u=>by rw [List.length_map];exact List.length_filter_le _ _) R
/-- no panic, no want of room -/
def StrictP (Q:Exit→Act→World→Prop):Exit→Act→World→Prop
 | .panic _,_,_=>False
 | .outgrown,_,_=>False
 | .normal,a,w=>Q .normal a w
 | .ret,a,w=>Q .ret a w
 | .exit i,a,w=>Q (.exit i) a w
 | .goto i,a,w=>Q (.goto i) a w
theorem strict_le {Q:Exit→Act→World→Prop} : ∀ (e:Exit) (a:Act) (w:World),StrictP Q e a w→Q e a w
 | .panic _,_,_,h=>h.elim
 | .outgrown,_,_,h=>h.elim
 | .normal,_,_,h=>h
 | .ret,_,_,h=>h
 | .exit _,_,_,h=>h
 | .goto _,_,_,h=>h
theorem outL_app (lc rc:List Int) (T L M:List UV):outL lc rc T (L++M)=outL lc rc T L++outL lc rc T M:=by
 unfold outL;rw [List.flatMap_append]
theorem outRr_app (lc rc:List Int) (T L M:List UV):outRr lc rc T (L++M)=outRr lc rc T L++outRr lc rc T M:=by
 unfold outRr;rw [List.flatMap_append]
theorem outL_le (lc rc:List Int) (T:List UV) (a b:Nat) (hT:T.length≤b) (L:List UV) (hL:L.length≤a):(outL lc rc T L).length≤a * b:=Nat.le_trans (outL_len lc rc T L) (Nat.mul_le_mul hL hT)
/-- what a push has told when the left side's are done -/
def pushA (lc rc:List Int) (Ta Tb L R:List UV):List UV:=outL lc rc Tb L++outRr lc rc (Ta++L) R
theorem pushA_app' (lc rc:List Int) (Ta Tb L R S:List UV):pushA lc rc Ta Tb L (R++S)=pushA lc rc Ta Tb L R++outRr lc rc (Ta++L) S:=by
 unfold pushA;rw [outRr_app,List.append_assoc]
theorem pushA_le (lc rc:List Int) (Ta Tb L:List UV) (k:Nat) (h1:L.length≤k) (h2:Ta.length+L.length+Tb.length≤k) (R:List UV) (h3:R.length≤k):(pushA lc rc Ta Tb L R).length≤k * k+k * k:=by
 unfold pushA
 rw [List.length_append]
 have q1:=outL_le lc rc Tb k k (by omega) L h1
 have q2:=Nat.le_trans (outRr_len lc rc (Ta++L) R) (Nat.mul_le_mul h3 (show (Ta++L).length≤k by rw [List.length_append];omega))
 omega
/-- a loop's state: beside the world and the list at its start -/
structure PuI (p0 ob:Nat) (wb:World) (AB:Option Addr) (cB:Nat) (wr:World) (ds:List Deferred) (A:Option Addr) (q c:Nat) (M:List Ud) (B:List UV):Prop where
 o:OutR wr p0 ob A q c M
 v:M.map Ud.uv=B
 mks:Marks p0 wr ds
 k : ∀ k,blk A c=some k→blk AB cB=some k∨wb.heap.size≤k
 x:Upd (OutS ob AB cB) wb wr
theorem PuI.back {p0 ob:Nat} {wb:World} {AB:Option Addr} {cB:Nat} {wr:World} {ds:List Deferred} {A:Option Addr} {q c:Nat} {M:List Ud} {B:List UV} (h:PuI p0 ob wb AB cB wr ds A q c M B) {r:Nat} (hr:r<wb.heap.size) (hk:OutS ob A c r):OutS ob AB cB r:=by
 rcases hk with hk | hk
 ·exact .inl hk
 ·rcases h.k r hk with q | q
  ·exact .inr q
  ·omega
theorem SdG.upd {w w':World} {s:SdM} {T:List UV} {S:Nat→Prop} (h:SdG w s T) (u:Upd S w w') (hn:NoDat w S) (hS : ∀ k,s.blks k → ¬ S k):SdG w' s T:=⟨h.r.upd u hn hS,h.v,h.g,h.n⟩
theorem joinC_left {a b a2:SdM} {ca am cb bm x:Nat} {w:World} (k:SdK w a a2):(joinC a b ca am cb bm).setIfInBounds (0+2) (.slice a2.A x a2.c)=joinC a2 b ca x cb bm:=by
 unfold joinC
 rw [k.CA,k.cc,k.mb]
 rfl
theorem joinC_right {a b b2:SdM} {ca am cb bm x:Nat} {w:World} (k:SdK w b b2):(joinC a b ca am cb bm).setIfInBounds (3+2) (.slice b2.A x b2.c)=joinC a b2 ca am cb x:=by
 unfold joinC
 rw [k.CA,k.cc,k.mb]
 rfl
theorem gj_add {L:List Ud} (h : ∀ x∈L,GoodJ 32 x.uv) : ∀ x∈L,NamR x.l∧x.l.length≤100000∧x.t.l.length≤100000:=fun x hx=>⟨gj_nam (h x hx),Nat.le_trans (h x hx).rl (by omega),(h x hx).tl⟩
theorem blks_def {w:World} {s:SdM} (h:SdR w s) {k:Nat} (hk:s.blks k) : ∀ x,w.heap[k]?≠some (.deferred x):=fun x q=>by
 rcases hk with rfl | hk | ⟨y,hy,hk⟩
 ·obtain ⟨es,cl,hb,_⟩:=h.mp
  rw [q] at hb
  cases hb
 ·obtain ⟨cur,z,e⟩:=h.rs.ow.ty hk
  rw [q] at e
  cases e
 ·obtain ⟨cur,z,e⟩:=(h.es y hy).ow.ty hk
  rw [q] at e
  cases e
theorem bk_def {w:World} {g:Nat} {t:TypeId} {cs:Array Value} (h:Bk w g t cs) : ∀ x,w.heap[g]?≠some (.deferred x):=fun x q=>by
 rw [show w.heap[g]?=_ from h] at q
 cases q
theorem SdK.mono {w w':World} {s s':SdM} (h:SdK w s s') (hw:w'.heap.size≤w.heap.size):SdK w' s s':=⟨h.cols,h.CA,h.cc,h.mb,fun k hk=>(h.fr k hk).imp id fun q=>Nat.le_trans hw q⟩
/-- what Push leaves -/
structure PushR (w w':World) (jb ca cb:Nat) (a b a2 b2:SdM) (Ta Tb L R:List UV) (A:Option Addr) (k:Nat) (N:List Ud):Prop where
 ln:k=N.length
 u:Uout w' w.heap.size A k N
 v:N.map Ud.uv=UdS.sumV (pushA a.cols b.cols Ta Tb L R)
 j:Bk w' jb 65 (joinC a2 b2 ca a2.r.length cb b2.r.length)
 sa:SdG w' a2 (Ta++L)
 sb:SdG w' b2 (Tb++R)
 ka:SdK w a a2
 kb:SdK w b b2
 ap : ∀ k,a2.blks k → ¬ b2.blks k
 x:Upd (fun k=>a.blks k∨b.blks k∨k=jb) w w'
 dj : ∀ q,UBlk A k N q → ¬ a2.blks q ∧ ¬ b2.blks q
theorem u32_zip : ∀ {a b:List Int},U32 a→U32 b→U32 (List.zipWith max a b)
 | [],_,_,_=>fun x hx=>(nomatch hx)
 | _ :: _,[],_,_=>fun x hx=>(nomatch hx)
 | x :: a,y :: b,ha,hb=>fun z hz=>by
  rw [List.zipWith_cons_cons] at hz
  rcases List.mem_cons.1 hz with rfl | hz
  ·have h1:=ha x (List.mem_cons_self ..)
   have h2:=hb y (List.mem_cons_self ..)
   omega
  ·exact u32_zip (fun q hq=>ha q (List.mem_cons_of_mem _ hq)) (fun q hq=>hb q (List.mem_cons_of_mem _ hq)) z hz
theorem both_good {u v:UV} (hu:GoodJ 32 u) (hv:GoodJ 32 v):GoodJ 64 (bothV u v):=by
 refine ⟨fun d hd=>?_,fun d hd=>?_,?_,?_,?_,u32_zip hu.tu hv.tu⟩
 ·rcases List.mem_append.1 hd with h | h
  ·exact hu.ck d h
  ·exact hv.ck d h
 ·rcases List.mem_append.1 hd with h | h
  ·exact hu.nr d h
  ·exact hv.nr d h
 ·show -9223372036854775808≤wrap64 (u.2 * v.2)∧wrap64 (u.2 * v.2)≤9223372036854775807
  unfold wrap64
  omega
 ·have h1:=hu.rl
  have h2:=hv.rl
  show (u.1.1++v.1.1).length≤64
  rw [List.length_append]
  omega
 ·have h1:=hu.tl
  show (List.zipWith max u.1.2.2 v.1.2.2).length≤100000
  rw [List.length_zipWith]
  omega
theorem push_good {lc rc:List Int} {Ta Tb L R:List UV} (ha : ∀ u∈Ta,GoodJ 32 u) (hb : ∀ u∈Tb,GoodJ 32 u) (hL : ∀ u∈L,GoodJ 32 u) (hR : ∀ u∈R,GoodJ 32 u) : ∀ u∈pushA lc rc Ta Tb L R,GoodJ 64 u:=fun u hu=>by
 rcases List.mem_append.1 hu with h | h
 ·obtain ⟨x,hx,h⟩:=List.mem_flatMap.1 h
  obtain ⟨y,hy,rfl⟩:=List.mem_map.1 h
  exact both_good (hL x hx) (hb y (List.mem_filter.1 hy).1)
 ·obtain ⟨x,hx,h⟩:=List.mem_flatMap.1 h
  obtain ⟨y,hy,rfl⟩:=List.mem_map.1 h
  rcases List.mem_append.1 (List.mem_filter.1 hy).1 with q | q
  ·exact both_good (ha y q) (hR x hx)
  ·exact both_good (hL y q) (hR x hx)
/-- what Push has left stays as marks are shut -/
theorem PushR.shut {w w5 w':World} {jb ca cb k:Nat} {a b a2 b2:SdM} {Ta Tb L R:List UV} {A:Option Addr} {N:List Ud} (h:PushR w w5 jb ca cb a b a2 b2 Ta Tb L R A k N) {B:Nat} (hB:w.heap.size≤B) (hu:Uout w5 B A k N) (s:Shut w.heap.size w5 w'):PushR w w' jb ca cb a b a2 b2 Ta Tb L R A k N:=by
 have nd:NoDat w5 (fun k=>w.heap.size≤k ∧ ∃ x,w5.heap[k]?=some (.deferred x)):=fun q ⟨_,x,hx⟩=>by
  refine ⟨?_,?_,?_⟩<;>(rintro ⟨cur,z,e⟩;rw [hx] at e;cases e)
 have tn : ∀ {q e},Ty w5 q e → ¬ (w.heap.size≤q ∧ ∃ x,w5.heap[q]?=some (.deferred x)):=fun {q e} ⟨cur,z,ht⟩ ⟨_,x,hx⟩=>by rw [ht] at hx;cases hx
 refine ⟨h.ln,(hu.updB s (fun q hq=>?_)).mono hB,h.v,h.j.upd s (tn h.j.ty),h.sa.upd s nd (fun q hq e=>?_),h.sb.upd s nd (fun q hq e=>?_),h.ka,h.kb,h.ap,upd_step h.x s (fun q hq e=>by omega),h.dj⟩
 ·rcases hu.ty hq with t | t | t<;>exact tn t
 ·obtain ⟨_,x,hx⟩:=e;exact blks_def h.sa.r hq x hx
 ·obtain ⟨_,x,hx⟩:=e;exact blks_def h.sb.r hq x hx
set_option maxRecDepth 100000 in
set_option maxHeartbeats 16000000 in
theorem push_any (jb ca am cb bm n m c d:Nat) (a b:SdM) (Ta Tb:List UV) (LA RA:Option Addr) (L R:List Ud) (w:World) (hj:Hid (Bk w jb 65 (joinC a b ca am cb bm))) (hca:Hid (ca=a.cols.length)) (hcb:Hid (cb=b.cols.length)) (ham:Hid (am=a.r.length)) (hbm:Hid (bm=b.r.length)) (ha:Hid (SdG w a Ta)) (hb:Hid (SdG w b Tb)) (hap:Hid (∀ k,a.blks k → ¬ b.blks k))
  (hn:Hid (n=L.length)) (hm:Hid (m=R.length)) (hL:Hid (∀ w',Upd (fun k=>a.blks k∨b.blks k∨k=jb) w w'→Uin w' LA c L)) (hR:Hid (∀ w',Upd (fun k=>a.blks k∨b.blks k∨k=jb) w w'→Uin w' RA d R)) (gL:Hid (∀ x∈L,GoodJ 32 x.uv)) (gR:Hid (∀ x∈R,GoodJ 32 x.uv)) (h9:n≤100000) (h8:m≤100000) (h7:Ta.length+Tb.length+n+m≤500) (hc1:ca≤1000) (hc2:cb≤1000) (hc3:Hid ((∀ x∈a.cols,0≤x) ∧ ∀ x∈b.cols,0≤x)) :
  Calls Try.prog 9 #[.pointer (some ⟨jb,0,none⟩), .slice LA n c, .slice RA m d] w fun e w' => ∃ A k N a2 b2,e = .returned (.slice A k k)∧PushR w w' jb ca cb a b a2 b2 Ta Tb (L.map Ud.uv) (R.map Ud.uv) A k N:=by
 refine (callsIn_wide (n:=8)).1 ?_
 refine callsIn_of_wp_marks Try.func9 rfl trivial ?_ rfl
 refine wpIn_wide.2 (wp_mono ?_ strict_le)
 simp only [Try.ntmps9,List.size_toArray,List.length_cons,List.length_nil,Nat.reduceAdd,Nat.reduceSub,Array.replicate_succ,Array.replicate_zero,List.push_toArray,List.append_toArray,List.nil_append,List.cons_append]
 go_wp2
 obtain ⟨wb,hwb⟩ : ∃ wb,wb=w.alloc (.cells #[.slice none 0 0] 33):=⟨_,rfl⟩
 have HOB:Hid (Bk wb w.heap.size 33 #[.slice none 0 0]):=Lib.hid (by rw [hwb];exact Bk.new w _ _)
 have XB:Hid (Ext w wb):=Lib.hid (hwb ▸ (Ext.refl w).alloc _)
 have hsb:w.heap.size<wb.heap.size:=HOB.out.lt
 rw [← hwb]
 clear hwb
 have hob : ∀ k,OutS w.heap.size none 0 k→k=w.heap.size:=fun k hk=>by
  rcases hk with hk | hk
  ·exact hk
  ·cases hk
 have HND1:Hid (NoDat wb (OutS w.heap.size none 0)):=Lib.hid (fun k hk=>by rw [hob k hk];exact ty_noDat HOB.out.ty (by decide) (by decide) (by decide))
 have HEX1:Hid (∀ wr,Upd (OutS w.heap.size none 0) wb wr→Ext w wr):=Lib.hid (fun wr u=>ext_upd2 XB.out u (fun k hk q=>by have:=hob k q;omega))
 have HLU1:Hid (∀ wr,Upd (OutS w.heap.size none 0) wb wr→Uin wr LA c L):=Lib.hid (fun wr u=>hL.out wr (Upd.ext (HEX1.out wr u)))
 have HSU1:Hid (∀ wr,Upd (OutS w.heap.size none 0) wb wr→SdG wr b Tb):=Lib.hid (fun wr u=>hb.out.ext (HEX1.out wr u))
 have HOU1:Hid (∀ wr,Upd (OutS w.heap.size none 0) wb wr→SdG wr a Ta):=Lib.hid (fun wr u=>ha.out.ext (HEX1.out wr u))
 have HJU1:Hid (∀ wr,Upd (OutS w.heap.size none 0) wb wr→Bk wr jb 65 (joinC a b ca am cb bm)):=Lib.hid (fun wr u=>Bk.ext hj.out (HEX1.out wr u))
 have HAB1:Hid (∀ k,blk (none:Option Addr) 0=some k → ¬ b.blks k):=Lib.hid (fun k hk=>(nomatch hk))
 have HSW1:Hid (∀ k,b.blks k→k<wb.heap.size):=Lib.hid (fun k hk=>by have:=hb.out.r.lt hk;omega)
 clear hob
 refine wp_loop_ghost_k (fun z act wr => ∃ (i:Nat) (ds:List Deferred) (u9 u17 u18 u19 u20 u21 u22 u23 u24 u25 u26 u27 u35:Value) (A1:Option Addr) (q1 c1:Nat) (M1:List Ud),act={ tmps := #[.pointer (some ⟨jb,0,none⟩), .slice LA n c, .slice RA m d,undef,undef,undef, .slice none 0 0, .pointer (some ⟨w.heap.size,0,none⟩),undef,u9,undef,undef,undef,undef, .slice LA n c, .int .i64 n, .int .i64 i,u17,u18,u19,u20,u21,u22,u23,u24,u25,u26,u27,undef,undef,undef,undef,undef,undef,undef,u35,undef,undef,undef,undef,undef,undef,undef,undef,undef,undef,undef,undef,undef,undef,undef,undef,undef,undef,undef,undef,undef,undef,undef,undef,undef,undef,undef,undef,undef,undef,undef,undef,undef,undef],defers:=ds }∧z=n - i∧i≤n∧Hid (PuI w.heap.size w.heap.size wb none 0 wr ds A1 q1 c1 M1 (outL a.cols b.cols Tb ((L.take i).map Ud.uv)))) n ?_ ?_
 ·exact ⟨0,[],_,_,_,_,_,_,_,_,_,_,_,_,_,none,0,0,[],rfl,rfl,Nat.zero_le _,Lib.hid ⟨⟨HOB.out,rfl,Uout.nil _ _⟩,rfl,trivial,fun k hk=>(nomatch hk),Upd.refl _ _⟩⟩
 ·rintro z act wr ⟨i,ds,u9,u17,u18,u19,u20,u21,u22,u23,u24,u25,u26,u27,u35,A1,q1,c1,M1,rfl,rfl,hi,HP⟩ J K hJ hK
  by_cases hlt:i<n
  ·have hil:i<L.length:=by rw [← hn.out];exact hlt
   have HUL:=HLU1.out wr HP.out.x
   have HUM:=Lib.hid (getU_mem hil)
   obtain ⟨ad,hA,p0,p1,p2,p3⟩:=HUL.at hil
   have HG:=Lib.hid (gL.out _ (getU_mem hil))
   have HT:=Lib.hid (takeU hil)
   obtain ⟨x,hx⟩ : ∃ x,L.getD i Ud.zero=x:=⟨_,rfl⟩
   rw [hx] at p0 p1 p2 p3 HUM HG HT
   have HX:=Lib.hid (HUL.ls _ HUM.out)
   have HAX:=Lib.hid hA
   obtain ⟨AL,hAL⟩ : ∃ AL,AL=LA:=⟨_,rfl⟩
   rw [hA]
   clear hx hil HUL hA
   obtain ⟨nx,hnx⟩ : ∃ nx,x.l.length=nx:=⟨_,rfl⟩
   obtain ⟨tx,htx⟩ : ∃ tx,x.t.l.length=tx:=⟨_,rfl⟩
   rw [hnx] at p0
   rw [htx] at p2
   have HNX:=Lib.hid hnx.symm
   have HTX:=Lib.hid htx.symm
   clear hnx htx hAL
   go_upto_region 5 with fail
   have bx0:Bk (wr.alloc (.cells #[.slice x.A nx x.c, .int .u64 x.t.e, .slice x.t.A tx x.t.c, .int .i64 x.d] 51)) wr.heap.size 51 #[.slice x.A nx x.c, .int .u64 x.t.e, .slice x.t.A tx x.t.c, .int .i64 x.d]:=Bk.new wr _ _
   obtain ⟨w0,hw0⟩ : ∃ w0,w0=wr.alloc (.cells #[.slice x.A nx x.c, .int .u64 x.t.e, .slice x.t.A tx x.t.c, .int .i64 x.d] 51):=⟨_,rfl⟩
   have hs0:w0.heap.size=wr.heap.size+1:=by rw [hw0];simp
   have X0:Hid (Ext wr w0):=Lib.hid (hw0 ▸ (Ext.refl wr).alloc _)
   rw [← hw0] at bx0 ⊢
   clear hw0
   have Q0 : ∀ y:Xt w0.drew,y.W.cell? ⟨wr.heap.size,0,none⟩=some (.slice x.A nx x.c):=fun y=>Bk.cell ((Bk.ext bx0 (Ext.refl w0).drew).ext y.x) 0
   have Q1 : ∀ y:Xt w0.drew,y.W.cell? ⟨wr.heap.size,1,none⟩=some (.int .u64 x.t.e):=fun y=>Bk.cell ((Bk.ext bx0 (Ext.refl w0).drew).ext y.x) 1
   have Q2 : ∀ y:Xt w0.drew,y.W.cell? ⟨wr.heap.size,2,none⟩=some (.slice x.t.A tx x.t.c):=fun y=>Bk.cell ((Bk.ext bx0 (Ext.refl w0).drew).ext y.x) 2
   have Q3 : ∀ y:Xt w0.drew,y.W.cell? ⟨wr.heap.size,3,none⟩=some (.int .i64 x.d):=fun y=>Bk.cell ((Bk.ext bx0 (Ext.refl w0).drew).ext y.x) 3
   have HB0:=Lib.hid bx0
   clear bx0
   refine wp_region_ord [0,1,3,0,8,24,0,127] (.flo [0,1,2,3,4,5,6] (.one 7 (.fin))) (by kernel_rfl) (by kernel_rfl) (by intro _ _ d _ _ h;cases d<;>exact h) ?_
   (refine ord_flo (pick_cons rfl (pick_cons rfl (pick_cons rfl (pick_cons rfl (pick_cons rfl (pick_cons rfl (pick_cons rfl pick_nil))))))) ?_;(repeat (go_big_quiet_step (fail)));refine wpQuiet_nil ?_;show ordWalk _ _ _ _ _ _ _)
   refine ord_one (pick_cons rfl pick_nil) ?_;intro K_ hK_
   go_wp2_with (go_at_call 21;refine (matches_any ⟨jb,3,none⟩ ⟨jb,0,none⟩ x.A x.t.A nx x.c tx x.t.c x.t.e x.d _).mono ?_;rintro e w1 ⟨rfl,b1,b2,b3,x1,s1⟩;have B1:=Lib.hid b1;have B2:=Lib.hid b2;have B3:=Lib.hid b3;have X1:Hid (Ext w0 w1):=Lib.hid (((Ext.refl w0).drew).trans x1);have S1:w1.heap.size=w0.heap.size+3:=s1;clear b1 b2 b3 x1 s1)
   clear Q0 Q1 Q2 Q3
   refine ord_fin ?_
   go_wp2
   obtain ⟨M,hM⟩ : ∃ M,M=mtL b.E (namT a.cols x.l) tx:=⟨_,rfl⟩
   have hsz:w1.heap.size=wr.heap.size+4:=by rw [S1,hs0]
   have hws:w.heap.size<wr.heap.size:=HP.out.o.bk.lt
   have X10:Hid (Ext wr w1):=Lib.hid (X0.out.trans X1.out)
   have HSS:Hid (SdG wr b Tb):=Lib.hid (HSU1.out wr HP.out.x)
   have HOO:Hid (SdG wr a Ta):=Lib.hid (HOU1.out wr HP.out.x)
   have HJJ:Hid (Bk wr jb 65 (joinC a b ca am cb bm)):=Lib.hid (HJU1.out wr HP.out.x)
   have hA1 : ∀ k,blk A1 c1=some k→w.heap.size≤k∧k<wr.heap.size:=fun k hk=>HP.out.o.u.own.lt k hk
   have hnS : ∀ k,wr.heap.size≤k → ¬ OutS w.heap.size A1 c1 k:=fun k hk q=>by
    rcases q with q | q
    ·omega
    ·have:=(hA1 k q).2;omega
   have HO1:Hid (OutR w1 w.heap.size w.heap.size A1 q1 c1 M1):=Lib.hid (HP.out.o.ext X10.out)
   have bj1:Bk w1 jb 65 (joinC a b ca am cb bm):=Bk.ext HJJ.out X10.out
   have hjS : ¬ OutS w.heap.size A1 c1 jb:=fun q=>by
    rcases q with q | q
    ·have e1:=HO1.out.bk.ty
     rw [← q] at e1
     exact absurd (e1.ne bj1.ty) (by decide)
    ·exact absurd ((HO1.out.u.own.ty q).ne bj1.ty) (by decide)
   have hbS : ∀ k,b.blks k → ¬ OutS w.heap.size A1 c1 k:=fun k hk q=>by
    rcases q with q | q
    ·subst q;exact HSS.out.r.not_bk HP.out.o.bk (by decide) hk
    ·rcases HP.out.k k q with q | q
     ·exact HAB1.out k q hk
     ·have:=HSW1.out k hk;omega
   have MI:MtI (OutS w.heap.size A1 c1) w1 (wr.heap.size+1+1) (wr.heap.size+1+1+1) (wr.heap.size+1) ⟨jb,0,none⟩ ⟨jb,3,none⟩ a b x nx tx ca :=
    ⟨by have:=B2.out.cell 0;rw [show w0.drew.heap.size=wr.heap.size+1 from hs0] at this;exact this,by have:=B1.out.cell 0;rw [show w0.drew.heap.size=wr.heap.size+1 from hs0] at this;exact this,by have:=B3.out.cell 0;rw [show w0.drew.heap.size=wr.heap.size+1 from hs0] at this;exact this,by have:=B3.out.cell 2;rw [show w0.drew.heap.size=wr.heap.size+1 from hs0] at this;exact this,
     bj1.cell 0,bj1.cell (3+1),HOO.out.r.cl.sl.ext X10.out,HX.out.r.ext X10.out,HSS.out.r.ext X10.out,HNX.out,HTX.out,hca.out,⟨hnS _ (by omega),hnS _ (by omega),hnS _ (by omega),hjS⟩,hbS,OutS.noDat HO1.out⟩
   have HMI:=Lib.hid MI
   have HMM:=Lib.hid hM
   clear bj1 MI hM hjS hbS
   have HV0:=Lib.hid HP.out.v
   have HMK:=Lib.hid (HP.out.mks.ext X10.out)
   have HNS:=Lib.hid hnS
   clear hnS hA1
   have HBU:Hid (Bk w1 wr.heap.size 51 #[.slice x.A nx x.c, .int .u64 x.t.e, .slice x.t.A tx x.t.c, .int .i64 x.d]):=Lib.hid (Bk.ext HB0.out X1.out)
   have hfb : ∀ k,(fnd b.E k).l.length≤1000000:=fun k=>by
    have q1:=congrArg List.length (HSS.out.v.get k)
    rw [List.length_map] at q1
    have q2:=List.length_filter_le (fun u:UV=>decide (namT b.cols u.1.1=(k,true))) (Tb)
    have q3:=HSS.out.n
    omega
   refine (wpIn_wide (n:=8)).1 ?_
   refine wpIn_rangeFunc_ownH rfl (by decide) (gf:=33) (lb := #[.pointer (some ⟨wr.heap.size+1+1,0,none⟩), .pointer (some ⟨wr.heap.size+1+1+1,0,none⟩), .pointer (some ⟨wr.heap.size+1,0,none⟩)]) rfl trivial (enters_of Try.func33 (by kernel_rfl) rfl)
    (matches_stops (by decide) HMI.out HMM.out (gj_nam HG.out) hc1 hc3.out.1 hfb) (fun h k=>h.trans k) (fun W l _ o' h _ _ _=>kp_put W l o' h) (Below.refl _ _) (fun _=>rfl)
    (fun pre W=>PuK w1 w.heap.size w.heap.size A1 c1 (outL a.cols b.cols Tb ((L.take i).map Ud.uv)++pre.map fun y=>bothV x.uv y.1.uv) W) (fun _ _ _=>False) (PuK.own _) (fun _ _ _ _ _ h _ _=>h) ⟨A1,q1,c1,M1,HO1.out,by rw [HV0.out,List.map_nil,List.append_nil],fun _ h => .inl h,Upd.refl _ _⟩
    (fun y a' W=>PuA w1 w.heap.size (fun bx=>({ tmps := #[.pointer (some ⟨jb,0,none⟩), .slice (some ad) n c, .slice RA m d,undef,undef,undef, .slice none 0 0, .pointer (some ⟨w.heap.size,0,none⟩),undef, .pointer (some ⟨wr.heap.size,0,none⟩), .pointer (some ⟨bx,0,none⟩),undef,undef,undef, .slice (some ad) n c, .int .i64 n, .int .i64 i, .bool true, .pointer (some (ad.add (i * 4))), .agg #[.slice x.A nx x.c, .int .u64 x.t.e, .slice x.t.A tx x.t.c, .int .i64 x.d], .pointer (some ⟨jb,0,none⟩), .pointer (some ⟨jb,0,none⟩), .pointer (some ⟨jb,3,none⟩), .pointer (some ⟨jb,0,none⟩), .pointer (some ⟨jb,0,none⟩), .pointer (some ⟨jb,0,none⟩), .agg #[.slice x.A nx x.c, .int .u64 x.t.e, .slice x.t.A tx x.t.c, .int .i64 x.d], .func (.func 33) #[] #[.pointer (some ⟨wr.heap.size+1+1,0,none⟩), .pointer (some ⟨wr.heap.size+1+1+1,0,none⟩), .pointer (some ⟨wr.heap.size+1,0,none⟩)],udV y.1,undef,undef,undef,undef,undef,undef,u35,undef,undef,undef,undef,undef,undef,undef,undef,undef,undef,undef,undef,undef,undef,undef,undef,undef,undef,undef,undef,undef,undef,undef,undef,undef,undef,undef,undef,undef,undef,undef,undef,undef,undef],defers:=[] }:Act)) y.1 a' W) (fun y a'=>PuA.own _ y.1 a') ?assign ?body ?done ?stop
   case stop=>exact fun _ _ _ _ _ _ h _=>h.elim
   case assign =>
    rintro l pre y W K2 ⟨A2,q2,c2,M2,h2⟩ hK2
    dsimp only [udV]
    refine in_region rfl (fun _ _ h=>h) ?_
    go_wp2
    have hxa:Ext W (W.alloc (.cells #[.slice y.1.A y.1.l.length y.1.c, .int .u64 y.1.t.e, .slice y.1.t.A y.1.t.l.length y.1.t.c, .int .i64 y.1.d] 51)):=(Ext.refl W).alloc _
    exact hK2 _ _ (keeps_ext hxa) (Upd.ext hxa) ⟨A2,q2,c2,M2,h2.o.ext hxa,h2.v,h2.k,h2.u.trans (Upd.ext hxa)⟩ ⟨W.heap.size,A2,q2,c2,Bk.new W _ _,h2.o.bk.ext hxa,fun q=>by have:=(h2.o.u.own.lt _ q).2;omega,h2.u.size,rfl⟩
   case body =>
    rintro l pre y act W hl hr ⟨A2,q2,c2,M2,h2⟩ ⟨bx,A3,q3,c3,hbx,hbo,hne,hlt2,rfl⟩ hlen
    have e:=hbo.symm.trans h2.o.bk
    injection e with e
    injection e with e _ _
    simp at e
    obtain ⟨rfl,rfl,rfl⟩:=e
    have hsub : ∀ z,z∈M→z∈mtL b.E (namT a.cols x.l) tx:=fun z hz=>by rw [← HMM.out];exact hz
    have hym:=hsub y.1 y.2
    have hyd:y.1.t.l.length=tx:=by
     unfold mtL at hym
     split at hym
     ·exact of_decide_eq_true (List.mem_filter.1 hym).2
     ·cases hym
    have hyL:y.1∈(fnd b.E (namT a.cols x.l).1).l:=by
     unfold mtL at hym
     split at hym
     ·exact (List.mem_filter.1 hym).1
     ·cases hym
    have HU0:Hid (Upd (OutS w.heap.size A1 c1) w1 W):=Lib.hid (h2.u.mono fun k hk q=>by rcases q with q | q;exact q;omega)
    have HYU:Hid (UdR W y.1):=Lib.hid ((((HSS.out.r.fnd _).el _ hyL).ext X10.out).upd HU0.out HMI.out.nd).udr
    have HYG:Hid (GoodJ 32 y.1.uv):=Lib.hid (HSS.out.g _ (by
     have q1:=HSS.out.v.get (namT a.cols x.l).1
     have q2:y.1.uv∈(fnd b.E (namT a.cols x.l).1).l.map Ud.uv:=List.mem_map.2 ⟨_,hyL,rfl⟩
     rw [q1] at q2
     exact (List.mem_filter.1 q2).1))
    have HXU:Hid (UdR W x):=Lib.hid ((HLU1.out W (upd_step (upd_step HP.out.x (Upd.ext (S:=fun _=>False) X10.out) (fun _ _ h=>h.elim)) HU0.out (fun q hq h=>HP.out.back hq h))).ls _ HUM.out)
    have HBUW:Hid (Bk W wr.heap.size 51 #[.slice x.A nx x.c, .int .u64 x.t.e, .slice x.t.A tx x.t.c, .int .i64 x.d]):=Lib.hid (HBU.out.upd HU0.out (HNS.out _ (Nat.le_refl _)))
    have HBO:=Lib.hid h2.o.bk
    obtain ⟨yv,hym2⟩:=y
    simp only at hbx hyd hyL HYU HYG ⊢
    obtain ⟨ny,hny⟩ : ∃ ny,yv.l.length=ny:=⟨_,rfl⟩
    rw [hny,hyd] at hbx
    have HNY:=Lib.hid hny.symm
    have HTY:=Lib.hid hyd.symm
    have HBX:=Lib.hid hbx
    have hq9:q3≤1000000:=by
     have l1:=congrArg List.length h2.v
     have l3:(mtL b.E (namT a.cols x.l) tx).length≤(Tb).length:=by
      rw [HTX.out]
      have l4:=congrArg List.length (mt_val HSS.out.v a.cols x)
      rw [List.length_map] at l4
      rw [l4]
      exact List.length_filter_le _ _
     rw [← HMM.out] at l3
     rw [List.length_map,List.length_append,List.length_map, ← h2.o.ln] at l1
     have l2:=outL_le a.cols b.cols Tb 500 500 (by omega) ((L.take i).map Ud.uv) (by rw [List.length_map];exact Nat.le_trans (List.length_take_le _ _) (by omega))
     have l5:(Tb).length≤500:=(by omega)
     omega
    have HPJ:=Lib.hid h2
    clear hny hbx hbo h2 hym hyL
    refine wpIn_block ?_
    have Q0 : ∀ u:Xt W.drew,u.W.cell? ⟨w.heap.size,0,none⟩=some (.slice A3 q3 c3):=fun u=>Bk.cell ((Bk.ext HBO.out (Ext.refl W).drew).ext u.x) 0
    have Q1 : ∀ u:Xt W.drew,u.W.cell? ⟨wr.heap.size,0,none⟩=some (.slice x.A nx x.c):=fun u=>Bk.cell ((Bk.ext HBUW.out (Ext.refl W).drew).ext u.x) 0
    have Q2 : ∀ u:Xt W.drew,u.W.cell? ⟨wr.heap.size,1,none⟩=some (.int .u64 x.t.e):=fun u=>Bk.cell ((Bk.ext HBUW.out (Ext.refl W).drew).ext u.x) 1
    have Q3 : ∀ u:Xt W.drew,u.W.cell? ⟨wr.heap.size,2,none⟩=some (.slice x.t.A tx x.t.c):=fun u=>Bk.cell ((Bk.ext HBUW.out (Ext.refl W).drew).ext u.x) 2
    have Q4 : ∀ u:Xt W.drew,u.W.cell? ⟨wr.heap.size,3,none⟩=some (.int .i64 x.d):=fun u=>Bk.cell ((Bk.ext HBUW.out (Ext.refl W).drew).ext u.x) 3
    have Q5 : ∀ u:Xt W.drew,u.W.cell? ⟨bx,0,none⟩=some (.slice yv.A ny yv.c):=fun u=>Bk.cell ((Bk.ext HBX.out (Ext.refl W).drew).ext u.x) 0
    have Q6 : ∀ u:Xt W.drew,u.W.cell? ⟨bx,1,none⟩=some (.int .u64 yv.t.e):=fun u=>Bk.cell ((Bk.ext HBX.out (Ext.refl W).drew).ext u.x) 1
    have Q7 : ∀ u:Xt W.drew,u.W.cell? ⟨bx,2,none⟩=some (.slice yv.t.A tx yv.t.c):=fun u=>Bk.cell ((Bk.ext HBX.out (Ext.refl W).drew).ext u.x) 2
    have Q8 : ∀ u:Xt W.drew,u.W.cell? ⟨bx,3,none⟩=some (.int .i64 yv.d):=fun u=>Bk.cell ((Bk.ext HBX.out (Ext.refl W).drew).ext u.x) 3
    have lx:nx≤100000:=by have:=HG.out.rl;rw [HNX.out];exact Nat.le_trans this (by omega)
    have ly:ny≤100000:=by have:=HYG.out.rl;rw [HNY.out];exact Nat.le_trans this (by omega)
    have lt:tx≤1000000:=by have:=HG.out.tl;rw [HTX.out];exact Nat.le_trans this (by omega)
    unfold udV
    refine in_region_ord [0,0,0,6,14,31,63] (.flo [0,1,2] (.ext 3 (.ext 4 (.one 5 (.one 6 (.fin)))))) (by kernel_rfl) (by kernel_rfl) (by kernel_rfl) (fun _ _ h=>h) (by intro _ _ d _ _ h;cases d<;>exact h) ?_
    (refine ord_flo (pick_cons rfl (pick_cons rfl (pick_cons rfl pick_nil))) ?_;(repeat (go_big_quiet_step (fail)));refine wpQuiet_nil ?_;show ordWalk _ _ _ _ _ _ _)
    refine ord_ext (pick_cons rfl pick_nil) ?_;intro K_ hK_
    go_wp2_with (go_at_call 22;refine (both_any x yv nx ny tx _ HNX HNY HTX HTY (Lib.hid (HXU.out.ext (Ext.refl W).drew)) (Lib.hid (HYU.out.ext (Ext.refl W).drew)) (Lib.hid HG.out.tu) (Lib.hid HYG.out.tu) lx ly lt).mono ?_;rintro e w2 ⟨A4,m4,c4,B4,k4,b4,rfl,hm4,hk4,o4,t4,x4⟩;have O4:=Lib.hid o4;have T4:=Lib.hid t4;have X4:Hid (Ext W w2):=Lib.hid (((Ext.refl W).drew).trans x4);have HM4:=Lib.hid hm4;have HK4:=Lib.hid hk4;have Y4:=Lib.hid x4;clear o4 t4 hm4 hk4 x4)
    refine ordNext.mk Y4.out ?_
    refine ord_ext (pick_cons rfl pick_nil) ?_;intro K_ hK_
    go_wp2
    refine ordNext.mk ((Ext.refl _).alloc _) ?_
    clear Q0 Q1 Q2 Q3 Q4 Q5 Q6 Q7 Q8
    refine ord_one (pick_cons rfl pick_nil) ?_;intro K_ hK_
    have HOW:Hid (Own (w2.alloc (.cells #[.slice A4 m4 c4, .int .u64 (max x.t.e yv.t.e), .slice B4 k4 b4, .int .i64 (wrap64 (x.d * yv.d))] 51)) w.heap.size 51 4 A3 q3 c3 (udsC M2)):=Lib.hid (by rw [HPJ.out.o.ln];exact (HPJ.out.o.u.own.ext X4.out).alloc _)
    go_wp2_with (at_builtin;refine wpList_append_two _ elem_ud w.heap.size _ _ rfl rfl A3 q3 c3 (udsC M2) rfl HOW.out (some ⟨w2.heap.size,0,none⟩) 1 1 [.slice A4 m4 c4, .int .u64 (max x.t.e yv.t.e), .slice B4 k4 b4, .int .i64 (wrap64 (x.d * yv.d))] rfl (Sl.one w2 #[.slice A4 m4 c4, .int .u64 (max x.t.e yv.t.e), .slice B4 k4 b4, .int .i64 (wrap64 (x.d * yv.d))] 51 4 rfl) (by intro u hu;simp at hu;rcases hu with rfl | rfl | rfl | rfl<;>rfl) (by omega) (by decide) (by have:=X4.out.size;have:=HPJ.out.u.size;have:=X10.out.size;simp;omega) ?_;intro A5 c5 w5 o5 g5 x5;have HO5:=Lib.hid o5;have HG5:=Lib.hid g5;have HX5:=Lib.hid x5;clear o5 g5 x5)
    go_simp
    refine ord_one (pick_cons rfl pick_nil) ?_;intro K_ hK_
    have hww:w.heap.size≤W.heap.size:=Nat.le_trans (Nat.le_of_lt hws) (Nat.le_trans X10.out.size HPJ.out.u.size)
    obtain ⟨or,ur,kr⟩:=HPJ.out.o.push X4.out (x:=⟨A4,c4,x.l++yv.l,⟨max x.t.e yv.t.e,B4,b4,List.zipWith max x.t.l yv.t.l⟩,wrap64 (x.d * yv.d)⟩) HM4.out HK4.out O4.out T4.out hww HO5.out _ HG5.out HX5.out
    have bo5:Bk w5 w.heap.size 33 #[.slice A3 q3 c3]:=Bk.grown ((Bk.ext HBO.out X4.out).alloc _) HG5.out (fun q=>by have:=(HPJ.out.o.u.own.ty q).ne HBO.out.ty;exact absurd this (by decide))
    have j0:=bo5.cell 0
    have j1:=bo5.free 0
    have HOR:=Lib.hid or
    have HUR:=Lib.hid ur
    have HKR:=Lib.hid kr
    clear bo5 or ur kr
    go_wp2
    refine ord_fin ?_
    refine ⟨keeps_upd HUR.out (fun k hk=>OutS.cells HPJ.out.o hk),HUR.out.mono (fun k _ hk=>?_),A5,q3+1,c5,_,HOR.out,?_,fun k hk=>?_,HPJ.out.u.trans (HUR.out.mono (fun k _ hk=>?_))⟩
    ·rcases hk with hk | hk
     ·exact .inl (.inl hk)
     ·rcases HPJ.out.k k hk with q | q
      ·exact .inl (.inr q)
      ·exact .inr (by omega)
    ·have hve:(M2++[(⟨A4,c4,x.l++yv.l,⟨max x.t.e yv.t.e,B4,b4,List.zipWith max x.t.l yv.t.l⟩,wrap64 (x.d * yv.d)⟩:Ud)]).map Ud.uv=outL a.cols b.cols Tb ((L.take i).map Ud.uv)++(pre++[(⟨yv,hym2⟩:{ x // x∈M })]).map fun y=>bothV x.uv y.1.uv:=by
      rw [List.map_append,HPJ.out.v,List.map_append,List.append_assoc]
      rfl
     simpa using hve
    ·rcases HKR.out k hk with q | q
     ·rcases HPJ.out.k k q with q | q
      ·exact .inl q
      ·exact .inr (by omega)
     ·have:=HPJ.out.u.size
      exact .inr (by omega)
    ·rcases hk with hk | hk
     ·exact .inl (.inl hk)
     ·rcases HPJ.out.k k hk with q | q
      ·exact .inl (.inr q)
      ·exact .inr (by omega)
   case done =>
    rintro D ys W hD rfl ⟨A2,q2,c2,M2,h2⟩ hd
    have HD:=Lib.hid hd
    have H2:=Lib.hid h2
    clear hd h2
    rw [← HAX.out]
    go_wp2
    refine Handed.intro (n - (i+1)) (by omega) (hJ _ _ _ ⟨i+1,_,_,_,_,_,_,_,_,_,_,_,_,_,_,A2,q2,c2,M2,rfl,rfl,by omega,Lib.hid ?_⟩)
    have hval:outL a.cols b.cols Tb ((L.take (i+1)).map Ud.uv)=outL a.cols b.cols Tb ((L.take i).map Ud.uv)++M.attach.map fun y=>bothV x.uv y.1.uv:=by
     rw [HT.out,List.map_append,outL_app]
     have l4:=mt_val HSS.out.v a.cols x
     rw [← HTX.out, ← HMM.out] at l4
     have e1:M.attach.map (fun y=>bothV x.uv y.1.uv)=(M.attach.map Subtype.val).map fun y=>bothV x.uv y.uv:=by rw [List.map_map];rfl
     rw [e1,List.attach_map_subtype_val]
     show _++((mtV b.cols a.cols x.uv Tb).map _++[])=_
     rw [List.append_nil, ← l4,List.map_map]
     rfl
    have hu2:=upd_step (upd_step HP.out.x (Upd.ext (S:=fun _=>False) X10.out) (fun _ _ h=>h.elim)) H2.out.u (fun q hq h=>by
     rcases h with h | h
     ·exact HP.out.back hq h
     ·have:=HP.out.x.size;omega)
    refine ⟨H2.out.o,by rw [hval];exact H2.out.v,Marks.cons HMK.out (HMK.out.upd H2.out.u (fun k hk=>?_)) hD (Nat.le_trans (Nat.le_of_lt hws) X10.out.size) HD.out,fun k hk=>?_,hu2⟩
    ·rcases hk with hk | hk
     ·exact not_def (OutS.cells HO1.out hk)
     ·intro x0 q
      have:=(Array.getElem?_eq_some_iff.1 q).1
      omega
    ·rcases H2.out.k k hk with q | q
     ·exact HP.out.k k q
     ·have:=HP.out.x.size
      exact .inr (by omega)
  ·obtain rfl:n=i:=by omega
   have XW:Hid (Ext w wr):=Lib.hid (HEX1.out wr HP.out.x)
   have HJW:=Lib.hid (HJU1.out wr HP.out.x)
   have hjl:=hj.out.lt
   have HLA:Hid (∀ w',Upd (fun k=>a.blks k∨k=jb) wr w'→Uin w' LA c L):=Lib.hid (fun w' u=>hL.out w' (upd_step (Upd.ext XW.out) u (fun q _ h=>by rcases h with h | h;exact .inl h;exact .inr (.inr h))))
   go_wp2_with (go_at_call 23;refine (add_any jb 0 n c ca (joinC a b ca am cb bm) a Ta LA L wr HJW hca (Lib.hid rfl) (Lib.hid rfl) (Lib.hid (by rw [← ham.out];rfl)) (Lib.hid (ha.out.r.ext XW.out)) (Lib.hid ha.out.v) hn HLA (Lib.hid (gj_add gL.out)) hc1 (Lib.hid hc3.out.1) (Lib.hid (by omega)) h9).mono ?_;rintro e wc ⟨⟨v,rfl⟩,a2,bj,r2,v2,k2,u2⟩;have BJ:=Lib.hid bj;have R2:=Lib.hid r2;have V2:=Lib.hid v2;have K2:=Lib.hid k2;have U2:=Lib.hid u2;clear bj r2 v2 k2 u2)
   have hbW : ∀ k,a.blks k→k<w.heap.size:=fun k hk=>ha.out.r.lt hk
   have hbB : ∀ k,b.blks k→k<w.heap.size:=fun k hk=>hb.out.r.lt hk
   have hA1 : ∀ k,blk A1 c1=some k→w.heap.size≤k∧k<wr.heap.size:=fun k hk=>HP.out.o.u.own.lt k hk
   have hwr:w.heap.size<wr.heap.size:=HP.out.o.bk.lt
   have HOC:Hid (OutR wc w.heap.size w.heap.size A1 q1 c1 M1):=Lib.hid (HP.out.o.upd U2.out (fun q=>by rcases q with q | q;(have:=hbW _ q;omega);omega) (fun k h1 _ q=>by rcases q with q | q;(have:=hbW _ q;omega);omega))
   have HVC:Hid (M1.map Ud.uv=pushA a.cols b.cols Ta Tb (L.map Ud.uv) []):=Lib.hid (by
    rw [HP.out.v,hn.out,List.take_length]
    unfold pushA outRr
    rw [List.flatMap_nil,List.append_nil])
   have HMC:Hid (Marks w.heap.size wc ds):=Lib.hid (HP.out.mks.upd U2.out (fun k hk=>by
    rcases hk with hk | hk
    ·exact blks_def (ha.out.r.ext XW.out) hk
    ·subst hk;exact bk_def HJW.out))
   have hak : ∀ k,a2.blks k→k<w.heap.size∨wr.heap.size≤k:=fun k hk=>by
    rcases K2.out.fr k hk with q | q
    ·exact .inl (hbW k q)
    ·exact .inr q
   have hoS : ∀ k,OutS w.heap.size A1 c1 k→w.heap.size≤k∧k<wr.heap.size:=fun k hk=>by
    rcases hk with hk | hk
    ·omega
    ·exact hA1 k hk
   have HUW:Hid (∀ w',Upd (OutS w.heap.size A1 c1) wc w'→Upd (fun k=>a.blks k∨b.blks k∨k=jb) w w'):=Lib.hid (fun w' u=>upd_step (upd_step (Upd.ext XW.out) U2.out (fun q _ h=>by rcases h with h | h;exact .inl h;exact .inr (.inr h))) u (fun q hq h=>by have:=(hoS q h).1;omega))
   have HNC:Hid (NoDat wc (OutS w.heap.size A1 c1)):=Lib.hid (OutS.noDat HOC.out)
   have HGA:Hid (SdG wc a2 (Ta++L.map Ud.uv)):=Lib.hid ⟨R2.out,V2.out,fun u hu=>by
    rcases List.mem_append.1 hu with hu | hu
    ·exact ha.out.g u hu
    ·obtain ⟨y,hy,rfl⟩:=List.mem_map.1 hu
     exact gL.out y hy,by rw [List.length_append,List.length_map, ← hn.out];omega⟩
   have HGB:Hid (SdG wc b Tb):=Lib.hid ((hb.out.ext XW.out).upd U2.out (fun k hk=>by
    rcases hk with hk | hk
    ·exact (ha.out.r.ext XW.out).noDat k hk
    ·subst hk;exact ty_noDat HJW.out.ty (by decide) (by decide) (by decide)) (fun k hk q=>by
    rcases q with q | q
    ·exact hap.out k q hk
    ·subst q;exact hb.out.r.not_bk hj.out (by decide) hk))
   have HJC:Hid (Bk wc jb 65 (joinC a2 b ca a2.r.length cb bm)):=Lib.hid (by have:=BJ.out;rwa [joinC_left K2.out] at this)
   obtain ⟨am2,ham2⟩ : ∃ k,a2.r.length=k:=⟨_,rfl⟩
   rw [ham2] at HJC
   have HAM2:=Lib.hid ham2.symm
   have HLU2:Hid (∀ wr,Upd (OutS w.heap.size A1 c1) wc wr→Uin wr RA d R):=Lib.hid (fun w' u=>hR.out w' (HUW.out w' u))
   have HSU2:Hid (∀ wr,Upd (OutS w.heap.size A1 c1) wc wr→SdG wr a2 (Ta++L.map Ud.uv)):=Lib.hid (fun w' u=>HGA.out.upd u HNC.out (fun k hk q=>by have q1:=hoS k q;rcases hak k hk with q2 | q2<;>omega))
   have HOU2:Hid (∀ wr,Upd (OutS w.heap.size A1 c1) wc wr→SdG wr b Tb):=Lib.hid (fun w' u=>HGB.out.upd u HNC.out (fun k hk q=>by have q1:=hoS k q;have:=hbB k hk;omega))
   have HJU2:Hid (∀ wr,Upd (OutS w.heap.size A1 c1) wc wr→Bk wr jb 65 (joinC a2 b ca am2 cb bm)):=Lib.hid (fun w' u=>HJC.out.upd u (fun q=>by have:=(hoS _ q).1;omega))
   have HAB2:Hid (∀ k,blk A1 c1=some k → ¬ a2.blks k):=Lib.hid (fun k hk q=>by have q1:=hA1 k hk;rcases hak k q with q2 | q2<;>omega)
   have HSW2:Hid (∀ k,a2.blks k→k<wc.heap.size):=Lib.hid (fun k hk=>R2.out.lt hk)
   have HAK:=Lib.hid hak
   have HPW:=Lib.hid hoS
   have hcols:a2.cols=a.cols:=K2.out.cols
   have HCO:=Lib.hid hcols
   clear hak hoS hA1 hbW hbB ham2 hcols
   have HP1:=HP
   clear HP
   have HWB:=XW
   obtain ⟨AC,rfl⟩ : ∃ x,x=A1:=⟨_,rfl⟩
   obtain ⟨cC,rfl⟩ : ∃ x,x=c1:=⟨_,rfl⟩
   obtain ⟨qC,rfl⟩ : ∃ x,x=q1:=⟨_,rfl⟩
   obtain ⟨MC,rfl⟩ : ∃ x,x=M1:=⟨_,rfl⟩
   obtain ⟨dsC,rfl⟩ : ∃ x,x=ds:=⟨_,rfl⟩
   obtain ⟨wq,rfl⟩ : ∃ x,x=wr:=⟨_,rfl⟩
   refine wp_loop_ghost_k (fun z act wr => ∃ (i:Nat) (ds:List Deferred) (u9 u16 u17 u18 u19 u20 u21 u22 u23 u24 u25 u26 u27 u35 u36 u37 u38 u39 u40 u12 u44 u45 u46 u47 u48 u49 u50 u51 u52 u53 u54 u62:Value) (A1:Option Addr) (q1 c1:Nat) (M1:List Ud),act={ tmps := #[.pointer (some ⟨jb,0,none⟩), .slice LA n c, .slice RA m d,undef,undef,undef, .slice none 0 0, .pointer (some ⟨w.heap.size,0,none⟩),undef,u9,undef,undef,u12,undef, .slice LA n c, .int .i64 n,u16,u17,u18,u19,u20,u21,u22,u23,u24,u25,u26,u27,undef,undef,undef,undef,undef,undef,undef,u35,u36,u37,u38,u39,u40, .slice RA m d, .int .i64 m, .int .i64 i,u44,u45,u46,u47,u48,u49,u50,u51,u52,u53,u54,undef,undef,undef,undef,undef,undef,undef,u62,undef,undef,undef,undef,undef,undef,undef],defers:=ds }∧z=m - i∧i≤m∧Hid (PuI w.heap.size w.heap.size wc AC cC wr ds A1 q1 c1 M1 (pushA a.cols b.cols Ta Tb (L.map Ud.uv) ((R.take i).map Ud.uv)))) m ?_ ?_
   ·exact ⟨0,dsC,_,_,_,_,_,_,_,_,_,_,_,_,_,_,_,_,_,_,_,_,_,_,_,_,_,_,_,_,_,_,_,_,AC,qC,cC,MC,rfl,rfl,Nat.zero_le _,Lib.hid ⟨HOC.out,HVC.out,HMC.out,fun k hk => .inl hk,Upd.refl _ _⟩⟩
   ·rintro z act wr ⟨i,ds,u9,u16,u17,u18,u19,u20,u21,u22,u23,u24,u25,u26,u27,u35,u36,u37,u38,u39,u40,u12,u44,u45,u46,u47,u48,u49,u50,u51,u52,u53,u54,u62,A1,q1,c1,M1,rfl,rfl,hi,HP⟩ J K hJ hK
    by_cases hlt:i<m
    ·have hil:i<R.length:=by rw [← hm.out];exact hlt
     have HUL:=HLU2.out wr HP.out.x
     have HUM:=Lib.hid (getU_mem hil)
     obtain ⟨ad,hA,p0,p1,p2,p3⟩:=HUL.at hil
     have HG:=Lib.hid (gR.out _ (getU_mem hil))
     have HT:=Lib.hid (takeU hil)
     obtain ⟨x,hx⟩ : ∃ x,R.getD i Ud.zero=x:=⟨_,rfl⟩
     rw [hx] at p0 p1 p2 p3 HUM HG HT
     have HX:=Lib.hid (HUL.ls _ HUM.out)
     have HAX:=Lib.hid hA
     obtain ⟨AL,hAL⟩ : ∃ AL,AL=RA:=⟨_,rfl⟩
     rw [hA]
     clear hx hil HUL hA
     obtain ⟨nx,hnx⟩ : ∃ nx,x.l.length=nx:=⟨_,rfl⟩
     obtain ⟨tx,htx⟩ : ∃ tx,x.t.l.length=tx:=⟨_,rfl⟩
     rw [hnx] at p0
     rw [htx] at p2
     have HNX:=Lib.hid hnx.symm
     have HTX:=Lib.hid htx.symm
     clear hnx htx hAL
     go_upto_region 13 with fail
     have bx0:Bk (wr.alloc (.cells #[.slice x.A nx x.c, .int .u64 x.t.e, .slice x.t.A tx x.t.c, .int .i64 x.d] 51)) wr.heap.size 51 #[.slice x.A nx x.c, .int .u64 x.t.e, .slice x.t.A tx x.t.c, .int .i64 x.d]:=Bk.new wr _ _
     obtain ⟨w0,hw0⟩ : ∃ w0,w0=wr.alloc (.cells #[.slice x.A nx x.c, .int .u64 x.t.e, .slice x.t.A tx x.t.c, .int .i64 x.d] 51):=⟨_,rfl⟩
     have hs0:w0.heap.size=wr.heap.size+1:=by rw [hw0];simp
     have X0:Hid (Ext wr w0):=Lib.hid (hw0 ▸ (Ext.refl wr).alloc _)
     rw [← hw0] at bx0 ⊢
     clear hw0
     have Q0 : ∀ y:Xt w0.drew,y.W.cell? ⟨wr.heap.size,0,none⟩=some (.slice x.A nx x.c):=fun y=>Bk.cell ((Bk.ext bx0 (Ext.refl w0).drew).ext y.x) 0
     have Q1 : ∀ y:Xt w0.drew,y.W.cell? ⟨wr.heap.size,1,none⟩=some (.int .u64 x.t.e):=fun y=>Bk.cell ((Bk.ext bx0 (Ext.refl w0).drew).ext y.x) 1
     have Q2 : ∀ y:Xt w0.drew,y.W.cell? ⟨wr.heap.size,2,none⟩=some (.slice x.t.A tx x.t.c):=fun y=>Bk.cell ((Bk.ext bx0 (Ext.refl w0).drew).ext y.x) 2
     have Q3 : ∀ y:Xt w0.drew,y.W.cell? ⟨wr.heap.size,3,none⟩=some (.int .i64 x.d):=fun y=>Bk.cell ((Bk.ext bx0 (Ext.refl w0).drew).ext y.x) 3
     have HB0:=Lib.hid bx0
     clear bx0
     refine wp_region_ord [0,1,3,0,8,24,0,127] (.flo [0,1,2,3,4,5,6] (.one 7 (.fin))) (by kernel_rfl) (by kernel_rfl) (by intro _ _ d _ _ h;cases d<;>exact h) ?_
     (refine ord_flo (pick_cons rfl (pick_cons rfl (pick_cons rfl (pick_cons rfl (pick_cons rfl (pick_cons rfl (pick_cons rfl pick_nil))))))) ?_;(repeat (go_big_quiet_step (fail)));refine wpQuiet_nil ?_;show ordWalk _ _ _ _ _ _ _)
     refine ord_one (pick_cons rfl pick_nil) ?_;intro K_ hK_
     go_wp2_with (go_at_call 21;refine (matches_any ⟨jb,0,none⟩ ⟨jb,3,none⟩ x.A x.t.A nx x.c tx x.t.c x.t.e x.d _).mono ?_;rintro e w1 ⟨rfl,b1,b2,b3,x1,s1⟩;have B1:=Lib.hid b1;have B2:=Lib.hid b2;have B3:=Lib.hid b3;have X1:Hid (Ext w0 w1):=Lib.hid (((Ext.refl w0).drew).trans x1);have S1:w1.heap.size=w0.heap.size+3:=s1;clear b1 b2 b3 x1 s1)
     clear Q0 Q1 Q2 Q3
     refine ord_fin ?_
     go_wp2
     obtain ⟨M,hM⟩ : ∃ M,M=mtL a2.E (namT b.cols x.l) tx:=⟨_,rfl⟩
     have hsz:w1.heap.size=wr.heap.size+4:=by rw [S1,hs0]
     have hws:w.heap.size<wr.heap.size:=HP.out.o.bk.lt
     have X10:Hid (Ext wr w1):=Lib.hid (X0.out.trans X1.out)
     have HSS:Hid (SdG wr a2 (Ta++L.map Ud.uv)):=Lib.hid (HSU2.out wr HP.out.x)
     have HOO:Hid (SdG wr b Tb):=Lib.hid (HOU2.out wr HP.out.x)
     have HJJ:Hid (Bk wr jb 65 (joinC a2 b ca am2 cb bm)):=Lib.hid (HJU2.out wr HP.out.x)
     have hA1 : ∀ k,blk A1 c1=some k→w.heap.size≤k∧k<wr.heap.size:=fun k hk=>HP.out.o.u.own.lt k hk
     have hnS : ∀ k,wr.heap.size≤k → ¬ OutS w.heap.size A1 c1 k:=fun k hk q=>by
      rcases q with q | q
      ·omega
      ·have:=(hA1 k q).2;omega
     have HO1:Hid (OutR w1 w.heap.size w.heap.size A1 q1 c1 M1):=Lib.hid (HP.out.o.ext X10.out)
     have bj1:Bk w1 jb 65 (joinC a2 b ca am2 cb bm):=Bk.ext HJJ.out X10.out
     have hjS : ¬ OutS w.heap.size A1 c1 jb:=fun q=>by
      rcases q with q | q
      ·have e1:=HO1.out.bk.ty
       rw [← q] at e1
       exact absurd (e1.ne bj1.ty) (by decide)
      ·exact absurd ((HO1.out.u.own.ty q).ne bj1.ty) (by decide)
     have hbS : ∀ k,a2.blks k → ¬ OutS w.heap.size A1 c1 k:=fun k hk q=>by
      rcases q with q | q
      ·subst q;exact HSS.out.r.not_bk HP.out.o.bk (by decide) hk
      ·rcases HP.out.k k q with q | q
       ·exact HAB2.out k q hk
       ·have:=HSW2.out k hk;omega
     have MI:MtI (OutS w.heap.size A1 c1) w1 (wr.heap.size+1+1) (wr.heap.size+1+1+1) (wr.heap.size+1) ⟨jb,3,none⟩ ⟨jb,0,none⟩ b a2 x nx tx cb :=
      ⟨by have:=B2.out.cell 0;rw [show w0.drew.heap.size=wr.heap.size+1 from hs0] at this;exact this,by have:=B1.out.cell 0;rw [show w0.drew.heap.size=wr.heap.size+1 from hs0] at this;exact this,by have:=B3.out.cell 0;rw [show w0.drew.heap.size=wr.heap.size+1 from hs0] at this;exact this,by have:=B3.out.cell 2;rw [show w0.drew.heap.size=wr.heap.size+1 from hs0] at this;exact this,
       bj1.cell 3,bj1.cell (0+1),HOO.out.r.cl.sl.ext X10.out,HX.out.r.ext X10.out,HSS.out.r.ext X10.out,HNX.out,HTX.out,hcb.out,⟨hnS _ (by omega),hnS _ (by omega),hnS _ (by omega),hjS⟩,hbS,OutS.noDat HO1.out⟩
     have HMI:=Lib.hid MI
     have HMM:=Lib.hid hM
     clear bj1 MI hM hjS hbS
     have HV0:=Lib.hid HP.out.v
     have HMK:=Lib.hid (HP.out.mks.ext X10.out)
     have HNS:=Lib.hid hnS
     clear hnS hA1
     have HBU:Hid (Bk w1 wr.heap.size 51 #[.slice x.A nx x.c, .int .u64 x.t.e, .slice x.t.A tx x.t.c, .int .i64 x.d]):=Lib.hid (Bk.ext HB0.out X1.out)
     have hfb : ∀ k,(fnd a2.E k).l.length≤1000000:=fun k=>by
      have q1:=congrArg List.length (HSS.out.v.get k)
      rw [List.length_map] at q1
      have q2:=List.length_filter_le (fun u:UV=>decide (namT a2.cols u.1.1=(k,true))) ((Ta++L.map Ud.uv))
      have q3:=HSS.out.n
      omega
     refine (wpIn_wide (n:=8)).1 ?_
     refine wpIn_rangeFunc_ownH rfl (by decide) (gf:=33) (lb := #[.pointer (some ⟨wr.heap.size+1+1,0,none⟩), .pointer (some ⟨wr.heap.size+1+1+1,0,none⟩), .pointer (some ⟨wr.heap.size+1,0,none⟩)]) rfl trivial (enters_of Try.func33 (by kernel_rfl) rfl)
      (matches_stops (by decide) HMI.out HMM.out (gj_nam HG.out) hc2 hc3.out.2 hfb) (fun h k=>h.trans k) (fun W l _ o' h _ _ _=>kp_put W l o' h) (Below.refl _ _) (fun _=>rfl)
      (fun pre W=>PuK w1 w.heap.size w.heap.size A1 c1 (pushA a.cols b.cols Ta Tb (L.map Ud.uv) ((R.take i).map Ud.uv)++pre.map fun y=>bothV y.1.uv x.uv) W) (fun _ _ _=>False) (PuK.own _) (fun _ _ _ _ _ h _ _=>h) ⟨A1,q1,c1,M1,HO1.out,by rw [HV0.out,List.map_nil,List.append_nil],fun _ h => .inl h,Upd.refl _ _⟩
      (fun y a' W=>PuA w1 w.heap.size (fun bx=>({ tmps := #[.pointer (some ⟨jb,0,none⟩), .slice LA n c, .slice (some ad) m d,undef,undef,undef, .slice none 0 0, .pointer (some ⟨w.heap.size,0,none⟩),undef,u9,undef,undef, .pointer (some ⟨wr.heap.size,0,none⟩), .pointer (some ⟨bx,0,none⟩), .slice LA n c, .int .i64 n,u16,u17,u18,u19,u20,u21,u22,u23,u24,u25,u26,u27,undef,undef,undef,undef,undef,undef,undef,u35,u36,u37,u38,u39,u40, .slice (some ad) m d, .int .i64 m, .int .i64 i, .bool true, .pointer (some (ad.add (i * 4))), .agg #[.slice x.A nx x.c, .int .u64 x.t.e, .slice x.t.A tx x.t.c, .int .i64 x.d], .pointer (some ⟨jb,0,none⟩), .pointer (some ⟨jb,0,none⟩), .pointer (some ⟨jb,0,none⟩), .pointer (some ⟨jb,0,none⟩), .pointer (some ⟨jb,0,none⟩), .pointer (some ⟨jb,3,none⟩), .agg #[.slice x.A nx x.c, .int .u64 x.t.e, .slice x.t.A tx x.t.c, .int .i64 x.d], .func (.func 33) #[] #[.pointer (some ⟨wr.heap.size+1+1,0,none⟩), .pointer (some ⟨wr.heap.size+1+1+1,0,none⟩), .pointer (some ⟨wr.heap.size+1,0,none⟩)],udV y.1,undef,undef,undef,undef,undef,undef,u62,undef,undef,undef,undef,undef,undef,undef],defers:=[] }:Act)) y.1 a' W) (fun y a'=>PuA.own _ y.1 a') ?assign ?body ?done ?stop
     case stop=>exact fun _ _ _ _ _ _ h _=>h.elim
     case assign =>
      rintro l pre y W K2 ⟨A2,q2,c2,M2,h2⟩ hK2
      dsimp only [udV]
      refine in_region rfl (fun _ _ h=>h) ?_
      go_wp2
      have hxa:Ext W (W.alloc (.cells #[.slice y.1.A y.1.l.length y.1.c, .int .u64 y.1.t.e, .slice y.1.t.A y.1.t.l.length y.1.t.c, .int .i64 y.1.d] 51)):=(Ext.refl W).alloc _
      exact hK2 _ _ (keeps_ext hxa) (Upd.ext hxa) ⟨A2,q2,c2,M2,h2.o.ext hxa,h2.v,h2.k,h2.u.trans (Upd.ext hxa)⟩ ⟨W.heap.size,A2,q2,c2,Bk.new W _ _,h2.o.bk.ext hxa,fun q=>by have:=(h2.o.u.own.lt _ q).2;omega,h2.u.size,rfl⟩
     case body =>
      rintro l pre y act W hl hr ⟨A2,q2,c2,M2,h2⟩ ⟨bx,A3,q3,c3,hbx,hbo,hne,hlt2,rfl⟩ hlen
      have e:=hbo.symm.trans h2.o.bk
      injection e with e
      injection e with e _ _
      simp at e
      obtain ⟨rfl,rfl,rfl⟩:=e
      have hsub : ∀ z,z∈M→z∈mtL a2.E (namT b.cols x.l) tx:=fun z hz=>by rw [← HMM.out];exact hz
      have hym:=hsub y.1 y.2
      have hyd:y.1.t.l.length=tx:=by
       unfold mtL at hym
       split at hym
       ·exact of_decide_eq_true (List.mem_filter.1 hym).2
       ·cases hym
      have hyL:y.1∈(fnd a2.E (namT b.cols x.l).1).l:=by
       unfold mtL at hym
       split at hym
       ·exact (List.mem_filter.1 hym).1
       ·cases hym
      have HU0:Hid (Upd (OutS w.heap.size A1 c1) w1 W):=Lib.hid (h2.u.mono fun k hk q=>by rcases q with q | q;exact q;omega)
      have HYU:Hid (UdR W y.1):=Lib.hid ((((HSS.out.r.fnd _).el _ hyL).ext X10.out).upd HU0.out HMI.out.nd).udr
      have HYG:Hid (GoodJ 32 y.1.uv):=Lib.hid (HSS.out.g _ (by
       have q1:=HSS.out.v.get (namT b.cols x.l).1
       have q2:y.1.uv∈(fnd a2.E (namT b.cols x.l).1).l.map Ud.uv:=List.mem_map.2 ⟨_,hyL,rfl⟩
       rw [q1] at q2
       exact (List.mem_filter.1 q2).1))
      have HXU:Hid (UdR W x):=Lib.hid ((HLU2.out W (upd_step (upd_step HP.out.x (Upd.ext (S:=fun _=>False) X10.out) (fun _ _ h=>h.elim)) HU0.out (fun q hq h=>HP.out.back hq h))).ls _ HUM.out)
      have HBUW:Hid (Bk W wr.heap.size 51 #[.slice x.A nx x.c, .int .u64 x.t.e, .slice x.t.A tx x.t.c, .int .i64 x.d]):=Lib.hid (HBU.out.upd HU0.out (HNS.out _ (Nat.le_refl _)))
      have HBO:=Lib.hid h2.o.bk
      obtain ⟨yv,hym2⟩:=y
      simp only at hbx hyd hyL HYU HYG ⊢
      obtain ⟨ny,hny⟩ : ∃ ny,yv.l.length=ny:=⟨_,rfl⟩
      rw [hny,hyd] at hbx
      have HNY:=Lib.hid hny.symm
      have HTY:=Lib.hid hyd.symm
      have HBX:=Lib.hid hbx
      have hq9:q3≤1000000:=by
       have l1:=congrArg List.length h2.v
       have l3:(mtL a2.E (namT b.cols x.l) tx).length≤((Ta++L.map Ud.uv)).length:=by
        rw [HTX.out]
        have l4:=congrArg List.length (mt_val HSS.out.v b.cols x)
        rw [List.length_map] at l4
        rw [l4]
        exact List.length_filter_le _ _
       rw [← HMM.out] at l3
       rw [List.length_map,List.length_append,List.length_map, ← h2.o.ln] at l1
       have l2:=pushA_le a.cols b.cols Ta Tb (L.map Ud.uv) 500 (by rw [List.length_map, ← hn.out];omega) (by rw [List.length_map, ← hn.out];omega) ((R.take i).map Ud.uv) (by rw [List.length_map];exact Nat.le_trans (List.length_take_le _ _) (by omega))
       have l5:((Ta++L.map Ud.uv)).length≤500:=(by rw [List.length_append,List.length_map, ← hn.out];omega)
       omega
      have HPJ:=Lib.hid h2
      clear hny hbx hbo h2 hym hyL
      refine wpIn_block ?_
      have Q0 : ∀ u:Xt W.drew,u.W.cell? ⟨w.heap.size,0,none⟩=some (.slice A3 q3 c3):=fun u=>Bk.cell ((Bk.ext HBO.out (Ext.refl W).drew).ext u.x) 0
      have Q1 : ∀ u:Xt W.drew,u.W.cell? ⟨wr.heap.size,0,none⟩=some (.slice x.A nx x.c):=fun u=>Bk.cell ((Bk.ext HBUW.out (Ext.refl W).drew).ext u.x) 0
      have Q2 : ∀ u:Xt W.drew,u.W.cell? ⟨wr.heap.size,1,none⟩=some (.int .u64 x.t.e):=fun u=>Bk.cell ((Bk.ext HBUW.out (Ext.refl W).drew).ext u.x) 1
      have Q3 : ∀ u:Xt W.drew,u.W.cell? ⟨wr.heap.size,2,none⟩=some (.slice x.t.A tx x.t.c):=fun u=>Bk.cell ((Bk.ext HBUW.out (Ext.refl W).drew).ext u.x) 2
      have Q4 : ∀ u:Xt W.drew,u.W.cell? ⟨wr.heap.size,3,none⟩=some (.int .i64 x.d):=fun u=>Bk.cell ((Bk.ext HBUW.out (Ext.refl W).drew).ext u.x) 3
      have Q5 : ∀ u:Xt W.drew,u.W.cell? ⟨bx,0,none⟩=some (.slice yv.A ny yv.c):=fun u=>Bk.cell ((Bk.ext HBX.out (Ext.refl W).drew).ext u.x) 0
      have Q6 : ∀ u:Xt W.drew,u.W.cell? ⟨bx,1,none⟩=some (.int .u64 yv.t.e):=fun u=>Bk.cell ((Bk.ext HBX.out (Ext.refl W).drew).ext u.x) 1
      have Q7 : ∀ u:Xt W.drew,u.W.cell? ⟨bx,2,none⟩=some (.slice yv.t.A tx yv.t.c):=fun u=>Bk.cell ((Bk.ext HBX.out (Ext.refl W).drew).ext u.x) 2
      have Q8 : ∀ u:Xt W.drew,u.W.cell? ⟨bx,3,none⟩=some (.int .i64 yv.d):=fun u=>Bk.cell ((Bk.ext HBX.out (Ext.refl W).drew).ext u.x) 3
      have lx:nx≤100000:=by have:=HG.out.rl;rw [HNX.out];exact Nat.le_trans this (by omega)
      have ly:ny≤100000:=by have:=HYG.out.rl;rw [HNY.out];exact Nat.le_trans this (by omega)
      have lt:tx≤1000000:=by have:=HG.out.tl;rw [HTX.out];exact Nat.le_trans this (by omega)
      unfold udV
      refine in_region_ord [0,0,0,6,14,31,63] (.flo [0,1,2] (.ext 3 (.ext 4 (.one 5 (.one 6 (.fin)))))) (by kernel_rfl) (by kernel_rfl) (by kernel_rfl) (fun _ _ h=>h) (by intro _ _ d _ _ h;cases d<;>exact h) ?_
      (refine ord_flo (pick_cons rfl (pick_cons rfl (pick_cons rfl pick_nil))) ?_;(repeat (go_big_quiet_step (fail)));refine wpQuiet_nil ?_;show ordWalk _ _ _ _ _ _ _)
      refine ord_ext (pick_cons rfl pick_nil) ?_;intro K_ hK_
      go_wp2_with (go_at_call 22;refine (both_any yv x ny nx tx _ HNY HNX HTY HTX (Lib.hid (HYU.out.ext (Ext.refl W).drew)) (Lib.hid (HXU.out.ext (Ext.refl W).drew)) (Lib.hid HYG.out.tu) (Lib.hid HG.out.tu) ly lx lt).mono ?_;rintro e w2 ⟨A4,m4,c4,B4,k4,b4,rfl,hm4,hk4,o4,t4,x4⟩;have O4:=Lib.hid o4;have T4:=Lib.hid t4;have X4:Hid (Ext W w2):=Lib.hid (((Ext.refl W).drew).trans x4);have HM4:=Lib.hid hm4;have HK4:=Lib.hid hk4;have Y4:=Lib.hid x4;clear o4 t4 hm4 hk4 x4)
      refine ordNext.mk Y4.out ?_
      refine ord_ext (pick_cons rfl pick_nil) ?_;intro K_ hK_
      go_wp2
      refine ordNext.mk ((Ext.refl _).alloc _) ?_
      clear Q0 Q1 Q2 Q3 Q4 Q5 Q6 Q7 Q8
      refine ord_one (pick_cons rfl pick_nil) ?_;intro K_ hK_
      have HOW:Hid (Own (w2.alloc (.cells #[.slice A4 m4 c4, .int .u64 (max yv.t.e x.t.e), .slice B4 k4 b4, .int .i64 (wrap64 (yv.d * x.d))] 51)) w.heap.size 51 4 A3 q3 c3 (udsC M2)):=Lib.hid (by rw [HPJ.out.o.ln];exact (HPJ.out.o.u.own.ext X4.out).alloc _)
      go_wp2_with (at_builtin;refine wpList_append_two _ elem_ud w.heap.size _ _ rfl rfl A3 q3 c3 (udsC M2) rfl HOW.out (some ⟨w2.heap.size,0,none⟩) 1 1 [.slice A4 m4 c4, .int .u64 (max yv.t.e x.t.e), .slice B4 k4 b4, .int .i64 (wrap64 (yv.d * x.d))] rfl (Sl.one w2 #[.slice A4 m4 c4, .int .u64 (max yv.t.e x.t.e), .slice B4 k4 b4, .int .i64 (wrap64 (yv.d * x.d))] 51 4 rfl) (by intro u hu;simp at hu;rcases hu with rfl | rfl | rfl | rfl<;>rfl) (by omega) (by decide) (by have:=X4.out.size;have:=HPJ.out.u.size;have:=X10.out.size;simp;omega) ?_;intro A5 c5 w5 o5 g5 x5;have HO5:=Lib.hid o5;have HG5:=Lib.hid g5;have HX5:=Lib.hid x5;clear o5 g5 x5)
      go_simp
      refine ord_one (pick_cons rfl pick_nil) ?_;intro K_ hK_
      have hww:w.heap.size≤W.heap.size:=Nat.le_trans (Nat.le_of_lt hws) (Nat.le_trans X10.out.size HPJ.out.u.size)
      obtain ⟨or,ur,kr⟩:=HPJ.out.o.push X4.out (x:=⟨A4,c4,yv.l++x.l,⟨max yv.t.e x.t.e,B4,b4,List.zipWith max yv.t.l x.t.l⟩,wrap64 (yv.d * x.d)⟩) HM4.out HK4.out O4.out T4.out hww HO5.out _ HG5.out HX5.out
      have bo5:Bk w5 w.heap.size 33 #[.slice A3 q3 c3]:=Bk.grown ((Bk.ext HBO.out X4.out).alloc _) HG5.out (fun q=>by have:=(HPJ.out.o.u.own.ty q).ne HBO.out.ty;exact absurd this (by decide))
      have j0:=bo5.cell 0
      have j1:=bo5.free 0
      have HOR:=Lib.hid or
      have HUR:=Lib.hid ur
      have HKR:=Lib.hid kr
      clear bo5 or ur kr
      go_wp2
      refine ord_fin ?_
      refine ⟨keeps_upd HUR.out (fun k hk=>OutS.cells HPJ.out.o hk),HUR.out.mono (fun k _ hk=>?_),A5,q3+1,c5,_,HOR.out,?_,fun k hk=>?_,HPJ.out.u.trans (HUR.out.mono (fun k _ hk=>?_))⟩
      ·rcases hk with hk | hk
       ·exact .inl (.inl hk)
       ·rcases HPJ.out.k k hk with q | q
        ·exact .inl (.inr q)
        ·exact .inr (by omega)
      ·have hve:(M2++[(⟨A4,c4,yv.l++x.l,⟨max yv.t.e x.t.e,B4,b4,List.zipWith max yv.t.l x.t.l⟩,wrap64 (yv.d * x.d)⟩:Ud)]).map Ud.uv=pushA a.cols b.cols Ta Tb (L.map Ud.uv) ((R.take i).map Ud.uv)++(pre++[(⟨yv,hym2⟩:{ x // x∈M })]).map fun y=>bothV y.1.uv x.uv:=by
        rw [List.map_append,HPJ.out.v,List.map_append,List.append_assoc]
        rfl
       simpa using hve
      ·rcases HKR.out k hk with q | q
       ·rcases HPJ.out.k k q with q | q
        ·exact .inl q
        ·exact .inr (by omega)
       ·have:=HPJ.out.u.size
        exact .inr (by omega)
      ·rcases hk with hk | hk
       ·exact .inl (.inl hk)
       ·rcases HPJ.out.k k hk with q | q
        ·exact .inl (.inr q)
        ·exact .inr (by omega)
     case done =>
      rintro D ys W hD rfl ⟨A2,q2,c2,M2,h2⟩ hd
      have HD:=Lib.hid hd
      have H2:=Lib.hid h2
      clear hd h2
      rw [← HAX.out]
      go_wp2
      refine Handed.intro (m - (i+1)) (by omega) (hJ _ _ _ ⟨i+1,_,_,_,_,_,_,_,_,_,_,_,_,_,_,_,_,_,_,_,_,_,_,_,_,_,_,_,_,_,_,_,_,_,A2,q2,c2,M2,rfl,rfl,by omega,Lib.hid ?_⟩)
      have hval:pushA a.cols b.cols Ta Tb (L.map Ud.uv) ((R.take (i+1)).map Ud.uv)=pushA a.cols b.cols Ta Tb (L.map Ud.uv) ((R.take i).map Ud.uv)++M.attach.map fun y=>bothV y.1.uv x.uv:=by
       rw [HT.out,List.map_append,pushA_app']
       have l4:=mt_val HSS.out.v b.cols x
       rw [← HTX.out, ← HMM.out] at l4
       rw [HCO.out] at l4
       have e1:M.attach.map (fun y=>bothV y.1.uv x.uv)=(M.attach.map Subtype.val).map fun y=>bothV y.uv x.uv:=by rw [List.map_map];rfl
       rw [e1,List.attach_map_subtype_val]
       show _++((mtV a.cols b.cols x.uv (Ta++L.map Ud.uv)).map _++[])=_
       rw [List.append_nil, ← l4,List.map_map]
       rfl
      have hu2:=upd_step (upd_step HP.out.x (Upd.ext (S:=fun _=>False) X10.out) (fun _ _ h=>h.elim)) H2.out.u (fun q hq h=>by
       rcases h with h | h
       ·exact HP.out.back hq h
       ·have:=HP.out.x.size;omega)
      refine ⟨H2.out.o,by rw [hval];exact H2.out.v,Marks.cons HMK.out (HMK.out.upd H2.out.u (fun k hk=>?_)) hD (Nat.le_trans (Nat.le_of_lt hws) X10.out.size) HD.out,fun k hk=>?_,hu2⟩
      ·rcases hk with hk | hk
       ·exact not_def (OutS.cells HO1.out hk)
       ·intro x0 q
        have:=(Array.getElem?_eq_some_iff.1 q).1
        omega
      ·rcases H2.out.k k hk with q | q
       ·exact HP.out.k k q
       ·have:=HP.out.x.size
        exact .inr (by omega)
    ·obtain rfl:m=i:=by omega
     have HJB:=Lib.hid (HJU2.out wr HP.out.x)
     have HSB:=Lib.hid (HOU2.out wr HP.out.x)
     have HSA:=Lib.hid (HSU2.out wr HP.out.x)
     have HUX:=Lib.hid (HUW.out wr HP.out.x)
     have HLB:Hid (∀ w',Upd (fun k=>b.blks k∨k=jb) wr w'→Uin w' RA d R):=Lib.hid (fun w' u=>hR.out w' (upd_step HUX.out u (fun q _ h=>by rcases h with h | h;exact .inr (.inl h);exact .inr (.inr h))))
     have hwr2:w.heap.size<wr.heap.size:=HP.out.o.bk.lt
     have hq1:q1≤1000000:=by
      have l1:=congrArg List.length HP.out.v
      rw [List.length_map, ← HP.out.o.ln] at l1
      have l2:=pushA_le a.cols b.cols Ta Tb (L.map Ud.uv) 500 (by rw [List.length_map, ← hn.out];omega) (by rw [List.length_map, ← hn.out];omega) ((R.take m).map Ud.uv) (by rw [List.length_map];exact Nat.le_trans (List.length_take_le _ _) (by omega))
      omega
     have HGO:Hid (∀ u∈M1.map Ud.uv,GoodJ 64 u):=Lib.hid (by
      rw [HP.out.v,hm.out,List.take_length]
      exact push_good ha.out.g hb.out.g (fun u hu=>by obtain ⟨y,hy,rfl⟩:=List.mem_map.1 hu;exact gL.out y hy) (fun u hu=>by obtain ⟨y,hy,rfl⟩:=List.mem_map.1 hu;exact gR.out y hy))
     have hbW : ∀ k,b.blks k→k<w.heap.size:=fun k hk=>hb.out.r.lt hk
     have HBW:=Lib.hid hbW
     clear hbW
     go_wp2_with (first
      | (go_at_call 23;refine (add_any jb 3 m d cb (joinC a2 b ca am2 cb bm) b Tb RA R wr HJB hcb (Lib.hid rfl) (Lib.hid rfl) (Lib.hid (by rw [← hbm.out];rfl)) (Lib.hid HSB.out.r) (Lib.hid HSB.out.v) hm HLB (Lib.hid (gj_add gR.out)) hc2 (Lib.hid hc3.out.2) (Lib.hid (by omega)) h8).mono ?_;rintro e wd ⟨⟨v,rfl⟩,b2,bj,r2,v2,k2,u2⟩;have BJ5:=Lib.hid bj;have R5:=Lib.hid r2;have V5:=Lib.hid v2;have K5:=Lib.hid k2;have U5:=Lib.hid u2;clear bj r2 v2 k2 u2;have HOD:Hid (OutR wd w.heap.size w.heap.size A1 q1 c1 M1):=Lib.hid (HP.out.o.upd U5.out (fun q=>by rcases q with q | q;(have:=HBW.out _ q;omega);omega) (fun k h1 _ q=>by rcases q with q | q;(have:=HBW.out _ q;omega);omega));have o1:=HOD.out.bk.cell 0)
      | (go_at_call 24;refine (UdS.dsum_any A1 c1 q1 M1 wd (Lib.hid HOD.out.ln) (Lib.hid HOD.out.u.uin) hq1 (Lib.hid fun x hx=>(HGO.out _ (List.mem_map.2 ⟨x,hx,rfl⟩)).num) (Lib.hid fun x hx=>⟨Nat.le_trans (HGO.out _ (List.mem_map.2 ⟨x,hx,rfl⟩)).rl (by omega),Nat.le_trans (HGO.out _ (List.mem_map.2 ⟨x,hx,rfl⟩)).tl (by omega)⟩)).mono ?_;rintro e w5 ⟨A7,k7,N,rfl,hk7,u7,v7,x7⟩;have HU7:=Lib.hid u7;have HV7:=Lib.hid v7;have HX7:=Lib.hid x7;have HK7:=Lib.hid hk7;clear u7 v7 x7 hk7))
     have nd5:NoDat wr (fun k=>b.blks k∨k=jb):=fun k hk=>by
      rcases hk with hk | hk
      ·exact HSB.out.r.noDat k hk
      ·subst hk;exact ty_noDat HJB.out.ty (by decide) (by decide) (by decide)
     have hab : ∀ k,a2.blks k → ¬ b.blks k:=fun k hk q=>by
      rcases K2.out.fr k hk with h | h
      ·exact hap.out k h q
      ·have:=HBW.out k q;have:=HWB.out.size;omega
     have hw5:w.heap.size≤wd.heap.size:=Nat.le_trans (Nat.le_of_lt hwr2) U5.out.size
     have PR:PushR w w5 jb ca cb a b a2 b2 Ta Tb (L.map Ud.uv) (R.map Ud.uv) A7 k7 N:=by
      refine ⟨HK7.out,HU7.out.mono hw5,?_,?_,?_,?_,K2.out.mono HWB.out.size,K5.out.mono (Nat.le_of_lt hwr2),fun k hk q=>?_,upd_step (upd_step HUX.out U5.out (fun q _ h=>by rcases h with h | h;exact .inr (.inl h);exact .inr (.inr h))) (Upd.ext (S:=fun _=>False) HX7.out) (fun _ _ h=>h.elim),fun q hq=>⟨fun h=>?_,fun h=>?_⟩⟩
      ·rw [HV7.out,HP.out.v,hm.out,List.take_length]
      ·have:=BJ5.out
       rw [joinC_right K5.out,HAM2.out] at this
       exact Bk.ext this HX7.out
      ·exact (HSA.out.upd U5.out nd5 (fun k hk q=>by
        rcases q with q | q
        ·exact hab k hk q
        ·subst q;exact HSA.out.r.not_bk HJB.out (by decide) hk)).ext HX7.out
      ·refine SdG.ext ⟨R5.out,V5.out,fun u hu=>?_,?_⟩ HX7.out
       ·rcases List.mem_append.1 hu with hu | hu
        ·exact hb.out.g u hu
        ·obtain ⟨y,hy,rfl⟩:=List.mem_map.1 hu
         exact gR.out y hy
       ·rw [List.length_append,List.length_map, ← hm.out];omega
      ·rcases K5.out.fr k q with h | h
       ·exact hab k hk h
       ·have:=HSW2.out k hk;have:=HP.out.x.size;omega
      ·have h1:=(HU7.out.lt hq).1
       have h2:=(HSA.out.r.lt h)
       have:=U5.out.size
       omega
      ·have h1:=(HU7.out.lt hq).1
       have h2:=R5.out.lt h
       omega
     refine leaves_marks (B:=w.heap.size) (v := .slice A7 k7 k7) (fun w=>by rw [results_tmp (t:=6) rfl];rfl) ds w5 ((HP.out.mks.upd U5.out (fun k hk=>?_)).ext HX7.out) (fun w' hs=>⟨A7,k7,N,a2,b2,rfl,PR.shut hw5 HU7.out hs⟩)
     rcases hk with hk | hk
     ·exact blks_def HSB.out.r hk
     ·subst hk;exact bk_def HJB.out
open Go.RowKit
structure JS (w:World) (g:Nat) (l r:List Int) (a b:SdM) (Ta Tb:List UV):Prop where
 j:Bk w g 65 (joinC a b l.length a.r.length r.length b.r.length)
 ca:a.cols=l
 cb:b.cols=r
 sa:SdG w a Ta
 sb:SdG w b Tb
 ap : ∀ k,a.blks k → ¬ b.blks k
/-- the join's blocks -/
def JF (g:Nat) (a b:SdM) (k:Nat):Prop:=a.blks k∨b.blks k∨k=g
section
variable {w w':World} {g:Nat} {l r:List Int} {a b:SdM} {Ta Tb:List UV}
theorem JS.lt (h:JS w g l r a b Ta Tb) {k:Nat} (hk:JF g a b k):k<w.heap.size:=by
 rcases hk with hk | hk | rfl
 ·exact h.sa.r.lt hk
 ·exact h.sb.r.lt hk
 ·exact h.j.lt
theorem JS.noDat (h:JS w g l r a b Ta Tb):NoDat w (JF g a b):=fun k hk=>by
 rcases hk with hk | hk | rfl
 ·exact h.sa.r.noDat k hk
 ·exact h.sb.r.noDat k hk
 ·exact ty_noDat h.j.ty (by decide) (by decide) (by decide)
theorem JS.ext (h:JS w g l r a b Ta Tb) (x:Ext w w'):JS w' g l r a b Ta Tb:=⟨h.j.ext x,h.ca,h.cb,h.sa.ext x,h.sb.ext x,h.ap⟩
theorem JS.upd {S:Nat→Prop} (h:JS w g l r a b Ta Tb) (u:Upd S w w') (hn:NoDat w S) (hS : ∀ k,JF g a b k → ¬ S k):JS w' g l r a b Ta Tb :=
 ⟨h.j.upd u (hS g (.inr (.inr rfl))),h.ca,h.cb,h.sa.upd u hn (fun k hk=>hS k (.inl hk)),h.sb.upd u hn (fun k hk=>hS k (.inr (.inl hk))),h.ap⟩
/-- a side just made -/
def newSd (l:List Int) (A:Option Addr) (c b:Nat):SdM:=⟨A,c,l,b,0, .map [],[],none,0,[]⟩
theorem newSd_blks {A:Option Addr} {c q k:Nat} (h:(newSd l A c q).blks k):k=q:=by
 rcases h with h | h | ⟨x,hx,_⟩
 ·exact h
 ·cases h
 ·cases hx
theorem new_side {n c q:Nat} {A:Option Addr} (hn:n=l.length) (h:SideNew w n l A c q w'):SdG w' (newSd l A c q) []:=by
 subst hn
 refine ⟨⟨h.1.mono (Nat.zero_le _),h.2.1,fun kl=>⟨fun h=>?_,fun ⟨x,hx,_⟩=>(nomatch hx)⟩,fun x hx=>(nomatch hx),List.nodup_nil,fun x hx=>(nomatch hx),LsR.nil w',List.Pairwise.nil,fun x hx=>(nomatch hx)⟩,⟨fun k=>?_,List.Perm.nil,Nat.le_refl _⟩,fun u hu=>(nomatch hu),Nat.zero_le _⟩
 ·simp [newSd,Maps.has] at h
 ·unfold fnd newSd
  rfl
/-- New hands out a join, its blocks are new -/
theorem new_js {n m:Nat} {e:Ending} (hn:n=l.length) (hm:m=r.length) (h:NewOut w n m l r e w') : ∃ g a b,e = .returned (.tuple #[.pointer (some ⟨g,0,none⟩), .int .u16 0])∧JS w' g l r a b [] []∧(∀ k,JF g a b k→w.heap.size≤k)∧Ext w w':=by
 obtain ⟨g,b1,b2,A1,A2,c1,c2,rfl,hb,hg,s1,s2,hne,x⟩:=h
 refine ⟨g,newSd l A1 c1 b1,newSd r A2 c2 b2,rfl,⟨?_,rfl,rfl,new_side hn s1,new_side hm s2,fun k h1 h2=>hne ((newSd_blks h1).symm.trans (newSd_blks h2))⟩,fun k hk=>?_,x⟩
 ·rw [hn,hm] at hb
  exact hb
 ·rcases hk with hk | hk | rfl
  ·rw [newSd_blks hk];exact s1.2.2
  ·rw [newSd_blks hk];exact s2.2.2
  ·exact hg
theorem new_cols {l r:List Int} (h:newOk l r=true):(l.length≤1000∧r.length≤1000)∧(∀ x∈l,0≤x) ∧ ∀ x∈r,0≤x:=by
 unfold newOk at h
 simp only [Bool.and_eq_true,decide_eq_true_eq,Bool.not_eq_true'] at h
 obtain ⟨⟨⟨k1,k2⟩,k3⟩,k4⟩:=h
 have hp : ∀ {q:List Int},q.any badC=false → ∀ x∈q,0≤x:=fun {q} hq x hx=>by
  have:=List.any_eq_false.1 hq x hx
  unfold badC at this
  simp at this
  exact this.1
 exact ⟨⟨by omega,by omega⟩,hp k3,hp k4⟩
theorem newOk_comm (l r:List Int):newOk l r=newOk r l:=by
 unfold newOk
 by_cases h:l.length=r.length
 ·rw [h]
  cases l.any badC<;>cases r.any badC<;>simp
 ·rw [decide_eq_false h,decide_eq_false (fun e=>h (Eq.symm e))]
  rfl
/-- what a push leaves -/
structure PushS (w w':World) (g:Nat) (l r:List Int) (a b a2 b2:SdM) (Ta Tb L R:List UV) (A:Option Addr) (k:Nat) (N:List Ud):Prop where
 ln:k=N.length
 u:Uout w' w.heap.size A k N
 v:N.map Ud.uv=UdS.sumV (pushA l r Ta Tb L R)
 s:JS w' g l r a2 b2 (Ta++L) (Tb++R)
 f : ∀ k,JF g a2 b2 k→JF g a b k∨w.heap.size≤k
 x:Upd (JF g a b) w w'
 dj : ∀ q,UBlk A k N q → ¬ JF g a2 b2 q
theorem push_js (n m c d:Nat) (LA RA:Option Addr) (L R:List Ud) (hj:Hid (JS w g l r a b Ta Tb)) (hk:Hid (newOk l r=true))
  (hn:Hid (n=L.length)) (hm:Hid (m=R.length)) (hL:Hid (∀ w',Upd (JF g a b) w w'→Uin w' LA c L)) (hR:Hid (∀ w',Upd (JF g a b) w w'→Uin w' RA d R)) (gL:Hid (∀ x∈L,GoodJ 32 x.uv)) (gR:Hid (∀ x∈R,GoodJ 32 x.uv)) (h7:Ta.length+Tb.length+n+m≤500) :
  Calls Try.prog 9 #[.pointer (some ⟨g,0,none⟩), .slice LA n c, .slice RA m d] w fun e w' => ∃ A k N a2 b2,e = .returned (.slice A k k)∧PushS w w' g l r a b a2 b2 Ta Tb (L.map Ud.uv) (R.map Ud.uv) A k N:=by
 obtain ⟨⟨h1,h2⟩,h3,h4⟩:=new_cols hk.out
 have ca:=hj.out.ca
 have cb:=hj.out.cb
 refine (push_any g l.length a.r.length r.length b.r.length n m c d a b Ta Tb LA RA L R w (Lib.hid hj.out.j) (Lib.hid (by rw [ca])) (Lib.hid (by rw [cb])) (Lib.hid rfl) (Lib.hid rfl) (Lib.hid hj.out.sa) (Lib.hid hj.out.sb) (Lib.hid hj.out.ap) hn hm hL hR gL gR (by omega) (by omega) h7 h1 h2 (Lib.hid ⟨by rw [ca];exact h3,by rw [cb];exact h4⟩)).mono ?_
 rintro e w' ⟨A,k,N,a2,b2,rfl,p⟩
 refine ⟨A,k,N,a2,b2,rfl,p.ln,p.u,?_,⟨p.j,p.ka.cols.trans ca,p.kb.cols.trans cb,p.sa,p.sb,p.ap⟩,fun q hq=>?_,p.x,fun q hq e=>?_⟩
 ·have:=p.v
  rwa [ca,cb] at this
 ·rcases hq with hq | hq | hq
  ·exact (p.ka.fr q hq).imp .inl id
  ·exact (p.kb.fr q hq).imp (fun h => .inr (.inl h)) id
  ·exact .inl (.inr (.inr hq))
 ·rcases e with e | e | e
  ·exact (p.dj q hq).1 e
  ·exact (p.dj q hq).2 e
  ·have h1:=(p.u.lt hq).1
   have h2:=hj.out.j.lt
   omega
theorem len_js (hj:Hid (JS w g l r a b Ta Tb)) :
  Calls Try.prog 13 #[.pointer (some ⟨g,0,none⟩)] w fun e w'=>e = .returned (.int .i64 ((UdS.sumV Ta).length+(UdS.sumV Tb).length))∧Ext w w' :=
 len_any g l.length a.r.length r.length b.r.length a b Ta Tb w (Lib.hid hj.out.j) (Lib.hid rfl) (Lib.hid rfl) (Lib.hid hj.out.sa) (Lib.hid hj.out.sb)
end
open Go.RowKit
def koneJ (n:Int):Dat:=⟨3,false,n,⟨#[]⟩⟩
def UpdJ (a b e d:Int) (w:World) (r:Ending) (w':World):Prop := ∃ g,r = .returned (.agg #[.slice (some ⟨g,0,none⟩) 2 2, .int .u64 e, .slice none 0 0, .int .i64 d])∧w.heap.size≤g∧Own w' w.heap.size 55 4 (some ⟨g,0,none⟩) 2 2 (rowC [koneJ a,koneJ b])∧Ext w w'
def kupJ (g:Nat) (a b e d:Int):Ud:=⟨some ⟨g,0,none⟩,2,[koneJ a,koneJ b],⟨e,none,0,[]⟩,d⟩
theorem kupJ_good (g:Nat) {a b e d:Int} (ha:0≤a∧a≤100) (hb:0≤b∧b≤100) (hd : -100≤d∧d≤100):GoodJ 32 (kupJ g a b e d).uv:=by
 refine ⟨fun x hx=>?_,fun x hx=>?_,⟨by show _≤d;omega,by show d≤_;omega⟩,by show 2≤_;omega,by show 0≤_;omega,fun x hx=>(nomatch hx)⟩
 ·rcases List.mem_cons.1 (show x∈[koneJ a,koneJ b] from hx) with rfl | hx
  ·rfl
  ·rw [List.mem_singleton.1 hx];rfl
 ·rcases List.mem_cons.1 (show x∈[koneJ a,koneJ b] from hx) with rfl | hx
  ·show _≤a∧a≤_;omega
  ·rw [List.mem_singleton.1 hx];show _≤b∧b≤_;omega
set_option maxRecDepth 100000 in
set_option maxHeartbeats 1000000 in
theorem upd14_any (a b e d:Int) (w:World) :
  Calls Try.prog 15 #[.int .i64 a, .int .i64 b, .int .u64 e, .int .i64 d] w (UpdJ a b e d w):=by
 go_enter Try.func15,Try.ntmps15
 go_wp2
 obtain ⟨w1,hw1⟩ : ∃ w1,w1=(w.alloc (.cells #[.slice (some ⟨w.heap.size+1,0,none⟩) 2 2, .int .u64 e, .slice none 0 0, .int .i64 d] 51)).alloc (.cells #[.int .u8 3, .bool false, .int .i64 a, .string ⟨#[]⟩, .int .u8 3, .bool false, .int .i64 b, .string ⟨#[]⟩] 55):=⟨_,rfl⟩
 have b1:Bk w1 w.heap.size 51 #[.slice (some ⟨w.heap.size+1,0,none⟩) 2 2, .int .u64 e, .slice none 0 0, .int .i64 d]:=by rw [hw1];exact (Bk.new _ _ _).alloc _
 have c1:Bk w1 (w.heap.size+1) 55 #[.int .u8 3, .bool false, .int .i64 a, .string ⟨#[]⟩, .int .u8 3, .bool false, .int .i64 b, .string ⟨#[]⟩]:=by rw [hw1];exact Bk.at (by simp)
 have x1:Ext w w1:=by rw [hw1];exact ((Ext.refl w).alloc _).alloc _
 have o1:Own w1 w.heap.size 55 4 (some ⟨w.heap.size+1,0,none⟩) 2 2 (rowC [koneJ a,koneJ b]):=⟨rfl, .inr ⟨w.heap.size+1, #[.int .u8 3, .bool false, .int .i64 a, .string ⟨#[]⟩, .int .u8 3, .bool false, .int .i64 b, .string ⟨#[]⟩],rfl,by omega,c1,Nat.le_refl _,by unfold maxLen;omega,Nat.le_refl _,rfl⟩⟩
 have q0:=b1.cell 0
 have q1:=b1.cell 1
 have q2:=b1.cell 2
 have q3:=b1.cell 3
 simp at q0 q1 q2 q3
 rw [← hw1]
 clear hw1
 refine bodyPost_ret (v := .agg #[.slice (some ⟨w.heap.size+1,0,none⟩) 2 2, .int .u64 e, .slice none 0 0, .int .i64 d]) (by simp [results,Try.results15,go_sem,q0,q1,q2,q3]) rfl ⟨w.heap.size+1,rfl,by omega,o1,x1⟩
def kuwJ (l:List Int) (e d:Int):UV:=((l.map koneJ,(e,[])),d)
theorem kn1 (a:Nat):UdS.sumV (pushA [0] [0] [] [] ([kupJ a 1 10 2 1].map Ud.uv) [])=[]:=by kernel_rfl
theorem kn2 (a b c:Nat):UdS.sumV (pushA [0] [0] ([]++[kupJ a 1 10 2 1].map Ud.uv) ([]++[]) [] ([kupJ b 1 20 3 2,kupJ c 2 30 1 1].map Ud.uv))=[kuwJ [1,10,1,20] 3 2]:=by kernel_rfl
theorem kn3 (a b c d:Nat):UdS.sumV (pushA [0] [0] ([]++[kupJ a 1 10 2 1].map Ud.uv++[]) ([]++[]++[kupJ b 1 20 3 2,kupJ c 2 30 1 1].map Ud.uv) ([kupJ d 2 40 5 (-1)].map Ud.uv) [])=[kuwJ [2,40,2,30] 5 (-1)]:=by kernel_rfl
/-- a list just built of updates just made -/
theorem kups1 {w:World} {B g:Nat} {a b e d:Int} (o:Own w B 55 4 (some ⟨g,0,none⟩) 2 2 (rowC [koneJ a,koneJ b])) (hB:B≤w.heap.size) :
  Uout (w.alloc (.cells #[.slice (some ⟨g,0,none⟩) 2 2, .int .u64 e, .slice none 0 0, .int .i64 d] 51)) B (some ⟨w.heap.size,0,none⟩) 1 [kupJ g a b e d]:=by
 refine ⟨⟨rfl, .inr ⟨w.heap.size, #[.slice (some ⟨g,0,none⟩) 2 2, .int .u64 e, .slice none 0 0, .int .i64 d],rfl,hB,Bk.new w _ _,Nat.le_refl _,by unfold maxLen;omega,Nat.le_refl _,rfl⟩⟩,fun x hx=>?_,fun x hx=>?_,List.pairwise_singleton _ _,List.pairwise_singleton _ _⟩
 ·rw [List.mem_singleton.1 hx];exact o.alloc _
 ·rw [List.mem_singleton.1 hx];exact Own.nil _ _ _ _
theorem kups2 {w:World} {B g h:Nat} {a b e d p q r s:Int} (o:Own w B 55 4 (some ⟨g,0,none⟩) 2 2 (rowC [koneJ a,koneJ b])) (o2:Own w B 55 4 (some ⟨h,0,none⟩) 2 2 (rowC [koneJ p,koneJ q])) (hgh:g≠h) (hB:B≤w.heap.size) :
  Uout (w.alloc (.cells #[.slice (some ⟨g,0,none⟩) 2 2, .int .u64 e, .slice none 0 0, .int .i64 d, .slice (some ⟨h,0,none⟩) 2 2, .int .u64 r, .slice none 0 0, .int .i64 s] 51)) B (some ⟨w.heap.size,0,none⟩) 2 [kupJ g a b e d,kupJ h p q r s]:=by
 refine ⟨⟨rfl, .inr ⟨w.heap.size, #[.slice (some ⟨g,0,none⟩) 2 2, .int .u64 e, .slice none 0 0, .int .i64 d, .slice (some ⟨h,0,none⟩) 2 2, .int .u64 r, .slice none 0 0, .int .i64 s],rfl,hB,Bk.new w _ _,Nat.le_refl _,by unfold maxLen;omega,Nat.le_refl _,rfl⟩⟩,fun x hx=>?_,fun x hx=>?_,?_,?_⟩
 ·rcases List.mem_cons.1 hx with rfl | hx
  ·exact o.alloc _
  ·rw [List.mem_singleton.1 hx];exact o2.alloc _
 ·rcases List.mem_cons.1 hx with rfl | hx
  ·exact Own.nil _ _ _ _
  ·rw [List.mem_singleton.1 hx];exact Own.nil _ _ _ _
 ·refine List.pairwise_cons.2 ⟨fun y hy=>?_,List.pairwise_singleton _ _⟩
  rw [List.mem_singleton.1 hy]
  simp only [kupJ,blk]
  intro k e1 e2
  rw [← e1] at e2
  injection e2 with e2
  exact hgh e2.symm
 ·refine List.pairwise_cons.2 ⟨fun y hy=>?_,List.pairwise_singleton _ _⟩
  rw [List.mem_singleton.1 hy]
  simp [kupJ,blk]
theorem one_of {N:List Ud} {v:UV} (h:N.map Ud.uv=[v]) : ∃ x,N=[x]∧x.l=v.1.1∧x.t.e=v.1.2.1∧x.d=v.2:=by
 match N,h with
 | [x],h =>
  have e:x.uv=v:=by injection h
  exact ⟨x,rfl,by rw [← e];rfl,by rw [← e];rfl,by rw [← e];rfl⟩
theorem kn4 (a b c d:Nat):(((UdS.sumV ([]++[kupJ a 1 10 2 1].map Ud.uv++([]:List Ud).map Ud.uv++[kupJ d 2 40 5 (-1)].map Ud.uv)).length:Int)+((UdS.sumV ([]++([]:List Ud).map Ud.uv++[kupJ b 1 20 3 2,kupJ c 2 30 1 1].map Ud.uv++([]:List Ud).map Ud.uv)).length:Int))=4:=by
 have e1:(UdS.sumV ([]++[kupJ a 1 10 2 1].map Ud.uv++([]:List Ud).map Ud.uv++[kupJ d 2 40 5 (-1)].map Ud.uv)).length=2:=by kernel_rfl
 have e2:(UdS.sumV ([]++([]:List Ud).map Ud.uv++[kupJ b 1 20 3 2,kupJ c 2 30 1 1].map Ud.uv++([]:List Ud).map Ud.uv)).length=2:=by kernel_rfl
 rw [e1,e2]
 rfl
theorem addr_zero (a:Addr):a.add 0=a:=by
 obtain ⟨b,o,q⟩:=a
 unfold Addr.add
 split<;>simp_all
theorem at_one {w:World} {B c:Nat} {ad:Addr} {x:Ud} (h:Uout w B (some ad) c [x]):w.cell? ad=some (.slice x.A x.l.length x.c)∧w.cell? ⟨ad.block,ad.off+1,none⟩=some (.int .u64 x.t.e)∧w.cell? ⟨ad.block,ad.off+3,none⟩=some (.int .i64 x.d):=by
 obtain ⟨a,e,q0,q1,_,q3⟩:=h.uin.at (i:=0) Nat.zero_lt_one
 injection e with e
 subst e
 rw [Nat.zero_mul,addr_zero] at q0 q1 q3
 exact ⟨q0,q1,q3⟩
theorem row_three {w:World} {a:Addr} {v:Value} (h:w.cell? ⟨(a.add (3 * 4)).block,(a.add (3 * 4)).off+2,none⟩=some v):w.cell? ⟨a.block,a.off+12+2,none⟩=some v:=by
 obtain ⟨b,o,q⟩:=a
 unfold Addr.add at h
 split at h<;>simp_all
set_option maxRecDepth 100000 in
set_option maxHeartbeats 16000000 in
theorem known14_any (w:World) :
  Calls Try.prog 5 #[] w fun e w'=>e = .returned (.bool true)∧Ext w w':=by
 have p1:True:=trivial
 have HI1:Hid (Is ((w.alloc (.cells #[.int .i64 0] 3)).alloc (.cells #[.int .i64 0] 3)) (some ⟨w.heap.size,0,none⟩) 1 [0]):=Lib.hid (Sl.ext (sl_alloc w 3 #[.int .i64 0] (ints [0]) 1 1 rfl rfl (by decide)) ((Ext.refl _).alloc _))
 have HI2:Hid (Is ((w.alloc (.cells #[.int .i64 0] 3)).alloc (.cells #[.int .i64 0] 3)) (some ⟨w.heap.size+1,0,none⟩) 1 [0]):=Lib.hid (by have:=sl_alloc (w.alloc (.cells #[.int .i64 0] 3)) 3 #[.int .i64 0] (ints [0]) 1 1 rfl rfl (by decide);show Sl _ 1 _ 1 1 (ints [0]);simpa using this)
 have XI:Hid (Ext w ((w.alloc (.cells #[.int .i64 0] 3)).alloc (.cells #[.int .i64 0] 3))):=Lib.hid (((Ext.refl w).alloc _).alloc _)
 have hOK:Hid (newOk [0] [0]=true):=Lib.hid rfl
 go_enter Try.func5,Try.ntmps5
 go_wp2_with (first
  | (have z:=p1;clear z p1;go_at_call 8;refine (new_ok (some ⟨w.heap.size,0,none⟩) (some ⟨w.heap.size+1,0,none⟩) 1 1 1 1 [0] [0] _ (Lib.hid rfl) (Lib.hid rfl) HI1 HI2 hOK).mono ?_;rintro r v1 hN;obtain ⟨g,a,b,rfl,js,hf,x1⟩:=new_js (l:=[0]) (r:=[0]) (n:=1) (m:=1) rfl rfl hN;have J1:=Lib.hid js;have F1:Hid (∀ k,JF g a b k→w.heap.size≤k):=Lib.hid (fun k hk=>Nat.le_trans XI.out.size (hf k hk));have X1:=Lib.hid (XI.out.trans x1);clear hN js hf x1;have p2:True:=trivial)
  | (have z:=p2;clear z p2;go_at_call 15;refine (upd14_any 1 10 2 1 _).mono ?_;rintro r v2 ⟨g2,rfl,b2,o2,x2⟩;have X2:=Lib.hid x2;have O2:=Lib.hid o2;have B2:=Lib.hid b2;have J2:=Lib.hid (J1.out.ext X2.out);clear o2 x2 b2;have p3:True:=trivial)
  | (have z:=p3;clear z p3;go_at_call 9;have U3:=kups1 (e:=2) (d:=1) O2.out X2.out.size;have XA:Ext v2 (v2.alloc (.cells #[.slice (some ⟨g2,0,none⟩) 2 2, .int .u64 2, .slice none 0 0, .int .i64 1] 51)):=(Ext.refl _).alloc _;refine (push_js 1 0 1 0 (some ⟨v2.heap.size,0,none⟩) none [kupJ g2 1 10 2 1] [] (Lib.hid (J2.out.ext XA)) hOK (Lib.hid rfl) (Lib.hid rfl) (Lib.hid fun w' u=>(U3.upd u (fun k h1 _ h2=>by have:=J1.out.lt h2;omega)).uin) (Lib.hid fun w' u=>Uin.nil w') (Lib.hid fun x hx=>by rw [List.mem_singleton.1 hx];exact kupJ_good g2 (by omega) (by omega) (by omega)) (Lib.hid fun x hx=>(nomatch hx)) (by decide)).mono ?_;rintro r v3 ⟨A3,k3,N3,a3,b3,rfl,q3⟩;have hk3:k3=0:=(by have e:=q3.v.trans (kn1 g2);rw [q3.ln,List.map_eq_nil_iff.1 e];rfl);subst hk3;have J3:=Lib.hid q3.s;have X3:Hid (Ext w v3):=Lib.hid (ext_upd2 (X1.out.trans X2.out) (upd_step (Upd.ext XA) q3.x (fun k _ h=>h)) (fun k h1 h2=>by have:=F1.out k h2;omega));have F3:Hid (∀ k,JF g a3 b3 k→w.heap.size≤k):=Lib.hid (fun k hk=>by have h1:=(X1.out.trans X2.out).size;have h2:=XA.size;rcases q3.f k hk with h | h;exact F1.out k h;omega);clear q3;have p4:True:=trivial)
  | (have z:=p4;clear z p4;go_at_call 15;refine (upd14_any 1 20 3 2 _).mono ?_;rintro r v4 ⟨g4,rfl,b4,o4,x4⟩;have X4:=Lib.hid x4;have O4:=Lib.hid o4;have B4:=Lib.hid b4;have G4:Hid (g4<v4.heap.size):=Lib.hid (O4.out.lt g4 rfl).2;clear o4 x4 b4;have p5:True:=trivial)
  | (have z:=p5;clear z p5;go_at_call 15;refine (upd14_any 2 30 1 1 _).mono ?_;rintro r v5 ⟨g5,rfl,b5,o5,x5⟩;have X5:=Lib.hid x5;have O5:=Lib.hid o5;have B5:=Lib.hid b5;have O4:=Lib.hid (O4.out.ext X5.out);have J5:=Lib.hid ((J3.out.ext X4.out).ext X5.out);have Y5:Hid (Ext w v5):=Lib.hid ((X3.out.trans X4.out).trans X5.out);clear o5 x5 b5;have p6:True:=trivial)
  | (have z:=p6;clear z p6;go_at_call 9;have U6:=kups2 (e:=3) (d:=2) (r:=1) (s:=1) O4.out (O5.out.mono X4.out.size) (by have:=G4.out;have:=B5.out;omega) (Nat.le_trans X4.out.size X5.out.size);have XA:Ext v5 (v5.alloc (.cells #[.slice (some ⟨g4,0,none⟩) 2 2, .int .u64 3, .slice none 0 0, .int .i64 2, .slice (some ⟨g5,0,none⟩) 2 2, .int .u64 1, .slice none 0 0, .int .i64 1] 51)):=(Ext.refl _).alloc _;refine (push_js 0 2 0 2 none (some ⟨v5.heap.size,0,none⟩) [] [kupJ g4 1 20 3 2,kupJ g5 2 30 1 1] (Lib.hid (J5.out.ext XA)) hOK (Lib.hid rfl) (Lib.hid rfl) (Lib.hid fun w' u=>Uin.nil w') (Lib.hid fun w' u=>(U6.upd u (fun k h1 _ h2=>by have:=J3.out.lt h2;omega)).uin) (Lib.hid fun x hx=>(nomatch hx)) (Lib.hid fun x hx=>by rcases List.mem_cons.1 hx with rfl | hx;exact kupJ_good g4 (by omega) (by omega) (by omega);rw [List.mem_singleton.1 hx];exact kupJ_good g5 (by omega) (by omega) (by omega)) (by simp)).mono ?_;rintro r v6 ⟨A6,k6,N6,a6,b6,rfl,q6⟩;have V6:=Lib.hid (q6.v.trans (kn2 g2 g4 g5));have L6:=Lib.hid q6.ln;have D6:=Lib.hid q6.dj;have U6:=Lib.hid q6.u;have J6:=Lib.hid q6.s;have X6:Hid (Ext w v6):=Lib.hid (ext_upd2 Y5.out (upd_step (Upd.ext XA) q6.x (fun k _ h=>h)) (fun k h1 h2=>by have:=F3.out k h2;omega));have F6:Hid (∀ k,JF g a6 b6 k→w.heap.size≤k):=Lib.hid (fun k hk=>by have h1:=Y5.out.size;have h2:=XA.size;rcases q6.f k hk with h | h;exact F3.out k h;omega);clear q6;have p7:True:=trivial)
  | (have z:=p7;clear z p7;go_at_call 15;refine (upd14_any 2 40 5 (-1) _).mono ?_;rintro r v7 ⟨g7,rfl,b7,o7,x7⟩;have X7:=Lib.hid x7;have O7:=Lib.hid o7;have B7:=Lib.hid b7;have J7:=Lib.hid (J6.out.ext X7.out);have U7:=Lib.hid (U6.out.ext X7.out);clear o7 x7 b7;have p8:True:=trivial)
  | (have z:=p8;clear z p8;go_at_call 9;have U8:=kups1 (e:=5) (d:=(-1)) O7.out X7.out.size;have XA:Ext v7 (v7.alloc (.cells #[.slice (some ⟨g7,0,none⟩) 2 2, .int .u64 5, .slice none 0 0, .int .i64 (-1)] 51)):=(Ext.refl _).alloc _;refine (push_js 1 0 1 0 (some ⟨v7.heap.size,0,none⟩) none [kupJ g7 2 40 5 (-1)] [] (Lib.hid (J7.out.ext XA)) hOK (Lib.hid rfl) (Lib.hid rfl) (Lib.hid fun w' u=>(U8.upd u (fun k h1 _ h2=>by have:=J6.out.lt h2;omega)).uin) (Lib.hid fun w' u=>Uin.nil w') (Lib.hid fun x hx=>by rw [List.mem_singleton.1 hx];exact kupJ_good g7 (by omega) (by omega) (by omega)) (Lib.hid fun x hx=>(nomatch hx)) (by simp)).mono ?_;rintro r v8 ⟨A8,k8,N8,a8,b8,rfl,q8⟩;have V8:=Lib.hid (q8.v.trans (kn3 g2 g4 g5 g7));have L8:=Lib.hid q8.ln;have U8:=Lib.hid q8.u;have J8:=Lib.hid q8.s;have UB8:Hid (Uout v8 _ A6 k6 N6):=Lib.hid ((U7.out.ext XA).updB q8.x (fun k hk h2=>D6.out k hk h2));have X8:Hid (Ext w v8):=Lib.hid (ext_upd2 (X6.out.trans X7.out) (upd_step (Upd.ext XA) q8.x (fun k _ h=>h)) (fun k h1 h2=>by have:=F6.out k h2;omega));clear q8;have p9:True:=trivial)
  | (have z:=p9;clear z p9;go_at_call 8;have HI3:Is ((v8.alloc (.cells #[.int .i64 0, .int .i64 1] 3)).alloc (.cells #[.int .i64 0] 3)) (some ⟨v8.heap.size,0,none⟩) 2 [0,1]:=Sl.ext (sl_alloc v8 3 #[.int .i64 0, .int .i64 1] (ints [0,1]) 1 2 rfl rfl (by decide)) ((Ext.refl _).alloc _);have HI4:Is ((v8.alloc (.cells #[.int .i64 0, .int .i64 1] 3)).alloc (.cells #[.int .i64 0] 3)) (some ⟨v8.heap.size+1,0,none⟩) 1 [0]:=(by have:=sl_alloc (v8.alloc (.cells #[.int .i64 0, .int .i64 1] 3)) 3 #[.int .i64 0] (ints [0]) 1 1 rfl rfl (by decide);show Sl _ 1 _ 1 1 (ints [0]);simpa using this);have XA:Ext v8 ((v8.alloc (.cells #[.int .i64 0, .int .i64 1] 3)).alloc (.cells #[.int .i64 0] 3)):=((Ext.refl _).alloc _).alloc _;refine (new_bad (some ⟨v8.heap.size,0,none⟩) (some ⟨v8.heap.size+1,0,none⟩) 2 1 2 1 [0,1] [0] _ (Lib.hid rfl) (Lib.hid rfl) (Lib.hid HI3) (Lib.hid HI4) (Lib.hid rfl)).mono ?_;rintro r v9 ⟨rfl,x9⟩;have X9:=Lib.hid (X8.out.trans (XA.trans x9));have UA9:=Lib.hid (UB8.out.ext (XA.trans x9));have UB9:=Lib.hid (U8.out.ext (XA.trans x9));have J9:=Lib.hid (J8.out.ext (XA.trans x9));obtain ⟨x6,e6,l6,t6,d6⟩:=one_of V6.out;obtain ⟨x8,e8,l8,t8,d8⟩:=one_of V8.out;have hk6:k6=1:=(by rw [L6.out,e6];rfl);have hk8:k8=1:=(by rw [L8.out,e8];rfl);subst hk6;subst hk8;rw [e6] at UA9;rw [e8] at UB9;obtain ⟨ad6,ea6,_⟩:=UA9.out.uin.at (i:=0) Nat.zero_lt_one;obtain ⟨ad8,ea8,_⟩:=UB9.out.uin.at (i:=0) Nat.zero_lt_one;subst ea6;subst ea8;clear x9;have p10:True:=trivial)
  | (have z:=p10;clear z p10;go_at_call 13;refine (len_js J9).mono ?_;rintro r v10 ⟨rfl,x10⟩;rw [kn4];have X10:=Lib.hid (X9.out.trans x10);have UA10:=Lib.hid (UA9.out.ext x10);have UB10:=Lib.hid (UB9.out.ext x10);obtain ⟨c0,c1,c2⟩:=at_one UA10.out;obtain ⟨d0,d1,d2⟩:=at_one UB10.out;have hr6:=(UA10.out.rw x6 (List.mem_singleton.2 rfl)).sl;rw [l6] at hr6;obtain ⟨ar,er,_,_,r2,_⟩:=Rw.at (l:=(kuwJ [1,10,1,20] 3 2).1.1) hr6 (i:=3) (by decide);rw [er,l6,show (kuwJ [1,10,1,20] 3 2).1.1.length=4 from rfl] at c0;rw [t6,show (kuwJ [1,10,1,20] 3 2).1.2.1=3 from rfl] at c1;rw [d6,show (kuwJ [1,10,1,20] 3 2).2=2 from rfl] at c2;rw [t8,show (kuwJ [2,40,2,30] 5 (-1)).1.2.1=5 from rfl] at d1;rw [d8,show (kuwJ [2,40,2,30] 5 (-1)).2 = -1 from rfl] at d2;replace r2:v10.cell? ⟨ar.block,ar.off+12+2,none⟩=some (.int .i64 20):=row_three r2;clear x10 hr6 d0)
  | fail)
 go_ret
 exact ⟨rfl,X10.out⟩
end Go.Proofs.Ytdgbkpoickbidaa
namespace Go.Proofs.Ytdgbkpoickbidaa
open Go.ChangeShapes Go.WideShapes Go.ChangeAt Go.RowKit Go.WideElems

theorem own_knob:ownKnob Try.prog.godebug=none:=by kernel_rfl
theorem laid_out:laidOutB Try.prog=true:=by kernel_rfl

section
variable {H:Type} {enc:TypeId × Value→H}

/-- arguments read behind a call as they did before, where it has made new memory at most -/
theorem args_stay {P:Program} {W W':World} (hl:laidOutB P=true) (x:Ext W W') {sp:Nat→Bool} :
  ∀ {ts:List TypeId} {vs:List Value} {ds:List (DataW H)} {ps:List MemPlace},(ts.all fun t=>P.readableRec t&&decide (t<P.types.size))=true→DataW.TrodAll enc P W 0 (fun _=>true) true ts vs ds ps →
   (∀ p∈ps,p.block<W.heap.size)→(∀ p∈ps,sp p.block=true)→DataW.TrodAll enc P W' 0 sp true ts vs ds ps
 | [],_,_,_,_,h,_,_=>by
  obtain ⟨rfl,rfl,rfl⟩:=trodAll_nil h
  exact trodAll_mk0
 | t :: ts,vs,ds,ps,hr,h,hlt,hs=>by
  obtain ⟨v,vs',d,ds',p,q,rfl,rfl,rfl,h1,h2⟩:=trodAll_cons h
  simp only [List.all_cons,Bool.and_eq_true,decide_eq_true_eq] at hr
  exact trodAll_cons_mk (Trod_stays hl hr.1.1 hr.1.2 h1 (fun y hy=>Below.same x (hlt y (List.mem_append_left _ hy))) (fun y hy=>hs y (List.mem_append_left _ hy)))
   (args_stay hl x hr.2 h2 (fun y hy=>hlt y (List.mem_append_right _ hy)) (fun y hy=>hs y (List.mem_append_right _ hy)))

/-- WHAT A LAW'S ROW ASKS BEHIND THE CALL -/
theorem law_post {P:Program} {fn:Func} {s:ChangeSpec} {W W':World} {args:Array Value} {ds gs:List (DataW H)} {before:List MemPlace} {tb:TypeId} (hl:laidOutB P=true)
  (hr:(fn.params.toList.all fun t=>P.readableRec t&&decide (t<P.types.size))=true) (hrt:fn.resultTypes = #[tb]) (htb:P.underlying tb=some .bool) (hv:s.vars=[])
  (hW:DataW.Whole enc P fn.params.toList s.vars false W args.toList ds gs before) (hs:s.fn H (ds++gs)={ results:=[.lit (.bool true)],args:=ds,vars:=[] }) (x:Ext W W') :
  s.post enc P fn false true false false W args (.bool true) W':=by
 have hlt : ∀ p∈before,p.block<W.heap.size:=fun p hp=>hW.lt p hp
 obtain ⟨p,q,hA,hV,hb,hz,hn⟩:=id hW
 rw [hv] at hV
 obtain ⟨rfl,rfl⟩:=trodVars_none hV
 rw [List.append_nil] at hb
 subst hb
 have hA' : ∀ sp:Nat→Bool,(∀ p∈before,sp p.block=true)→DataW.TrodAll enc P W' 0 sp true fn.params.toList args.toList ds before:=fun sp hsp=>args_stay hl x hr hA hlt hsp
 have hres : ∀ (b:Nat) (sp:Nat→Bool) (hd:Bool),DataW.TrodAll enc P W' b sp hd fn.resultTypes.toList ((Value.bool true).resultList fn.resultTypes.size) [.lit (.bool true)] []:=fun b sp hd=>by
  rw [hrt]
  exact trodAll_mk1 (shut_bool htb _)
 refine ⟨ds,[],before,[],before,[],hW,?_,?_,?_,World.keptBut_mono (fun p hp=>⟨hp,Or.inr (Or.inl hp)⟩) (Below.frame x (· ∈ before)),fun h=>by cases h⟩
 ·rw [hs];exact hres _ _ _
 ·rw [hs];exact hA' _ (fun p hp=>by simpa using hlt p hp)
 ·rw [hs,hv];exact (rfl:([]:List MemPlace)=[])
end
end Go.Proofs.Ytdgbkpoickbidaa
namespace Go.Proofs.Ytdgbkpoickbidaa
open Go.ChangeShapes Go.WideShapes Go.ChangeAt Go.RowKit Go.WideElems

theorem wf_u64 {n:Int} (h:(Lit.int .u64 n).wf=true):0≤n∧n≤18446744073709551615:=by
 simpa [Lit.wf,IntKind.min,IntKind.max,IntKind.signed,IntKind.bits] using h
theorem wf_u32 {n:Int} (h:(Lit.int .u32 n).wf=true):0≤n∧n≤4294967295:=by
 simpa [Lit.wf,IntKind.min,IntKind.max,IntKind.signed,IntKind.bits] using h

section
variable {H:Type} {enc:TypeId × Value→H} {W:World}
set_option maxRecDepth 100000 in
theorem come_words {fuel:Nat} {v:Value} {y:DataW H × List MemPlace} (h:DataW.trod enc Try.prog W 0 (fun _=>true) true fuel 45 [v]=some y) :
  ∃ A n c l,v = .slice A n c∧Sl W 1 A n c (wds l)∧U32 l:=by
 rcases open_ints Try.underlying45 Try.underlying103 (by kernel_rfl) h with ⟨hcs,_⟩ | ⟨a,n,c,zs,hcs,_,hnc,hcm,hzl,_,hcell,hwf⟩
 ·obtain rfl:v = .slice none 0 0:=by simpa using hcs
  exact ⟨none,0,0,[],rfl,Sl.nil W 1,fun x hx=>by cases hx⟩
 ·obtain rfl:v = .slice (some a) n c:=by simpa using hcs
  have hz:zs.length=c:=by simpa using hzl
  refine ⟨some a,n,c,zs.take n,rfl,⟨by simp [wds];omega,hnc,hcm,(fun h=>nomatch h),fun _=>⟨a,rfl,fun j u hu=>?_⟩⟩,fun x hx=>wf_u32 (hwf x (List.mem_of_mem_take hx))⟩
  simp only [wds,List.getElem?_map,List.getElem?_take] at hu
  split at hu
  ·rename_i hj
   have hc1:=hcell j (by omega)
   rw [List.getD_eq_getElem?_getD,List.getElem?_eq_getElem (show j<zs.length by omega)] at hc1
   rw [List.getElem?_eq_getElem (show j<zs.length by omega)] at hu
   simp only [Option.map_some,Option.some.injEq] at hu
   rw [← hu]
   exact hc1
  ·cases hu

end
end Go.Proofs.Ytdgbkpoickbidaa
namespace Go.Proofs.Ytdgbkpoickbidaa
open Go.ChangeShapes Go.WideShapes Go.ChangeAt Go.RowKit Go.WideElems

section
variable {H:Type} {enc:TypeId × Value→H} {W:World}
theorem list2 {α:Type} {l:List α} (h:l.length=2) : ∃ a b,l=[a,b]:=by
 match l,h with
 | [a,b],_=>exact ⟨a,b,rfl⟩
theorem one_u64:Try.prog.cellsOf 44=1:=by kernel_rfl
theorem one_wds:Try.prog.cellsOf 45=1:=by kernel_rfl
theorem two_tm:Try.prog.cellsOf 47=2:=by kernel_rfl
/-- what is known of a time that comes in -/
structure TmIn (x:Tm):Prop where
 u:U32 x.l
 e:0≤x.e∧x.e≤18446744073709551615
theorem come_timeC {fuel:Nat} {cs:List Value} {y:DataW H × List MemPlace} (h:DataW.trod enc Try.prog W 0 (fun _=>true) true fuel 47 cs=some y) :
  ∃ x:Tm,cs=tmC x∧Sl W 1 x.A x.l.length x.c (wds x.l)∧TmIn x:=by
 obtain ⟨y0,y1,n,_,hl,h0,h1⟩:=Go.ChangeShapes.trod_struct2 Try.underlying47 h
 rw [two_tm] at hl
 obtain ⟨c0,c1,rfl⟩:=list2 hl
 have g0:DataW.trod enc Try.prog W 0 (fun _=>true) true n 44 [c0]=some y0:=by
  have:DataW.trod enc Try.prog W 0 (fun _=>true) true n 44 (([c0,c1].drop 0).take (Try.prog.cellsOf 44))=some y0:=h0
  rw [one_u64] at this
  exact this
 have g1:DataW.trod enc Try.prog W 0 (fun _=>true) true n 45 [c1]=some y1:=by
  have:DataW.trod enc Try.prog W 0 (fun _=>true) true n 45 (([c0,c1].drop 1).take (Try.prog.cellsOf 45))=some y1:=h1
  rw [one_wds] at this
  exact this
 obtain ⟨k,e0,_,w0⟩:=DataW.trod_int Try.underlying44 g0
 obtain ⟨A,m,c,l,rfl,hs,hu⟩:=come_words g1
 obtain rfl:c0 = .int .u64 k:=by simpa using e0
 have hm:=hs.wlen
 subst hm
 exact ⟨⟨k,A,c,l⟩,rfl,hs,⟨hu,wf_u64 w0⟩⟩
theorem come_timesC {fuel:Nat} {cs:List Value} {y:DataW H × List MemPlace} (h:DataW.trod enc Try.prog W 0 (fun _=>true) true fuel 35 cs=some y) :
  ∃ A c L,cs=[.slice A (List.length L) c]∧Tin W A c L ∧ ∀ x∈L,TmIn x:=by
 rcases Go.Deep.open_slice Try.underlying35 h with ⟨hcs,_⟩ | ⟨a,n,c,m,fu,D,Pl,hcs,_,hnc,hcm,hm,_,hx⟩
 ·exact ⟨none,0,[],hcs,Tin.nil W,fun x hx=>(nomatch hx)⟩
 ·rw [two_tm] at hx
  have hmn:n≤m:=by rw [hm];split<;>omega
  obtain ⟨F,hF⟩:=Go.Deep.choose_lt (α:=Tm) (n:=n) (p:=fun i d=>(∀ j,j<2→W.cell? (a.add (i * 2+j))=(tmC d)[j]?)∧Sl W 1 d.A d.l.length d.c (wds d.l)∧TmIn d) (fun i hi=>by
   obtain ⟨cs',h1,h2⟩:=hx i (by omega)
   obtain ⟨_,_,h3⟩:=World.cells?_some h1
   obtain ⟨d,rfl,h4⟩:=come_timeC h2
   exact ⟨d,fun j hj=>by rw [← add_add'];exact h3 j hj,h4⟩)
  have hlen:((List.range n).map F).length=n:=by simp
  have hmem : ∀ d∈(List.range n).map F,Sl W 1 d.A d.l.length d.c (wds d.l)∧TmIn d:=fun d hd=>by
   obtain ⟨i,hi,rfl⟩:=List.mem_map.1 hd
   exact (hF i (List.mem_range.1 hi)).2
  refine ⟨some a,c,(List.range n).map F,by rw [hlen];exact hcs,⟨⟨by rw [tmsC_len],by rw [hlen];exact hnc,hcm,(fun h=>nomatch h),fun _=>⟨a,rfl,fun j u hu=>?_⟩⟩,fun d hd=>(hmem d hd).1⟩,fun d hd=>(hmem d hd).2⟩
  have hj:j<n * 2:=by
   rcases Nat.lt_or_ge j (n * 2) with q | q
   ·exact q
   ·rw [List.getElem?_eq_none (by rw [tmsC_len,hlen];exact q)] at hu
    cases hu
  have e:j=j / 2 * 2+j % 2:=by omega
  rw [e,tmsC_at _ _ _ (by rw [hlen];omega) (by omega)] at hu
  have e2:((List.range n).map F).getD (j / 2) Tm.zero=F (j / 2):=by
   rw [List.getD_eq_getElem?_getD,List.getElem?_map,List.getElem?_range (by omega)]
   rfl
  rw [e2] at hu
  rw [e,(hF (j / 2) (by omega)).1 (j % 2) (by omega)]
  exact hu
end
end Go.Proofs.Ytdgbkpoickbidaa
namespace Go.Proofs.Ytdgbkpoickbidaa
open Go.ChangeShapes Go.WideShapes Go.ChangeAt Go.RowKit Go.WideElems

theorem bulk_one {H:Type} (d:DataW H):1≤Rows.uptoBulk d:=by
 cases d with
 | lit l=>cases l<;>simp [Rows.uptoBulk]
 | nil=>simp [Rows.uptoBulk]
 | ptr d=>simp [Rows.uptoBulk]
 | slice elems spare=>simp [Rows.uptoBulk]
 | agg parts=>simp [Rows.uptoBulk]
 | iface t d=>simp [Rows.uptoBulk]
 | map entries=>simp [Rows.uptoBulk]
 | held h=>simp [Rows.uptoBulk]
theorem bulk_part {H:Type} {d:DataW H} : ∀ {l:List (DataW H)},d∈l→Rows.uptoBulk d≤Rows.uptoBulkAll l
 | x :: r,h=>by
  simp only [Rows.uptoBulkAll]
  rcases List.mem_cons.1 h with rfl | h
  ·omega
  ·have:=bulk_part h
   omega
theorem bulk_len {H:Type} : ∀ l:List (DataW H),l.length≤Rows.uptoBulkAll l
 | []=>Nat.zero_le _
 | x :: r=>by
  have:=bulk_one x
  have:=bulk_len r
  simp only [Rows.uptoBulkAll,List.length_cons]
  omega
theorem slice_bulk {H:Type} {enc:TypeId × Value→H} {W:World} {sp:Nat→Bool} {held:Bool} {t e:TypeId} {fuel n c:Nat} {A:Option Addr} {y:DataW H × List MemPlace} (ht:Try.prog.underlying t=some (.slice e)) (h:DataW.trod enc Try.prog W 0 sp held fuel t [.slice A n c]=some y):n≤Rows.uptoBulk y.1:=by
 rcases Go.Deep.open_slice ht h with ⟨hcs,_⟩ | ⟨a,n',c',m,fu,D,Pl,hcs,_,hnc,hcm,hm,hy,hx⟩
 ·have e:(Value.slice A n c) = .slice none 0 0:=by injection hcs
  injection e with _ e _
  omega
 ·have e:(Value.slice A n c) = .slice (some a) n' c':=by injection hcs
  injection e with _ e _
  subst e
  have:=bulk_len ((List.range n).map D)
  rw [List.length_map,List.length_range] at this
  rw [hy]
  show n≤Rows.uptoBulk (DataW.slice ((List.range n).map D) ((List.range (m - n)).map fun j=>D (n+j)))
  simp only [Rows.uptoBulk]
  omega
end Go.Proofs.Ytdgbkpoickbidaa
namespace Go.Proofs.Ytdgbkpoickbidaa
open Go.ChangeShapes Go.WideShapes Go.ChangeAt Go.RowKit Go.WideElems

theorem dwf_i64 {n:Int} (h:(Lit.int .i64 n).wf=true) : -9223372036854775808≤n∧n≤9223372036854775807:=by
 simpa [Lit.wf,IntKind.min,IntKind.max,IntKind.signed,IntKind.bits] using h
theorem wf_u8 {n:Int} (h:(Lit.int .u8 n).wf=true):0≤n∧n≤255:=by
 simpa [Lit.wf,IntKind.min,IntKind.max,IntKind.signed,IntKind.bits] using h
open Go.RowKit
def InD (d:Dat):Prop := -9223372036854775808≤d.n∧d.n≤9223372036854775807
/-- the numbers of a row are of 64 bits -/
def RwInt (l:List Dat):Prop := ∀ d∈l, -9223372036854775808≤d.n∧d.n≤9223372036854775807
theorem RwInt.at {l:List Dat} (h:RwInt l) {i:Nat} (hi:i<l.length) : -9223372036854775808≤(l.getD i Dat.zero).n∧(l.getD i Dat.zero).n≤9223372036854775807:=by
 rw [List.getD_eq_getElem?_getD,List.getElem?_eq_getElem hi]
 exact h _ (List.getElem_mem hi)
end Go.Proofs.Ytdgbkpoickbidaa
