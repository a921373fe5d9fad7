/- A trace in memory beside other lists: each call once more, with what it tells. penstockref00.SameRow: what it answers. penstockref00.SameRow, SameCounteds, WholeRow, WholeCounteds: of what is the same they say so. penstockref00.SameTime, SameTimes: what they answer. penstockref00.SameUpdates: of what is the same it says so. penstockref00.LentRow: copies with marked room behind. An update of a row of one number, as the laws' first examples have it. penstocklaw12.update, known: what the chapter's first example fixes. What calls at a trace hold. penstocklaw12.much: are there more updates than are looked at? Lists of what handles were told, in memory beside a trace. The plain law of penstockref10.add: one more update, put into its place. penstockref04.Leq, Cmp: what they answer. penstockref04.Cmp: what it answers. penstockref04.Leq, Cmp, their answer a name; a time in a list. Conditions: each theorem states its own. -/
import Derived.Test.YtdgbkpoickbidaaGreatDoorHr14
import Derived.Test.YtdgbkpoickbidaaGreatDoorHr13
import Derived.Test.YtdgbkpoickbidaaGreatDoorHr6
import Derived.Test.YtdgbkpoickbidaaGreatDoorHr3
import Derived.Deep.LoopGhost
import Derived.Test.YtdgbkpoickbidaaGreatDoorHr1
import Derived.Test.YtdgbkpoickbidaaGreatDoorHr4
import Derived.Test.YtdgbkpoickbidaaGreatDoorHr7
import Derived.Test.YtdgbkpoickbidaaGreatDoorHr2
namespace Go.Proofs.YtdgbkpoickbidaaGreatDoor
open Go.RowKit

/-- all of it lies above the first world w0, and apart from the blocks K -/
structure Sho (w0 w:World) (K:Nat→Prop) (g:Nat) (v:TrV) (all:List UV) (B:Nat):Prop where
 ext:Ext w0 w
 r : ∃ R t,ShR w R g t∧t.v=v ∧ ∀ k,R k→w0.heap.size≤k ∧ ¬ K k
 lo : ∀ k,K k→k<w.heap.size
 tt:TellsT v all B
/-- what a call may write to -/
def Kp (w0:World) (K:Nat→Prop) (w w':World):Prop:=Upd (fun k=>w0.heap.size≤k ∧ ¬ K k) w w'
section
variable {w0 w w':World} {K:Nat→Prop} {g:Nat} {v v':TrV} {all all':List UV} {B B':Nat}
theorem Sho.grow (h:Sho w0 w K g v all B) (x:Ext w w'):Sho w0 w' K g v all B:=by
 obtain ⟨R,t,h1,h2,h3⟩:=h.r
 exact ⟨h.ext.trans x,⟨R,t,h1.ext x,h2,h3⟩,fun k hk=>Nat.lt_of_lt_of_le (h.lo k hk) x.size,h.tt⟩
theorem Sho.more (h:Sho w0 w K g v all B) (k:B≤B'):Sho w0 w K g v all B':=⟨h.ext,h.r,h.lo,h.tt.more k⟩
theorem Sho.nd (h:Sho w0 w K g v all B):(v.hs.map Hv.g).Nodup:=by
 obtain ⟨R,t,h1,rfl,_⟩:=h.r
 exact h1.nd
/-- blocks outside have been written to -/
theorem Sho.upd {S:Nat→Prop} (h:Sho w0 w K g v all B) (x:Ext w0 w') (u:Upd S w w') (hS : ∀ k,S k→K k):Sho w0 w' K g v all B:=by
 obtain ⟨R,t,h1,h2,h3⟩:=h.r
 exact ⟨x,⟨R,t,h1.upd u fun k hk q=>(h3 k hk).2 (hS k q),h2,h3⟩,fun k hk=>Nat.lt_of_lt_of_le (h.lo k hk) u.size,h.tt⟩
/-- fewer blocks are looked at -/
theorem Sho.keep {K':Nat→Prop} (h:Sho w0 w K g v all B) (hK : ∀ k,K' k→K k):Sho w0 w K' g v all B:=by
 obtain ⟨R,t,h1,h2,h3⟩:=h.r
 exact ⟨h.ext,⟨R,t,h1,h2,fun k hk=>⟨(h3 k hk).1,fun q=>(h3 k hk).2 (hK k q)⟩⟩,fun k hk=>h.lo k (hK k hk),h.tt⟩
theorem Sho.to {R:Nat→Prop} (h:Sho w0 w K g v all B) (hl : ∀ k,R k→w0.heap.size≤k ∧ ¬ K k) (s:ShTo w R g v' w') (tt:TellsT v' all' B'):Sho w0 w' K g v' all' B'∧Kp w0 K w w':=by
 obtain ⟨t',s1,s2,u⟩:=s
 have z0:=h.ext.size
 refine ⟨⟨ext_updS h.ext u fun k hk=>(hl k hk).1,⟨_,t',s1,s2,fun k hk=>hk.elim (hl k) fun q=>⟨by omega,fun q2=>by have:=h.lo k q2;omega⟩⟩,fun k hk=>Nat.lt_of_lt_of_le (h.lo k hk) u.size,tt⟩,u.mono fun k _ hk=>hl k hk⟩
end
section
variable {w0 w:World} {K:Nat→Prop} {g:Nat} {v:TrV} {all:List UV} {B:Nat}
theorem sho_new (w0 w:World) (K:Nat→Prop) (x0:Hid (Ext w0 w)) (hK:Hid (∀ k,K k→k<w.heap.size)):Calls Tryz.prog 70 #[] w fun e w' => ∃ g,e = .returned (.pointer (some ⟨g,0,none⟩))∧Sho w0 w' K g newT [] 0∧Ext w w':=by
 refine (shNew_any w).mono ?_
 rintro e w' ⟨g,t,rfl,h1,h2,x⟩
 have z:=x0.out.size
 exact ⟨g,rfl,⟨x0.out.trans x,⟨_,t,h1,h2,fun k hk=>⟨by omega,fun q=>by have:=hK.out k q;omega⟩⟩,fun k hk=>Nat.lt_of_lt_of_le (hK.out k hk) x.size,tellsT_new⟩,x⟩
theorem sho_ins {q:Int × TrV} (AL:Option Addr) (cL n:Nat) (L:List Ud) (u:Int) (h:Hid (Sho w0 w K g v all B)) (hq:Hid (tinsV v (L.map Ud.uv) u=q)) (hn:Hid (n=L.length)) (hL:Hid (Uin w AL cL L)) (hin:Hid (∀ x∈L,InU x)) (hu:Hid (0≤u∧u≤18446744073709551615)) (hB:Hid (B+n+1≤1000000)) (G:Hid (Good w)) :
  Calls Tryz.prog 71 #[.pointer (some ⟨g,0,none⟩), .slice AL n cL, .int .u64 u] w fun e w'=>e = .returned (.int .u16 q.1)∧Kp w0 K w w' ∧
   ((q.1≠0∧Sho w0 w' K g v all B)∨(q.1=0∧Sho w0 w' K g q.2 (all++L.map Ud.uv) (B+n+1)∧q.2.hs=v.hs∧v.up≤q.2.up ∧ ∀ x∈L.map Ud.uv,v.up≤x.1.2.1)):=by
 obtain ⟨R,t,h1,rfl,h3⟩:=h.out.r
 have hB:=hB.out
 refine (tins_any g t R AL cL n L u w hq (Lib.hid h1) (Lib.hid h.out.tt.ok) hn hL (by omega) hin G).mono ?_
 rintro e w' ⟨rfl,s⟩
 have k:=h.out.tt.ins (l:=L.map Ud.uv) (u:=u) (fun x hx=>by obtain ⟨y,hy,rfl⟩:=List.mem_map.1 hx;exact (hin.out y hy).uv) hu.out (by rw [List.length_map, ← hn.out];exact hB)
 rw [hq.out,List.length_map, ← hn.out] at k
 rcases k with ⟨k1,k2⟩ | ⟨k1,k2,k3,k4,k5⟩
 ·rw [k1] at s
  obtain ⟨a,b⟩:=h.out.to h3 s h.out.tt
  exact ⟨rfl,b, .inl ⟨k2,a⟩⟩
 ·obtain ⟨a,b⟩:=h.out.to h3 s k2
  exact ⟨rfl,b, .inr ⟨k1,a,k3,k4,k5⟩⟩
theorem sho_work (z:Int) (h:Hid (Sho w0 w K g v all B)) (hz:z≤9223372036854775807):Calls Tryz.prog 72 #[.pointer (some ⟨g,0,none⟩), .int .i64 z] w fun e w' => ∃ (r:Nat) (v':TrV),e = .returned (.int .i64 r)∧WorkT v z r v'∧Kp w0 K w w'∧Sho w0 w' K g v' all B∧v'.hs=v.hs∧v'.up=v.up∧v'.least=v.least:=by
 obtain ⟨R,t,h1,rfl,h3⟩:=h.out.r
 refine (twork_any g t R z w (Lib.hid h1) (Lib.hid h.out.tt.ok) hz).mono ?_
 rintro e w' ⟨r,v',rfl,k,_,s⟩
 obtain ⟨c1,c2,c3,c4⟩:=h.out.tt.work k
 obtain ⟨a,b⟩:=h.out.to h3 s c1
 exact ⟨r,v',rfl,k,b,a,c2,c3,c4⟩
theorem sho_since (n:Int) (hn:Hid (v.least=n)) (h:Hid (Sho w0 w K g v all B)):Calls Tryz.prog 87 #[.pointer (some ⟨g,0,none⟩)] w fun e w'=>e = .returned (.int .u64 n)∧Ext w w':=by
 obtain ⟨R,t,h1,rfl,_⟩:=h.out.r
 exact hn.out ▸ tsince_any g t R w (Lib.hid h1)
theorem sho_at {q:Int × List (List Dat × Int)} (n:Int) (hq:Hid (atT v n=q)) (h:Hid (Sho w0 w K g v all B)) (G:Hid (Good w)):Calls Tryz.prog 80 #[.pointer (some ⟨g,0,none⟩), .int .u64 n] w (SpAtRes w q):=by
 obtain ⟨R,t,h1,rfl,_⟩:=h.out.r
 exact tat_any g t R n w hq (Lib.hid h1) (Lib.hid h.out.tt.ok) G
theorem sho_allow {q:Int × TrV} (n:Int) (hq:Hid (allowT v n=q)) (h:Hid (Sho w0 w K g v all B)) (hn:n≤18446744073709551615):Calls Tryz.prog 73 #[.pointer (some ⟨g,0,none⟩), .int .u64 n] w fun e w'=>e = .returned (.int .u16 q.1)∧Kp w0 K w w'∧Sho w0 w' K g q.2 all B∧q.2.hs=v.hs∧q.2.up=v.up:=by
 obtain ⟨R,t,h1,rfl,h3⟩:=h.out.r
 refine (tallow_any g t R n w hq (Lib.hid h1) (Lib.hid h.out.tt.ok)).mono ?_
 rintro e w' ⟨rfl,s⟩
 have k:=h.out.tt.allow hn
 rw [hq.out] at k
 obtain ⟨a,b⟩:=h.out.to h3 s k.1
 exact ⟨rfl,b,a,k.2.1,k.2.2⟩
theorem okT_share {t:TrV} (h:OkT t) {n:Int} (hn : ¬ n<t.least) (h9:n≤18446744073709551615) (g:Nat):OkT { t with hs:=t.hs++[newH g n] }:=by
 have hl:=h.least_in
 refine ⟨h.ok,h.S,h.U,h.lets,fun x hx=>?_,?_⟩
 ·rcases List.mem_append.1 hx with hx | hx
  ·exact h.hs x hx
  ·rw [List.mem_singleton.1 hx]
   exact ⟨⟨by show 0≤n;omega,Int.le_refl _,h9⟩,fun b=>(nomatch b)⟩
 ·have e:({ t with hs:=t.hs++[newH g n] }:TrV).least=t.least:=by
   show minL t.lets (((t.hs++[newH g n]).filter fun h => !h.ended).map Hv.hold)=t.least
   refine (minL_eq ?_ (fun x hx=>?_) ?_).symm
   ·exact (minL_le _ _).1
   ·rw [List.filter_append,List.map_append] at hx
    rcases List.mem_append.1 hx with hx | hx
    ·exact (minL_le _ _).2.1 x hx
    ·rw [show ([newH g n].filter fun h => !h.ended).map Hv.hold=[n] from rfl] at hx
     rw [List.mem_singleton.1 hx]
     omega
   ·rcases (minL_le ((t.hs.filter fun h => !h.ended).map Hv.hold) t.lets).2.2 with q | q
    ·exact .inl q
    ·refine .inr ?_
     rw [List.filter_append,List.map_append]
     exact List.mem_append_left _ q
  rw [e]
  exact h.low
theorem sho_share (n:Int) (h:Hid (Sho w0 w K g v all B)) (h9:n≤18446744073709551615):Calls Tryz.prog 74 #[.pointer (some ⟨g,0,none⟩), .int .u64 n] w fun e w'=>Kp w0 K w w' ∧
  ((n<v.least∧e = .returned (.tuple #[.pointer none, .int .u16 121])∧Sho w0 w' K g v all B)∨(¬ n<v.least ∧ ∃ gh,w.heap.size≤gh∧e = .returned (.tuple #[.pointer (some ⟨gh,0,none⟩), .int .u16 0])∧Sho w0 w' K g { v with hs:=v.hs++[newH gh n] } all B)):=by
 obtain ⟨R,t,h1,rfl,h3⟩:=h.out.r
 refine (tshare_any g t R n w (Lib.hid h1)).mono ?_
 rintro e w' (⟨a,rfl,s⟩ | ⟨a,gh,b,rfl,s⟩)
 ·obtain ⟨c,d⟩:=h.out.to h3 s h.out.tt
  exact ⟨d, .inl ⟨a,rfl,c⟩⟩
 ·obtain ⟨c,d⟩:=h.out.to h3 s (h.out.tt.hs (okT_share h.out.tt.ok a h9 gh))
  exact ⟨d, .inr ⟨a,gh,b,rfl,c⟩⟩
theorem sho_hallow {q:Int × TrV} {x:Hv} (gh:Nat) (n:Int) (hg:Hid (x.g=gh)) (hq:Hid (hallowT v x n=q)) (h:Hid (Sho w0 w K g v all B)) (hx:Hid (x∈v.hs)) (hn:0≤n):Calls Tryz.prog 76 #[.pointer (some ⟨gh,0,none⟩), .int .u64 n] w fun e w'=>e = .returned (.int .u16 q.1)∧Kp w0 K w w'∧Sho w0 w' K g q.2 all B∧q.2.up=v.up:=by
 have hnd:=h.out.nd
 obtain ⟨R,t,h1,rfl,h3⟩:=h.out.r
 have k:=hallow_any g t R x n w hq (Lib.hid h1) (Lib.hid h.out.tt.ok) hx hn
 rw [hg.out] at k
 refine k.mono ?_
 rintro e w' ⟨rfl,s⟩
 have c:TellsT q.2 all B∧q.2.up=t.v.up:=by
  rw [← hq.out]
  by_cases he:x.ended=true
  ·have e:hallowT t.v x n=(7,t.v):=by unfold hallowT;rw [if_pos he]
   rw [e]
   exact ⟨h.out.tt,rfl⟩
  ·by_cases hr:n<x.hold∨(if x.begun=true then x.seen - 1 else x.seen)<n
   ·have e:hallowT t.v x n=(120,t.v):=by unfold hallowT;rw [if_neg he,if_pos hr]
    rw [e]
    exact ⟨h.out.tt,rfl⟩
   ·have e:hallowT t.v x n=(0,compactT { t.v with hs:=setH t.v.hs { x with hold:=n } }):=by unfold hallowT;rw [if_neg he,if_neg hr]
    rw [e]
    have k1:=(h.out.tt.hs (okT_hold (n:=n) h.out.tt.ok hx.out hnd (by simpa using he) (by omega) (by omega))).compact
    exact ⟨k1.1,k1.2.2.1⟩
 obtain ⟨a,b⟩:=h.out.to h3 s c.1
 exact ⟨rfl,b,a,c.2⟩
theorem next_ok {t:TrV} {x:Hv} (h:TellsT t all B) (nd:(t.hs.map Hv.g).Nodup) (hx:x∈t.hs):TellsT { t with hs:=setH t.hs (nextV t x).2.2.2 } all B:=by
 by_cases he:x.ended=true
 ·have e:nextV t x=(7,[],0,x):=by unfold nextV;rw [if_pos he]
  rw [e,setH_self nd hx]
  exact h
 ·by_cases q:x.begun=false∧t.up≤x.seen
  ·have e:nextV t x=(0,[],x.seen,x):=by unfold nextV;rw [if_neg he,if_pos q]
   rw [e,setH_self nd hx]
   exact h
  ·have e:nextV t x=(0,UdS.sumV (outV (allV t.s) x.begun x.seen),t.up,tellH x t.up):=by unfold nextV;rw [if_neg he,if_neg q]
   rw [e]
   refine h.hs (okT_tell h.ok hx nd ?_)
   cases hb:x.begun with
   | true=>exact .inl rfl
   | false =>
    rcases Int.lt_or_le x.seen t.up with r | r
    ·exact .inr r
    ·exact absurd ⟨hb,r⟩ q
theorem sho_next {q:Int × List UV × Int × Hv} {x:Hv} (gh:Nat) (hg:Hid (x.g=gh)) (hq:Hid (nextV v x=q)) (h:Hid (Sho w0 w K g v all B)) (hx:Hid (x∈v.hs)) (hB:Hid (B≤400000)) (G:Hid (Good w)):Calls Tryz.prog 75 #[.pointer (some ⟨gh,0,none⟩)] w fun e w' =>
  ∃ A m Q,e = .returned (.tuple #[.slice A m m, .int .u64 q.2.2.1, .int .u16 q.1])∧m=List.length Q∧Uout w' w.heap.size A m Q∧Q.map Ud.uv=q.2.1∧Kp w0 K w w' ∧ ∀ K':Nat→Prop,(∀ k,K' k→K k∨(w.heap.size≤k∧k<w'.heap.size))→Sho w0 w' K' g { v with hs:=setH v.hs q.2.2.2 } all B:=by
 have hnd:=h.out.nd
 have z0:=h.out.ext.size
 obtain ⟨R,t,h1,rfl,h3⟩:=h.out.r
 have k:=hnext_any g t R x w hq (Lib.hid h1) (Lib.hid h.out.tt.ok) hx (Nat.le_trans h.out.tt.all_len hB.out) G
 rw [hg.out] at k
 refine k.mono ?_
 rintro e w' ⟨A,m,Q,t',rfl,m1,m2,m3,s1,s2,u⟩
 have z:=u.size
 refine ⟨A,m,Q,rfl,m1,m2,m3,u.mono fun k _ hk=>h3 k hk,fun K' hK=>⟨ext_updS h.out.ext u fun k hk=>(h3 k hk).1,⟨R,t',s1,s2,fun k hk=>⟨(h3 k hk).1,fun q2=>?_⟩⟩,fun k hk=>?_,?_⟩⟩
 ·rcases hK k q2 with r | r
  ·exact (h3 k hk).2 r
  ·have:=h1.low k hk;omega
 ·rcases hK k hk with r | r
  ·have:=h.out.lo k r;omega
  ·exact r.2
 ·rw [← hq.out]
  exact next_ok h.out.tt hnd hx.out
end
open Go.RowKit
set_option maxRecDepth 100000 in
set_option maxHeartbeats 1000000 in
theorem sameRow_any (A1 A2:Option Addr) (c1 c2 n m:Nat) (l:List Dat) (w:World) (hn:n=l.length) (hm:m=n) (h1:Rw w A1 c1 l) (h2:Rw w A2 c2 l) :
  Calls Tryz.prog 117 #[.slice A1 n c1, .slice A2 m c2] w fun e w'=>e = .returned (.bool true)∧Ext w w':=by
 subst hm
 have hnm:=h1.le
 rw [← hn] at hnm
 have HN:=Lib.hid hn
 have H1:=Lib.hid h1
 have H2:=Lib.hid h2
 clear hn h1 h2
 go_enter Tryz.func117,Tryz.ntmps117
 go_wp2
 go_loopw [5] (fun v wr => ∃ i:Nat,i≤m∧v = .int .i64 i∧Ext w wr) (fun v _=>m - (intOf v).toNat)
 case atStart=>exact ⟨0,Nat.zero_le _,rfl,Ext.refl _⟩
 case round =>
  obtain ⟨i,hi,rfl,er⟩:=hrel
  by_cases hlt:i<m
  ·have hil:i<l.length:=by rw [← HN.out];exact hlt
   obtain ⟨ad,rfl,p0,p1,p2,p3⟩:=(H1.out.ext er).at hil
   obtain ⟨bd,rfl,q0,q1,q2,q3⟩:=(H2.out.ext er).at hil
   obtain ⟨d,hd⟩ : ∃ d,l.getD i Dat.zero=d:=⟨_,rfl⟩
   rw [hd] at p0 p1 p2 p3 q0 q1 q2 q3
   have XE:Ext wr wr.drew:=(Ext.refl wr).drew
   have P0 : ∀ z:Xt wr.drew,z.W.cell? (ad.add (i * 4))=some (.int .u8 d.k):=fun z=>(XE.trans z.x).cell p0
   have P1 : ∀ z:Xt wr.drew,z.W.cell? ⟨(ad.add (i * 4)).block,(ad.add (i * 4)).off+1,none⟩=some (.bool d.b):=fun z=>(XE.trans z.x).cell p1
   have P2 : ∀ z:Xt wr.drew,z.W.cell? ⟨(ad.add (i * 4)).block,(ad.add (i * 4)).off+2,none⟩=some (.int .i64 d.n):=fun z=>(XE.trans z.x).cell p2
   have P3 : ∀ z:Xt wr.drew,z.W.cell? ⟨(ad.add (i * 4)).block,(ad.add (i * 4)).off+3,none⟩=some (.string d.s):=fun z=>(XE.trans z.x).cell p3
   have Q0 : ∀ z:Xt wr.drew,z.W.cell? (bd.add (i * 4))=some (.int .u8 d.k):=fun z=>(XE.trans z.x).cell q0
   have Q1 : ∀ z:Xt wr.drew,z.W.cell? ⟨(bd.add (i * 4)).block,(bd.add (i * 4)).off+1,none⟩=some (.bool d.b):=fun z=>(XE.trans z.x).cell q1
   have Q2 : ∀ z:Xt wr.drew,z.W.cell? ⟨(bd.add (i * 4)).block,(bd.add (i * 4)).off+2,none⟩=some (.int .i64 d.n):=fun z=>(XE.trans z.x).cell q2
   have Q3 : ∀ z:Xt wr.drew,z.W.cell? ⟨(bd.add (i * 4)).block,(bd.add (i * 4)).off+3,none⟩=some (.string d.s):=fun z=>(XE.trans z.x).cell q3
   clear hil hd
   go_upto_region 6 with fail
   refine wp_region_ord [0,0,3,7,0,0,48,112,255] (.flo [0,1,2,3,4,5,6,7,8] (.fin)) (by kernel_rfl) (by kernel_rfl) (by intro _ _ d _ _ h;cases d<;>exact h) ?_
   (refine ord_flo (pick_cons rfl (pick_cons rfl (pick_cons rfl (pick_cons rfl (pick_cons rfl (pick_cons rfl (pick_cons rfl (pick_cons rfl (pick_cons rfl pick_nil))))))))) ?_;(repeat (go_big_quiet_step (fail)));refine wpQuiet_nil ?_;show ordWalk _ _ _ _ _ _ _)
   refine ord_fin ?_
   go_wp2
   go_roundw
   case rel=>exact ⟨i+1,by omega,by go_num,er.trans XE⟩
   case measure=>simp [intOf];omega
  ·go_wp2
   go_ret
   exact ⟨rfl,er⟩
theorem sameRow_lit (A1 A2:Option Addr) (c1 c2 n m:Nat) (l:List Dat) (w:World) (hn:Hid (n=l.length)) (hm:Hid (m=n)) (h1:Hid (Rw w A1 c1 l)) (h2:Hid (Rw w A2 c2 l)) :
  Calls Tryz.prog 117 #[.slice A1 n c1, .slice A2 m c2] w fun e w'=>e = .returned (.bool true)∧Ext w w':=sameRow_any A1 A2 c1 c2 n m l w hn.out hm.out h1.out h2.out
open Go.RowKit
theorem val_at {L M:List Ct} (h:L.map valC=M.map valC) {i:Nat} (hi:i<L.length):(M.getD i Ct.zero).l=(L.getD i Ct.zero).l∧(M.getD i Ct.zero).k=(L.getD i Ct.zero).k:=by
 have hl:=congrArg List.length h
 rw [List.length_map,List.length_map] at hl
 have e:=congrArg (fun l:List V=>l[i]?) h
 simp only [List.getElem?_map] at e
 rw [List.getElem?_eq_getElem hi,List.getElem?_eq_getElem (by omega)] at e
 simp only [Option.map_some,Option.some.injEq] at e
 rw [List.getD_eq_getElem?_getD,List.getD_eq_getElem?_getD,List.getElem?_eq_getElem hi,List.getElem?_eq_getElem (by omega)]
 exact ⟨(congrArg Prod.fst e).symm,(congrArg Prod.snd e).symm⟩
set_option maxRecDepth 100000 in
set_option maxHeartbeats 2000000 in
theorem sameCts_any (A1 A2:Option Addr) (c1 c2 n m:Nat) (L M:List Ct) (w:World) (hn:n=L.length) (hm:m=M.length) (h1:Ctin w A1 c1 L) (h2:Ctin w A2 c2 M) (he:L.map valC=M.map valC) :
  Calls Tryz.prog 25 #[.slice A1 n c1, .slice A2 m c2] w fun e w'=>e = .returned (.bool true)∧Ext w w':=by
 have hl:=congrArg List.length he
 rw [List.length_map,List.length_map] at hl
 obtain rfl:m=n:=by omega
 have hnm:=h1.sl.le
 rw [← hn] at hnm
 have HN:=Lib.hid hn
 have H1:=Lib.hid h1
 have H2:=Lib.hid h2
 have HE:=Lib.hid he
 have HM:=Lib.hid hm
 clear hn h1 h2 he hm hl
 go_enter Tryz.func25,Tryz.ntmps25
 go_wp2
 go_loopw [5] (fun v wr => ∃ i:Nat,i≤m∧v = .int .i64 i∧Ext w wr) (fun v _=>m - (intOf v).toNat)
 case atStart=>exact ⟨0,Nat.zero_le _,rfl,Ext.refl _⟩
 case round =>
  obtain ⟨i,hi,rfl,er⟩:=hrel
  by_cases hlt:i<m
  ·have hil:i<L.length:=by rw [← HN.out];exact hlt
   have him:i<M.length:=by rw [← HM.out];exact hlt
   obtain ⟨ad,rfl,p0,p1⟩:=(H1.out.ext er).at hil
   obtain ⟨bd,rfl,q0,q1⟩:=(H2.out.ext er).at him
   have hr1:=H1.out.rows _ (getD_mem hil)
   have hr2:=H2.out.rows _ (getD_mem him)
   obtain ⟨e1,e2⟩:=val_at HE.out hil
   rw [e1] at q0 hr2
   rw [e2] at q1
   obtain ⟨x,hx⟩ : ∃ x,L.getD i Ct.zero=x:=⟨_,rfl⟩
   obtain ⟨y,hy⟩ : ∃ y,M.getD i Ct.zero=y:=⟨_,rfl⟩
   rw [hx] at p0 p1 hr1 q0 q1 hr2
   rw [hy] at q0 hr2
   obtain ⟨nx,hnx⟩ : ∃ nx,nx=x.l.length:=⟨_,rfl⟩
   rw [← hnx] at p0 q0
   have HNX:=Lib.hid hnx
   have HEQ:Hid (nx=nx):=Lib.hid rfl
   have XE:Ext wr wr.drew:=(Ext.refl wr).drew
   have HR1:=Lib.hid ((hr1.ext er).ext XE)
   have HR2:=Lib.hid ((hr2.ext er).ext XE)
   have P0 : ∀ z:Xt wr.drew,z.W.cell? (ad.add (i * 2))=some (.slice x.A nx x.c):=fun z=>(XE.trans z.x).cell p0
   have P1 : ∀ z:Xt wr.drew,z.W.cell? ⟨(ad.add (i * 2)).block,(ad.add (i * 2)).off+1,none⟩=some (.int .i64 x.k):=fun z=>(XE.trans z.x).cell p1
   have Q0 : ∀ z:Xt wr.drew,z.W.cell? (bd.add (i * 2))=some (.slice y.A nx y.c):=fun z=>(XE.trans z.x).cell q0
   have Q1 : ∀ z:Xt wr.drew,z.W.cell? ⟨(bd.add (i * 2)).block,(bd.add (i * 2)).off+1,none⟩=some (.int .i64 x.k):=fun z=>(XE.trans z.x).cell q1
   clear hil him hr1 hr2 e1 e2 hx hy hnx
   go_upto_region 6 with fail
   refine wp_region_ord [0,0,3,7,15,0,0,96,224,480,1023,2047,4095,4095,16383,32767,65535,4095,4095,397311,921599,1970175,4194303,8388607,16777215] (.flo [0,1,2,3,4,5,6,7,8,9,10,11,12,13,14,15,16,17,18,19,20,21] (.one 22 (.flo [23,24] (.fin)))) (by kernel_rfl) (by kernel_rfl) (by intro _ _ d _ _ h;cases d<;>exact h) ?_
   (refine ord_flo (pick_cons rfl (pick_cons rfl (pick_cons rfl (pick_cons rfl (pick_cons rfl (pick_cons rfl (pick_cons rfl (pick_cons rfl (pick_cons rfl (pick_cons rfl (pick_cons rfl (pick_cons rfl (pick_cons rfl (pick_cons rfl (pick_cons rfl (pick_cons rfl (pick_cons rfl (pick_cons rfl (pick_cons rfl (pick_cons rfl (pick_cons rfl (pick_cons rfl pick_nil)))))))))))))))))))))) ?_;(repeat (go_big_quiet_step (fail)));refine wpQuiet_nil ?_;show ordWalk _ _ _ _ _ _ _)
   refine ord_one (pick_cons rfl pick_nil) ?_;intro K_ hK_
   go_wp2_with (go_at_call 117;refine (sameRow_lit x.A y.A x.c y.c nx nx x.l _ HNX HEQ HR1 HR2).mono ?_;rintro e w1 ⟨rfl,x1⟩)
   (refine ord_flo (pick_cons rfl (pick_cons rfl pick_nil)) ?_;(repeat (go_big_quiet_step (fail)));refine wpQuiet_nil ?_;show ordWalk _ _ _ _ _ _ _)
   refine ord_fin ?_
   go_wp2
   go_roundw
   case rel=>exact ⟨i+1,by omega,by go_num,er.trans (XE.trans x1)⟩
   case measure=>simp [intOf];omega
  ·go_wp2
   go_ret
   exact ⟨rfl,er⟩
open Go.RowKit
theorem sameTime_any (e1 e2:Int) (A1 A2:Option Addr) (n1 n2 c1 c2:Nat) (l1 l2:List Int) (w:World) (h1:Sl w 1 A1 n1 c1 (wds l1)) (h2:Sl w 1 A2 n2 c2 (wds l2)) :
  Calls Tryz.prog 54 #[.agg #[.int .u64 e1, .slice A1 n1 c1], .agg #[.int .u64 e2, .slice A2 n2 c2]] w fun e w'=>e = .returned (.bool (decide (e1=e2∧l1=l2)))∧Ext w w':=by
 by_cases k1:e1=e2
 ·have q1:(e1==e2)=true:=by simpa using k1
  go_enter Tryz.func54,Tryz.ntmps54
  go_wp2_with (go_at_call 166;refine (sameWords_any A1 A2 n1 n2 c1 c2 l1 l2 _ (h1.ext (((Ext.refl w).alloc _).alloc _)) (h2.ext (((Ext.refl w).alloc _).alloc _))).mono ?_;rintro r w1 ⟨rfl,x1⟩)
  refine bodyPost_ret (v := .bool (decide (l1=l2))) (by simp only [results,Tryz.results54];go_simp) rfl ?_
  exact ⟨by simp [k1],(((Ext.refl w).alloc _).alloc _).trans x1⟩
 ·have q1:(e1==e2)=false:=by simpa using k1
  go_enter Tryz.func54,Tryz.ntmps54
  go_wp2
  refine bodyPost_ret (v := .bool false) (by simp only [results,Tryz.results54];go_simp) rfl ?_
  exact ⟨by simp [k1],(((Ext.refl w).alloc _).alloc _)⟩
open Go.RowKit
theorem uval_at {L M:List Ud} (h:L.map Ud.uv=M.map Ud.uv) {i:Nat} (hi:i<L.length):(M.getD i Ud.zero).l=(L.getD i Ud.zero).l∧(M.getD i Ud.zero).t.e=(L.getD i Ud.zero).t.e∧(M.getD i Ud.zero).t.l=(L.getD i Ud.zero).t.l∧(M.getD i Ud.zero).d=(L.getD i Ud.zero).d:=by
 have hl:=congrArg List.length h
 rw [List.length_map,List.length_map] at hl
 have e:=congrArg (fun l:List UV=>l[i]?) h
 simp only [List.getElem?_map] at e
 rw [List.getElem?_eq_getElem hi,List.getElem?_eq_getElem (by omega)] at e
 simp only [Option.map_some,Option.some.injEq] at e
 rw [List.getD_eq_getElem?_getD,List.getD_eq_getElem?_getD,List.getElem?_eq_getElem hi,List.getElem?_eq_getElem (by omega)]
 exact ⟨(congrArg (fun q:UV=>q.1.1) e).symm,(congrArg (fun q:UV=>q.1.2.1) e).symm,(congrArg (fun q:UV=>q.1.2.2) e).symm,(congrArg Prod.snd e).symm⟩
theorem usameTime_at {b:Bool} (e1 e2:Int) (A1 A2:Option Addr) (n1 n2 c1 c2:Nat) (l1 l2:List Int) (w:World) (hb:Hid (decide (e1=e2∧l1=l2)=b)) (h1:Hid (Sl w 1 A1 n1 c1 (wds l1))) (h2:Hid (Sl w 1 A2 n2 c2 (wds l2))) :
  Calls Tryz.prog 54 #[.agg #[.int .u64 e1, .slice A1 n1 c1], .agg #[.int .u64 e2, .slice A2 n2 c2]] w fun e w'=>e = .returned (.bool b)∧Ext w w':=hb.out ▸ sameTime_any e1 e2 A1 A2 n1 n2 c1 c2 l1 l2 w h1.out h2.out
set_option maxRecDepth 100000 in
set_option maxHeartbeats 4000000 in
theorem sameUps_any (A1 A2:Option Addr) (c1 c2 n m:Nat) (L M:List Ud) (w:World) (hn:Hid (n=L.length)) (hm:Hid (m=M.length)) (h1:Hid (Uin w A1 c1 L)) (h2:Hid (Uin w A2 c2 M)) (he:Hid (L.map Ud.uv=M.map Ud.uv)) :
  Calls Tryz.prog 23 #[.slice A1 n c1, .slice A2 m c2] w fun e w'=>e = .returned (.bool true)∧Ext w w':=by
 have hl:=congrArg List.length he.out
 rw [List.length_map,List.length_map] at hl
 obtain rfl:m=n:=by rw [hn.out,hm.out,hl]
 have hnm:m≤9223372036854775807:=by rw [hn.out];exact h1.out.sl.le
 clear hl
 go_enter Tryz.func23,Tryz.ntmps23
 go_wp2
 go_loopw [5] (fun v wr => ∃ i:Nat,i≤m∧v = .int .i64 i∧Ext w wr) (fun v _=>m - (intOf v).toNat)
 case atStart=>exact ⟨0,Nat.zero_le _,rfl,Ext.refl _⟩
 case round =>
  obtain ⟨i,hi,rfl,er⟩:=hrel
  by_cases hlt:i<m
  ·have hil:i<L.length:=by rw [← hn.out];exact hlt
   have him:i<M.length:=by rw [← hm.out];exact hlt
   obtain ⟨ad,rfl,p0,p1,p2,p3⟩:=(h1.out.ext er).at hil
   obtain ⟨bd,rfl,q0,q1,q2,q3⟩:=(h2.out.ext er).at him
   have hr1:=h1.out.ls _ (getU_mem hil)
   have hr2:=h2.out.ls _ (getU_mem him)
   obtain ⟨e1,e2,e3,e4⟩:=uval_at he.out hil
   obtain ⟨x,hx⟩ : ∃ x,L.getD i Ud.zero=x:=⟨_,rfl⟩
   obtain ⟨y,hy⟩ : ∃ y,M.getD i Ud.zero=y:=⟨_,rfl⟩
   rw [hx] at p0 p1 p2 p3 hr1 e1 e2 e3 e4
   rw [hy] at q0 q1 q2 q3 hr2 e1 e2 e3 e4
   obtain ⟨xA,xc,xl,⟨xe,xtA,xtc,xtl⟩,xd⟩:=x
   obtain ⟨yA,yc,yl,⟨ye,ytA,ytc,ytl⟩,yd⟩:=y
   dsimp only at p0 p1 p2 p3 q0 q1 q2 q3 hr1 hr2 e1 e2 e3 e4
   subst e1 e2 e3 e4
   obtain ⟨nx,hnx⟩ : ∃ nx,nx=yl.length:=⟨_,rfl⟩
   obtain ⟨tx,htx⟩ : ∃ tx,tx=ytl.length:=⟨_,rfl⟩
   rw [← hnx] at p0 q0
   rw [← htx] at p2 q2
   have HNX:=Lib.hid hnx
   have HEQ:Hid (nx=nx):=Lib.hid rfl
   have HR1:Hid (∀ W,Ext wr W→Rw W xA xc yl):=Lib.hid (fun W q=>(hr1.r.ext er).ext q)
   have HR2:Hid (∀ W,Ext wr W→Rw W yA yc yl):=Lib.hid (fun W q=>(hr2.r.ext er).ext q)
   have HT1:Hid (∀ W,Ext wr W→Sl W 1 xtA tx xtc (wds ytl)):=Lib.hid (fun W q=>by rw [htx];exact (hr1.t.ext er).ext q)
   have HT2:Hid (∀ W,Ext wr W→Sl W 1 ytA tx ytc (wds ytl)):=Lib.hid (fun W q=>by rw [htx];exact (hr2.t.ext er).ext q)
   have X:Ext wr wr.drew:=(Ext.refl wr).drew
   have P0 : ∀ z:Xt wr.drew,z.W.cell? (ad.add (i * 4))=some (.slice xA nx xc):=fun z=>(X.trans z.x).cell p0
   have P1 : ∀ z:Xt wr.drew,z.W.cell? ⟨(ad.add (i * 4)).block,(ad.add (i * 4)).off+1,none⟩=some (.int .u64 ye):=fun z=>(X.trans z.x).cell p1
   have P2 : ∀ z:Xt wr.drew,z.W.cell? ⟨(ad.add (i * 4)).block,(ad.add (i * 4)).off+2,none⟩=some (.slice xtA tx xtc):=fun z=>(X.trans z.x).cell p2
   have P3 : ∀ z:Xt wr.drew,z.W.cell? ⟨(ad.add (i * 4)).block,(ad.add (i * 4)).off+3,none⟩=some (.int .i64 yd):=fun z=>(X.trans z.x).cell p3
   have Q0 : ∀ z:Xt wr.drew,z.W.cell? (bd.add (i * 4))=some (.slice yA nx yc):=fun z=>(X.trans z.x).cell q0
   have Q1 : ∀ z:Xt wr.drew,z.W.cell? ⟨(bd.add (i * 4)).block,(bd.add (i * 4)).off+1,none⟩=some (.int .u64 ye):=fun z=>(X.trans z.x).cell q1
   have Q2 : ∀ z:Xt wr.drew,z.W.cell? ⟨(bd.add (i * 4)).block,(bd.add (i * 4)).off+2,none⟩=some (.slice ytA tx ytc):=fun z=>(X.trans z.x).cell q2
   have Q3 : ∀ z:Xt wr.drew,z.W.cell? ⟨(bd.add (i * 4)).block,(bd.add (i * 4)).off+3,none⟩=some (.int .i64 yd):=fun z=>(X.trans z.x).cell q3
   clear hil him hr1 hr2 hx hy hnx htx
   go_upto_region 6 with fail
   clear p0 p1 p2 p3 q0 q1 q2 q3
   refine wp_region_ord [0,0,3,7,15,0,0,96,224,480,1023,2047,4095,4095,16383,32767,65535,4095,4095,397311,921599,1970175,4194303,8388607,16777215,33554431,67108863,67108863,268435455,536870911,1073741823,67108863,67108863,6509559807,15099494399,32279363583,68719476735,137438953471,274877906943] (.flo [0,1,2,3,4,5,6,7,8,9,10,11,12,13,14,15,16,17,18,19,20,21] (.one 22 (.flo [23,24,25,26,27,28,29,30,31,32,33,34,35] (.one 36 (.flo [37,38] (.fin)))))) (by kernel_rfl) (by kernel_rfl) (by intro _ _ d _ _ h;cases d<;>exact h) ?_
   (refine ord_flo (pick_cons rfl (pick_cons rfl (pick_cons rfl (pick_cons rfl (pick_cons rfl (pick_cons rfl (pick_cons rfl (pick_cons rfl (pick_cons rfl (pick_cons rfl (pick_cons rfl (pick_cons rfl (pick_cons rfl (pick_cons rfl (pick_cons rfl (pick_cons rfl (pick_cons rfl (pick_cons rfl (pick_cons rfl (pick_cons rfl (pick_cons rfl (pick_cons rfl pick_nil)))))))))))))))))))))) ?_;(repeat (go_big_quiet_step (fail)));refine wpQuiet_nil ?_;show ordWalk _ _ _ _ _ _ _)
   refine ord_one (pick_cons rfl pick_nil) ?_;intro K_ hK_
   go_wp2_with (go_at_call 117;refine (sameRow_lit xA yA xc yc nx nx yl _ HNX HEQ (Lib.hid (HR1.out _ X)) (Lib.hid (HR2.out _ X))).mono ?_;rintro e w1 ⟨rfl,x1⟩)
   have P1 : ∀ z:Xt w1,z.W.cell? ⟨(ad.add (i * 4)).block,(ad.add (i * 4)).off+1,none⟩=some (.int .u64 ye):=fun z=>P1 ⟨z.W,x1.trans z.x⟩
   have P2 : ∀ z:Xt w1,z.W.cell? ⟨(ad.add (i * 4)).block,(ad.add (i * 4)).off+2,none⟩=some (.slice xtA tx xtc):=fun z=>P2 ⟨z.W,x1.trans z.x⟩
   have Q1 : ∀ z:Xt w1,z.W.cell? ⟨(bd.add (i * 4)).block,(bd.add (i * 4)).off+1,none⟩=some (.int .u64 ye):=fun z=>Q1 ⟨z.W,x1.trans z.x⟩
   have Q2 : ∀ z:Xt w1,z.W.cell? ⟨(bd.add (i * 4)).block,(bd.add (i * 4)).off+2,none⟩=some (.slice ytA tx ytc):=fun z=>Q2 ⟨z.W,x1.trans z.x⟩
   clear P0 P3 Q0 Q3
   (refine ord_flo (pick_cons rfl (pick_cons rfl (pick_cons rfl (pick_cons rfl (pick_cons rfl (pick_cons rfl (pick_cons rfl (pick_cons rfl (pick_cons rfl (pick_cons rfl (pick_cons rfl (pick_cons rfl (pick_cons rfl pick_nil))))))))))))) ?_;(repeat (go_big_quiet_step (fail)));refine wpQuiet_nil ?_;show ordWalk _ _ _ _ _ _ _)
   refine ord_one (pick_cons rfl pick_nil) ?_;intro K_ hK_
   go_wp2_with (go_at_call 54;refine (usameTime_at (b:=true) ye ye xtA ytA tx tx xtc ytc ytl ytl _ (Lib.hid (by simp)) (Lib.hid (HT1.out _ (X.trans x1))) (Lib.hid (HT2.out _ (X.trans x1)))).mono ?_;rintro e w2 ⟨rfl,x2⟩)
   (refine ord_flo (pick_cons rfl (pick_cons rfl pick_nil)) ?_;(repeat (go_big_quiet_step (fail)));refine wpQuiet_nil ?_;show ordWalk _ _ _ _ _ _ _)
   refine ord_fin ?_
   go_wp2
   go_roundw
   case rel=>exact ⟨i+1,by omega,by go_num,er.trans ((X.trans x1).trans x2)⟩
   case measure=>simp [intOf];omega
  ·go_wp2
   go_ret
   exact ⟨rfl,er⟩
open Go.RowKit
def mark_ (k:Int):Dat:=⟨k,false,0,⟨#[]⟩⟩
def marks:List Dat:=[mark_ 91,mark_ 92]
open Go.RowKit
def kone (n:Int):Dat:=⟨3,false,n,⟨#[]⟩⟩
def UpdR (n e d:Int) (w:World) (r:Ending) (w':World):Prop := ∃ g,r = .returned (.agg #[.slice (some ⟨g,0,none⟩) 1 1, .int .u64 e, .slice none 0 0, .int .i64 d])∧w.heap.size≤g∧Own w' w.heap.size 204 4 (some ⟨g,0,none⟩) 1 1 (rowC [kone n])∧Ext w w'
def kup (g:Nat) (n e d:Int):Ud:=⟨some ⟨g,0,none⟩,1,[kone n],⟨e,none,0,[]⟩,d⟩
theorem kup_r {w w':World} {B g:Nat} {n:Int} (e d:Int) (o:Own w B 204 4 (some ⟨g,0,none⟩) 1 1 (rowC [kone n])) (x:Ext w w'):UdR w' (kup g n e d):=⟨o.sl.ext x,Sl.nil _ _⟩
theorem kup_in (g:Nat) {n e d:Int} (hn:0≤n∧n≤100) (he:0≤e∧e≤100) (hd : -100≤d∧d≤100):InU (kup g n e d):=by
 refine ⟨⟨fun x hx=>?_,fun x hx=>?_,⟨by show _≤d;omega,by show d≤_;omega⟩,by show 1≤_;omega⟩,fun x hx=>(nomatch hx),by show 0≤_;omega,⟨he.1,by show e≤_;omega⟩⟩
 ·rw [List.mem_singleton.1 (show x∈[kone n] from hx)];show (0:Nat)≤_;omega
 ·rw [List.mem_singleton.1 (show x∈[kone n] from hx)];show _≤n∧n≤_;omega
open Go.RowKit
set_option maxRecDepth 100000 in
set_option maxHeartbeats 1000000 in
theorem upd12_any (n e d:Int) (w:World) :
  Calls Tryz.prog 171 #[.int .i64 n, .int .u64 e, .int .i64 d] w (UpdR n e d w):=by
 go_enter Tryz.func171,Tryz.ntmps171
 go_wp2
 obtain ⟨w1,hw1⟩ : ∃ w1,w1=(w.alloc (.cells #[.slice (some ⟨w.heap.size+1,0,none⟩) 1 1, .int .u64 e, .slice none 0 0, .int .i64 d] 95)).alloc (.cells #[.int .u8 3, .bool false, .int .i64 n, .string ⟨#[]⟩] 204):=⟨_,rfl⟩
 have b1:Bk w1 w.heap.size 95 #[.slice (some ⟨w.heap.size+1,0,none⟩) 1 1, .int .u64 e, .slice none 0 0, .int .i64 d]:=by rw [hw1];exact (Bk.new _ _ _).alloc _
 have c1:Bk w1 (w.heap.size+1) 204 #[.int .u8 3, .bool false, .int .i64 n, .string ⟨#[]⟩]:=by rw [hw1];exact Bk.at (by simp)
 have x1:Ext w w1:=by rw [hw1];exact ((Ext.refl w).alloc _).alloc _
 have o1:Own w1 w.heap.size 204 4 (some ⟨w.heap.size+1,0,none⟩) 1 1 (rowC [kone n]):=⟨rfl, .inr ⟨w.heap.size+1, #[.int .u8 3, .bool false, .int .i64 n, .string ⟨#[]⟩],rfl,by omega,c1,Nat.le_refl _,by unfold maxLen;omega,Nat.le_refl _,rfl⟩⟩
 have q0:=b1.cell 0
 have q1:=b1.cell 1
 have q2:=b1.cell 2
 have q3:=b1.cell 3
 simp at q0 q1 q2 q3
 rw [← hw1]
 clear hw1
 refine bodyPost_ret (v := .agg #[.slice (some ⟨w.heap.size+1,0,none⟩) 1 1, .int .u64 e, .slice none 0 0, .int .i64 d]) (by simp [results,Tryz.results171,go_sem,q0,q1,q2,q3]) rfl ⟨w.heap.size+1,rfl,by omega,o1,x1⟩
/-- a list whose blocks are not written to -/
structure Ukp (w:World) (K:Nat→Prop) (A:Option Addr) (c:Nat) (L:List Ud):Prop where
 u : ∃ B,Uout w B A c L
 k : ∀ k,UBlk A c L k→K k
section
variable {w0 w w':World} {K K':Nat→Prop} {A:Option Addr} {c:Nat} {L:List Ud}
theorem Ukp.ext (h:Ukp w K A c L) (x:Ext w w'):Ukp w' K A c L:=by
 obtain ⟨B,u⟩:=h.u
 exact ⟨⟨B,u.ext x⟩,h.k⟩
theorem Ukp.kp (h:Ukp w K A c L) (x:Kp w0 K w w'):Ukp w' K A c L:=by
 obtain ⟨B,u⟩:=h.u
 exact ⟨⟨B,u.updB x fun k hk q=>q.2 (h.k k hk)⟩,h.k⟩
theorem Ukp.wide (h:Ukp w K A c L) (hK : ∀ k,K k→K' k):Ukp w K' A c L:=⟨h.u,fun k hk=>hK k (h.k k hk)⟩
theorem Ukp.uin (h:Ukp w K A c L):Uin w A c L:=by
 obtain ⟨B,u⟩:=h.u
 exact u.uin
theorem Ukp.new (u:Uout w' w.heap.size A c L):Ukp w' (fun k=>w.heap.size≤k∧k<w'.heap.size) A c L:=⟨⟨_,u⟩,fun _ hk=>u.lt hk⟩
theorem dat_ext {U:List V} {e:Ending} (h:DAtRes w U e w'):Ext w w':=by
 obtain ⟨A,m,c,R,_,_,_,_,_,_,x⟩:=h
 exact x
theorem sho_set {g:Nat} {s:SV} {l:Int} {H H':List Hv} {all:List UV} {B:Nat} (h:Sho w0 w K g ⟨s,l,H⟩ all B) (e:H=H'):Sho w0 w K g ⟨s,l,H'⟩ all B:=e ▸ h
theorem or_two {q0:Int} {X Y:Prop} (h:(q0≠0∧X)∨(q0=0∧Y)) (e:q0=0):Y:=h.elim (fun q=>absurd e q.1) fun q=>q.2
end
def kuw (n e d:Int):UV:=(([kone n],(e,[])),d)
def k12a:SV:=⟨[[kuw 1 0 1,kuw 2 1 1]],none,[(0,[])],[(2,[])]⟩
def k12b:SV:=⟨[[kuw 1 0 1,kuw 2 1 1]],none,[(1,[])],[(2,[])]⟩
def k12c:SV:=⟨[[kuw 1 0 1,kuw 2 1 1],[kuw 1 3 (-1)]],none,[(1,[])],[(4,[])]⟩
def k12d:SV:=⟨[[kuw 1 0 1,kuw 2 1 1],[kuw 1 3 (-1)]],none,[(2,[])],[(4,[])]⟩
theorem k12_ins1 (a b:Nat):tinsV newT ([kup a 1 0 1,kup b 2 1 1].map Ud.uv) 2=(0,⟨k12a,0,[]⟩):=by kernel_rfl
theorem k12_least1 : ¬ (1:Int)<(⟨k12a,0,[]⟩:TrV).least:=by
 have e:(⟨k12a,0,[]⟩:TrV).least=0:=by kernel_rfl
 omega
theorem k12_allow (g:Nat):allowT ⟨k12a,0,[⟨g,1,1,false,false⟩]⟩ 2=(0,⟨k12b,2,[⟨g,1,1,false,false⟩]⟩):=by kernel_rfl
theorem k12_since (g:Nat):(⟨k12b,2,[⟨g,1,1,false,false⟩]⟩:TrV).least=1:=by kernel_rfl
theorem k12_next1 (g:Nat):nextV ⟨k12b,2,[⟨g,1,1,false,false⟩]⟩ ⟨g,1,1,false,false⟩=(0,[kuw 1 1 1,kuw 2 1 1],2,⟨g,1,2,true,false⟩):=by kernel_rfl
theorem k12_set (g:Nat) (a b c d:Int) (p q r s:Bool):setH [⟨g,a,b,p,q⟩] ⟨g,c,d,r,s⟩=[⟨g,c,d,r,s⟩]:=by simp [setH]
theorem k12_ins2 (g a:Nat):tinsV ⟨k12b,2,[⟨g,1,2,true,false⟩]⟩ ([kup a 1 3 (-1)].map Ud.uv) 4=(0,⟨k12c,2,[⟨g,1,2,true,false⟩]⟩):=by kernel_rfl
theorem k12_next2 (g:Nat):nextV ⟨k12c,2,[⟨g,1,2,true,false⟩]⟩ ⟨g,1,2,true,false⟩=(0,[kuw 1 3 (-1)],4,⟨g,1,4,true,false⟩):=by kernel_rfl
theorem k12_hallow4 (g:Nat):hallowT ⟨k12c,2,[⟨g,1,4,true,false⟩]⟩ ⟨g,1,4,true,false⟩ 4=(120,⟨k12c,2,[⟨g,1,4,true,false⟩]⟩):=by kernel_rfl
theorem k12_hallow3 (g:Nat):hallowT ⟨k12c,2,[⟨g,1,4,true,false⟩]⟩ ⟨g,1,4,true,false⟩ 3=(0,⟨k12d,2,[⟨g,3,4,true,false⟩]⟩):=by
 have e:hallowT ⟨k12c,2,[⟨g,1,4,true,false⟩]⟩ ⟨g,1,4,true,false⟩ 3=(0,compactT ⟨k12c,2,setH [⟨g,1,4,true,false⟩] ⟨g,3,4,true,false⟩⟩):=by kernel_rfl
 have e2:compactT ⟨k12c,2,[⟨g,3,4,true,false⟩]⟩=⟨k12d,2,[⟨g,3,4,true,false⟩]⟩:=by kernel_rfl
 rw [e,k12_set,e2]
theorem k12_at (g:Nat):atT ⟨k12d,2,[⟨g,3,4,true,false⟩]⟩ 1=(121,[]):=by kernel_rfl
theorem k12_since2 (g:Nat):(⟨k12d,2,[⟨g,3,4,true,false⟩]⟩:TrV).least=2:=by kernel_rfl
theorem k12_in1 (a b:Nat) : ∀ x∈[kup a 1 0 1,kup b 2 1 1],InU x:=fun x hx=>by
 simp only [List.mem_cons,List.not_mem_nil,or_false] at hx
 rcases hx with rfl | rfl<;>exact kup_in _ (by omega) (by omega) (by omega)
theorem k12_in2 (a:Nat) : ∀ x∈[kup a 1 3 (-1)],InU x:=fun x hx=>by rw [List.mem_singleton.1 hx];exact kup_in _ (by omega) (by omega) (by omega)
set_option maxRecDepth 100000 in
set_option maxHeartbeats 16000000 in
theorem known12_any (w:World) (G:Good w) :
  Calls Tryz.prog 69 #[] w fun e w'=>e = .returned (.bool true)∧Ext w w':=by
 have p1:True:=trivial
 go_enter Tryz.func69,Tryz.ntmps69
 go_wp2_with (first
  | (go_at_call 70;have mk:=p1;clear p1 mk;refine (sho_new w _ (fun _=>False) (Lib.hid (Ext.refl _)) (Lib.hid (fun k hk=>hk.elim))).mono ?_;rintro r v1 ⟨gt,rfl,s1,x1⟩;have S1:=Lib.hid s1;clear s1 x1;have p2:True:=trivial)
  | (go_at_call 171;have mk:=p2;clear p2 mk;refine (upd12_any (1) (0) (1) _).mono ?_;rintro r v2 ⟨g2,rfl,b2,o2,x2⟩;have S2:=Lib.hid (S1.out.grow x2);have O2:=Lib.hid o2;clear o2 x2 b2;have p3:True:=trivial)
  | (go_at_call 171;have mk:=p3;clear p3 mk;refine (upd12_any (2) (1) (1) _).mono ?_;rintro r v3 ⟨g3,rfl,b3,o3,x3⟩;have S3:=Lib.hid (S2.out.grow x3);have O2:=Lib.hid (O2.out.ext x3);have O3:=Lib.hid o3;clear o3 x3 b3;have p4:True:=trivial)
  | (go_at_call 71;have mk:=p4;clear p4 mk;have XA:Hid (Ext v3 (v3.alloc (.cells #[.slice (some ⟨g2,0,none⟩) 1 1, .int .u64 0, .slice none 0 0, .int .i64 1, .slice (some ⟨g3,0,none⟩) 1 1, .int .u64 1, .slice none 0 0, .int .i64 1] 95))):=Lib.hid ((Ext.refl _).alloc _);have SA:=Lib.hid (S3.out.grow XA.out);have HU:Hid (Uin (v3.alloc (.cells #[.slice (some ⟨g2,0,none⟩) 1 1, .int .u64 0, .slice none 0 0, .int .i64 1, .slice (some ⟨g3,0,none⟩) 1 1, .int .u64 1, .slice none 0 0, .int .i64 1] 95)) (some ⟨v3.heap.size,0,none⟩) 2 [kup g2 1 0 1,kup g3 2 1 1]):=Lib.hid ⟨sl_alloc v3 95 #[.slice (some ⟨g2,0,none⟩) 1 1, .int .u64 0, .slice none 0 0, .int .i64 1, .slice (some ⟨g3,0,none⟩) 1 1, .int .u64 1, .slice none 0 0, .int .i64 1] (udsC [kup g2 1 0 1,kup g3 2 1 1]) 4 2 rfl rfl (by decide),fun x hx=>by simp only [List.mem_cons,List.not_mem_nil,or_false] at hx;rcases hx with rfl | rfl;(exact kup_r _ _ O2.out XA.out);(exact kup_r _ _ O3.out XA.out)⟩;refine (sho_ins (some ⟨v3.heap.size,0,none⟩) 2 2 [kup g2 1 0 1,kup g3 2 1 1] 2 SA (Lib.hid (k12_ins1 g2 g3)) (Lib.hid rfl) HU (Lib.hid (k12_in1 g2 g3)) (Lib.hid (by decide)) (Lib.hid (by decide)) (Lib.hid (G.ext SA.out.ext))).mono ?_;rintro r v4 ⟨rfl,k4,h4⟩;have S4:=Lib.hid (or_two h4 rfl).1;clear k4 h4 SA HU XA;have p5:True:=trivial)
  | (go_at_call 74;have mk:=p5;clear p5 mk;refine (sho_share 1 S4 (by decide)).mono ?_;rintro r v5 ⟨k5,hres⟩;replace hres:=hres.resolve_left (fun q=>k12_least1 q.1);obtain ⟨_,gh,b5,rfl,s5⟩:=hres;have S5:=Lib.hid s5;clear s5 k5 b5;have p6:True:=trivial)
  | (go_at_call 73;have mk:=p6;clear p6 mk;refine (sho_allow 2 (Lib.hid (k12_allow gh)) S5 (by decide)).mono ?_;rintro r v6 ⟨rfl,k6,s6,e6,f6⟩;have S6:=Lib.hid s6;clear s6 k6 e6 f6;have p7:True:=trivial)
  | (go_at_call 87;have mk:=p7;clear p7 mk;refine (sho_since 1 (Lib.hid (k12_since gh)) S6).mono ?_;rintro r v7 ⟨rfl,x7⟩;have S7:=Lib.hid (S6.out.grow x7);clear x7;have p8:True:=trivial)
  | (go_at_call 75;have mk:=p8;clear p8 mk;refine (sho_next gh (Lib.hid rfl) (Lib.hid (k12_next1 gh)) S7 (Lib.hid (by simp)) (Lib.hid (by decide)) (Lib.hid (G.ext S7.out.ext))).mono ?_;rintro r v8 ⟨A8,n8,Q8,rfl,hn8,u8,e8,k8,f8⟩;have S8:Hid (Sho w v8 (fun k=>v7.heap.size≤k∧k<v8.heap.size) gt ⟨k12b,2,[⟨gh,1,2,true,false⟩]⟩ _ _):=Lib.hid (sho_set (f8 _ (fun k hk => .inr hk)) (k12_set gh 1 1 1 2 false false true false));have HNa:=Lib.hid hn8;rw [hn8] at u8;have Za:Hid (Ukp v8 (fun k=>v7.heap.size≤k∧k<v8.heap.size) A8 Q8.length Q8):=Lib.hid (Ukp.wide (Ukp.new u8) (fun k hk=>hk));have Ea:=Lib.hid e8;clear hn8 u8 e8 k8 f8;have p9:True:=trivial)
  | (go_at_call 171;have mk:=p9;clear p9 mk;refine (upd12_any (1) (3) ((-1)) _).mono ?_;rintro r v9 ⟨g9,rfl,b9,o9,x9⟩;have S9:=Lib.hid (S8.out.grow x9);have Za:=Lib.hid (Za.out.ext x9);have O9:=Lib.hid o9;clear o9 x9 b9;have p10:True:=trivial)
  | (go_at_call 71;have mk:=p10;clear p10 mk;have XA:Hid (Ext v9 (v9.alloc (.cells #[.slice (some ⟨g9,0,none⟩) 1 1, .int .u64 3, .slice none 0 0, .int .i64 (-1)] 95))):=Lib.hid ((Ext.refl _).alloc _);have SA:=Lib.hid (S9.out.grow XA.out);have HU:Hid (Uin (v9.alloc (.cells #[.slice (some ⟨g9,0,none⟩) 1 1, .int .u64 3, .slice none 0 0, .int .i64 (-1)] 95)) (some ⟨v9.heap.size,0,none⟩) 1 [kup g9 1 3 (-1)]):=Lib.hid ⟨sl_alloc v9 95 #[.slice (some ⟨g9,0,none⟩) 1 1, .int .u64 3, .slice none 0 0, .int .i64 (-1)] (udsC [kup g9 1 3 (-1)]) 4 1 rfl rfl (by decide),fun x hx=>by simp only [List.mem_cons,List.not_mem_nil,or_false] at hx;subst hx;exact kup_r _ _ O9.out XA.out⟩;have Za:=Lib.hid (Za.out.ext XA.out);refine (sho_ins (some ⟨v9.heap.size,0,none⟩) 1 1 [kup g9 1 3 (-1)] 4 SA (Lib.hid (k12_ins2 gh g9)) (Lib.hid rfl) HU (Lib.hid (k12_in2 g9)) (Lib.hid (by decide)) (Lib.hid (by decide)) (Lib.hid (G.ext SA.out.ext))).mono ?_;rintro r v10 ⟨rfl,k10,h10⟩;have S10:=Lib.hid (or_two h10 rfl).1;have Za:=Lib.hid (Za.out.kp k10);clear k10 h10 SA HU XA;have p11:True:=trivial)
  | (go_at_call 75;have mk:=p11;clear p11 mk;refine (sho_next gh (Lib.hid rfl) (Lib.hid (k12_next2 gh)) S10 (Lib.hid (by simp)) (Lib.hid (by decide)) (Lib.hid (G.ext S10.out.ext))).mono ?_;rintro r v11 ⟨A11,n11,Q11,rfl,hn11,u11,e11,k11,f11⟩;have S11:Hid (Sho w v11 (fun k=>(v7.heap.size≤k∧k<v8.heap.size)∨(v10.heap.size≤k∧k<v11.heap.size)) gt ⟨k12c,2,[⟨gh,1,4,true,false⟩]⟩ _ _):=Lib.hid (sho_set (f11 _ (fun k hk=>hk)) (k12_set gh 1 2 1 4 true false true false));have Za:=Lib.hid ((Za.out.kp k11).wide (K':=(fun k=>(v7.heap.size≤k∧k<v8.heap.size)∨(v10.heap.size≤k∧k<v11.heap.size))) (fun k hk => .inl hk));have HNb:=Lib.hid hn11;rw [hn11] at u11;have Zb:Hid (Ukp v11 (fun k=>(v7.heap.size≤k∧k<v8.heap.size)∨(v10.heap.size≤k∧k<v11.heap.size)) A11 Q11.length Q11):=Lib.hid (Ukp.wide (Ukp.new u11) (fun k hk => .inr hk));have Eb:=Lib.hid e11;clear hn11 u11 e11 k11 f11;have p12:True:=trivial)
  | (go_at_call 76;have mk:=p12;clear p12 mk;refine (sho_hallow gh 4 (Lib.hid rfl) (Lib.hid (k12_hallow4 gh)) S11 (Lib.hid (by simp)) (by decide)).mono ?_;rintro r v12 ⟨rfl,k12,s12,f12⟩;have S12:=Lib.hid s12;have Za:=Lib.hid (Za.out.kp k12);have Zb:=Lib.hid (Zb.out.kp k12);clear s12 k12 f12;have p13:True:=trivial)
  | (go_at_call 76;have mk:=p13;clear p13 mk;refine (sho_hallow gh 3 (Lib.hid rfl) (Lib.hid (k12_hallow3 gh)) S12 (Lib.hid (by simp)) (by decide)).mono ?_;rintro r v13 ⟨rfl,k13,s13,f13⟩;have S13:=Lib.hid s13;have Za:=Lib.hid (Za.out.kp k13);have Zb:=Lib.hid (Zb.out.kp k13);clear s13 k13 f13;have p14:True:=trivial)
  | (go_at_call 80;have mk:=p14;clear p14 mk;refine (sho_at 1 (Lib.hid (k12_at gh)) S13 (Lib.hid (G.ext S13.out.ext))).mono ?_;rintro r v14 ⟨A14,n14,c14,rfl,d14⟩;have x14:=dat_ext d14;have S14:=Lib.hid (S13.out.grow x14);have Za:=Lib.hid (Za.out.ext x14);have Zb:=Lib.hid (Zb.out.ext x14);clear x14 d14;have p15:True:=trivial)
  | (go_at_call 87;have mk:=p15;clear p15 mk;refine (sho_since 2 (Lib.hid (k12_since2 gh)) S14).mono ?_;rintro r v15 ⟨rfl,x15⟩;have S15:=Lib.hid (S14.out.grow x15);have Za:=Lib.hid (Za.out.ext x15);have Zb:=Lib.hid (Zb.out.ext x15);clear x15;have p16:True:=trivial)
  | (go_at_call 171;have mk:=p16;clear p16 mk;refine (upd12_any (1) (1) (1) _).mono ?_;rintro r v16 ⟨g16,rfl,b16,o16,x16⟩;have S16:=Lib.hid (S15.out.grow x16);have Za:=Lib.hid (Za.out.ext x16);have Zb:=Lib.hid (Zb.out.ext x16);have O16:=Lib.hid o16;clear o16 x16 b16;have p17:True:=trivial)
  | (go_at_call 171;have mk:=p17;clear p17 mk;refine (upd12_any (2) (1) (1) _).mono ?_;rintro r v17 ⟨g17,rfl,b17,o17,x17⟩;have S17:=Lib.hid (S16.out.grow x17);have Za:=Lib.hid (Za.out.ext x17);have Zb:=Lib.hid (Zb.out.ext x17);have O16:=Lib.hid (O16.out.ext x17);have O17:=Lib.hid o17;clear o17 x17 b17;have p18:True:=trivial)
  | (go_at_call 23;have mk:=p18;clear p18 mk;have XA:Hid (Ext v17 (v17.alloc (.cells #[.slice (some ⟨g16,0,none⟩) 1 1, .int .u64 1, .slice none 0 0, .int .i64 1, .slice (some ⟨g17,0,none⟩) 1 1, .int .u64 1, .slice none 0 0, .int .i64 1] 95))):=Lib.hid ((Ext.refl _).alloc _);have SA:=Lib.hid (S17.out.grow XA.out);have HU:Hid (Uin (v17.alloc (.cells #[.slice (some ⟨g16,0,none⟩) 1 1, .int .u64 1, .slice none 0 0, .int .i64 1, .slice (some ⟨g17,0,none⟩) 1 1, .int .u64 1, .slice none 0 0, .int .i64 1] 95)) (some ⟨v17.heap.size,0,none⟩) 2 [kup g16 1 1 1,kup g17 2 1 1]):=Lib.hid ⟨sl_alloc v17 95 #[.slice (some ⟨g16,0,none⟩) 1 1, .int .u64 1, .slice none 0 0, .int .i64 1, .slice (some ⟨g17,0,none⟩) 1 1, .int .u64 1, .slice none 0 0, .int .i64 1] (udsC [kup g16 1 1 1,kup g17 2 1 1]) 4 2 rfl rfl (by decide),fun x hx=>by simp only [List.mem_cons,List.not_mem_nil,or_false] at hx;rcases hx with rfl | rfl;(exact kup_r _ _ O16.out XA.out);(exact kup_r _ _ O17.out XA.out)⟩;have Za:=Lib.hid (Za.out.ext XA.out);have Zb:=Lib.hid (Zb.out.ext XA.out);refine (sameUps_any A8 (some ⟨v17.heap.size,0,none⟩) n8 2 n8 2 Q8 [kup g16 1 1 1,kup g17 2 1 1] _ HNa (Lib.hid rfl) (Lib.hid (by rw [HNa.out];exact Za.out.uin)) HU (Lib.hid (Ea.out.trans rfl))).mono ?_;rintro r v18 ⟨rfl,x18⟩;have S18:=Lib.hid (SA.out.grow x18);have Za:=Lib.hid (Za.out.ext x18);have Zb:=Lib.hid (Zb.out.ext x18);clear x18 XA HU SA;have p19:True:=trivial)
  | (go_at_call 171;have mk:=p19;clear p19 mk;refine (upd12_any (1) (3) ((-1)) _).mono ?_;rintro r v19 ⟨g19,rfl,b19,o19,x19⟩;have S19:=Lib.hid (S18.out.grow x19);have Za:=Lib.hid (Za.out.ext x19);have Zb:=Lib.hid (Zb.out.ext x19);have O19:=Lib.hid o19;clear o19 x19 b19;have p20:True:=trivial)
  | (go_at_call 23;have mk:=p20;clear p20 mk;have XA:Hid (Ext v19 (v19.alloc (.cells #[.slice (some ⟨g19,0,none⟩) 1 1, .int .u64 3, .slice none 0 0, .int .i64 (-1)] 95))):=Lib.hid ((Ext.refl _).alloc _);have SA:=Lib.hid (S19.out.grow XA.out);have HU:Hid (Uin (v19.alloc (.cells #[.slice (some ⟨g19,0,none⟩) 1 1, .int .u64 3, .slice none 0 0, .int .i64 (-1)] 95)) (some ⟨v19.heap.size,0,none⟩) 1 [kup g19 1 3 (-1)]):=Lib.hid ⟨sl_alloc v19 95 #[.slice (some ⟨g19,0,none⟩) 1 1, .int .u64 3, .slice none 0 0, .int .i64 (-1)] (udsC [kup g19 1 3 (-1)]) 4 1 rfl rfl (by decide),fun x hx=>by simp only [List.mem_cons,List.not_mem_nil,or_false] at hx;subst hx;exact kup_r _ _ O19.out XA.out⟩;have Za:=Lib.hid (Za.out.ext XA.out);have Zb:=Lib.hid (Zb.out.ext XA.out);refine (sameUps_any A11 (some ⟨v19.heap.size,0,none⟩) n11 1 n11 1 Q11 [kup g19 1 3 (-1)] _ HNb (Lib.hid rfl) (Lib.hid (by rw [HNb.out];exact Zb.out.uin)) HU (Lib.hid (Eb.out.trans rfl))).mono ?_;rintro r v20 ⟨rfl,x20⟩;have S20:=Lib.hid (SA.out.grow x20);have Za:=Lib.hid (Za.out.ext x20);have Zb:=Lib.hid (Zb.out.ext x20);clear x20 XA HU SA;have p21:True:=trivial)
  | fail)
 go_ret
 exact ⟨rfl,S20.out.ext⟩
open Go.RowKit
/-- updates and calls so far -/
def hopsLen (M:List Hop) (i:Nat):Nat:=((M.take i).map fun x=>x.L.length+1).sum
theorem hopsLen_zero (M:List Hop):hopsLen M 0=0:=by simp [hopsLen]
theorem hopsLen_succ {M:List Hop} {i:Nat} (h:i<M.length):hopsLen M (i+1)=hopsLen M i+((M.getD i Hop.zero).L.length+1):=by
 unfold hopsLen
 rw [takeH h,List.map_append,List.sum_append]
 simp
theorem hopsLen_le (M:List Hop) (i:Nat):hopsLen M i≤hopsLen M M.length:=by
 have h:hopsLen M M.length=hopsLen M i+((M.drop i).map fun x=>x.L.length+1).sum:=by
  unfold hopsLen
  rw [← List.sum_append, ← List.map_append,List.take_append_drop,List.take_length]
 omega
theorem hops_n (M:List Hop):M.length≤hopsLen M M.length:=by
 unfold hopsLen
 rw [List.take_length]
 induction M with
 | nil=>exact Nat.zero_le _
 | cons a l ih=>rw [List.map_cons,List.sum_cons,List.length_cons];omega
def costH (x:Hop):Nat:=x.L.length+costL x.L x.L.length
def costHM (M:List Hop) (i:Nat):Nat:=((M.take i).map costH).sum
theorem costHM_succ {M:List Hop} {k:Nat} (h:k<M.length):costHM M (k+1)=costHM M k+costH (M.getD k Hop.zero):=by
 unfold costHM
 rw [takeH h,List.map_append,List.sum_append]
 simp
def muchH (M:List Hop):Bool:=decide (300<M.length+costHM M M.length)
/-- where the inner loop stands -/
def costHI (M:List Hop) (x:Hop) (i:Nat):Nat:=M.length+costHM M i+x.L.length
theorem costHI_end {M:List Hop} {x:Hop} {i:Nat} (hi:i<M.length) (hx:M.getD i Hop.zero=x):M.length+costHM M (i+1)=costHI M x i+costL x.L x.L.length:=by
 rw [costHM_succ hi,hx]
 unfold costHI costH
 omega
/-- calls that are looked at -/
structure Hops (M:List Hop):Prop where
 len:hopsLen M M.length≤300
 few : ∀ x∈M, ∀ y∈x.L,y.l.length≤5000∧y.t.l.length≤1300
theorem hops_of {M:List Hop} (h:muchH M=false):Hops M:=by
 have h0:=of_decide_eq_false h
 refine ⟨?_,fun x hx=>?_⟩
 ·have : ∀ l:List Hop,(l.map fun x=>x.L.length+1).sum≤l.length+(l.map costH).sum:=fun l=>by
   induction l with
   | nil=>exact Nat.le_refl _
   | cons a l ih =>
    simp only [List.map_cons,List.sum_cons,List.length_cons]
    have:a.L.length≤costH a:=by unfold costH;omega
    omega
  have h1:=this M
  unfold hopsLen
  unfold costHM at h0
  rw [List.take_length] at h0 ⊢
  omega
 ·have hc:costH x≤costHM M M.length:=sum_mem_le costH hx
  unfold costH at hc
  refine fun y hy=>?_
  have h2:costY y≤costL x.L x.L.length:=sum_mem_le costY hy
  unfold costY at h2
  exact ⟨by omega,by omega⟩
theorem Hops.inU {M:List Hop} (h:Hops M) {x:Hop} (hx:x∈M) (hI:HopIn x) : ∀ y∈x.L,InU y:=fun y hy =>
 (hI.u y hy).inU (Nat.le_trans (h.few x hx y hy).1 (by decide)) (Nat.le_trans (h.few x hx y hy).2 (by decide))
theorem Hops.at {M:List Hop} (h:Hops M) {i:Nat} (hi:i<M.length):hopsLen M i+(M.getD i Hop.zero).L.length+1≤300:=by
 have h1:=hopsLen_succ hi
 have h2:=hopsLen_le M (i+1)
 have:=h.len
 omega
open Go.RowKit
set_option maxRecDepth 100000 in
set_option maxHeartbeats 16000000 in
theorem much12_any (A:Option Addr) (c n:Nat) (M:List Hop) (w:World) (hn:Hid (n=M.length)) (hM:Hid (Hin w A c M)) (hb:Hid (∀ x∈M,x.L.length≤1048576)) :
  Calls Tryz.prog 68 #[.slice A n c] w fun e w'=>e = .returned (.bool (muchH M))∧Ext w w':=by
 obtain ⟨b,hb0⟩ : ∃ b,muchH M=b:=⟨_,rfl⟩
 rw [hb0]
 have HB:=Lib.hid hb0
 clear hb0
 have hmax:n≤9223372036854775807:=by rw [hn.out];exact hM.out.sl.le
 go_enter Tryz.func68,Tryz.ntmps68
 go_wp2
 go_loopg [3,4] n (fun z v3 v4 wr => ∃ (i N:Nat),z=n - i∧i≤n∧v4 = .int .i64 i∧v3 = .int .i64 N∧(N≤300∨N≤9223372036854775807)∧Hid (Cost (M.length+costHM M i) N)∧Hid (Ext w wr))
 case atStart=>exact ⟨0,n,rfl,Nat.zero_le _,rfl,rfl, .inr hmax,Lib.hid (by rw [hn.out];exact Cost.rfl' _),Lib.hid (Ext.refl _)⟩
 case round =>
  obtain ⟨i,N,rfl,hi,rfl,rfl,hN,HC,HE⟩:=hrel
  by_cases hlt:i<n
  ·by_cases h300:N≤300
   ·have hiM:i<M.length:=by rw [← hn.out];exact hlt
    have HIM:=Lib.hid hiM
    obtain ⟨x,hx⟩ : ∃ x,M.getD i Hop.zero=x:=⟨_,rfl⟩
    have hxm:x∈M:=hx ▸ getH_mem hiM
    obtain ⟨ad,rfl,_,q1,_⟩:=(hM.out.ext HE.out).at hiM hx
    have HXR:Hid (Uin wr x.A x.c x.L):=Lib.hid ((hM.out.ls x hxm).ext HE.out)
    have hl1:=hb.out x hxm
    have HX:=Lib.hid hx
    obtain ⟨nL,hnL⟩ : ∃ k,x.L.length=k:=⟨_,rfl⟩
    rw [hnL] at q1 hl1
    have HNL:=Lib.hid hnL
    clear hnL hx hxm hiM
    obtain ⟨xA,hxA⟩ : ∃ k,x.A=k:=⟨_,rfl⟩
    obtain ⟨xc,hxc⟩ : ∃ k,x.c=k:=⟨_,rfl⟩
    rw [hxA,hxc] at q1
    have HU:Hid (Uin wr xA xc x.L):=Lib.hid (by rw [← hxA, ← hxc];exact HXR.out)
    clear hxA hxc
    obtain ⟨wo,hwo⟩ : ∃ wo:World,wo=wr:=⟨_,rfl⟩
    have XO:Hid (Ext wr wo):=Lib.hid (hwo ▸ Ext.refl _)
    have D1:Hid (∀ W,Ext wo W→W.cell? ⟨(ad.add (i * 5)).block,(ad.add (i * 5)).off+1,none⟩=some (.slice xA nL xc)):=Lib.hid (fun W y=>(XO.out.trans y).cell q1)
    have q1:=D1.out wo (Ext.refl _)
    rw [← hwo]
    clear hwo
    obtain ⟨N1,hN1⟩ : ∃ k,k=N+nL:=⟨_,rfl⟩
    have HJ0:Hid (Cost (costHI M x i+costL x.L 0) N1):=Lib.hid (HC.out.add (d:=nL) (by unfold costHI;rw [HNL.out];rfl) hN1)
    have hN1':N1≤1000000000000000000:=by omega
    have hN1z:((N1:Nat):Int)=(N:Int)+(nL:Int):=by omega
    have HN1:=Lib.hid hN1
    clear hN1
    go_wp2
    go_loopg [3,5] nL (fun z v3 v5 wq => ∃ (k N2:Nat),z=nL - k∧k≤nL∧v5 = .int .i64 k∧v3 = .int .i64 N2∧N2≤4611686018427387904∧Hid (Cost (costHI M x i+costL x.L k) N2)∧Hid (Ext wo wq))
    case atStart=>exact ⟨0,N1,rfl,Nat.zero_le _,rfl,by have:=HN1.out;go_num,by omega,HJ0,Lib.hid (Ext.refl _)⟩
    case round =>
     clear HJ0 q1
     obtain ⟨k,N2,rfl,hk,rfl,rfl,hN2,HJ,HQ⟩:=hrel
     have q1:=D1.out _ HQ.out
     by_cases hlk:k<nL
     ·by_cases h302:N2≤300
      ·have hkL:k<x.L.length:=by rw [HNL.out];exact hlk
       have HKL:=Lib.hid hkL
       obtain ⟨ad2,e2,r0,_,r2,_⟩:=(HU.out.ext (XO.out.trans HQ.out)).at hkL
       subst e2
       have hc1:=(HU.out.ls _ (getU_mem hkL)).r.cap
       have hc2:=(HU.out.ls _ (getU_mem hkL)).t.cap
       obtain ⟨y,hy⟩ : ∃ y,x.L.getD k Ud.zero=y:=⟨_,rfl⟩
       rw [hy] at r0 r2 hc1 hc2
       have HY:=Lib.hid hy
       obtain ⟨yr,hyr⟩ : ∃ k,y.l.length=k:=⟨_,rfl⟩
       obtain ⟨yt,hyt⟩ : ∃ k,y.t.l.length=k:=⟨_,rfl⟩
       rw [hyr] at r0 hc1
       rw [hyt] at r2 hc2
       have HYR:=Lib.hid hyr
       have HYT:=Lib.hid hyt
       clear hy hyr hyt hkL
       have X:Ext wr wr.drew:=(Ext.refl wr).drew
       have Q1 : ∀ z:Xt wr.drew,z.W.cell? ⟨(ad.add (i * 5)).block,(ad.add (i * 5)).off+1,none⟩=some (.slice (some ad2) nL xc):=fun z=>(X.trans z.x).cell q1
       have R0 : ∀ z:Xt wr.drew,z.W.cell? (ad2.add (k * 4))=some (.slice y.A yr y.c):=fun z=>(X.trans z.x).cell r0
       have R2 : ∀ z:Xt wr.drew,z.W.cell? ⟨(ad2.add (k * 4)).block,(ad2.add (k * 4)).off+2,none⟩=some (.slice y.t.A yt y.t.c):=fun z=>(X.trans z.x).cell r2
       go_upto_region 9 with fail
       refine wp_region_ord [0,0,0,6,14,30,0,126,254,510,1022,2046,0,0,12288,28672,61440,0,258048,520192,1044480,2093056,4190208,8384512,16777214,33554431,67108863] (.flo [0,1,2,3,4,5,6,7,8,9,10,11,12,13,14,15,16,17,18,19,20,21,22,23,24,25,26] (.fin)) (by kernel_rfl) (by kernel_rfl) (by intro _ _ d _ _ h;cases d<;>exact h) ?_
       (refine ord_flo (pick_cons rfl (pick_cons rfl (pick_cons rfl (pick_cons rfl (pick_cons rfl (pick_cons rfl (pick_cons rfl (pick_cons rfl (pick_cons rfl (pick_cons rfl (pick_cons rfl (pick_cons rfl (pick_cons rfl (pick_cons rfl (pick_cons rfl (pick_cons rfl (pick_cons rfl (pick_cons rfl (pick_cons rfl (pick_cons rfl (pick_cons rfl (pick_cons rfl (pick_cons rfl (pick_cons rfl (pick_cons rfl (pick_cons rfl (pick_cons rfl pick_nil))))))))))))))))))))))))))) ?_;(repeat (go_big_quiet_step (fail)));refine wpQuiet_nil ?_;show ordWalk _ _ _ _ _ _ _)
       refine ord_fin ?_
       clear Q1 R0 R2 r0 r2 q1
       go_wp2
       go_roundg (nL - (k+1))
       case measure=>omega
       case rel=>exact ⟨k+1,N2+(yr / 16+yt / 4),by omega,by omega,by go_num,by go_num,by omega,Lib.hid (HJ.out.add (d:=yr / 16+yt / 4) (by rw [costL_succ HKL.out,HY.out];unfold costY;rw [HYR.out,HYT.out];omega) rfl),Lib.hid (HQ.out.trans X)⟩
      ·have hgt:((N2:Int)≤300)=False:=by simp;omega
       go_wp2
       go_roundg (n - (i+1))
       case measure=>omega
       case rel=>exact ⟨i+1,N2,by omega,by omega,by go_num,rfl, .inr (by omega),Lib.hid (HJ.out.up (by rw [costHI_end HIM.out HX.out];have:=sum_take_le costY x.L k;unfold costL;omega) (by omega)),Lib.hid ((HE.out.trans XO.out).trans HQ.out)⟩
     ·go_wp2
      go_roundg (n - (i+1))
      case measure=>omega
      case rel=>exact ⟨i+1,N2,by omega,by omega,by go_num,rfl, .inr (by omega),Lib.hid (by have h1:=HJ.out;rw [show k=x.L.length by rw [HNL.out];omega, ← costHI_end HIM.out HX.out] at h1;exact h1),Lib.hid ((HE.out.trans XO.out).trans HQ.out)⟩
   ·have hgt:((N:Int)≤300)=False:=by simp;omega
    go_wp2
    go_ret
    refine ⟨ret_bool ?_,HE.out⟩
    rw [← HB.out]
    unfold muchH
    have h1:=HC.out.le
    have h2:=sum_take_le costH M i
    replace h2:costHM M i≤costHM M M.length:=h2
    rw [eq_comm,decide_eq_decide]
    constructor<;>intro<;>omega
  ·obtain rfl:i=n:=by omega
   go_wp2
   go_ret
   refine ⟨ret_bool ?_,HE.out⟩
   rw [← HB.out]
   have h1:=HC.out
   rw [hn.out] at h1
   have h2:=h1.much
   unfold muchH
   rw [← h2,eq_comm,decide_eq_decide]
   constructor<;>intro<;>omega
theorem much12_at {v:Bool} (A:Option Addr) (c n:Nat) (M:List Hop) (w:World) (hv:Hid (muchH M=v)) (hn:Hid (n=M.length)) (hM:Hid (Hin w A c M)) (hb:Hid (∀ x∈M,x.L.length≤1048576)) :
  Calls Tryz.prog 68 #[.slice A n c] w fun e w'=>e = .returned (.bool v)∧Ext w w':=hv.out ▸ much12_any A c n M w hn hM hb
open Go.RowKit
/-- an update whose blocks are not written to -/
structure TlE (w:World) (K:Nat→Prop) (x:Ud):Prop where
 r : ∃ B,Own w B 204 4 x.A x.l.length x.c (rowC x.l)
 t : ∃ B,Own w B 180 1 x.t.A x.t.l.length x.t.c (wds x.t.l)
 kr : ∀ k,blk x.A x.c=some k→K k
 kt : ∀ k,blk x.t.A x.t.c=some k→K k
 good:InU x
section
variable {w0 w w':World} {K K':Nat→Prop} {A A2:Option Addr} {n c n2 c2:Nat} {L M Q:List Ud} {x:Ud}
theorem TlE.ext (h:TlE w K x) (y:Ext w w'):TlE w' K x:=by
 obtain ⟨B,r⟩:=h.r
 obtain ⟨C,t⟩:=h.t
 exact ⟨⟨B,r.ext y⟩,⟨C,t.ext y⟩,h.kr,h.kt,h.good⟩
theorem TlE.kp (h:TlE w K x) (y:Kp w0 K w w'):TlE w' K x:=by
 obtain ⟨B,r⟩:=h.r
 obtain ⟨C,t⟩:=h.t
 exact ⟨⟨B,r.upd y fun k hk q=>q.2 (h.kr k hk)⟩,⟨C,t.upd y fun k hk q=>q.2 (h.kt k hk)⟩,h.kr,h.kt,h.good⟩
theorem TlE.wide (h:TlE w K x) (hK : ∀ k,K k→K' k):TlE w K' x:=⟨h.r,h.t,fun k hk=>hK k (h.kr k hk),fun k hk=>hK k (h.kt k hk),h.good⟩
/-- a list of updates has been written to -/
theorem TlE.far {B:Nat} {xs:List Value} (h:TlE w K x) (o:Own w B 95 4 A n c xs) (u:Upd (fun k=>blk A c=some k) w w'):TlE w' K x:=by
 obtain ⟨B,r⟩:=h.r
 obtain ⟨C,t⟩:=h.t
 exact ⟨⟨B,r.upd u fun k hk q=>own_types r o udtype_dat hk q⟩,⟨C,t.upd u fun k hk q=>own_types t o udtype_word hk q⟩,h.kr,h.kt,h.good⟩
theorem TlE.udr (h:TlE w K x):UdR w x:=by
 obtain ⟨B,r⟩:=h.r
 obtain ⟨C,t⟩:=h.t
 exact ⟨r.sl,t.sl⟩
/-- an answer's updates -/
theorem tlE_new (u:Uout w' w.heap.size A c Q) (hK : ∀ k,w.heap.size≤k→k<w'.heap.size→K k) (g : ∀ x∈Q,InU x) : ∀ x∈Q,TlE w' K x:=fun x hx =>
 ⟨⟨_,u.rw x hx⟩,⟨_,u.ts x hx⟩,fun k hk=>by have:=(u.rw x hx).lt k hk;exact hK k this.1 this.2,fun k hk=>by have:=(u.ts x hx).lt k hk;exact hK k this.1 this.2,g x hx⟩
/-- a list of what was told -/
structure Tl (w0 w:World) (K:Nat→Prop) (A:Option Addr) (n c:Nat) (L:List Ud):Prop where
 own:Own w w0.heap.size 95 4 A n c (udsC L)
 k : ∀ k,blk A c=some k→K k
 len:n=L.length
 es : ∀ x∈L,TlE w K x
theorem Tl.nil:Tl w0 w K none 0 0 []:=⟨Own.nil _ _ _ _,fun k hk=>(nomatch hk),rfl,fun x hx=>(nomatch hx)⟩
theorem Tl.ext (h:Tl w0 w K A n c L) (y:Ext w w'):Tl w0 w' K A n c L:=⟨h.own.ext y,h.k,h.len,fun x hx=>(h.es x hx).ext y⟩
theorem Tl.kp {w1:World} (h:Tl w0 w K A n c L) (y:Kp w1 K w w'):Tl w0 w' K A n c L:=⟨h.own.upd y fun k hk q=>q.2 (h.k k hk),h.k,h.len,fun x hx=>(h.es x hx).kp y⟩
theorem Tl.wide (h:Tl w0 w K A n c L) (hK : ∀ k,K k→K' k):Tl w0 w K' A n c L:=⟨h.own,fun k hk=>hK k (h.k k hk),h.len,fun x hx=>(h.es x hx).wide hK⟩
theorem Tl.uin (h:Tl w0 w K A n c L):Uin w A c L:=⟨by have:=h.own.sl;rwa [h.len] at this,fun x hx=>(h.es x hx).udr⟩
theorem Tl.far {B:Nat} {xs:List Value} (h:Tl w0 w K A n c L) (o:Own w B 95 4 A2 n2 c2 xs) (u:Upd (fun k=>blk A2 c2=some k) w w') (hn : ∀ k,blk A c=some k→blk A2 c2≠some k):Tl w0 w' K A n c L :=
 ⟨h.own.upd u hn,h.k,h.len,fun x hx=>(h.es x hx).far o u⟩
theorem grown_upd (g:w.grownBy w' (blk A c)):Upd (fun k=>blk A c=some k) w w':=(Upd.refl _ w).grown g fun k e => .inl e
/-- more was told -/
theorem Tl.app {A':Option Addr} {c' k:Nat} (h:Tl w0 w K A n c L) (hK : ∀ k,K k→K' k) (hN : ∀ k,w.heap.size≤k→k<w'.heap.size→K' k) (hk:k=M.length) (hM : ∀ x∈M,TlE w K x) (o:Own w' w0.heap.size 95 4 A' (n+k) c' (udsC L++udsC M)) (g:w.grownBy w' (blk A c)) (q:(A'=A∧c'=c)∨(blk A' c'=some w.heap.size∧Ext w w')):Tl w0 w' K' A' (n+k) c' (L++M):=by
 have u:=grown_upd g
 refine ⟨by rw [udsC_append];exact o,fun j hj=>?_,by rw [List.length_append,h.len,hk],fun x hx=>?_⟩
 ·rcases q with ⟨rfl,rfl⟩ | ⟨e,_⟩
  ·exact hK j (h.k j hj)
  ·exact hN j (by rw [e] at hj;injection hj with hj;omega) (o.lt j hj).2
 ·rcases List.mem_append.1 hx with hx | hx
  ·exact ((h.es x hx).far h.own u).wide hK
  ·exact ((hM x hx).far h.own u).wide hK
/-- the trace beside a list that grows -/
theorem Sho.app {gt:Nat} {v:TrV} {all:List UV} {B k:Nat} {A':Option Addr} {c':Nat} (s:Sho w0 w K gt v all B) (h:Tl w0 w K A n c L) (hK : ∀ k,K' k→K k∨(w.heap.size≤k∧k<w'.heap.size)) (g:w.grownBy w' (blk A c)):Sho w0 w' K' gt v all B:=by
 have u:=grown_upd g
 obtain ⟨R,t,h1,h2,h3⟩:=s.r
 have z:=u.size
 refine ⟨ext_updS s.ext u fun k hk=>(h.own.lt k hk).1,⟨R,t,h1.upd u fun k hk q=>(h3 k hk).2 (h.k k q),h2,fun k hk=>⟨(h3 k hk).1,fun q=>?_⟩⟩,fun k hk=>?_,s.tt⟩
 ·rcases hK k q with r | r
  ·exact (h3 k hk).2 r
  ·have:=h1.low k hk;omega
 ·rcases hK k hk with r | r
  ·exact Nat.lt_of_lt_of_le (s.lo k r) z
  ·exact r.2
end
/-! ### two handles of one epoch -/
/-- Q, P: what each was told last, not yet put to its list -/
structure TwoI (w0 w:World) (M:List Hop) (i gt:Nat) (first:Int) (v:TrV) (xa xb:Hv) (A1:Option Addr) (n1 c1:Nat) (D1:List Ud) (A2:Option Addr) (n2 c2:Nat) (D2 Q P:List Ud):Prop where
 m : ∃ K all,Sho w0 w K gt v all (hopsLen M i)∧Tl w0 w K A1 n1 c1 D1∧Tl w0 w K A2 n2 c2 D2∧(∀ x∈Q,TlE w K x)∧(∀ x∈P,TlE w K x)∧ToldH xa first all (D1.map Ud.uv++Q.map Ud.uv)∧ToldH xb first all (D2.map Ud.uv++P.map Ud.uv)
 ap : ∀ k,blk A1 c1=some k→blk A2 c2≠some k
 ma:xa∈v.hs∧xa.ended=false
 mb:xb∈v.hs∧xb.ended=false
 ne:xa.g≠xb.g
 nn:n1+Q.length≤600 * (i+1)∧n2+P.length≤600 * (i+1)
section
variable {w0 w w':World} {M:List Hop} {i gt:Nat} {first:Int} {v v':TrV} {xa xb:Hv} {A1 A2:Option Addr} {n1 c1 n2 c2:Nat} {D1 D2 Q P:List Ud}
theorem TwoI.ext (h:TwoI w0 w M i gt first v xa xb A1 n1 c1 D1 A2 n2 c2 D2 Q P):Ext w0 w:=by obtain ⟨K,all,s,_⟩:=h.m;exact s.ext
theorem TwoI.grow (h:TwoI w0 w M i gt first v xa xb A1 n1 c1 D1 A2 n2 c2 D2 Q P) (x:Ext w w'):TwoI w0 w' M i gt first v xa xb A1 n1 c1 D1 A2 n2 c2 D2 Q P:=by
 obtain ⟨K,all,s,a,b,q,p,d,e⟩:=h.m
 exact ⟨⟨K,all,s.grow x,a.ext x,b.ext x,fun y hy=>(q y hy).ext x,fun y hy=>(p y hy).ext x,d,e⟩,h.ap,h.ma,h.mb,h.ne,h.nn⟩
theorem TwoI.next (h:TwoI w0 w M i gt first v xa xb A1 n1 c1 D1 A2 n2 c2 D2 Q P) (hi:i<M.length):TwoI w0 w M (i+1) gt first v xa xb A1 n1 c1 D1 A2 n2 c2 D2 Q P:=by
 obtain ⟨K,all,s,r⟩:=h.m
 exact ⟨⟨K,all,s.more (by rw [hopsLen_succ hi];omega),r⟩,h.ap,h.ma,h.mb,h.ne,⟨by have:=h.nn.1;omega,by have:=h.nn.2;omega⟩⟩
/-- the list of what a is told grows by what it was told last -/
theorem TwoI.app {A':Option Addr} {c' k:Nat} (h:TwoI w0 w M i gt first v xa xb A1 n1 c1 D1 A2 n2 c2 D2 Q P) (hk:k=Q.length) (o:Own w' w0.heap.size 95 4 A' (n1+k) c' (udsC D1++udsC Q)) (g:w.grownBy w' (blk A1 c1)) (q:(A'=A1∧c'=c1)∨(blk A' c'=some w.heap.size∧Ext w w')) :
  TwoI w0 w' M i gt first v xa xb A' (n1+k) c' (D1++Q) A2 n2 c2 D2 [] P:=by
 obtain ⟨K,all,s,a,b,c,p,d,e⟩:=h.m
 have u:=grown_upd g
 refine ⟨⟨fun k=>K k∨(w.heap.size≤k∧k<w'.heap.size),all,s.app (k:=0) (A':=none) (c':=0) a (fun _ hk=>hk) g,a.app (fun _ hk => .inl hk) (fun _ h1 h2 => .inr ⟨h1,h2⟩) hk c o g q,(b.far a.own u fun k h1 h2=>h.ap k h2 h1).wide fun _ hk => .inl hk,fun x hx=>(nomatch hx),fun x hx=>((p x hx).far a.own u).wide fun _ hk => .inl hk,by rw [List.map_nil,List.append_nil,List.map_append];exact d,e⟩,fun j hj h2=>?_,h.ma,h.mb,h.ne,⟨by have:=h.nn.1;simp only [List.length_nil];omega,h.nn.2⟩⟩
 rcases q with ⟨rfl,rfl⟩ | ⟨r,_⟩
 ·exact h.ap j hj h2
 ·rw [r] at hj
  injection hj with hj
  have:=(b.own.lt j h2).2
  omega
end
open Go.RowKit
namespace UdS
theorem addV_split : ∀ (P R:List V) (x:V),(∀ y∈P,cmpV y x<0)→addV (P++R) x=P++addV R x
 | [],_,_,_=>rfl
 | y :: P,R,x,h=>by
  show (if cmpV y x<0 then y :: addV (P++R) x else _)=_
  rw [if_pos (h y (List.mem_cons_self ..)),addV_split P R x (fun z hz=>h z (List.mem_cons_of_mem _ hz))]
  rfl
theorem addV_eq (y x:V) (R:List V) (h:cmpV y x=0):addV (y :: R) x=(y.1,w64 (y.2+x.2)) :: R:=by
 show (if cmpV y x<0 then _ else if cmpV y x=0 then _ else _)=_
 rw [if_neg (by omega),if_pos h]
theorem addV_gt (y x:V) (R:List V) (h:0<cmpV y x):addV (y :: R) x=x :: y :: R:=by
 show (if cmpV y x<0 then _ else if cmpV y x=0 then _ else _)=_
 rw [if_neg (by omega),if_neg (by omega)]
theorem addV_len : ∀ (R:List V) (x:V),(addV R x).length≤R.length+1
 | [],_=>Nat.le_refl _
 | y :: R,x=>by
  unfold addV
  split
  ·rw [List.length_cons,List.length_cons];have:=addV_len R x;omega
  ·split
   ·rw [List.length_cons,List.length_cons];omega
   ·rw [List.length_cons,List.length_cons];omega
/-- strictly sorted -/
def Srt (L:List Ud):Prop:=L.Pairwise fun a b=>kcmp a.k b.k<0
theorem Srt.of {L:List Ud} (h:(L.map Ud.uv).Pairwise fun a b=>cmpV a b<0):Srt L:=List.pairwise_map.1 h
theorem Srt.below {L:List Ud} (h:Srt L) {k:Nat} (hk:k<L.length) {x:Ud} (hx:kcmp (L.getD k Ud.zero).k x.k≤0) : ∀ z∈L.take k,kcmp z.k x.k<0:=fun z hz=>by
 have hp:Srt (L.take (k+1)):=List.Pairwise.sublist (List.take_sublist _ _) h
 rw [takeU hk] at hp
 exact kcmp_tot.lt_of_lt_le ((List.pairwise_append.1 hp).2.2 z hz _ (by simp)) hx
end UdS
open Go.RowKit
set_option maxRecDepth 100000 in
set_option maxHeartbeats 400000 in
theorem rleq_diff (e1 e2:Int) (A1 A2:Option Addr) (n1 n2 c1 c2:Nat) (w:World) (hne:((n1:Int) != (n2:Int))=true) :
  Calls Tryz.prog 119 #[.agg #[.int .u64 e1, .slice A1 n1 c1], .agg #[.int .u64 e2, .slice A2 n2 c2]] w fun e w'=>e = .returned (.bool false)∧Ext w w':=by
 go_enter Tryz.func119,Tryz.ntmps119
 go_wp2
 go_ret
 exact ⟨rfl,((Ext.refl w).alloc _).alloc _⟩
set_option maxRecDepth 100000 in
set_option maxHeartbeats 400000 in
theorem rleq_late (e1 e2:Int) (A1 A2:Option Addr) (n c1 c2:Nat) (w:World) (hlt:e2<e1) :
  Calls Tryz.prog 119 #[.agg #[.int .u64 e1, .slice A1 n c1], .agg #[.int .u64 e2, .slice A2 n c2]] w fun e w'=>e = .returned (.bool false)∧Ext w w':=by
 have he:((n:Int) != (n:Int))=false:=by simp
 go_enter Tryz.func119,Tryz.ntmps119
 go_wp2
 go_ret
 exact ⟨rfl,((Ext.refl w).alloc _).alloc _⟩
set_option maxRecDepth 100000 in
set_option maxHeartbeats 400000 in
theorem rleq_same (e1 e2:Int) (A1 A2:Option Addr) (n c1 c2:Nat) (l1 l2:List Int) (w:World) (h1:Sl w 1 A1 n c1 (wds l1)) (h2:Sl w 1 A2 n c2 (wds l2)) (hle:e1≤e2) :
  Calls Tryz.prog 119 #[.agg #[.int .u64 e1, .slice A1 n c1], .agg #[.int .u64 e2, .slice A2 n c2]] w fun e w'=>e = .returned (.bool (decide (∀ k,k<n→l1.getD k 0≤l2.getD k 0)))∧Ext w w':=by
 have hm:=h1.le
 have he:((n:Int) != (n:Int))=false:=by simp
 go_enter Tryz.func119,Tryz.ntmps119
 go_wp2
 obtain ⟨w0,hw0⟩ : ∃ w0,w0=(w.alloc (Obj.cells #[Value.int IntKind.u64 e1,Value.slice A1 n c1] 26)).alloc (Obj.cells #[Value.int IntKind.u64 e2,Value.slice A2 n c2] 26):=⟨_,rfl⟩
 have e0:Ext w w0:=hw0 ▸ ((Ext.refl w).alloc _).alloc _
 have b1:w0.cell? ⟨w.heap.size,1,none⟩=some (Value.slice A1 n c1):=by subst hw0;go_simp
 have b2:w0.cell? ⟨w.heap.size+1,1,none⟩=some (Value.slice A2 n c2):=by subst hw0;go_simp
 rw [← hw0]
 clear hw0
 go_loopw [5] (fun v wr => ∃ k:Nat,k≤n∧v = .int .i64 k∧(∀ j,j<k→l1.getD j 0≤l2.getD j 0) ∧ ∃ m,wr=w0.drewN m) (fun v _=>n - (intOf v).toNat)
 case atStart=>exact ⟨0,Nat.zero_le _,rfl,fun j hj=>absurd hj (by omega),0,rfl⟩
 case round =>
  obtain ⟨k,hk,rfl,hall,m,rfl⟩:=hrel
  have H:=Lib.hid hall
  clear hall
  by_cases hlt:k<n
  ·obtain ⟨a1,ha1,hc1,_⟩:=(h1.ext e0).word hlt
   obtain ⟨a2,ha2,hc2,_⟩:=(h2.ext e0).word hlt
   go_wp2
   go_quiet (fail)
   go_wp2
   ·have hv:l2[k]?.getD 0<l1[k]?.getD 0:=by assumption
    go_ret
    refine ⟨ret_bool (Eq.symm (decide_eq_false fun hh=>?_)),(e0.drewN _).drewN _⟩
    have:=hh k hlt
    simp only [List.getD_eq_getElem?_getD] at this
    omega
   ·have hv:l1[k]?.getD 0≤l2[k]?.getD 0:=by assumption
    go_roundw
    case rel =>
     refine ⟨k+1,by omega,by go_num,fun j hj=>?_,_,rfl⟩
     by_cases hjk:j<k
     ·exact H.out j hjk
     ·obtain rfl:j=k:=by omega
      simpa only [List.getD_eq_getElem?_getD] using hv
    case measure=>simp [intOf];omega
  ·go_wp2
   go_ret
   refine ⟨ret_bool (Eq.symm (decide_eq_true fun j hj=>H.out j (by omega))),e0.drewN _⟩

theorem rleq_any (e1 e2:Int) (A1 A2:Option Addr) (n1 n2 c1 c2:Nat) (l1 l2:List Int) (w:World) (h1:Sl w 1 A1 n1 c1 (wds l1)) (h2:Sl w 1 A2 n2 c2 (wds l2)) :
  Calls Tryz.prog 119 #[.agg #[.int .u64 e1, .slice A1 n1 c1], .agg #[.int .u64 e2, .slice A2 n2 c2]] w fun e w'=>e = .returned (.bool (leqT e1 l1 e2 l2))∧Ext w w':=by
 have hl1:=h1.wlen
 have hl2:=h2.wlen
 by_cases hn:n1=n2
 ·subst hn
  by_cases hlt:e2<e1
  ·have hf:leqT e1 l1 e2 l2=false:=decide_eq_false fun hh=>by have:=hh.2.1;omega
   rw [hf];exact rleq_late e1 e2 A1 A2 n1 c1 c2 w hlt
  ·refine (rleq_same e1 e2 A1 A2 n1 c1 c2 l1 l2 w h1 h2 (by omega)).mono fun e w' ⟨he,hx⟩=>⟨he.trans (ret_bool ?_),hx⟩
   unfold leqT
   rw [decide_eq_decide,hl1,hl2]
   exact ⟨fun h=>⟨rfl,by omega,h⟩,fun h=>h.2.2⟩
 ·have hf:leqT e1 l1 e2 l2=false:=decide_eq_false fun hh=>by have:=hh.1;omega
  rw [hf]
  exact rleq_diff e1 e2 A1 A2 n1 n2 c1 c2 w (by simp;omega)
open Go.RowKit
open Go.RowKit
end Go.Proofs.YtdgbkpoickbidaaGreatDoor
