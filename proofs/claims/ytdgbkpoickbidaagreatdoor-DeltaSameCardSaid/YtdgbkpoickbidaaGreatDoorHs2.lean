/- Rows in memory: a slice of data, read. Append with room; slices just built. Slices of bytes that a call owns; made a string. row.put, key: the bytes of data, of rows. row.Check: what it answers of any row. row.key, Encode: the bytes of rows that may be. row.Cmp: what it answers of any two rows. The plain law of a stable sort. The plain law of DatumOrder: the order of texts, of data. Rows with counts in memory. The plain law of a row's bytes: they compare as rows do. What comes in at chapter 02: rows. What comes in: times, lists of counters, integers. Conditions: each theorem states its own. -/
import Derived.Test.YtdgbkpoickbidaaGreatDoorHs1
import Derived.Test.YtdgbkpoickbidaaGreatDoorProg
import Derived.Lib.Builder
import Derived.Lib.AppendStr
import Derived.OwnWalk
import Derived.Laws.BytesString
import Derived.Laws.Cells
import Derived.Laws.Concat
namespace Go.Proofs.YtdgbkpoickbidaaGreatDoor
open Go.RowKit

/-- a datum's four cells -/
def datC (d:Dat):List Value:=[.int .u8 d.k, .bool d.b, .int .i64 d.n, .string d.s]
def rowC (l:List Dat):List Value:=l.flatMap datC
/-- the slice '.slice A l.length c' reads as the row l -/
def Rw (w:World) (A:Option Addr) (c:Nat) (l:List Dat):Prop:=Sl w 4 A l.length c (rowC l)
theorem rowC_len (l:List Dat):(rowC l).length=l.length * 4:=by
 unfold rowC
 induction l with
 | nil=>rfl
 | cons d l ih=>rw [List.flatMap_cons,List.length_append,ih,List.length_cons,show (datC d).length=4 from rfl];omega
theorem rowC_at : ∀ (l:List Dat) (i j:Nat),i<l.length→j<4→(rowC l)[i * 4+j]?=(datC (l.getD i Dat.zero))[j]?
 | [],i,j,h,_=>absurd h (Nat.not_lt_zero _)
 | d :: l,0,j,_,hj=>by
  unfold rowC
  rw [List.flatMap_cons,Nat.zero_mul,Nat.zero_add,List.getElem?_append_left (by rw [show (datC d).length=4 from rfl];exact hj)]
  rfl
 | d :: l,i+1,j,h,hj=>by
  unfold rowC
  rw [List.flatMap_cons,List.getElem?_append_right (by rw [show (datC d).length=4 from rfl];omega),show (i+1) * 4+j - (datC d).length=i * 4+j by rw [show (datC d).length=4 from rfl];omega]
  exact rowC_at l i j (Nat.lt_of_succ_lt_succ h) hj
theorem rowC_one (l:List Dat) : ∀ u∈rowC l,u.oneCell'=true:=by
 intro u hu
 obtain ⟨d,_,h⟩:=List.mem_flatMap.1 hu
 simp only [datC,List.mem_cons,List.not_mem_nil,or_false] at h
 rcases h with rfl | rfl | rfl | rfl<;>rfl
section
variable {w w':World} {A:Option Addr} {c:Nat} {l:List Dat}
theorem Rw.ext (h:Rw w A c l) (x:Ext w w'):Rw w' A c l:=Sl.ext h x
theorem Rw.le (h:Rw w A c l):l.length≤9223372036854775807:=Sl.le h
theorem Rw.nil (w:World):Rw w none 0 []:=Sl.nil w 4
/-- an element's address, and the addresses of its fields, as the walk spells them -/
theorem add_fld (ad:Addr) (i j:Nat) (hj:j≠0):ad.add (i+j)=⟨(ad.add i).block,(ad.add i).off+j,none⟩:=by
 rw [← add_add']
 generalize ad.add i=x
 unfold Addr.add
 rw [if_neg hj]
/-- the four cells of one of its data -/
theorem Rw.at (h:Rw w A c l) {i:Nat} (hi:i<l.length) : ∃ ad,A=some ad∧w.cell? (ad.add (i * 4))=some (.int .u8 (l.getD i Dat.zero).k)∧w.cell? ⟨(ad.add (i * 4)).block,(ad.add (i * 4)).off+1,none⟩=some (.bool (l.getD i Dat.zero).b) ∧
  w.cell? ⟨(ad.add (i * 4)).block,(ad.add (i * 4)).off+2,none⟩=some (.int .i64 (l.getD i Dat.zero).n)∧w.cell? ⟨(ad.add (i * 4)).block,(ad.add (i * 4)).off+3,none⟩=some (.string (l.getD i Dat.zero).s):=by
 obtain ⟨ad,e,hc⟩:=h.2.2.2.2 (by omega)
 refine ⟨ad,e,hc _ _ (by rw [← Nat.add_zero (i * 4),rowC_at l i 0 hi (by omega)];rfl),?_,?_,?_⟩
 ·rw [← add_fld ad _ 1 (by decide)];exact hc _ _ (by rw [rowC_at l i 1 hi (by omega)];rfl)
 ·rw [← add_fld ad _ 2 (by decide)];exact hc _ _ (by rw [rowC_at l i 2 hi (by omega)];rfl)
 ·rw [← add_fld ad _ 3 (by decide)];exact hc _ _ (by rw [rowC_at l i 3 hi (by omega)];rfl)
end
open Go.RowKit
theorem run_append_stay {P:Program} (w:World) {t ty e size bytes:Nat} {z:Value} (E:Elem P t e size bytes z) (base g n c0:Nat) (xs:List Value) (hown:Own w base e size (some ⟨g,0,none⟩) n c0 xs) (hc:0<c0)
  (ad:Addr) (m c:Nat) (news:List Value) (hr:Sl w size (some ad) m c news) (hm:0<m) (h1 : ∀ u∈news,u.oneCell'=true) (hroom:n+m≤c0) :
  ∃ w',(Builtin.append_ #[t,t] ty #[.slice (some ⟨g,0,none⟩) n c0, .slice (some ad) m c]).run P w = .ok (.slice (some ⟨g,0,none⟩) (n+m) c0) w'∧Own w' base e size (some ⟨g,0,none⟩) (n+m) c0 (xs++news)∧w.grownBy w' (some g):=by
 obtain ⟨i,hi,hz,hs,hby⟩:=info_parts E.info
 obtain ⟨ad',e1,hcells⟩:=hr.2.2.2.2 hm
 cases e1
 rcases hown.2 with ⟨h2,_⟩ | ⟨g',cur,e2,hb,hg,hnc,hcm,hcs,htake⟩
 ·omega
 ·cases e2
  have hlen:(xs++news).length=(n+m) * size:=by rw [List.length_append,hown.1,hr.1,Nat.add_mul]
  have hfit:n * i.size+news.length≤cur.size:=by rw [hr.1,hs, ← Nat.add_mul];exact Nat.le_trans (Nat.mul_le_mul_right _ hroom) hcs
  have hr2:=run_append_room (P:=P) w t ty e i E.under hi g n c0 cur hg ad m c news (by rw [hs];exact hr.1) hcells h1 hroom hfit
  refine ⟨_,hr2,⟨hlen, .inr ⟨g,_,rfl,hb,setRow_heap w g cur _ e _ hg,hroom,hcm,?_,?_⟩⟩,⟨rfl,rfl,rfl,by simp,fun k _ hk=>setRow_other w g k _ (fun e'=>hk (by rw [e']))⟩⟩
  ·simp only [List.size_toArray,List.length_append,List.length_take,List.length_drop,Array.length_toList]
   omega
  ·rw [hs,htake, ← hlen]
   exact List.take_left
theorem cells_at (w:World) (t:TypeId) (cs:Array Value) (j:Nat) (u:Value) (h:cs.toList[j]?=some u):(w.alloc (.cells cs t)).cell? ((⟨w.heap.size,0,none⟩:Addr).add j)=some u:=by
 rw [show (⟨w.heap.size,0,none⟩:Addr).add j=⟨w.heap.size,j,none⟩ by unfold Addr.add;split<;>simp_all,(Bk.new w t cs).cell, ← Array.getElem?_toList]
 exact h
theorem sl_alloc (w:World) (t:TypeId) (cs:Array Value) (xs:List Value) (size n:Nat) (hc:cs.toList=xs) (hl:xs.length=n * size) (hn:n≤1000):Sl (w.alloc (.cells cs t)) size (some ⟨w.heap.size,0,none⟩) n n xs :=
 ⟨hl,Nat.le_refl _,by unfold maxLen;omega,(fun h=>nomatch h),fun _=>⟨_,rfl,fun j x hx=>cells_at w t cs j x (by rw [hc];exact hx)⟩⟩
open Go.RowKit
theorem under_bytes:Tryz.prog.underlying 226=some (.slice 5):=by kernel_rfl
theorem under_string:Tryz.prog.underlying 9=some .string:=by kernel_rfl

theorem cells_append (l m:List UInt8):Lib.byteCells (l++m)=Lib.byteCells l++Lib.byteCells m:=by simp [Lib.byteCells]

theorem push_all' : ∀ (ns:List Int) (r:ByteArray),ns.foldl (fun r n=>r.push (UInt8.ofNat n.toNat)) r=⟨(r.data.toList++ns.map fun n=>UInt8.ofNat n.toNat).toArray⟩
 | [],r=>by simp
 | n :: ns,r=>by
  rw [List.foldl_cons,push_all' ns]
  simp
/-- '[]byte' made a string -/
theorem conv_bk {w:World} {t:TypeId} {cs:Array Value} {g:Nat} (hb:Bk w g t cs) (off n cap:Nat) (ns:List Int) (h:(cs.toList.drop off).take n=ns.map (Value.int .u8)) (hn:ns.length=n) :
  Sem.run Tryz.prog (convert 226 9 (.slice (some ⟨g,off,none⟩) n cap)) w = .ok (.string ⟨(ns.map fun n=>UInt8.ofNat n.toNat).toArray⟩) w:=by
 rw [run_convert_bytes_string _ _ _ _ _ _ _ under_bytes Tryz.underlying5 under_string]
 have hl:(ns.map (Value.int .u8)).length=n:=by simpa using hn
 have hr:=run_loadCells_list (P:=Tryz.prog) (w:=w) ⟨g,off,none⟩ (ns.map (Value.int .u8)) (fun j v hj=>by
  rw [show (⟨g,off,none⟩:Addr).add j=⟨g,off+j,none⟩ by unfold Addr.add;split<;>simp_all,hb.cell, ← Array.getElem?_toList]
  rw [← h,List.getElem?_take] at hj
  split at hj
  ·rw [List.getElem?_drop] at hj;exact hj
  ·cases hj)
 rw [hl] at hr
 rw [run_bytesToString _ _ _ _ ns hr,push_all']
 rfl
theorem back_bytes : ∀ l:List UInt8,l.map ((fun n:Int=>UInt8.ofNat n.toNat) ∘ fun b:UInt8=>(b.toNat:Int))=l
 | []=>rfl
 | b :: l=>by rw [List.map_cons,back_bytes l];simp
/-! ### bytes that are appended, by the law that says where they lie -/
theorem elem_byte:Elem Tryz.prog 226 5 1 1 (.int .u8 0):=⟨by kernel_rfl,by kernel_rfl,rfl,by decide⟩
/-- the slice '.slice A n c' owns the bytes xs, in blocks from B on -/
def OwnB (w:World) (B:Nat) (A:Option Addr) (n c:Nat) (xs:List UInt8):Prop:=Own w B 5 1 A n c (Lib.byteCells xs)∧B≤w.heap.size
section
variable {w w':World} {B n c:Nat} {A:Option Addr} {xs:List UInt8}
theorem OwnB.nil (w:World) {B:Nat} (h:B≤w.heap.size):OwnB w B none 0 0 []:=⟨Own.nil w B _ 1,h⟩
theorem OwnB.len (h:OwnB w B A n c xs):n=xs.length:=by
 have:=h.1.1
 rw [Lib.byteCells_length] at this
 omega
theorem OwnB.ext (h:OwnB w B A n c xs) (x:Ext w w'):OwnB w' B A n c xs:=⟨h.1.ext x,Nat.le_trans h.2 x.size⟩
theorem OwnB.alloc (h:OwnB w B A n c xs) (o:Obj):OwnB (w.alloc o) B A n c xs:=h.ext ((Ext.refl w).alloc o)
theorem OwnB.le (h:OwnB w B A n c xs):n≤9223372036854775807:=by have:=h.1.le;omega
theorem OwnB.mono {B':Nat} (h:OwnB w B A n c xs) (hb:B'≤B):OwnB w B' A n c xs:=⟨h.1.mono hb,Nat.le_trans hb h.2⟩
/-- it lies in no block that is new -/
theorem OwnB.ne (h:OwnB w B A n c xs) {g:Nat} (hg:w.heap.size≤g):blk A c≠some g:=fun e=>by have:=(h.1.lt g e).2;omega
theorem bytes_oneCell (ys:List UInt8) : ∀ u∈Lib.byteCells ys,u.oneCell'=true:=by
 intro u hu
 obtain ⟨y,_,rfl⟩:=List.mem_map.1 hu
 rfl
theorem sl_new (w:World) {t:TypeId} {cs:Array Value} {ys:List UInt8} {m:Nat} (hc:cs.toList=Lib.byteCells ys) (hm:ys.length=m) (hb:m≤140737488355328):Sl (w.alloc (.cells cs t)) 1 (some ⟨w.heap.size,0,none⟩) m m (Lib.byteCells ys) :=
 ⟨by rw [Lib.byteCells_length];omega,Nat.le_refl _,by unfold maxLen;omega,(fun h=>nomatch h),fun _=>⟨_,rfl,fun j u hu=>cells_at w t cs j u (by rw [hc];exact hu)⟩⟩
theorem put_bytes {ops:Array Oper} {rest:List Oper} {o:Oper} {a:Act} {Q:Exit→Act→World→Prop} (ys:List UInt8) {cs:Array Value} {m ad:Nat} (hgd:o.guard=none) (s x:Operand)
  (ho:o.op = .call { callee := .builtin .append,args := #[s,x],argTypes := #[226,226] }) (h:OwnB w B A n c xs) (hs:a.eval s = .slice A n c) (hx:a.eval x = .slice (some ⟨ad,0,none⟩) m m) (had:ad=w.heap.size) (hm:ys.length=m) (hc:cs.toList=Lib.byteCells ys)
  (hb:n+m≤140737488355328)
  (k : ∀ A' n' c' w2,OwnB w2 B A' n' c' (xs++ys)→n'=n+m→w.heap.size≤w2.heap.size→Below B w w2→(∀ g,g<w.heap.size→blk A c≠some g→blk A' c'≠some g∧w2.heap[g]?=w.heap[g]?)→wpList Tryz.prog ops Q rest (a.put o.dst (.slice A' n' c')) w2) :
  wpList Tryz.prog ops Q (o :: rest) a (w.alloc (.cells cs 5)):=by
 subst had
 have x1:Ext w (w.alloc (.cells cs 5)):=(Ext.refl w).alloc _
 have hx1:w.heap.size+1=(w.alloc (.cells cs 5)).heap.size:=by simp
 refine wpList_append_two _ elem_byte B s x ho hgd A n c _ hs (h.1.alloc _) _ m m _ hx (sl_new w hc hm (by omega)) (bytes_oneCell ys) (by rw [Nat.mul_one];exact hb) (by decide) (Nat.le_trans h.2 x1.size) ?_
 intro A' c' w2 h2 h3 h4
 have hsz:w.heap.size≤w2.heap.size:=Nat.le_trans x1.size h3.size
 have hbel:Below B w w2:=Below.grown (Below.mono x1 h.2) h3 (Nat.le_trans h.2 x1.size) (fun g hg=>(h.1.lt g hg).1)
 refine k A' (n+m) c' w2 ⟨by rw [cells_append];exact h2,Nat.le_trans h.2 hsz⟩ rfl hsz hbel (fun g hg hne=>⟨?_,?_⟩)
 ·rcases h4 with ⟨rfl,rfl⟩ | ⟨h5,_⟩
  ·exact hne
  ·rw [h5, ← hx1]
   intro e
   injection e with e
   omega
 ·rw [h3.block g (by omega) (Ne.symm hne)]
  exact x1.block g hg
end
open Go.RowKit
def be8 (m:Nat):List UInt8:=[UInt8.ofNat (m / 2 ^ 56),UInt8.ofNat (m / 2 ^ 48),UInt8.ofNat (m / 2 ^ 40),UInt8.ofNat (m / 2 ^ 32),UInt8.ofNat (m / 2 ^ 24),UInt8.ofNat (m / 2 ^ 16),UInt8.ofNat (m / 2 ^ 8),UInt8.ofNat m]
def escZ (c:UInt8):List UInt8:=if c=0 then [0,255] else [c]
/-- a datum's bytes -/
def putT (d:Dat):List UInt8 :=
 if d.k=1 then [16] else if d.k=2 then [if d.b then 33 else 32] else if d.k=3 then 48 :: be8 (d.n+9223372036854775808).toNat else if d.k=4 then 64 :: (d.s.data.toList.flatMap escZ++[0,1]) else []
def rkeyT (l:List Dat):List UInt8:=l.flatMap putT
/-- bytes that a call hands back, in blocks from B on -/
def PutOut (w:World) (B:Nat) (r:List UInt8) (e:Ending) (w':World):Prop := ∃ A n c,e = .returned (.slice A n c)∧OwnB w' B A n c r∧Below B w w'
section
variable (k n:Int) (b:Bool) (s:ByteArray) (A:Option Addr) (m c B:Nat) (xs:List UInt8) (w:World)
set_option maxRecDepth 100000 in
set_option maxHeartbeats 1000000 in
theorem put_null (h:OwnB w B A m c xs) (hm:m≤100000000000000):Calls Tryz.prog 224 #[.slice A m c, .agg #[.int .u8 1, .bool b, .int .i64 n, .string s]] w (PutOut w B (xs++[16])):=by
 have HB:=Lib.hid h.2
 have HO:=Lib.hid (h.alloc (.cells #[.int .u8 1, .bool b, .int .i64 n, .string s] 204))
 clear h
 go_enter Tryz.func224,Tryz.ntmps224
 go_wp2_with (at_builtin;refine put_bytes [16] rfl _ _ rfl HO.out rfl rfl (by first | rfl | simp) rfl rfl (by omega) ?_;intro A2 n2 c2 w2 o2 hn hz hbel hne;have O2:=Lib.hid o2;clear o2 hn hne)
 go_ret
 exact ⟨A2,n2,c2,rfl,O2.out,((Below.refl B w).alloc HB.out _).trans hbel⟩
set_option maxRecDepth 100000 in
set_option maxHeartbeats 1000000 in
theorem put_bool (h:OwnB w B A m c xs) (hm:m≤100000000000000):Calls Tryz.prog 224 #[.slice A m c, .agg #[.int .u8 2, .bool b, .int .i64 n, .string s]] w (PutOut w B (xs++[if b then 33 else 32])):=by
 have HB:=Lib.hid h.2
 have HO:=Lib.hid (h.alloc (.cells #[.int .u8 2, .bool b, .int .i64 n, .string s] 204))
 clear h
 cases b
 ·go_enter Tryz.func224,Tryz.ntmps224
  go_wp2_with (at_builtin;refine put_bytes [32] rfl _ _ rfl HO.out rfl rfl (by first | rfl | simp) rfl rfl (by omega) ?_;intro A2 n2 c2 w2 o2 hn hz hbel hne;have O2:=Lib.hid o2;clear o2 hn hne)
  go_ret
  exact ⟨A2,n2,c2,rfl,O2.out,((Below.refl B w).alloc HB.out _).trans hbel⟩
 ·go_enter Tryz.func224,Tryz.ntmps224
  go_wp2_with (at_builtin;refine put_bytes [33] rfl _ _ rfl HO.out rfl rfl (by first | rfl | simp) rfl rfl (by omega) ?_;intro A2 n2 c2 w2 o2 hn hz hbel hne;have O2:=Lib.hid o2;clear o2 hn hne)
  go_ret
  exact ⟨A2,n2,c2,rfl,O2.out,((Below.refl B w).alloc HB.out _).trans hbel⟩
set_option maxRecDepth 100000 in
set_option maxHeartbeats 1000000 in
theorem put_none (h1 : ¬ k=1) (h2 : ¬ k=2) (h3 : ¬ k=3) (h4 : ¬ k=4) (h:OwnB w B A m c xs):Calls Tryz.prog 224 #[.slice A m c, .agg #[.int .u8 k, .bool b, .int .i64 n, .string s]] w (PutOut w B xs):=by
 have HB:=Lib.hid h.2
 have HO:=Lib.hid (h.alloc (.cells #[.int .u8 k, .bool b, .int .i64 n, .string s] 204))
 have z1:(k==1)=false:=by simpa using h1
 have z2:(k==2)=false:=by simpa using h2
 have z3:(k==3)=false:=by simpa using h3
 have z4:(k==4)=false:=by simpa using h4
 clear h
 go_enter Tryz.func224,Tryz.ntmps224
 go_wp2
 go_ret
 exact ⟨A,m,c,rfl,HO.out,(Below.refl B w).alloc HB.out _⟩
set_option maxRecDepth 100000 in
set_option maxHeartbeats 8000000 in
theorem put_int (hn : -9223372036854775808≤n∧n≤9223372036854775807) (h:OwnB w B A m c xs) (hm:m≤100000000000000):Calls Tryz.prog 224 #[.slice A m c, .agg #[.int .u8 3, .bool b, .int .i64 n, .string s]] w (PutOut w B (xs++48 :: be8 (n+9223372036854775808).toNat)):=by
 have HB:=Lib.hid h.2
 have HO:=Lib.hid (h.alloc (.cells #[.int .u8 3, .bool b, .int .i64 n, .string s] 204))
 have b0:Bk (w.alloc (.cells #[.int .u8 3, .bool b, .int .i64 n, .string s] 204)) w.heap.size 204 #[.int .u8 3, .bool b, .int .i64 n, .string s]:=Bk.new _ _ _
 have N0:=Lib.hid (h.ne (Nat.le_refl _))
 clear h
 obtain ⟨u,hu⟩ : ∃ u,IntKind.u64.wrap n=u:=⟨_,rfl⟩
 obtain ⟨M,hM⟩ : ∃ M,(n+9223372036854775808).toNat=M:=⟨_,rfl⟩
 have q1:IntKind.u64.wrap (u+9223372036854775808)=(M:Int):=by
  rw [← hu,IntKind.wrap_u64,IntKind.wrap_u64]
  omega
 have hM64:M<18446744073709551616:=by omega
 obtain ⟨y0,hy0⟩ : ∃ y:UInt8,UInt8.ofNat (M / 2 ^ 56)=y:=⟨_,rfl⟩
 have w100:(M:Int) / 72057594037927936=(y0.toNat:Int):=by rw [← hy0,UInt8.toNat_ofNat'];omega
 have HY0:=Lib.hid hy0
 clear hy0
 obtain ⟨y1,hy1⟩ : ∃ y:UInt8,UInt8.ofNat (M / 2 ^ 48)=y:=⟨_,rfl⟩
 have w101:IntKind.u8.wrap ((M:Int) / 281474976710656)=(y1.toNat:Int):=by rw [← hy1,UInt8.toNat_ofNat',IntKind.wrap_u8];omega
 have HY1:=Lib.hid hy1
 clear hy1
 obtain ⟨y2,hy2⟩ : ∃ y:UInt8,UInt8.ofNat (M / 2 ^ 40)=y:=⟨_,rfl⟩
 have w102:IntKind.u8.wrap ((M:Int) / 1099511627776)=(y2.toNat:Int):=by rw [← hy2,UInt8.toNat_ofNat',IntKind.wrap_u8];omega
 have HY2:=Lib.hid hy2
 clear hy2
 obtain ⟨y3,hy3⟩ : ∃ y:UInt8,UInt8.ofNat (M / 2 ^ 32)=y:=⟨_,rfl⟩
 have w103:IntKind.u8.wrap ((M:Int) / 4294967296)=(y3.toNat:Int):=by rw [← hy3,UInt8.toNat_ofNat',IntKind.wrap_u8];omega
 have HY3:=Lib.hid hy3
 clear hy3
 obtain ⟨y4,hy4⟩ : ∃ y:UInt8,UInt8.ofNat (M / 2 ^ 24)=y:=⟨_,rfl⟩
 have w104:IntKind.u8.wrap ((M:Int) / 16777216)=(y4.toNat:Int):=by rw [← hy4,UInt8.toNat_ofNat',IntKind.wrap_u8];omega
 have HY4:=Lib.hid hy4
 clear hy4
 obtain ⟨y5,hy5⟩ : ∃ y:UInt8,UInt8.ofNat (M / 2 ^ 16)=y:=⟨_,rfl⟩
 have w105:IntKind.u8.wrap ((M:Int) / 65536)=(y5.toNat:Int):=by rw [← hy5,UInt8.toNat_ofNat',IntKind.wrap_u8];omega
 have HY5:=Lib.hid hy5
 clear hy5
 obtain ⟨y6,hy6⟩ : ∃ y:UInt8,UInt8.ofNat (M / 2 ^ 8)=y:=⟨_,rfl⟩
 have w106:IntKind.u8.wrap ((M:Int) / 256)=(y6.toNat:Int):=by rw [← hy6,UInt8.toNat_ofNat',IntKind.wrap_u8];omega
 have HY6:=Lib.hid hy6
 clear hy6
 obtain ⟨y7,hy7⟩ : ∃ y:UInt8,UInt8.ofNat (M)=y:=⟨_,rfl⟩
 have w107:IntKind.u8.wrap ((M:Int))=(y7.toNat:Int):=by rw [← hy7,UInt8.toNat_ofNat',IntKind.wrap_u8];omega
 have HY7:=Lib.hid hy7
 clear hy7
 rw [hM]
 have HBE:Hid (be8 M=[y0,y1,y2,y3,y4,y5,y6,y7]):=Lib.hid (by unfold be8;rw [HY0.out,HY1.out,HY2.out,HY3.out,HY4.out,HY5.out,HY6.out,HY7.out])
 rw [HBE.out]
 clear hM hn HBE HY0 HY1 HY2 HY3 HY4 HY5 HY6 HY7
 go_enter Tryz.func224,Tryz.ntmps224
 go_wp2_with (at_builtin;refine put_bytes [48] rfl _ _ rfl HO.out rfl rfl (by first | rfl | simp) rfl rfl (by omega) ?_;intro A1 n1 c1 w1 o1 hn1 hz1 hbel1 hne1;have O1:=Lib.hid o1;have b1:Bk w1 w.heap.size 204 #[.int .u8 3, .bool b, .int .i64 n, .string s]:=(hne1 w.heap.size (by first | omega | (simp;done) | (simp;omega)) N0.out).2.trans b0;have N1:=Lib.hid (hne1 w.heap.size (by first | omega | (simp;done) | (simp;omega)) N0.out).1;have L1:n1≤100000000000001:=(by omega);have S1:w.heap.size<w1.heap.size:=b1.lt;have X1:=Lib.hid (((Below.refl B w).alloc HB.out _).trans hbel1);have p1:w1.cell? ⟨w.heap.size,2,none⟩=some (.int .i64 n):=b1.cell 2;clear o1 hn1 hz1 hbel1 hne1)
 refine wp_loop_rounds 9 ?_
 rw [rounds_succ]
 go_wp2_with (at_builtin;refine put_bytes [y0] rfl _ _ rfl O1.out rfl rfl (by first | rfl | simp) rfl rfl (by omega) ?_;intro A2 n2 c2 w2 o2 hn2 hz2 hbel2 hne2;have O2:=Lib.hid o2;have b2:Bk w2 w.heap.size 204 #[.int .u8 3, .bool b, .int .i64 n, .string s]:=(hne2 w.heap.size (by first | omega | (simp;done) | (simp;omega)) N1.out).2.trans b1;have N2:=Lib.hid (hne2 w.heap.size (by first | omega | (simp;done) | (simp;omega)) N1.out).1;have L2:n2≤100000000000002:=(by omega);have S2:w.heap.size<w2.heap.size:=b2.lt;have X2:=Lib.hid (X1.out.trans hbel2);have p2:w2.cell? ⟨w.heap.size,2,none⟩=some (.int .i64 n):=b2.cell 2;clear o2 hn2 hz2 hbel2 hne2)
 rw [rounds_succ]
 go_wp2_with (at_builtin;refine put_bytes [y1] rfl _ _ rfl O2.out rfl rfl (by first | rfl | simp) rfl rfl (by omega) ?_;intro A3 n3 c3 w3 o3 hn3 hz3 hbel3 hne3;have O3:=Lib.hid o3;have b3:Bk w3 w.heap.size 204 #[.int .u8 3, .bool b, .int .i64 n, .string s]:=(hne3 w.heap.size (by first | omega | (simp;done) | (simp;omega)) N2.out).2.trans b2;have N3:=Lib.hid (hne3 w.heap.size (by first | omega | (simp;done) | (simp;omega)) N2.out).1;have L3:n3≤100000000000003:=(by omega);have S3:w.heap.size<w3.heap.size:=b3.lt;have X3:=Lib.hid (X2.out.trans hbel3);have p3:w3.cell? ⟨w.heap.size,2,none⟩=some (.int .i64 n):=b3.cell 2;clear o3 hn3 hz3 hbel3 hne3)
 rw [rounds_succ]
 go_wp2_with (at_builtin;refine put_bytes [y2] rfl _ _ rfl O3.out rfl rfl (by first | rfl | simp) rfl rfl (by omega) ?_;intro A4 n4 c4 w4 o4 hn4 hz4 hbel4 hne4;have O4:=Lib.hid o4;have b4:Bk w4 w.heap.size 204 #[.int .u8 3, .bool b, .int .i64 n, .string s]:=(hne4 w.heap.size (by first | omega | (simp;done) | (simp;omega)) N3.out).2.trans b3;have N4:=Lib.hid (hne4 w.heap.size (by first | omega | (simp;done) | (simp;omega)) N3.out).1;have L4:n4≤100000000000004:=(by omega);have S4:w.heap.size<w4.heap.size:=b4.lt;have X4:=Lib.hid (X3.out.trans hbel4);have p4:w4.cell? ⟨w.heap.size,2,none⟩=some (.int .i64 n):=b4.cell 2;clear o4 hn4 hz4 hbel4 hne4)
 rw [rounds_succ]
 go_wp2_with (at_builtin;refine put_bytes [y3] rfl _ _ rfl O4.out rfl rfl (by first | rfl | simp) rfl rfl (by omega) ?_;intro A5 n5 c5 w5 o5 hn5 hz5 hbel5 hne5;have O5:=Lib.hid o5;have b5:Bk w5 w.heap.size 204 #[.int .u8 3, .bool b, .int .i64 n, .string s]:=(hne5 w.heap.size (by first | omega | (simp;done) | (simp;omega)) N4.out).2.trans b4;have N5:=Lib.hid (hne5 w.heap.size (by first | omega | (simp;done) | (simp;omega)) N4.out).1;have L5:n5≤100000000000005:=(by omega);have S5:w.heap.size<w5.heap.size:=b5.lt;have X5:=Lib.hid (X4.out.trans hbel5);have p5:w5.cell? ⟨w.heap.size,2,none⟩=some (.int .i64 n):=b5.cell 2;clear o5 hn5 hz5 hbel5 hne5)
 rw [rounds_succ]
 go_wp2_with (at_builtin;refine put_bytes [y4] rfl _ _ rfl O5.out rfl rfl (by first | rfl | simp) rfl rfl (by omega) ?_;intro A6 n6 c6 w6 o6 hn6 hz6 hbel6 hne6;have O6:=Lib.hid o6;have b6:Bk w6 w.heap.size 204 #[.int .u8 3, .bool b, .int .i64 n, .string s]:=(hne6 w.heap.size (by first | omega | (simp;done) | (simp;omega)) N5.out).2.trans b5;have N6:=Lib.hid (hne6 w.heap.size (by first | omega | (simp;done) | (simp;omega)) N5.out).1;have L6:n6≤100000000000006:=(by omega);have S6:w.heap.size<w6.heap.size:=b6.lt;have X6:=Lib.hid (X5.out.trans hbel6);have p6:w6.cell? ⟨w.heap.size,2,none⟩=some (.int .i64 n):=b6.cell 2;clear o6 hn6 hz6 hbel6 hne6)
 rw [rounds_succ]
 go_wp2_with (at_builtin;refine put_bytes [y5] rfl _ _ rfl O6.out rfl rfl (by first | rfl | simp) rfl rfl (by omega) ?_;intro A7 n7 c7 w7 o7 hn7 hz7 hbel7 hne7;have O7:=Lib.hid o7;have b7:Bk w7 w.heap.size 204 #[.int .u8 3, .bool b, .int .i64 n, .string s]:=(hne7 w.heap.size (by first | omega | (simp;done) | (simp;omega)) N6.out).2.trans b6;have N7:=Lib.hid (hne7 w.heap.size (by first | omega | (simp;done) | (simp;omega)) N6.out).1;have L7:n7≤100000000000007:=(by omega);have S7:w.heap.size<w7.heap.size:=b7.lt;have X7:=Lib.hid (X6.out.trans hbel7);have p7:w7.cell? ⟨w.heap.size,2,none⟩=some (.int .i64 n):=b7.cell 2;clear o7 hn7 hz7 hbel7 hne7)
 rw [rounds_succ]
 go_wp2_with (at_builtin;refine put_bytes [y6] rfl _ _ rfl O7.out rfl rfl (by first | rfl | simp) rfl rfl (by omega) ?_;intro A8 n8 c8 w8 o8 hn8 hz8 hbel8 hne8;have O8:=Lib.hid o8;have b8:Bk w8 w.heap.size 204 #[.int .u8 3, .bool b, .int .i64 n, .string s]:=(hne8 w.heap.size (by first | omega | (simp;done) | (simp;omega)) N7.out).2.trans b7;have N8:=Lib.hid (hne8 w.heap.size (by first | omega | (simp;done) | (simp;omega)) N7.out).1;have L8:n8≤100000000000008:=(by omega);have S8:w.heap.size<w8.heap.size:=b8.lt;have X8:=Lib.hid (X7.out.trans hbel8);have p8:w8.cell? ⟨w.heap.size,2,none⟩=some (.int .i64 n):=b8.cell 2;clear o8 hn8 hz8 hbel8 hne8)
 rw [rounds_succ]
 go_wp2_with (at_builtin;refine put_bytes [y7] rfl _ _ rfl O8.out rfl rfl (by first | rfl | simp) rfl rfl (by omega) ?_;intro A9 n9 c9 w9 o9 hn9 hz9 hbel9 hne9;have O9:=Lib.hid o9;have b9:Bk w9 w.heap.size 204 #[.int .u8 3, .bool b, .int .i64 n, .string s]:=(hne9 w.heap.size (by first | omega | (simp;done) | (simp;omega)) N8.out).2.trans b8;have N9:=Lib.hid (hne9 w.heap.size (by first | omega | (simp;done) | (simp;omega)) N8.out).1;have L9:n9≤100000000000009:=(by omega);have S9:w.heap.size<w9.heap.size:=b9.lt;have X9:=Lib.hid (X8.out.trans hbel9);have p9:w9.cell? ⟨w.heap.size,2,none⟩=some (.int .i64 n):=b9.cell 2;clear o9 hn9 hz9 hbel9 hne9)
 rw [rounds_succ]
 go_wp2
 go_ret
 exact ⟨A9,n9,c9,rfl,by have:=O9.out;simp only [List.append_assoc,List.cons_append,List.nil_append] at this;exact this,X9.out⟩
theorem escZ_len (c:UInt8):(escZ c).length≤2:=by
 unfold escZ
 split
 ·exact Nat.le_refl _
 ·exact Nat.le_succ _
theorem escZ_flat_len (l:List UInt8):(l.flatMap escZ).length≤2 * l.length:=by
 induction l with
 | nil=>exact Nat.le_refl _
 | cons c l ih =>
  have:=escZ_len c
  rw [List.flatMap_cons,List.length_append,List.length_cons]
  omega
theorem takeZ {s:ByteArray} {k:Nat} (h:k<s.size):(s.data.toList.take (k+1)).flatMap escZ=(s.data.toList.take k).flatMap escZ++escZ s[k]:=by
 have h':k<s.data.toList.length:=by simpa using h
 have e:s.data.toList.take (k+1)=s.data.toList.take k++[s[k]]:=by rw [List.take_succ_eq_append_getElem h'];rfl
 rw [e,List.flatMap_append]
 simp
set_option maxRecDepth 100000 in
set_option maxHeartbeats 8000000 in
theorem put_text (hs:s.size≤10000000000000) (h:OwnB w B A m c xs) (hm:m≤100000000000000):Calls Tryz.prog 224 #[.slice A m c, .agg #[.int .u8 4, .bool b, .int .i64 n, .string s]] w (PutOut w B (xs++64 :: (s.data.toList.flatMap escZ++[0,1]))):=by
 have HB:=Lib.hid h.2
 have HO:=Lib.hid (h.alloc (.cells #[.int .u8 4, .bool b, .int .i64 n, .string s] 204))
 have b0:Bk (w.alloc (.cells #[.int .u8 4, .bool b, .int .i64 n, .string s] 204)) w.heap.size 204 #[.int .u8 4, .bool b, .int .i64 n, .string s]:=Bk.new _ _ _
 have N0:=Lib.hid (h.ne (Nat.le_refl _))
 have HLx:Hid (xs.length=m):=Lib.hid h.len.symm
 clear h
 go_enter Tryz.func224,Tryz.ntmps224
 go_wp2_with (at_builtin;refine put_bytes [64] rfl _ _ rfl HO.out rfl rfl (by first | rfl | simp) rfl rfl (by omega) ?_;intro A1 n1 c1 w1 o1 hn1 hz1 hbel1 hne1;have O1:=Lib.hid o1;have b1:Bk w1 w.heap.size 204 #[.int .u8 4, .bool b, .int .i64 n, .string s]:=(hne1 w.heap.size (by first | omega | (simp;done) | (simp;omega)) N0.out).2.trans b0;have N1:=Lib.hid (hne1 w.heap.size (by first | omega | (simp;done) | (simp;omega)) N0.out).1;have L1:n1≤100000000000001:=(by omega);have S1:w.heap.size<w1.heap.size:=b1.lt;have X1:=Lib.hid (((Below.refl B w).alloc HB.out _).trans hbel1);have p1:w1.cell? ⟨w.heap.size,3,none⟩=some (.string s):=b1.cell 3;clear o1 hn1 hz1 hbel1 hne1)
 go_loopw [0,52] (fun u v wr => ∃ (k n0 c0:Nat) (A0:Option Addr),k≤s.size∧v = .int .i64 k∧u = .slice A0 n0 c0∧Hid (OwnB wr B A0 n0 c0 (xs++64 :: (s.data.toList.take k).flatMap escZ))∧Bk wr w.heap.size 204 #[.int .u8 4, .bool b, .int .i64 n, .string s]∧Hid (blk A0 c0≠some w.heap.size)∧Hid (Below B w wr)) (fun _ v _=>s.size - (intOf v).toNat)
 case atStart=>exact ⟨0,n1,c1,A1,Nat.zero_le _,rfl,rfl,O1,b1,N1,X1⟩
 case round =>
  obtain ⟨k,n2,c2,A2,hk,rfl,rfl,O2,b2,N2,X2⟩:=hrel
  have L2:n2≤130000000000000:=by
   have h1:=O2.out.len
   have h2:=escZ_flat_len (s.data.toList.take k)
   have h3:(s.data.toList.take k).length≤k:=List.length_take_le _ _
   rw [List.length_append,HLx.out,List.length_cons] at h1
   omega
  have p2:wr.cell? ⟨w.heap.size,3,none⟩=some (.string s):=b2.cell 3
  have S2:w.heap.size<wr.heap.size:=b2.lt
  by_cases hlt:k<s.size
  ·have HT:=Lib.hid (takeZ hlt)
   by_cases hz:s[k].toNat=0
   ·have HE:Hid (escZ s[k]=[0,255]):=Lib.hid (by rw [show s[k]=0 from UInt8.toNat_inj.1 hz];rfl)
    have m1:True:=trivial
    go_wp2_with (first
     | (have z:=m1;clear z m1;at_builtin;refine put_bytes [0] rfl _ _ rfl O2.out rfl rfl (by first | rfl | simp) rfl rfl (by omega) ?_;intro A3 n3 c3 w3 o3 hn3 hz3 hbel3 hne3;have O3:=Lib.hid o3;have b3:Bk w3 w.heap.size 204 #[.int .u8 4, .bool b, .int .i64 n, .string s]:=(hne3 w.heap.size (by first | omega | (simp;done) | (simp;omega)) N2.out).2.trans b2;have N3:=Lib.hid (hne3 w.heap.size (by first | omega | (simp;done) | (simp;omega)) N2.out).1;have L3:n3≤130000000000001:=(by omega);have S3:w.heap.size<w3.heap.size:=b3.lt;have X3:=Lib.hid (X2.out.trans hbel3);have p3:w3.cell? ⟨w.heap.size,3,none⟩=some (.string s):=b3.cell 3;clear o3 hn3 hz3 hbel3 hne3;have m2:True:=trivial)
     | (have z:=m2;clear z m2;at_builtin;refine put_bytes [255] rfl _ _ rfl O3.out rfl rfl (by first | rfl | simp) rfl rfl (by omega) ?_;intro A4 n4 c4 w4 o4 hn4 hz4 hbel4 hne4;have O4:=Lib.hid o4;have b4:Bk w4 w.heap.size 204 #[.int .u8 4, .bool b, .int .i64 n, .string s]:=(hne4 w.heap.size (by first | omega | (simp;done) | (simp;omega)) N3.out).2.trans b3;have N4:=Lib.hid (hne4 w.heap.size (by first | omega | (simp;done) | (simp;omega)) N3.out).1;have L4:n4≤130000000000002:=(by omega);have S4:w.heap.size<w4.heap.size:=b4.lt;have X4:=Lib.hid (X3.out.trans hbel4);have p4:w4.cell? ⟨w.heap.size,3,none⟩=some (.string s):=b4.cell 3;clear o4 hn4 hz4 hbel4 hne4))
    go_roundw
    case rel=>exact ⟨k+1,n4,c4,A4,by omega,by go_num,rfl,Lib.hid (by have:=O4.out;rw [HT.out,HE.out];simp only [List.append_assoc,List.cons_append,List.nil_append] at this ⊢;exact this),b4,N4,X4⟩
    case measure=>simp [intOf];omega
   ·have z0:((s[k].toNat:Int)==0)=false:=by simp;omega
    have HE:Hid (escZ s[k]=[s[k]]):=Lib.hid (by unfold escZ;rw [if_neg (fun e=>hz (by rw [e];rfl))])
    go_wp2_with (at_builtin;refine put_bytes [s[k]] rfl _ _ rfl O2.out rfl rfl (by first | rfl | simp) rfl rfl (by omega) ?_;intro A3 n3 c3 w3 o3 hn3 hz3 hbel3 hne3;have O3:=Lib.hid o3;have b3:Bk w3 w.heap.size 204 #[.int .u8 4, .bool b, .int .i64 n, .string s]:=(hne3 w.heap.size (by first | omega | (simp;done) | (simp;omega)) N2.out).2.trans b2;have N3:=Lib.hid (hne3 w.heap.size (by first | omega | (simp;done) | (simp;omega)) N2.out).1;have L3:n3≤130000000000001:=(by omega);have S3:w.heap.size<w3.heap.size:=b3.lt;have X3:=Lib.hid (X2.out.trans hbel3);have p3:w3.cell? ⟨w.heap.size,3,none⟩=some (.string s):=b3.cell 3;clear o3 hn3 hz3 hbel3 hne3)
    go_roundw
    case rel=>exact ⟨k+1,n3,c3,A3,by omega,by go_num,rfl,Lib.hid (by have:=O3.out;rw [HT.out,HE.out];simp only [List.append_assoc,List.cons_append,List.nil_append] at this ⊢;exact this),b3,N3,X3⟩
    case measure=>simp [intOf];omega
  ·have hks:k=s.size:=by omega
   have HTk:Hid (s.data.toList.take k=s.data.toList):=Lib.hid (List.take_of_length_le (by simp;omega))
   clear hks
   go_wp2_with (at_builtin;refine put_bytes [0,1] rfl _ _ rfl O2.out rfl rfl (by first | rfl | simp) rfl rfl (by omega) ?_;intro A5 n5 c5 w5 o5 hn5 hz5 hbel5 hne5;have O5:=Lib.hid o5;have X5:=Lib.hid (X2.out.trans hbel5);clear o5 hn5 hz5 hbel5 hne5)
   go_ret
   exact ⟨A5,n5,c5,rfl,by have:=O5.out;rw [HTk.out] at this;simp only [List.append_assoc,List.cons_append,List.nil_append] at this ⊢;exact this,X5.out⟩
theorem put_any (d:Dat) (hn : -9223372036854775808≤d.n∧d.n≤9223372036854775807) (hs:d.s.size≤10000000000000) (h:OwnB w B A m c xs) (hm:m≤100000000000000) :
  Calls Tryz.prog 224 #[.slice A m c, .agg #[.int .u8 d.k, .bool d.b, .int .i64 d.n, .string d.s]] w (PutOut w B (xs++putT d)):=by
 obtain ⟨k,b,n,s⟩:=d
 unfold putT
 by_cases h1:k=1
 ·subst h1;exact put_null n b s A m c B xs w h hm
 rw [if_neg h1]
 by_cases h2:k=2
 ·subst h2;exact put_bool n b s A m c B xs w h hm
 rw [if_neg h2]
 by_cases h3:k=3
 ·subst h3;exact put_int n b s A m c B xs w hn h hm
 rw [if_neg h3]
 by_cases h4:k=4
 ·subst h4;exact put_text n b s A m c B xs w hs h hm
 rw [if_neg h4,List.append_nil]
 exact put_none k n b s A m c B xs w h1 h2 h3 h4 h
end
open Go.RowKit
def checkL:List Dat→Int
 | []=>0
 | d :: l=>if d.check=0 then checkL l else d.check
def checkR (l:List Dat):Int:=if 32<l.length then 20 else checkL l
theorem checkL_drop {l:List Dat} {i:Nat} (h:i<l.length):checkL (l.drop i)=if (l.getD i Dat.zero).check=0 then checkL (l.drop (i+1)) else (l.getD i Dat.zero).check:=by
 rw [List.drop_eq_getElem_cons h,List.getD_eq_getElem?_getD,List.getElem?_eq_getElem h]
 rfl
theorem checkL_ok : ∀ l:List Dat,checkL l=0 ↔ ∀ d∈l,d.check=0
 | []=>⟨fun _ d h=>(nomatch h),fun _=>rfl⟩
 | d :: l=>by
  unfold checkL
  by_cases h:d.check=0
  ·rw [if_pos h,checkL_ok l]
   exact ⟨fun q x hx=>(List.mem_cons.1 hx).elim (fun e=>e ▸ h) (q x),fun q x hx=>q x (List.mem_cons_of_mem _ hx)⟩
  ·rw [if_neg h]
   exact ⟨fun q=>absurd q h,fun q=>absurd (q d (List.mem_cons_self ..)) h⟩
theorem checkR_ok (l:List Dat):checkR l=0↔l.length≤32 ∧ ∀ d∈l,d.check=0:=by
 unfold checkR
 split
 ·exact ⟨fun h=>absurd h (by decide),fun h=>absurd h.1 (by omega)⟩
 ·rw [checkL_ok]
  exact ⟨fun h=>⟨by omega,h⟩,fun h=>h.2⟩
/-- the texts of a row lie in memory -/
def RwTxt (l:List Dat):Prop := ∀ d∈l,d.s.size≤9223372036854775807
theorem RwTxt.at {l:List Dat} (h:RwTxt l) {i:Nat} (hi:i<l.length):(l.getD i Dat.zero).s.size≤9223372036854775807:=by
 rw [List.getD_eq_getElem?_getD,List.getElem?_eq_getElem hi]
 exact h _ (List.getElem_mem hi)
theorem checkD_lit {c:Int} (k n:Int) (b:Bool) (s:ByteArray) (w:World) (h:Hid (Dat.check ⟨k,b,n,s⟩=c)) (hs:s.size≤9223372036854775807) (G:Good w) :
  Calls Tryz.prog 211 #[.agg #[.int .u8 k, .bool b, .int .i64 n, .string s]] w fun e w'=>e = .returned (.int .u16 c)∧Ext w w':=h.out ▸ check_any k b n s w hs G
set_option maxRecDepth 100000 in
set_option maxHeartbeats 2000000 in
theorem rowCheck_any (A:Option Addr) (c n:Nat) (l:List Dat) (w:World) (e1:n=l.length) (h1:Rw w A c l) (ht:RwTxt l) (G:Good w) :
  Calls Tryz.prog 154 #[.slice A n c] w fun e w'=>e = .returned (.int .u16 (checkR l))∧Ext w w':=by
 have E1:=Lib.hid e1
 have hl1:=h1.le
 rw [← e1] at hl1
 have H1:=Lib.hid h1
 have HT:=Lib.hid ht
 clear e1 h1 ht
 by_cases h32:32<n
 ·have HR:Hid (checkR l=20):=Lib.hid (by unfold checkR;rw [if_pos (by rw [← E1.out];exact h32)])
  go_enter Tryz.func154,Tryz.ntmps154
  go_wp2
  go_ret
  exact ⟨(by rw [HR.out];rfl),Ext.refl w⟩
 have HR:Hid (checkR l=checkL l):=Lib.hid (by unfold checkR;rw [if_neg (by rw [← E1.out];exact h32)])
 go_enter Tryz.func154,Tryz.ntmps154
 go_wp2
 go_loopw [11] (fun v wr => ∃ i:Nat,i≤n∧v = .int .i64 i∧Hid (checkL (l.drop i)=checkL l)∧Ext w wr) (fun v _=>n - (intOf v).toNat)
 case atStart=>exact ⟨0,Nat.zero_le _,rfl,Lib.hid rfl,Ext.refl _⟩
 case round =>
  obtain ⟨i,hi,rfl,hr,er⟩:=hrel
  have hsz:=er.size
  by_cases hlt:i<n
  ·have hil:i<l.length:=by rw [← E1.out];exact hlt
   obtain ⟨a1,rfl,p0,p1,p2,p3⟩:=(H1.out.ext er).at hil
   have hts:=HT.out.at hil
   have HS0:=Lib.hid (checkL_drop hil)
   obtain ⟨d,hd⟩ : ∃ d,l.getD i Dat.zero=d:=⟨_,rfl⟩
   rw [hd] at p0 p1 p2 p3 hts HS0
   clear hil hd
   obtain ⟨v,hv⟩ : ∃ v,d.check=v:=⟨_,rfl⟩
   have HS:Hid (checkL l=if v=0 then checkL (l.drop (i+1)) else v):=Lib.hid (by rw [← hr.out,HS0.out,hv])
   clear HS0 hr
   obtain ⟨ka,ba,na,sa⟩:=d
   simp only at p0 p1 p2 p3 hts
   have HV:=Lib.hid hv
   clear hv
   have GW:=Lib.hid (G.ext (er.alloc (.cells #[.int .u8 ka, .bool ba, .int .i64 na, .string sa] 204)))
   by_cases hv0:v=0
   ·subst hv0
    go_wp2_with (go_at_call 211;refine (checkD_lit _ _ _ _ _ HV hts GW.out).mono ?_;rintro e w1 ⟨rfl,x1⟩)
    go_roundw
    case rel=>exact ⟨i+1,by omega,by go_num,Lib.hid (by rw [HS.out];simp),(er.alloc _).trans x1⟩
    case measure=>simp [intOf];omega
   ·have z:(v != 0)=true:=by simpa using hv0
    have HZ:=Lib.hid hv0
    clear hv0
    go_wp2_with (go_at_call 211;refine (checkD_lit _ _ _ _ _ HV hts GW.out).mono ?_;rintro e w1 ⟨rfl,x1⟩)
    go_ret
    exact ⟨(by rw [HR.out,HS.out,if_neg HZ.out];rfl),(er.alloc _).trans x1⟩
  ·obtain rfl:i=n:=by omega
   have HT2:Hid (checkL l=0):=Lib.hid (by rw [← hr.out,List.drop_eq_nil_of_le (by rw [← E1.out];exact Nat.le_refl _)];rfl)
   clear hr
   go_wp2
   go_ret
   exact ⟨(by rw [HR.out,HT2.out];rfl),er⟩
open Go.RowKit
/-- the numbers of a row are of 64 bits -/
def RwInt (l:List Dat):Prop := ∀ d∈l, -9223372036854775808≤d.n∧d.n≤9223372036854775807
theorem RwInt.at {l:List Dat} (h:RwInt l) {i:Nat} (hi:i<l.length) : -9223372036854775808≤(l.getD i Dat.zero).n∧(l.getD i Dat.zero).n≤9223372036854775807:=by
 rw [List.getD_eq_getElem?_getD,List.getElem?_eq_getElem hi]
 exact h _ (List.getElem_mem hi)
theorem size_of_check' {d:Dat} (h:d.check=0):d.s.size≤1000:=by
 unfold Dat.check checkT at h
 repeat' split at h
 all_goals first | omega | exact absurd h (by decide)
theorem putT_len {d:Dat} (h:d.s.size≤1000):(putT d).length≤2100:=by
 unfold putT
 repeat' split
 all_goals first | (simp [be8];done) | skip
 have h1:=escZ_flat_len d.s.data.toList
 have h2:d.s.data.toList.length=d.s.size:=by simp
 rw [List.length_cons,List.length_append]
 simp only [List.length_cons,List.length_nil]
 omega
theorem keyT_len : ∀ l:List Dat,(∀ d∈l,d.s.size≤1000)→(rkeyT l).length≤2100 * l.length
 | [],_=>Nat.le_refl _
 | d :: l,h=>by
  have h1:=putT_len (h d (List.mem_cons_self ..))
  have h2:=keyT_len l (fun x hx=>h x (List.mem_cons_of_mem _ hx))
  unfold rkeyT at h2 ⊢
  rw [List.flatMap_cons,List.length_append,List.length_cons]
  omega
theorem keyT_take {l:List Dat} {i:Nat} (h:i<l.length):rkeyT (l.take (i+1))=rkeyT (l.take i)++putT (l.getD i Dat.zero):=by
 unfold rkeyT
 rw [List.take_succ_eq_append_getElem h,List.flatMap_append,List.getD_eq_getElem?_getD,List.getElem?_eq_getElem h]
 simp
theorem put_lit (k n:Int) (b:Bool) (s:ByteArray) (A:Option Addr) (m c B:Nat) (xs r:List UInt8) (w:World) (hr:Hid (xs++putT ⟨k,b,n,s⟩=r)) (hn : -9223372036854775808≤n∧n≤9223372036854775807) (hs:s.size≤1000) (h:OwnB w B A m c xs) (hm:m≤100000000000000) :
  Calls Tryz.prog 224 #[.slice A m c, .agg #[.int .u8 k, .bool b, .int .i64 n, .string s]] w (PutOut w B r):=hr.out ▸ put_any A m c B xs w ⟨k,b,n,s⟩ hn (by show s.size≤_;omega) h hm
set_option maxRecDepth 100000 in
set_option maxHeartbeats 2000000 in
theorem key_any (A:Option Addr) (c n:Nat) (l:List Dat) (w:World) (e1:n=l.length) (h1:Rw w A c l) (hi:RwInt l) (hk:checkR l=0) :
  Calls Tryz.prog 186 #[.slice A n c] w (PutOut w w.heap.size (rkeyT l)):=by
 obtain ⟨h32,hck⟩:=(checkR_ok l).1 hk
 have hsz : ∀ d∈l,d.s.size≤1000:=fun d hd=>size_of_check' (hck d hd)
 have E1:=Lib.hid e1
 have hn32:n≤32:=by omega
 have H1:=Lib.hid h1
 have HI:=Lib.hid hi
 have HZ:=Lib.hid hsz
 clear e1 h1 hi hk h32 hck hsz
 go_enter Tryz.func186,Tryz.ntmps186
 go_wp2
 go_loopw [3,8] (fun u v wr => ∃ (i n0 c0:Nat) (A0:Option Addr),i≤n∧v = .int .i64 i∧u = .slice A0 n0 c0∧Hid (OwnB wr w.heap.size A0 n0 c0 (rkeyT (l.take i)))∧Ext w wr) (fun _ v _=>n - (intOf v).toNat)
 case atStart=>exact ⟨0,0,0,none,Nat.zero_le _,rfl,rfl,Lib.hid (OwnB.nil w (Nat.le_refl _)),Ext.refl w⟩
 case round =>
  obtain ⟨i,n0,c0,A0,hi,rfl,rfl,O0,er⟩:=hrel
  have hsz:=er.size
  by_cases hlt:i<n
  ·have hil:i<l.length:=by rw [← E1.out];exact hlt
   have L0:n0≤70000:=by
    have a1:=O0.out.len
    have a2:=keyT_len (l.take i) (fun d hd=>HZ.out d (List.mem_of_mem_take hd))
    have a3:(l.take i).length≤i:=List.length_take_le _ _
    omega
   obtain ⟨a1,rfl,p0,p1,p2,p3⟩:=(H1.out.ext er).at hil
   have hin:=HI.out.at hil
   have hss:(l.getD i Dat.zero).s.size≤1000:=by
    rw [List.getD_eq_getElem?_getD,List.getElem?_eq_getElem hil]
    exact HZ.out _ (List.getElem_mem hil)
   have HS0:=Lib.hid (keyT_take hil)
   obtain ⟨d,hd⟩ : ∃ d,l.getD i Dat.zero=d:=⟨_,rfl⟩
   rw [hd] at p0 p1 p2 p3 hin hss HS0
   clear hil hd
   obtain ⟨ka,ba,na,sa⟩:=d
   simp only at p0 p1 p2 p3 hin hss
   have HIN:=Lib.hid hin
   clear hin
   go_wp2_with (go_at_call 224;refine (put_lit _ _ _ _ A0 n0 c0 w.heap.size _ _ _ (Lib.hid HS0.out.symm) HIN.out hss (O0.out.alloc _) (by omega)).mono ?_;rintro e w1 ⟨A1,n1,c1,rfl,o1,b1⟩;have O1:=Lib.hid o1;clear o1)
   go_roundw
   case rel=>exact ⟨i+1,n1,c1,A1,by omega,by go_num,rfl,O1,Below.trans (er.alloc _) b1⟩
   case measure=>simp [intOf];omega
  ·obtain rfl:i=n:=by omega
   have HT:Hid (l.take i=l):=Lib.hid (List.take_of_length_le (by rw [← E1.out];exact Nat.le_refl _))
   go_wp2
   go_ret
   exact ⟨A0,n0,c0,rfl,by have:=O0.out;rw [HT.out] at this;exact this,er⟩
open Go.RowKit
/-- the order of rows -/
def cmpR:List Dat→List Dat→Int
 | [],[]=>0
 | [],_ :: _ => -1
 | _ :: _,[]=>1
 | a :: l,b :: m=>if cmpD a b=0 then cmpR l m else cmpD a b
theorem cmpR_drop {l m:List Dat} {i:Nat} (h1:i<l.length) (h2:i<m.length):cmpR (l.drop i) (m.drop i)=if cmpD (l.getD i Dat.zero) (m.getD i Dat.zero)=0 then cmpR (l.drop (i+1)) (m.drop (i+1)) else cmpD (l.getD i Dat.zero) (m.getD i Dat.zero):=by
 rw [List.drop_eq_getElem_cons h1,List.drop_eq_getElem_cons h2,List.getD_eq_getElem?_getD,List.getD_eq_getElem?_getD,List.getElem?_eq_getElem h1,List.getElem?_eq_getElem h2]
 rfl
theorem cmpR_end {l m:List Dat} {i:Nat} (h:l.length≤i):cmpR (l.drop i) (m.drop i)=if i<m.length then -1 else 0:=by
 rw [List.drop_eq_nil_of_le h]
 by_cases h2:i<m.length
 ·rw [if_pos h2,List.drop_eq_getElem_cons h2];rfl
 ·rw [if_neg h2,List.drop_eq_nil_of_le (by omega)];rfl
theorem cmpR_more {l m:List Dat} {i:Nat} (h1:i<l.length) (h2:m.length≤i):cmpR (l.drop i) (m.drop i)=1:=by
 rw [List.drop_eq_nil_of_le h2,List.drop_eq_getElem_cons h1]
 rfl
theorem cmpD_lit {v:Int} (ka na kb nb:Int) (ba bb:Bool) (sa sb:ByteArray) (w:World) (h:Hid (cmpD ⟨ka,ba,na,sa⟩ ⟨kb,bb,nb,sb⟩=v)) :
  Calls Tryz.prog 218 #[.agg #[.int .u8 ka, .bool ba, .int .i64 na, .string sa], .agg #[.int .u8 kb, .bool bb, .int .i64 nb, .string sb]] w fun e w'=>e = .returned (.int .i64 v)∧Ext w w':=h.out ▸ dcmp_any ⟨ka,ba,na,sa⟩ ⟨kb,bb,nb,sb⟩ w
set_option maxRecDepth 100000 in
set_option maxHeartbeats 4000000 in
theorem compareFunc_any (A1 A2:Option Addr) (c1 c2 n1 n2:Nat) (l m:List Dat) (w:World) (e1:n1=l.length) (e2:n2=m.length) (h1:Rw w A1 c1 l) (h2:Rw w A2 c2 m) :
  Calls Tryz.prog 217 #[.slice A1 n1 c1, .slice A2 n2 c2, .func (.func 218) #[] #[]] w fun e w'=>e = .returned (.int .i64 (cmpR l m))∧Ext w w':=by
 have E1:=Lib.hid e1
 have E2:=Lib.hid e2
 have hl1:=h1.le
 have hl2:=h2.le
 rw [← e1] at hl1
 rw [← e2] at hl2
 have H1:=Lib.hid h1
 have H2:=Lib.hid h2
 clear e1 e2 h1 h2
 go_enter Tryz.func217,Tryz.ntmps217
 go_wp2
 go_loopw [13] (fun v wr => ∃ i:Nat,i≤n1∧v = .int .i64 i∧Hid (i≤m.length∧cmpR (l.drop i) (m.drop i)=cmpR l m)∧Ext w wr) (fun v _=>n1 - (intOf v).toNat)
 case atStart=>exact ⟨0,Nat.zero_le _,rfl,Lib.hid ⟨Nat.zero_le _,rfl⟩,Ext.refl _⟩
 case round =>
  obtain ⟨i,hi,rfl,hr,er⟩:=hrel
  have hsz:=er.size
  by_cases hlt:i<n1
  ·obtain ⟨a1,rfl,p0,p1,p2,p3⟩:=(H1.out.ext er).at (show i<l.length by rw [← E1.out];exact hlt)
   obtain ⟨d,hd⟩ : ∃ d,l.getD i Dat.zero=d:=⟨_,rfl⟩
   rw [hd] at p0 p1 p2 p3
   by_cases hlt2:i<n2
   ·obtain ⟨a2,rfl,q0,q1,q2,q3⟩:=(H2.out.ext er).at (show i<m.length by rw [← E2.out];exact hlt2)
    obtain ⟨d2,hd2⟩ : ∃ d,m.getD i Dat.zero=d:=⟨_,rfl⟩
    rw [hd2] at q0 q1 q2 q3
    obtain ⟨v,hv⟩ : ∃ v,cmpD d d2=v:=⟨_,rfl⟩
    have HS:Hid (cmpR l m=if v=0 then cmpR (l.drop (i+1)) (m.drop (i+1)) else v):=Lib.hid (by rw [← hr.out.2,cmpR_drop (by rw [← E1.out];exact hlt) (by rw [← E2.out];exact hlt2),hd,hd2,hv])
    have HB:Hid (i+1≤m.length):=Lib.hid (by rw [← E2.out];exact hlt2)
    clear hd hd2 hr
    obtain ⟨ka,ba,na,sa⟩:=d
    obtain ⟨kb,bb,nb,sb⟩:=d2
    simp only at p0 p1 p2 p3 q0 q1 q2 q3
    have HV:=Lib.hid hv
    clear hv
    have r0:=((Ext.refl wr).alloc (.cells #[.int .u8 ka, .bool ba, .int .i64 na, .string sa] 204)).cell q0
    have r1:=((Ext.refl wr).alloc (.cells #[.int .u8 ka, .bool ba, .int .i64 na, .string sa] 204)).cell q1
    have r2:=((Ext.refl wr).alloc (.cells #[.int .u8 ka, .bool ba, .int .i64 na, .string sa] 204)).cell q2
    have r3:=((Ext.refl wr).alloc (.cells #[.int .u8 ka, .bool ba, .int .i64 na, .string sa] 204)).cell q3
    clear q0 q1 q2 q3
    by_cases hv0:v=0
    ·subst hv0
     go_wp2_with (go_at_call 218;refine (cmpD_lit _ _ _ _ _ _ _ _ _ HV).mono ?_;rintro e w1 ⟨rfl,x1⟩)
     go_roundw
     case rel=>exact ⟨i+1,by omega,by go_num,Lib.hid ⟨HB.out,by rw [HS.out];simp⟩,((er.alloc _).alloc _).trans x1⟩
     case measure=>simp [intOf];omega
    ·have z:(v != 0)=true:=by simpa using hv0
     have HZ:=Lib.hid hv0
     clear hv0
     go_wp2_with (go_at_call 218;refine (cmpD_lit _ _ _ _ _ _ _ _ _ HV).mono ?_;rintro e w1 ⟨rfl,x1⟩)
     go_ret
     exact ⟨(by rw [HS.out,if_neg HZ.out];rfl),((er.alloc _).alloc _).trans x1⟩
   ·have HS:Hid (cmpR l m=1):=Lib.hid (by rw [← hr.out.2];exact cmpR_more (by rw [← E1.out];exact hlt) (by rw [← E2.out];omega))
    clear hr hd
    go_wp2
    go_ret
    exact ⟨(by rw [HS.out];rfl),er.alloc _⟩
  ·have HS:Hid (cmpR l m=if i<m.length then -1 else 0):=Lib.hid (by rw [← hr.out.2];exact cmpR_end (by rw [← E1.out];omega))
   obtain rfl:i=n1:=by omega
   by_cases h2:i<n2
   ·have HT:Hid (cmpR l m = -1):=Lib.hid (by rw [HS.out,if_pos (by rw [← E2.out];exact h2)])
    clear HS hr
    go_wp2
    go_ret
    exact ⟨(by rw [HT.out];rfl),er⟩
   ·have HT:Hid (cmpR l m=0):=Lib.hid (by rw [HS.out,if_neg (by rw [← E2.out];exact h2)])
    clear HS hr
    go_wp2
    go_ret
    exact ⟨(by rw [HT.out];rfl),er⟩
set_option maxRecDepth 100000 in
set_option maxHeartbeats 1000000 in
theorem rowCmp_any (A1 A2:Option Addr) (c1 c2 n1 n2:Nat) (l m:List Dat) (w:World) (e1:n1=l.length) (e2:n2=m.length) (h1:Rw w A1 c1 l) (h2:Rw w A2 c2 m) :
  Calls Tryz.prog 164 #[.slice A1 n1 c1, .slice A2 n2 c2] w fun e w'=>e = .returned (.int .i64 (cmpR l m))∧Ext w w':=by
 have H1:=Lib.hid h1
 have H2:=Lib.hid h2
 have E1:=Lib.hid e1
 have E2:=Lib.hid e2
 clear h1 h2 e1 e2
 go_enter Tryz.func164,Tryz.ntmps164
 go_wp2_with fail
 refine (compareFunc_any A1 A2 c1 c2 n1 n2 l m w E1.out E2.out H1.out H2.out).mono ?_
 rintro e w1 ⟨rfl,x1⟩
 go_wp2
 go_ret
 exact ⟨rfl,x1⟩
open Go.RowKit
structure TotPre {α:Type} (cmp:α→α→Int):Prop where
 neg : ∀ x y,cmp x y = -cmp y x
 trans : ∀ x y z,cmp x y≤0→cmp y z≤0→cmp x z≤0
section
variable {α:Type} {cmp:α→α→Int}
theorem TotPre.refl (h:TotPre cmp) (x:α):cmp x x=0:=by have:=h.neg x x;omega
theorem TotPre.lt_of_lt_le (h:TotPre cmp) {x y z:α} (h1:cmp x y<0) (h2:cmp y z≤0):cmp x z<0:=by
 have a:=h.trans x y z (by omega) h2
 rcases Int.lt_or_eq_of_le a with q | q
 ·exact q
 ·have b:=h.trans y z x h2 (by rw [h.neg,q];decide)
  rw [h.neg] at b
  omega
theorem TotPre.lt_of_le_lt (h:TotPre cmp) {x y z:α} (h1:cmp x y≤0) (h2:cmp y z<0):cmp x z<0:=by
 have a:=h.trans x y z h1 (by omega)
 rcases Int.lt_or_eq_of_le a with q | q
 ·exact q
 ·have b:=h.trans z x y (by rw [h.neg,q];decide) h1
  rw [h.neg] at b
  omega
theorem TotPre.eq_trans (h:TotPre cmp) {x y z:α} (h1:cmp x y=0) (h2:cmp y z=0):cmp x z=0:=by
 have a:=h.trans x y z (by omega) (by omega)
 have b:=h.trans z y x (by rw [h.neg,h2];decide) (by rw [h.neg,h1];decide)
 rw [h.neg] at b
 omega
theorem TotPre.eq_left (h:TotPre cmp) {x y z:α} (h1:cmp x y=0):cmp x z=0↔cmp y z=0 :=
 ⟨fun q=>h.eq_trans (by rw [h.neg,h1];rfl) q,fun q=>h.eq_trans h1 q⟩
/-- those alike x -/
def alike (cmp:α→α→Int) (x:α) (l:List α):List α:=l.filter fun y=>cmp x y==0
/-- m is l, sorted, those that are alike in their order -/
structure Stable (cmp:α→α→Int) (l m:List α):Prop where
 sorted:m.Pairwise fun x y=>cmp x y≤0
 same : ∀ x,alike cmp x m=alike cmp x l
theorem Stable.nil:Stable cmp [] ([]:List α):=⟨List.Pairwise.nil,fun _=>rfl⟩
theorem Stable.one (x:α):Stable cmp [x] [x]:=⟨List.pairwise_singleton _ _,fun _=>rfl⟩
theorem alike_append (x:α) (l m:List α):alike cmp x (l++m)=alike cmp x l++alike cmp x m:=List.filter_append _ _
/-- what is sorted twice -/
theorem Stable.trans {l m n:List α} (h:Stable cmp l m) (k:Stable cmp m n):Stable cmp l n:=⟨k.sorted,fun x=>(k.same x).trans (h.same x)⟩
/-- parts that are sorted by themselves, then together -/
theorem Stable.join {l1 l2 m1 m2 n:List α} (h1:Stable cmp l1 m1) (h2:Stable cmp l2 m2) (h:Stable cmp (m1++m2) n):Stable cmp (l1++l2) n :=
 ⟨h.sorted,fun x=>by rw [h.same,alike_append,alike_append,h1.same,h2.same]⟩
theorem Stable.mem (T:TotPre cmp) {l m:List α} (h:Stable cmp l m) (x:α):x∈m↔x∈l:=by
 have e:=h.same x
 have key : ∀ n:List α,x∈alike cmp x n↔x∈n:=fun n=>by
  unfold alike
  rw [List.mem_filter]
  exact ⟨fun q=>q.1,fun q=>⟨q,by rw [beq_iff_eq];exact T.refl x⟩⟩
 rw [← key m, ← key l,e]
/-- one more, put into its place -/
theorem Stable.insert (T:TotPre cmp) {l s1 s2:List α} {x:α} (h:Stable cmp l (s1++s2)) (h2 : ∀ y∈s2,cmp x y<0) (h1 : ∀ y,s1.getLast?=some y → ¬ cmp x y<0):Stable cmp (l++[x]) (s1++x :: s2):=by
 have hs:=List.pairwise_append.1 h.sorted
 have hx : ∀ y∈s1,cmp y x≤0:=by
  intro y hy
  rcases List.eq_nil_or_concat s1 with rfl | ⟨t,z,rfl⟩
  ·cases hy
  ·rw [List.concat_eq_append] at hy hs h1
   have hz:cmp z x≤0:=by
    have:=h1 z (by simp)
    rw [T.neg]
    omega
   rcases List.mem_append.1 hy with q | q
   ·exact T.trans y z x ((List.pairwise_append.1 hs.1).2.2 y q z (by simp)) hz
   ·simp only [List.mem_singleton] at q
    subst q
    exact hz
 refine ⟨List.pairwise_append.2 ⟨hs.1,List.pairwise_cons.2 ⟨fun y hy=>Int.le_of_lt (h2 y hy),hs.2.1⟩,fun y hy z hz=>?_⟩,fun c=>?_⟩
 ·rcases List.mem_cons.1 hz with rfl | hz
  ·exact hx y hy
  ·exact hs.2.2 y hy z hz
 ·have e0:alike cmp c (l++[x])=(alike cmp c s1++alike cmp c s2)++alike cmp c [x]:=by rw [alike_append, ← h.same c,alike_append]
  rw [e0,alike_append]
  by_cases hc:cmp c x=0
  ·have e2:alike cmp c s2=[]:=by
    unfold alike
    rw [List.filter_eq_nil_iff]
    intro y hy q
    have q':cmp c y=0:=by simpa using q
    have:=h2 y hy
    have:=(T.eq_left hc).1 q'
    omega
   have e3:alike cmp c (x :: s2)=[x]:=by
    show List.filter _ (x :: s2)=_
    rw [List.filter_cons_of_pos (by simpa using hc)]
    show x :: alike cmp c s2=_
    rw [e2]
   have e4:alike cmp c [x]=[x]:=by
    show List.filter _ [x]=_
    rw [List.filter_cons_of_pos (by simpa using hc)]
    rfl
   rw [e3,e2,e4,List.append_nil]
  ·have e3 : ∀ t:List α,alike cmp c (x :: t)=alike cmp c t:=fun t=>by
    show List.filter _ (x :: t)=_
    rw [List.filter_cons_of_neg (by simpa using hc)]
    rfl
   rw [e3,e3]
   show _=_++[]
   rw [List.append_nil]
/-- there is one such list alone -/
theorem Stable.unique (T:TotPre cmp) : ∀ {m n l:List α},Stable cmp l m→Stable cmp l n→m=n
 | [],[],_,_,_=>rfl
 | [],y :: n,l,h,k=>absurd ((h.mem T y).2 ((k.mem T y).1 (List.mem_cons_self ..))) (List.not_mem_nil)
 | x :: m,[],l,h,k=>absurd ((k.mem T x).2 ((h.mem T x).1 (List.mem_cons_self ..))) (List.not_mem_nil)
 | x :: m,y :: n,l,h,k=>by
  have hxy:cmp x y≤0:=by
   have:y∈x :: m:=(h.mem T y).2 ((k.mem T y).1 (List.mem_cons_self ..))
   rcases List.mem_cons.1 this with rfl | q
   ·rw [T.refl];decide
   ·exact (List.pairwise_cons.1 h.sorted).1 y q
  have hyx:cmp y x≤0:=by
   have:x∈y :: n:=(k.mem T x).2 ((h.mem T x).1 (List.mem_cons_self ..))
   rcases List.mem_cons.1 this with rfl | q
   ·rw [T.refl];decide
   ·exact (List.pairwise_cons.1 k.sorted).1 x q
  have h0:cmp x y=0:=by rw [T.neg] at hyx;omega
  have e:alike cmp x (x :: m)=alike cmp x (y :: n):=(h.same x).trans (k.same x).symm
  have e1:alike cmp x (x :: m)=x :: alike cmp x m:=by
   show List.filter _ (x :: m)=_
   rw [List.filter_cons_of_pos (by simpa using T.refl x)]
   rfl
  have e2:alike cmp x (y :: n)=y :: alike cmp x n:=by
   show List.filter _ (y :: n)=_
   rw [List.filter_cons_of_pos (by simpa using h0)]
   rfl
  rw [e1,e2] at e
  injection e with e3 _
  subst e3
  have hm:Stable cmp m m:=⟨(List.pairwise_cons.1 h.sorted).2,fun _=>rfl⟩
  have hn:Stable cmp m n:=⟨(List.pairwise_cons.1 k.sorted).2,fun c=>by
   have q:alike cmp c (x :: m)=alike cmp c (x :: n):=(h.same c).trans (k.same c).symm
   unfold alike at q ⊢
   by_cases hc:cmp c x=0
   ·rw [List.filter_cons_of_pos (by simpa using hc),List.filter_cons_of_pos (by simpa using hc)] at q
    injection q with _ q
    exact q.symm
   ·rw [List.filter_cons_of_neg (by simpa using hc),List.filter_cons_of_neg (by simpa using hc)] at q
    exact q.symm⟩
  rw [Stable.unique T hm hn]
end
open Go.RowKit
theorem less_irrefl : ∀ x:List UInt8,Op.bytesLess x x=false
 | []=>rfl
 | a :: x=>by simp [Op.bytesLess,less_irrefl x]
theorem less_asymm : ∀ x y:List UInt8,Op.bytesLess x y=true→Op.bytesLess y x=false
 | [],[],h=>by simp [Op.bytesLess] at h
 | [],_ :: _,_=>by simp [Op.bytesLess]
 | _ :: _,[],h=>by simp [Op.bytesLess] at h
 | a :: x,b :: y,h=>by
  simp only [Op.bytesLess,Bool.or_eq_true,decide_eq_true_eq,Bool.and_eq_true,beq_iff_eq] at h
  rcases h with h | ⟨rfl,h⟩
  ·have h1 : ¬ b<a:=fun h2=>by rw [UInt8.lt_iff_toNat_lt] at h h2;omega
   have h2 : ¬ b=a:=fun e=>by subst e;rw [UInt8.lt_iff_toNat_lt] at h;omega
   simp [Op.bytesLess,h1,h2]
  ·simp [Op.bytesLess,less_asymm x y h]
theorem less_total : ∀ x y:List UInt8,Op.bytesLess x y=false→Op.bytesLess y x=false→x=y
 | [],[],_,_=>rfl
 | [],_ :: _,h,_=>by simp [Op.bytesLess] at h
 | _ :: _,[],_,h=>by simp [Op.bytesLess] at h
 | a :: x,b :: y,h,k=>by
  simp only [Op.bytesLess,Bool.or_eq_false_iff,decide_eq_false_iff_not,Bool.and_eq_false_iff,beq_eq_false_iff_ne] at h k
  have e:a=b:=by
   apply UInt8.toNat_inj.1
   have h1:=h.1
   have k1:=k.1
   rw [UInt8.lt_iff_toNat_lt] at h1 k1
   omega
  subst e
  rw [less_total x y (by simpa using h.2) (by simpa using k.2)]
theorem less_trans : ∀ x y z:List UInt8,Op.bytesLess x y=true→Op.bytesLess y z=true→Op.bytesLess x z=true
 | _,_,[],_,k=>by simp [Op.bytesLess] at k
 | [],_,_ :: _,_,_=>by simp [Op.bytesLess]
 | _ :: _,[],_ :: _,h,_=>by simp [Op.bytesLess] at h
 | a :: x,b :: y,c :: z,h,k=>by
  simp only [Op.bytesLess,Bool.or_eq_true,decide_eq_true_eq,Bool.and_eq_true,beq_iff_eq] at h k ⊢
  rcases h with h | ⟨rfl,h⟩<;>rcases k with k | ⟨rfl,k⟩
  ·left;rw [UInt8.lt_iff_toNat_lt] at *;omega
  ·exact Or.inl h
  ·exact Or.inl k
  ·exact Or.inr ⟨rfl,less_trans x y z h k⟩

theorem cmpS_eq (x y:ByteArray):cmpS x y=if Op.bytesLess x.toList y.toList then -1 else if Op.bytesLess y.toList x.toList then 1 else 0:=by
 unfold cmpS
 cases h1:Op.bytesLess x.toList y.toList
 ·cases h2:Op.bytesLess y.toList x.toList
  ·simp [less_total _ _ h1 h2]
  ·have : ¬ x.toList=y.toList:=fun e=>by rw [e,less_irrefl] at h2;cases h2
   simp [this]
 ·rfl
theorem cmpS_neg (x y:ByteArray):cmpS x y = -cmpS y x:=by
 rw [cmpS_eq,cmpS_eq]
 cases h1:Op.bytesLess x.toList y.toList
 ·cases h2:Op.bytesLess y.toList x.toList<;>simp
 ·simp [less_asymm _ _ h1]
theorem cmpS_trans {x y z:ByteArray} (h:cmpS x y≤0) (k:cmpS y z≤0):cmpS x z≤0:=by
 rw [cmpS_eq] at *
 by_cases h1:Op.bytesLess x.toList z.toList=true
 ·simp [h1]
 ·by_cases h2:Op.bytesLess z.toList x.toList=true
  ·exfalso
   by_cases a1:Op.bytesLess x.toList y.toList=true
   ·have a2:=less_trans _ _ _ h2 a1
    have a3:=less_asymm _ _ a2
    simp [a3,a2] at k
   ·by_cases b1:Op.bytesLess y.toList x.toList=true
    ·simp [a1,b1] at h
    ·have e:=less_total _ _ (by simpa using a1) (by simpa using b1)
     rw [← e] at k
     simp [h1,h2] at k
  ·simp [h1,h2]
theorem cmpI_neg (x y:Int):cmpI x y = -cmpI y x:=by
 rcases Int.lt_trichotomy x y with h | h | h
 ·rw [cmpI_lt h,cmpI_gt h]
 ·subst h;rw [cmpI_self];rfl
 ·rw [cmpI_gt h,cmpI_lt h];rfl
theorem cmpT_le {x y:Int}:cmpI x y≤0↔x≤y:=by
 rcases Int.lt_trichotomy x y with h | h | h
 ·rw [cmpI_lt h];omega
 ·subst h;rw [cmpI_self];omega
 ·rw [cmpI_gt h];omega
/-! ### data -/
theorem cmpS_zero {x y:ByteArray} (h:cmpS x y=0):x=y:=by
 rw [cmpS_eq] at h
 by_cases h1:Op.bytesLess x.toList y.toList=true
 ·simp [h1] at h
 ·by_cases h2:Op.bytesLess y.toList x.toList=true
  ·simp [h1,h2] at h
  ·have e:=less_total _ _ (by simpa using h1) (by simpa using h2)
   rw [Lib.toList_data,Lib.toList_data] at e
   obtain ⟨⟨x⟩⟩:=x
   obtain ⟨⟨y⟩⟩:=y
   simp at e
   rw [e]
theorem cmpI_zero {x y:Int} (h:cmpI x y=0):x=y:=by
 rcases Int.lt_trichotomy x y with k | k | k
 ·rw [cmpI_lt k] at h;omega
 ·exact k
 ·rw [cmpI_gt k] at h;omega
theorem cmpD_off {a b:Dat} (h : ¬ a.k=b.k):cmpD a b=cmpI a.k b.k:=by unfold cmpD;rw [if_neg h]
theorem cmpD_on {a b:Dat} (h:a.k=b.k):cmpD a b=if a.k=2 then cmpI (rankT a.b) (rankT b.b) else if a.k=3 then cmpI a.n b.n else if a.k=4 then cmpS a.s b.s else 0:=by unfold cmpD;rw [if_pos h]
theorem cmpD_neg (a b:Dat):cmpD a b = -cmpD b a:=by
 by_cases h:a.k=b.k
 ·rw [cmpD_on h,cmpD_on h.symm, ← h]
  by_cases h2:a.k=2
  ·rw [if_pos h2,if_pos h2];exact cmpI_neg _ _
  ·rw [if_neg h2,if_neg h2]
   by_cases h3:a.k=3
   ·rw [if_pos h3,if_pos h3];exact cmpI_neg _ _
   ·rw [if_neg h3,if_neg h3]
    by_cases h4:a.k=4
    ·rw [if_pos h4,if_pos h4];exact cmpS_neg _ _
    ·rw [if_neg h4,if_neg h4];rfl
 ·rw [cmpD_off h,cmpD_off (Ne.symm h)];exact cmpI_neg _ _
theorem cmpD_self (a:Dat):cmpD a a=0:=by have:=cmpD_neg a a;omega
theorem cmpT_trans {x y z:Int} (h:cmpI x y≤0) (k:cmpI y z≤0):cmpI x z≤0:=by rw [cmpT_le] at *;omega
theorem cmpD_trans {a b c:Dat} (h:cmpD a b≤0) (k:cmpD b c≤0):cmpD a c≤0:=by
 by_cases e1:a.k=b.k
 ·by_cases e2:b.k=c.k
  ·rw [cmpD_on e1] at h
   rw [cmpD_on e2] at k
   rw [cmpD_on (e1.trans e2)]
   rw [← e1] at k
   by_cases h2:a.k=2
   ·rw [if_pos h2] at *;exact cmpT_trans h k
   ·rw [if_neg h2] at *
    by_cases h3:a.k=3
    ·rw [if_pos h3] at *;exact cmpT_trans h k
    ·rw [if_neg h3] at *
     by_cases h4:a.k=4
     ·rw [if_pos h4] at *;exact cmpS_trans h k
     ·rw [if_neg h4];omega
  ·rw [cmpD_off e2] at k
   rw [cmpD_off (by rw [e1];exact e2),e1]
   exact k
 ·by_cases e2:b.k=c.k
  ·rw [cmpD_off e1] at h
   rw [cmpD_off (by rw [← e2];exact e1), ← e2]
   exact h
  ·rw [cmpD_off e1,cmpT_le] at h
   rw [cmpD_off e2,cmpT_le] at k
   rw [cmpD_off (by omega),cmpT_le]
   omega
theorem form_of {k n:Int} {b:Bool} {s:ByteArray} (h:checkT k b n s=0):(k=1∨k=2∨k=3∨k=4)∧(k≠2→b=false)∧(k≠3→n=0)∧(k≠4→s=⟨#[]⟩):=by
 by_cases hf:(k=1∨k=2∨k=3∨k=4)∧(k≠2→b=false)∧(k≠3→n=0)∧(k≠4→s=⟨#[]⟩)
 ·exact hf
 ·rw [checkT_off hf] at h;cases h
theorem rankT_inj {a b:Bool} (h:rankT a=rankT b):a=b:=by cases a<;>cases b<;>first | rfl | (simp [rankT] at h)
theorem cmpD_zero {a b:Dat} (ha:a.check=0) (hb:b.check=0):cmpD a b=0↔a=b:=by
 constructor
 ·intro h
  by_cases e:a.k=b.k
  ·rw [cmpD_on e] at h
   obtain ⟨ka,ba,na,sa⟩:=a
   obtain ⟨kb,bb,nb,sb⟩:=b
   simp only at e h
   subst e
   obtain ⟨hk,a1,a2,a3⟩:=form_of (show checkT ka ba na sa=0 from ha)
   obtain ⟨_,b1,b2,b3⟩:=form_of (show checkT ka bb nb sb=0 from hb)
   have hbb:ba=bb:=by
    by_cases h2:ka=2
    ·rw [if_pos h2] at h;exact rankT_inj (cmpI_zero h)
    ·rw [a1 h2,b1 h2]
   have hnn:na=nb:=by
    by_cases h2:ka=3
    ·rw [if_neg (by omega),if_pos h2] at h;exact cmpI_zero h
    ·rw [a2 h2,b2 h2]
   have hss:sa=sb:=by
    by_cases h2:ka=4
    ·rw [if_neg (by omega),if_neg (by omega),if_pos h2] at h;exact cmpS_zero h
    ·rw [a3 h2,b3 h2]
   rw [hbb,hnn,hss]
  ·rw [cmpD_off e] at h
   exact absurd (cmpI_zero h) e
 ·rintro rfl;exact cmpD_self a
theorem toList_inj {x y:ByteArray} (h:x.toList=y.toList):x=y:=by
 rw [Lib.toList_data,Lib.toList_data] at h
 obtain ⟨⟨x⟩⟩:=x
 obtain ⟨⟨y⟩⟩:=y
 simp at h
 rw [h]
open Go.RowKit
theorem cmpR_neg : ∀ l m:List Dat,cmpR l m = -cmpR m l
 | [],[]=>rfl
 | [],_ :: _=>rfl
 | _ :: _,[]=>rfl
 | a :: l,b :: m=>by
  unfold cmpR
  have h:=cmpD_neg a b
  by_cases q:cmpD a b=0
  ·rw [if_pos q,if_pos (by omega),cmpR_neg l m]
  ·rw [if_neg q,if_neg (by omega),h]
theorem cmpD_tot:TotPre cmpD:=⟨cmpD_neg,fun _ _ _=>cmpD_trans⟩
theorem cmpR_trans : ∀ l m n:List Dat,cmpR l m≤0→cmpR m n≤0→cmpR l n≤0
 | [],_,[],_,_=>Int.le_refl _
 | [],_,_ :: _,_,_=>by unfold cmpR;decide
 | _ :: _,[],_,h,_=>by unfold cmpR at h;exact absurd h (by decide)
 | _ :: _,_ :: _,[],_,k=>by unfold cmpR at k;exact absurd k (by decide)
 | a :: l,b :: m,c :: n,h,k=>by
  unfold cmpR at h k ⊢
  by_cases q1:cmpD a b=0
  ·rw [if_pos q1] at h
   by_cases q2:cmpD b c=0
   ·rw [if_pos q2] at k
    rw [if_pos (cmpD_tot.eq_trans q1 q2)]
    exact cmpR_trans l m n h k
   ·rw [if_neg q2] at k
    have:=cmpD_tot.lt_of_le_lt (show cmpD a b≤0 by omega) (show cmpD b c<0 by omega)
    rw [if_neg (by omega)]
    omega
  ·rw [if_neg q1] at h
   have hbc:cmpD b c≤0:=by
    by_cases q2:cmpD b c=0
    ·omega
    ·rw [if_neg q2] at k;exact k
   have:=cmpD_tot.lt_of_lt_le (show cmpD a b<0 by omega) hbc
   rw [if_neg (by omega)]
   omega
/-- a row that lies in memory, so many times -/
structure Ct where
 A:Option Addr
 c:Nat
 l:List Dat
 k:Int
def Ct.zero:Ct:=⟨none,0,[],0⟩
def cmpC (x y:Ct):Int:=cmpR x.l y.l
theorem cmpC_tot:TotPre cmpC:=⟨fun x y=>cmpR_neg x.l y.l,fun x y z=>cmpR_trans x.l y.l z.l⟩
def ctC (x:Ct):List Value:=[.slice x.A x.l.length x.c, .int .i64 x.k]
def ctsC (L:List Ct):List Value:=L.flatMap ctC
theorem ctsC_len (L:List Ct):(ctsC L).length=L.length * 2:=by
 unfold ctsC
 induction L with
 | nil=>rfl
 | cons d l ih=>rw [List.flatMap_cons,List.length_append,ih,List.length_cons,show (ctC d).length=2 from rfl];omega
theorem ctsC_at : ∀ (L:List Ct) (i j:Nat),i<L.length→j<2→(ctsC L)[i * 2+j]?=(ctC (L.getD i Ct.zero))[j]?
 | [],i,j,h,_=>absurd h (Nat.not_lt_zero _)
 | d :: l,0,j,_,hj=>by
  unfold ctsC
  rw [List.flatMap_cons,Nat.zero_mul,Nat.zero_add,List.getElem?_append_left (by rw [show (ctC d).length=2 from rfl];exact hj)]
  rfl
 | d :: l,i+1,j,h,hj=>by
  unfold ctsC
  rw [List.flatMap_cons,List.getElem?_append_right (by rw [show (ctC d).length=2 from rfl];omega),show (i+1) * 2+j - (ctC d).length=i * 2+j by rw [show (ctC d).length=2 from rfl];omega]
  exact ctsC_at l i j (Nat.lt_of_succ_lt_succ h) hj
theorem ctsC_append (L M:List Ct):ctsC (L++M)=ctsC L++ctsC M:=List.flatMap_append
theorem ctsC_set : ∀ (L:List Ct) (i:Nat) (x:Ct),((ctsC L).set (i * 2) (.slice x.A x.l.length x.c)).set (i * 2+1) (.int .i64 x.k)=ctsC (L.set i x)
 | [],i,x=>rfl
 | d :: l,0,x=>rfl
 | d :: l,i+1,x=>by
  have ih:=ctsC_set l i x
  show ((ctC d++ctsC l).set ((i+1) * 2) _).set ((i+1) * 2+1) _=ctC d++ctsC (l.set i x)
  rw [← ih,List.set_append_right _ _ (by show 2≤_;omega),List.set_append_right _ _ (by show 2≤_;omega),show (i+1) * 2 - (ctC d).length=i * 2 by show _ - 2=_;omega,show (i+1) * 2+1 - (ctC d).length=i * 2+1 by show _ - 2=_;omega]
theorem ctsC_one (L:List Ct) : ∀ u∈ctsC L,u.oneCell'=true:=by
 intro u hu
 obtain ⟨d,_,h⟩:=List.mem_flatMap.1 hu
 simp only [ctC,List.mem_cons,List.not_mem_nil,or_false] at h
 rcases h with rfl | rfl<;>rfl
/-- the rows of such a list lie in memory, none of them in block g -/
def Rws (w:World) (g:Nat) (L:List Ct):Prop := ∀ x∈L,Rw w x.A x.c x.l ∧ ∀ ad,x.A=some ad→ad.block≠g
/-- the block g holds the list, from its head on; it was made from block B on -/
def Arr (w:World) (B g c:Nat) (L:List Ct):Prop:=Own w B 154 2 (some ⟨g,0,none⟩) L.length c (ctsC L)∧0<c
section
variable {w w':World} {B g c:Nat} {L:List Ct}
theorem Arr.ext (h:Arr w B g c L) (x:Ext w w'):Arr w' B g c L:=⟨h.1.ext x,h.2⟩
theorem Rws.ext (h:Rws w g L) (x:Ext w w'):Rws w' g L:=fun y hy=>⟨(h y hy).1.ext x,(h y hy).2⟩
theorem Rw.upd {A:Option Addr} {l:List Dat} (h:Rw w A c l) (hx:w.grownBy w' (some g)) (ha : ∀ ad,A=some ad→ad.block≠g):Rw w' A c l :=
 ⟨h.1,h.2.1,h.2.2.1,h.2.2.2.1,fun hn=>by
  obtain ⟨ad,e,hc⟩:=h.2.2.2.2 hn
  exact ⟨ad,e,fun j u hu=>hx.cell (hc j u hu) (by rw [block_add];intro q;injection q with q;exact ha ad e q)⟩⟩
theorem Rws.upd (h:Rws w g L) (hx:w.grownBy w' (some g)):Rws w' g L:=fun y hy=>⟨(h y hy).1.upd hx (h y hy).2,(h y hy).2⟩
theorem Rws.sub {M:List Ct} (h:Rws w g L) (hs : ∀ x∈M,x∈L):Rws w g M:=fun x hx=>h x (hs x hx)
theorem Arr.lt (h:Arr w B g c L):B≤g∧g<w.heap.size:=by
 have:=h.1.lt g (by obtain ⟨k,hk⟩ : ∃ k,c=k+1:=⟨c - 1,by have:=h.2;omega⟩;rw [hk];rfl)
 exact this
theorem Arr.le (h:Arr w B g c L):L.length≤9223372036854775807:=by have:=h.1.le;omega
/-- an element's two cells; they may be written -/
theorem Arr.at (h:Arr w B g c L) {i:Nat} (hi:i<L.length):w.cell? ⟨g,i * 2,none⟩=some (.slice (L.getD i Ct.zero).A (L.getD i Ct.zero).l.length (L.getD i Ct.zero).c)∧w.cell? ⟨g,i * 2+1,none⟩=some (.int .i64 (L.getD i Ct.zero).k):=by
 obtain ⟨g',e,_,_,_,hc,_⟩:=h.1.form (by omega)
 cases e
 exact ⟨hc _ _ (by rw [← Nat.add_zero (i * 2),ctsC_at L i 0 hi (by omega)];rfl),hc _ _ (by rw [ctsC_at L i 1 hi (by omega)];rfl)⟩
theorem Arr.free (h:Arr w B g c L) (j:Nat):w.frozen? ⟨g,j,none⟩=false:=by
 rcases h.1.2 with ⟨h1,h2⟩ | ⟨g',cur,e,hb,hg,_⟩
 ·have:=h.2;omega
 ·cases e
  simp [World.frozen?,hg]
/-- an element that is stored -/
theorem Arr.set (h:Arr w B g c L) (i:Nat) (x:Ct):Arr ((w.setCell ⟨g,i * 2,none⟩ (.slice x.A x.l.length x.c)).setCell ⟨g,i * 2+1,none⟩ (.int .i64 x.k)) B g c (L.set i x):=by
 have:=(h.1.put (i * 2) (.slice x.A x.l.length x.c)).put (i * 2+1) (.int .i64 x.k)
 rw [ctsC_set] at this
 refine ⟨?_,h.2⟩
 rw [List.length_set]
 exact this
theorem upd_set (w:World) (g i:Nat) (u:Value):w.grownBy (w.setCell ⟨g,i,none⟩ u) (some g) :=
 ⟨rfl,rfl,rfl,by rw [World.size_setCell];exact Nat.le_refl _,fun k _ hk=>Below.heap_setCell w ⟨g,i,none⟩ u k (fun e=>hk (by rw [e]))⟩
theorem upd_ext (x:Ext w w') (g:Nat):w.grownBy w' (some g):=⟨x.os,x.tape,x.output,x.size,fun k hk _=>x.block k hk⟩
end
open Go.RowKit
/-- the order of bytes -/
def lexB:List UInt8→List UInt8→Int
 | [],[]=>0
 | [],_ :: _ => -1
 | _ :: _,[]=>1
 | a :: x,b :: y=>if a.toNat<b.toNat then -1 else if b.toNat<a.toNat then 1 else lexB x y
theorem lexB_same : ∀ p s t:List UInt8,lexB (p++s) (p++t)=lexB s t
 | [],_,_=>rfl
 | a :: p,s,t=>by
  show (if a.toNat<a.toNat then -1 else if a.toNat<a.toNat then 1 else lexB (p++s) (p++t))=_
  rw [if_neg (by omega),if_neg (by omega)]
  exact lexB_same p s t
theorem lexB_lt {a b:UInt8} (x y:List UInt8) (h:a.toNat<b.toNat):lexB (a :: x) (b :: y) = -1:=if_pos h
theorem lexB_gt {a b:UInt8} (x y:List UInt8) (h:b.toNat<a.toNat):lexB (a :: x) (b :: y)=1:=by
 show (if a.toNat<b.toNat then -1 else if b.toNat<a.toNat then 1 else lexB x y)=1
 rw [if_neg (by omega),if_pos h]
theorem lexB_eq (a:UInt8) (x y:List UInt8):lexB (a :: x) (a :: y)=lexB x y:=lexB_same [a] x y
theorem lexB_refl (p:List UInt8):lexB p p=0:=by
 have:=lexB_same p [] []
 rwa [List.append_nil] at this
/-! ### numbers -/
def be:Nat→Nat→List UInt8
 | 0,_=>[]
 | k+1,m=>UInt8.ofNat (m / 256 ^ k) :: be k (m % 256 ^ k)
theorem be8_is (m:Nat) (h:m<18446744073709551616):be8 m=be 8 m:=by
 have q : ∀ a b:Nat,a % 256=b % 256→UInt8.ofNat a=UInt8.ofNat b:=fun a b e=>UInt8.toNat_inj.1 (by rw [UInt8.toNat_ofNat',UInt8.toNat_ofNat'];exact e)
 unfold be8
 simp only [be]
 rw [show (2:Nat) ^ 56=72057594037927936 by decide,show (2:Nat) ^ 48=281474976710656 by decide,show (2:Nat) ^ 40=1099511627776 by decide,show (2:Nat) ^ 32=4294967296 by decide,show (2:Nat) ^ 24=16777216 by decide,show (2:Nat) ^ 16=65536 by decide,show (2:Nat) ^ 8=256 by decide]
 simp only [Nat.pow_zero,Nat.div_one]
 refine congr (congrArg _ (q _ _ (by omega))) (congr (congrArg _ (q _ _ (by omega))) (congr (congrArg _ (q _ _ (by omega))) (congr (congrArg _ (q _ _ (by omega))) (congr (congrArg _ (q _ _ (by omega))) (congr (congrArg _ (q _ _ (by omega))) (congr (congrArg _ (q _ _ (by omega))) (congr (congrArg _ (q _ _ (by omega))) rfl)))))))
theorem be_lt : ∀ (k a b:Nat) (s t:List UInt8),a<256 ^ k→b<256 ^ k→a<b→lexB (be k a++s) (be k b++t) = -1∧lexB (be k b++t) (be k a++s)=1
 | 0,a,b,_,_,ha,hb,h=>by rw [Nat.pow_zero] at ha hb;omega
 | k+1,a,b,s,t,ha,hb,h=>by
  have hp:0<256 ^ k:=Nat.pow_pos (by decide)
  rw [Nat.pow_succ] at ha hb
  have qa:a / 256 ^ k<256:=Nat.div_lt_of_lt_mul ha
  have qb:b / 256 ^ k<256:=Nat.div_lt_of_lt_mul hb
  have tx : ∀ x:Nat,x<256→(UInt8.ofNat x).toNat=x:=fun x hx=>by rw [UInt8.toNat_ofNat'];omega
  have ta:=tx _ qa
  have tb:=tx _ qb
  unfold be
  rw [List.cons_append,List.cons_append]
  rcases Nat.lt_trichotomy (a / 256 ^ k) (b / 256 ^ k) with q | q | q
  ·exact ⟨lexB_lt _ _ (by rw [ta,tb];exact q),lexB_gt _ _ (by rw [ta,tb];exact q)⟩
  ·rw [q,lexB_eq,lexB_eq]
   refine be_lt k _ _ s t (Nat.mod_lt _ hp) (Nat.mod_lt _ hp) ?_
   have e1:=Nat.div_add_mod a (256 ^ k)
   have e2:=Nat.div_add_mod b (256 ^ k)
   rw [q] at e1
   omega
  ·have:b≤a:=by
    rcases Nat.lt_or_ge a b with h1 | h1
    ·have:=Nat.div_le_div_right (c:=256 ^ k) (Nat.le_of_lt h1)
     omega
    ·exact h1
   omega
/-! ### texts -/
theorem escZ_zero:escZ 0=[0,255]:=rfl
theorem escZ_some {c:UInt8} (h : ¬ c=0):escZ c=[c]:=if_neg h
theorem pos_of_ne {c:UInt8} (h : ¬ c=0):0<c.toNat:=by
 rcases Nat.eq_zero_or_pos c.toNat with q | q
 ·exact absurd (UInt8.toNat_inj.1 q) h
 ·exact q
theorem txt_lt : ∀ (x y:List UInt8) (s t:List UInt8),Op.bytesLess x y=true→lexB (x.flatMap escZ++(0 :: 1 :: s)) (y.flatMap escZ++(0 :: 1 :: t)) = -1∧lexB (y.flatMap escZ++(0 :: 1 :: t)) (x.flatMap escZ++(0 :: 1 :: s))=1
 | [],[],_,_,h=>by simp [Op.bytesLess] at h
 | _ :: _,[],_,_,h=>by simp [Op.bytesLess] at h
 | [],c :: y,s,t,_=>by
  rw [List.flatMap_cons]
  by_cases hc:c=0
  ·subst hc
   rw [escZ_zero]
   show lexB (0 :: 1 :: s) (0 :: 255 :: (y.flatMap escZ++0 :: 1 :: t)) = -1∧lexB (0 :: 255 :: (y.flatMap escZ++0 :: 1 :: t)) (0 :: 1 :: s)=1
   rw [lexB_eq,lexB_eq]
   exact ⟨lexB_lt _ _ (by decide),lexB_gt _ _ (by decide)⟩
  ·rw [escZ_some hc]
   exact ⟨lexB_lt _ _ (pos_of_ne hc),lexB_gt _ _ (pos_of_ne hc)⟩
 | c :: x,d :: y,s,t,h=>by
  simp only [Op.bytesLess,Bool.or_eq_true,decide_eq_true_eq,Bool.and_eq_true,beq_iff_eq] at h
  rw [List.flatMap_cons,List.flatMap_cons,List.append_assoc,List.append_assoc]
  rcases h with h | ⟨rfl,h⟩
  ·have h':=UInt8.lt_iff_toNat_lt.1 h
   have hd : ¬ d=0:=fun e=>by rw [e] at h';exact absurd h' (by simp)
   rw [escZ_some hd]
   by_cases hc:c=0
   ·subst hc
    rw [escZ_zero]
    exact ⟨lexB_lt _ _ (pos_of_ne hd),lexB_gt _ _ (pos_of_ne hd)⟩
   ·rw [escZ_some hc]
    exact ⟨lexB_lt _ _ h',lexB_gt _ _ h'⟩
  ·rw [lexB_same,lexB_same]
   exact txt_lt x y s t h
/-! ### data -/
theorem datum_form {d:Dat} (h:d.check=0):(d.k=1∨d.k=2∨d.k=3∨d.k=4)∧(d.k≠2→d.b=false)∧(d.k≠3→d.n=0)∧(d.k≠4→d.s=⟨#[]⟩):=form_of h
def InD (d:Dat):Prop := -9223372036854775808≤d.n∧d.n≤9223372036854775807
theorem put_lt {a b:Dat} (ha:a.check=0) (hb:b.check=0) (ia:InD a) (ib:InD b) (h:cmpD a b<0) (s t:List UInt8):lexB (putT a++s) (putT b++t) = -1∧lexB (putT b++t) (putT a++s)=1∧cmpD a b = -1:=by
 obtain ⟨ka,_⟩:=datum_form ha
 obtain ⟨kb,_⟩:=datum_form hb
 obtain ⟨k1,b1,n1,s1⟩:=a
 obtain ⟨k2,b2,n2,s2⟩:=b
 simp only at ka kb
 unfold InD at ia ib
 simp only at ia ib
 clear ha hb
 unfold cmpD at h ⊢
 simp only at h ⊢
 by_cases hk:k1=k2
 ·subst hk
  rw [if_pos rfl] at h ⊢
  rcases ka with rfl | rfl | rfl | rfl
  ·exact absurd h (by simp)
  ·cases b1<;>cases b2
   ·exact absurd h (by simp [cmpI])
   ·exact ⟨lexB_lt _ _ (show (32:UInt8).toNat<(33:UInt8).toNat by decide),lexB_gt _ _ (show (32:UInt8).toNat<(33:UInt8).toNat by decide),rfl⟩
   ·exact absurd h (by simp [cmpI,rankT])
   ·exact absurd h (by simp [cmpI])
  ·rw [if_neg (by decide),if_pos rfl] at h ⊢
   have hlt:n1<n2:=by
    unfold cmpI at h
    split at h
    ·assumption
    ·split at h<;>exact absurd h (by decide)
   have e1:=be8_is (n1+9223372036854775808).toNat (by omega)
   have e2:=be8_is (n2+9223372036854775808).toNat (by omega)
   have:=be_lt 8 (n1+9223372036854775808).toNat (n2+9223372036854775808).toNat s t (by rw [show (256:Nat) ^ 8=18446744073709551616 by decide];omega) (by rw [show (256:Nat) ^ 8=18446744073709551616 by decide];omega) (by omega)
   show lexB (48 :: be8 _++s) (48 :: be8 _++t) = -1∧lexB (48 :: be8 _++t) (48 :: be8 _++s)=1∧cmpI n1 n2 = -1
   rw [e1,e2,List.cons_append,List.cons_append,lexB_eq,lexB_eq]
   exact ⟨this.1,this.2,cmpI_lt hlt⟩
  ·rw [if_neg (by decide),if_neg (by decide),if_pos rfl] at h ⊢
   have hlt:Op.bytesLess s1.toList s2.toList=true:=by
    rw [cmpS_eq] at h
    split at h
    ·assumption
    ·split at h<;>exact absurd h (by decide)
   have:=txt_lt s1.data.toList s2.data.toList s t (by rw [Lib.toList_data,Lib.toList_data] at hlt;exact hlt)
   show lexB (64 :: (s1.data.toList.flatMap escZ++[0,1])++s) (64 :: (s2.data.toList.flatMap escZ++[0,1])++t) = -1∧lexB (64 :: (s2.data.toList.flatMap escZ++[0,1])++t) (64 :: (s1.data.toList.flatMap escZ++[0,1])++s)=1∧cmpS s1 s2 = -1
   rw [List.cons_append,List.cons_append,lexB_eq,lexB_eq,List.append_assoc,List.append_assoc]
   exact ⟨this.1,this.2,by rw [cmpS_eq,if_pos hlt]⟩
 ·rw [if_neg hk] at h ⊢
  have hlt:k1<k2:=by
   unfold cmpI at h
   split at h
   ·assumption
   ·split at h<;>exact absurd h (by decide)
  refine and_assoc.1 ⟨?_,cmpI_lt hlt⟩
  rcases ka with rfl | rfl | rfl | rfl<;>rcases kb with rfl | rfl | rfl | rfl<;>first | exact absurd hlt (by decide) | skip
  ·cases b2
   ·exact ⟨lexB_lt _ _ (show (16:UInt8).toNat<(32:UInt8).toNat by decide),lexB_gt _ _ (show (16:UInt8).toNat<(32:UInt8).toNat by decide)⟩
   ·exact ⟨lexB_lt _ _ (show (16:UInt8).toNat<(33:UInt8).toNat by decide),lexB_gt _ _ (show (16:UInt8).toNat<(33:UInt8).toNat by decide)⟩
  ·exact ⟨lexB_lt _ _ (show (16:UInt8).toNat<(48:UInt8).toNat by decide),lexB_gt _ _ (show (16:UInt8).toNat<(48:UInt8).toNat by decide)⟩
  ·exact ⟨lexB_lt _ _ (show (16:UInt8).toNat<(64:UInt8).toNat by decide),lexB_gt _ _ (show (16:UInt8).toNat<(64:UInt8).toNat by decide)⟩
  ·cases b1
   ·exact ⟨lexB_lt _ _ (show (32:UInt8).toNat<(48:UInt8).toNat by decide),lexB_gt _ _ (show (32:UInt8).toNat<(48:UInt8).toNat by decide)⟩
   ·exact ⟨lexB_lt _ _ (show (33:UInt8).toNat<(48:UInt8).toNat by decide),lexB_gt _ _ (show (33:UInt8).toNat<(48:UInt8).toNat by decide)⟩
  ·cases b1
   ·exact ⟨lexB_lt _ _ (show (32:UInt8).toNat<(64:UInt8).toNat by decide),lexB_gt _ _ (show (32:UInt8).toNat<(64:UInt8).toNat by decide)⟩
   ·exact ⟨lexB_lt _ _ (show (33:UInt8).toNat<(64:UInt8).toNat by decide),lexB_gt _ _ (show (33:UInt8).toNat<(64:UInt8).toNat by decide)⟩
  ·exact ⟨lexB_lt _ _ (show (48:UInt8).toNat<(64:UInt8).toNat by decide),lexB_gt _ _ (show (48:UInt8).toNat<(64:UInt8).toNat by decide)⟩
theorem put_ne {d:Dat} (h:d.check=0):putT d≠[]:=by
 obtain ⟨hk,_⟩:=datum_form h
 unfold putT
 rcases hk with q | q | q | q<;>rw [q]<;>simp
theorem key_ord : ∀ l m:List Dat,(∀ d∈l,d.check=0∧InD d)→(∀ d∈m,d.check=0∧InD d)→lexB (rkeyT l) (rkeyT m)=cmpR l m
 | [],[],_,_=>rfl
 | [],b :: m,_,hm=>by
  unfold rkeyT
  rw [List.flatMap_cons]
  obtain ⟨c,x,e⟩:=List.exists_cons_of_ne_nil (put_ne (hm b (List.mem_cons_self ..)).1)
  rw [e]
  rfl
 | a :: l,[],hl,_=>by
  unfold rkeyT
  rw [List.flatMap_cons]
  obtain ⟨c,x,e⟩:=List.exists_cons_of_ne_nil (put_ne (hl a (List.mem_cons_self ..)).1)
  rw [e]
  rfl
 | a :: l,b :: m,hl,hm=>by
  have ha:=hl a (List.mem_cons_self ..)
  have hb:=hm b (List.mem_cons_self ..)
  have ih:=key_ord l m (fun d hd=>hl d (List.mem_cons_of_mem _ hd)) (fun d hd=>hm d (List.mem_cons_of_mem _ hd))
  unfold rkeyT at ih ⊢
  rw [List.flatMap_cons,List.flatMap_cons]
  unfold cmpR
  by_cases h:cmpD a b=0
  ·rw [if_pos h]
   have e:a=b:=(cmpD_zero ha.1 hb.1).1 h
   rw [e,lexB_same]
   exact ih
  ·rw [if_neg h]
   rcases Int.lt_or_gt_of_ne h with q | q
   ·obtain ⟨h1,_,h3⟩:=put_lt ha.1 hb.1 ha.2 hb.2 q (l.flatMap putT) (m.flatMap putT)
    rw [h1,h3]
   ·have q':cmpD b a<0:=by rw [cmpD_neg];omega
    obtain ⟨_,h2,h3⟩:=put_lt hb.1 ha.1 hb.2 ha.2 q' (m.flatMap putT) (l.flatMap putT)
    rw [h2,cmpD_neg,h3]
    rfl
theorem row_zero : ∀ l m:List Dat,(∀ d∈l,d.check=0∧InD d)→(∀ d∈m,d.check=0∧InD d)→cmpR l m=0→l=m
 | [],[],_,_,_=>rfl
 | [],_ :: _,_,_,h=>absurd h (by unfold cmpR;decide)
 | _ :: _,[],_,_,h=>absurd h (by unfold cmpR;decide)
 | a :: l,b :: m,hl,hm,h=>by
  unfold cmpR at h
  by_cases q:cmpD a b=0
  ·rw [if_pos q] at h
   rw [(cmpD_zero (hl a (List.mem_cons_self ..)).1 (hm b (List.mem_cons_self ..)).1).1 q,row_zero l m (fun d hd=>hl d (List.mem_cons_of_mem _ hd)) (fun d hd=>hm d (List.mem_cons_of_mem _ hd)) h]
  ·rw [if_neg q] at h
   exact absurd h q
theorem key_inj {l m:List Dat} (hl : ∀ d∈l,d.check=0∧InD d) (hm : ∀ d∈m,d.check=0∧InD d) (h:rkeyT l=rkeyT m):l=m :=
 row_zero l m hl hm (by rw [← key_ord l m hl hm,h];exact lexB_refl _)
end Go.Proofs.YtdgbkpoickbidaaGreatDoor
namespace Go.Proofs.YtdgbkpoickbidaaGreatDoor
open Go.ChangeShapes Go.WideShapes Go.ChangeAt Go.RowKit Go.WideElems

instance:Inhabited Dat:=⟨Dat.zero⟩
section
variable {H:Type} {enc:TypeId × Value→H} {W:World}
theorem list4 {α:Type} {l:List α} (h:l.length=4) : ∃ a b c d,l=[a,b,c,d]:=by
 match l,h with
 | [a,b,c,d],_=>exact ⟨a,b,c,d,rfl⟩
theorem one_kind:Tryz.prog.cellsOf 202=1:=by kernel_rfl
theorem one_bool:Tryz.prog.cellsOf 4=1:=by kernel_rfl
theorem one_i64:Tryz.prog.cellsOf 2=1:=by kernel_rfl
theorem one_str:Tryz.prog.cellsOf 9=1:=by kernel_rfl
theorem four_dat:Tryz.prog.cellsOf 204=4:=by kernel_rfl
/-- a datum's cells, read -/
theorem come_datC {sp:Nat→Bool} {held:Bool} {fuel:Nat} {cs:List Value} {y:DataW H × List MemPlace} (h:DataW.trod enc Tryz.prog W 0 sp held fuel 204 cs=some y) :
  ∃ d:Dat,cs=datC d∧InD d∧d.s.size≤9223372036854775807∧(0≤d.k∧d.k≤255):=by
 obtain ⟨y0,y1,y2,y3,n,_,hl,h0,h1,h2,h3⟩:=Go.Joins.trod_struct4 Tryz.underlying204 h
 rw [four_dat] at hl
 obtain ⟨c0,c1,c2,c3,rfl⟩:=list4 hl
 have g0:DataW.trod enc Tryz.prog W 0 sp held n 202 [c0]=some y0:=by
  have:DataW.trod enc Tryz.prog W 0 sp held n 202 (([c0,c1,c2,c3].drop 0).take (Tryz.prog.cellsOf 202))=some y0:=h0
  rw [one_kind] at this
  exact this
 have g1:DataW.trod enc Tryz.prog W 0 sp held n 4 [c1]=some y1:=by
  have:DataW.trod enc Tryz.prog W 0 sp held n 4 (([c0,c1,c2,c3].drop 1).take (Tryz.prog.cellsOf 4))=some y1:=h1
  rw [one_bool] at this
  exact this
 have g2:DataW.trod enc Tryz.prog W 0 sp held n 2 [c2]=some y2:=by
  have:DataW.trod enc Tryz.prog W 0 sp held n 2 (([c0,c1,c2,c3].drop 2).take (Tryz.prog.cellsOf 2))=some y2:=h2
  rw [one_i64] at this
  exact this
 have g3:DataW.trod enc Tryz.prog W 0 sp held n 9 [c3]=some y3:=by
  have:DataW.trod enc Tryz.prog W 0 sp held n 9 (([c0,c1,c2,c3].drop 3).take (Tryz.prog.cellsOf 9))=some y3:=h3
  rw [one_str] at this
  exact this
 obtain ⟨k,e0,_,w0⟩:=DataW.trod_int Tryz.underlying202 g0
 obtain ⟨b,e1,_⟩:=DataW.trod_bool Tryz.underlying4 g1
 obtain ⟨m,e2,_,w2⟩:=DataW.trod_int Tryz.underlying2 g2
 obtain ⟨s,e3,_,w3⟩:=DataW.trod_string Tryz.underlying9 g3
 obtain rfl:c0 = .int .u8 k:=by simpa using e0
 obtain rfl:c1 = .bool b:=by simpa using e1
 obtain rfl:c2 = .int .i64 m:=by simpa using e2
 obtain rfl:c3 = .string s:=by simpa using e3
 exact ⟨⟨k,b,m,s⟩,rfl,dwf_i64 w2,w3,wf_u8 w0⟩
/-- what is known of a row that comes in -/
structure RwIn (l:List Dat):Prop where
 txt:RwTxt l
 int:RwInt l
 kind : ∀ d∈l,0≤d.k∧d.k≤255
theorem come_rowC {fuel:Nat} {cs:List Value} {y:DataW H × List MemPlace} (h:DataW.trod enc Tryz.prog W 0 (fun _=>true) true fuel 79 cs=some y) :
  ∃ A c l,cs=[.slice A l.length c]∧Rw W A c l∧RwIn l:=by
 rcases Go.Deep.open_slice Tryz.underlying79 h with ⟨hcs,_⟩ | ⟨a,n,c,m,fu,D,Pl,hcs,_,hnc,hcm,hm,_,hx⟩
 ·exact ⟨none,0,[],hcs,Rw.nil W,⟨fun d hd=>(nomatch hd),fun d hd=>(nomatch hd),fun d hd=>(nomatch hd)⟩⟩
 ·rw [four_dat] at hx
  have hmn:n≤m:=by rw [hm];split<;>omega
  obtain ⟨F,hF⟩:=Go.Deep.choose_lt (α:=Dat) (n:=n) (p:=fun i d=>(∀ j,j<4→W.cell? (a.add (i * 4+j))=(datC d)[j]?)∧InD d∧d.s.size≤9223372036854775807∧(0≤d.k∧d.k≤255)) (fun i hi=>by
   obtain ⟨cs',h1,h2⟩:=hx i (by omega)
   obtain ⟨_,_,h3⟩:=World.cells?_some h1
   obtain ⟨d,rfl,h4⟩:=come_datC h2
   exact ⟨d,fun j hj=>by rw [← add_add'];exact h3 j hj,h4⟩)
  have hlen:((List.range n).map F).length=n:=by simp
  have hmem : ∀ d∈(List.range n).map F,InD d∧d.s.size≤9223372036854775807∧(0≤d.k∧d.k≤255):=fun d hd=>by
   obtain ⟨i,hi,rfl⟩:=List.mem_map.1 hd
   exact (hF i (List.mem_range.1 hi)).2
  refine ⟨some a,c,(List.range n).map F,by rw [hlen];exact hcs,⟨by rw [rowC_len],by rw [hlen];exact hnc,hcm,(fun h=>nomatch h),fun _=>⟨a,rfl,fun j u hu=>?_⟩⟩,⟨fun d hd=>(hmem d hd).2.1,fun d hd=>(hmem d hd).1,fun d hd=>(hmem d hd).2.2⟩⟩
  have hj:j<n * 4:=by
   rcases Nat.lt_or_ge j (n * 4) with q | q
   ·exact q
   ·rw [List.getElem?_eq_none (by rw [rowC_len,hlen];exact q)] at hu
    cases hu
  have e:j=j / 4 * 4+j % 4:=by omega
  rw [e,rowC_at _ _ _ (by rw [hlen];omega) (by omega)] at hu
  have e2:((List.range n).map F).getD (j / 4) Dat.zero=F (j / 4):=by
   rw [List.getD_eq_getElem?_getD,List.getElem?_map,List.getElem?_range (by omega)]
   rfl
  rw [e2] at hu
  rw [e,(hF (j / 4) (by omega)).1 (j % 4) (by omega)]
  exact hu
end
end Go.Proofs.YtdgbkpoickbidaaGreatDoor
namespace Go.Proofs.YtdgbkpoickbidaaGreatDoor
open Go.ChangeShapes Go.WideShapes Go.ChangeAt Go.RowKit Go.WideElems

theorem wf_i64 {n:Int} (h:(Lit.int .i64 n).wf=true) : -9223372036854775808≤n∧n≤9223372036854775807:=by
 simpa [Lit.wf,IntKind.min,IntKind.max,IntKind.signed,IntKind.bits] using h
theorem wf_u64 {n:Int} (h:(Lit.int .u64 n).wf=true):0≤n∧n≤18446744073709551615:=by
 simpa [Lit.wf,IntKind.min,IntKind.max,IntKind.signed,IntKind.bits] using h
theorem wf_u32 {n:Int} (h:(Lit.int .u32 n).wf=true):0≤n∧n≤4294967295:=by
 simpa [Lit.wf,IntKind.min,IntKind.max,IntKind.signed,IntKind.bits] using h

section
variable {H:Type} {enc:TypeId × Value→H} {W:World}
set_option maxRecDepth 100000 in
theorem come_words {fuel:Nat} {v:Value} {y:DataW H × List MemPlace} (h:DataW.trod enc Tryz.prog W 0 (fun _=>true) true fuel 24 [v]=some y) :
  ∃ A n c l,v = .slice A n c∧Sl W 1 A n c (wds l)∧U32 l:=by
 rcases open_ints Tryz.underlying24 Tryz.underlying180 (by kernel_rfl) h with ⟨hcs,_⟩ | ⟨a,n,c,zs,hcs,_,hnc,hcm,hzl,_,hcell,hwf⟩
 ·obtain rfl:v = .slice none 0 0:=by simpa using hcs
  exact ⟨none,0,0,[],rfl,Sl.nil W 1,fun x hx=>by cases hx⟩
 ·obtain rfl:v = .slice (some a) n c:=by simpa using hcs
  have hz:zs.length=c:=by simpa using hzl
  refine ⟨some a,n,c,zs.take n,rfl,⟨by simp [wds];omega,hnc,hcm,(fun h=>nomatch h),fun _=>⟨a,rfl,fun j u hu=>?_⟩⟩,fun x hx=>wf_u32 (hwf x (List.mem_of_mem_take hx))⟩
  simp only [wds,List.getElem?_map,List.getElem?_take] at hu
  split at hu
  ·rename_i hj
   have hc1:=hcell j (by omega)
   rw [List.getD_eq_getElem?_getD,List.getElem?_eq_getElem (show j<zs.length by omega)] at hc1
   rw [List.getElem?_eq_getElem (show j<zs.length by omega)] at hu
   simp only [Option.map_some,Option.some.injEq] at hu
   rw [← hu]
   exact hc1
  ·cases hu

set_option maxRecDepth 100000 in
theorem come_time {base:Nat} {v:Value} {d:DataW H} {p:List MemPlace} (hv:Value.okWide Tryz.prog W .any base 26 v) (h:DataW.Trod enc Tryz.prog W 0 (fun _=>true) true 26 v d p) :
  ∃ e A n c l,v = .agg #[.int .u64 e, .slice A n c]∧Sl W 1 A n c (wds l)∧U32 l∧0≤e∧e≤18446744073709551615:=by
 obtain ⟨v0,v1,y0,y1,n,rfl,_,_,h0,h1⟩:=Go.Joins.open_agg2 Tryz.underlying26 (by kernel_rfl) (by kernel_rfl) hv h
 obtain ⟨L,e0,_,w0⟩:=DataW.trod_int Tryz.underlying23 h0
 obtain ⟨A,k,c,l,rfl,hs,hu⟩:=come_words h1
 obtain rfl:v0 = .int .u64 L:=by simpa using e0
 exact ⟨L,A,k,c,l,rfl,hs,hu,wf_u64 w0⟩

end
end Go.Proofs.YtdgbkpoickbidaaGreatDoor
