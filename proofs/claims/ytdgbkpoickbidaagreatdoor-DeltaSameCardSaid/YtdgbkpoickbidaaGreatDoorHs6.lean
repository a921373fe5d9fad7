/- row.Sum: what its steps do to memory. row.Sum: the loop's relation. row.Sum of rows that all may be: the walk, up to the sort. row.Sum of rows that all may be: the walk. row.Sum of any rows: the walk of rows that may not all be, and of none. stamp.Cmp, with the world behind it told to the block. delta.order: the order of updates. Conditions: each theorem states its own. -/
import Derived.Test.YtdgbkpoickbidaaGreatDoorHs2
import Derived.Test.YtdgbkpoickbidaaGreatDoorHs4
import Derived.Test.YtdgbkpoickbidaaGreatDoorHs5
import Derived.Maps.OwnSet
import Derived.Maps.OwnOps
import Derived.Laws.MakeOwn
import Derived.Test.YtdgbkpoickbidaaGreatDoorHs3
import Derived.Sort.Grow
namespace Go.Proofs.YtdgbkpoickbidaaGreatDoor
open Go.RowKit Go.Maps

theorem elem_ct:Elem Tryz.prog 31 154 2 32 (.agg #[.slice none 0 0, .int .i64 0]):=⟨by kernel_rfl,by kernel_rfl,rfl,by decide⟩
def madeCts (n:Nat):Obj := .cells (madeCells #[.slice none 0 0, .int .i64 0] (n * 2)) 154
theorem make_cts (n:Nat) (hn:n≤1000000000) (W:World):(Instr.makeSlice 31 (.int .i64 0) (.int .i64 (n:Int))).run Tryz.prog W = .ok (.slice (some ⟨W.heap.size,0,none⟩) 0 n) (W.alloc (madeCts n)):=by
 obtain ⟨i,hi,hz,hs,hb⟩:=info_parts elem_ct.info
 have:=run_make (P:=Tryz.prog) (w:=W) 31 154 i _ elem_ct.under hi hz .i64 .i64 0 (n:Int) (Int.le_refl _) (by omega) (by rw [hb];omega) (by omega)
 rw [hs] at this
 exact this
theorem make_map (n:Int) (W:World):(Instr.makeMap 225 (some (.int .i64 n))).run Tryz.prog W = .ok (.map (some W.heap.size)) (W.alloc (.map #[] 0)):=by
 simp [Instr.makeMap,run_underlying Tryz.underlying225]
 rfl
theorem arr_made (W:World) (n:Nat) (h:0<n) (hn:n≤1000000000):Arr (W.alloc (madeCts n)) W.heap.size W.heap.size n [] :=
 ⟨⟨rfl, .inr ⟨W.heap.size,_,rfl,Nat.le_refl _,heap_alloc_new W _,Nat.zero_le _,by unfold maxLen;omega,Nat.le_of_eq (size_madeCells _ _).symm,rfl⟩⟩,h⟩
theorem wpList_append_stay {P:Program} (w:World) {ops:Array Oper} {rest:List Oper} {o:Oper} {a:Act} {Q:Exit→Act→World→Prop} {t e size bytes:Nat} {z:Value} (E:Elem P t e size bytes z) (base:Nat) (s x:Operand)
  (ho:o.op = .call { callee := .builtin .append,args := #[s,x],argTypes := #[t,t] }) (hgd:o.guard=none)
  (g n c0:Nat) (xs:List Value) (hs:a.eval s = .slice (some ⟨g,0,none⟩) n c0) (hown:Own w base e size (some ⟨g,0,none⟩) n c0 xs) (hc:0<c0)
  (ad:Addr) (m c:Nat) (news:List Value) (hx:a.eval x = .slice (some ad) m c) (hr:Sl w size (some ad) m c news) (hm:0<m) (h1 : ∀ u∈news,u.oneCell'=true) (hroom:n+m≤c0)
  (h : ∀ w',Own w' base e size (some ⟨g,0,none⟩) (n+m) c0 (xs++news)→w.grownBy w' (some g)→wpList P ops Q rest (a.put o.dst (.slice (some ⟨g,0,none⟩) (n+m) c0)) w'):wpList P ops Q (o :: rest) a w :=
 wpList_plain hgd fun _ hK=>by
  obtain ⟨w',hrun,h2,h3⟩:=run_append_stay (P:=P) (ty:=o.type) w E base g n c0 xs hown hc ad m c news hr hm h1 hroom
  unfold Oper.wp execOp
  simp only [ho,resolve,invoke,builtin,Sem.run_bind,Sem.run_pure,Result.andThen_ok,List.map_toArray,List.map_cons,List.map_nil,hs,hx,hrun]
  exact hK _ _ (h w' h2 h3)
/-- bytes that a call owns, made a string -/
theorem conv_own {w:World} {B n c:Nat} {A:Option Addr} {l:List UInt8} (h:OwnB w B A n c l) :
  Sem.run Tryz.prog (convert 226 9 (.slice A n c)) w = .ok (.string ⟨l.toArray⟩) w:=by
 have hl:=h.len
 rw [run_convert_bytes_string _ _ _ _ _ _ _ under_bytes Tryz.underlying5 under_string]
 rcases h.1.2 with ⟨hc,h0⟩ | ⟨g,cur,e,hb,hg,hnc,hcm,hcs,htake⟩
 ·have:l=[]:=List.eq_nil_of_length_eq_zero (by omega)
  subst this
  subst h0
  cases A<;>rfl
 ·cases e
  have hbk:Bk w g 5 cur:=hg
  have e:Lib.byteCells l=(l.map fun b=>(b.toNat:Int)).map (Value.int .u8):=by simp [Lib.byteCells]
  have:=conv_bk hbk 0 n c (l.map fun b=>(b.toNat:Int)) (by rw [List.drop_zero, ← e];simpa using htake) (by simp;omega)
  rw [← run_convert_bytes_string _ _ _ _ _ _ _ under_bytes Tryz.underlying5 under_string,this,List.map_map,back_bytes]
/-! ### the map of places -/
theorem map_law:Keyed Tryz.prog 9:=string_keyed Tryz.underlying9
theorem zero_int (w:World):(zeroValue 3).run Tryz.prog w = .ok (.int .i64 0) w:=by kernel_rfl
theorem key_of {l:List UInt8} (h:l.length≤100000000):keyOf Tryz.prog 9 (.string ⟨l.toArray⟩)=some (.string l):=by
 rw [Go.WideMaps.keyOf_string_mk Tryz.underlying9 (by unfold maxLen;simp [ByteArray.size];omega)]
abbrev MD:=DataW Unit
def int_ (n:Int):MD := .lit (.int .i64 n)
/-- the map tells at each row's bytes where the row stands -/
structure MapIs (D:MD) (O:List Ct):Prop where
 is:IsMap D
 has : ∀ s,Maps.has D (.string s)=true ↔ ∃ x∈O,rkeyT x.l=s
 at_ : ∀ j,j<O.length→D.atKey (.string (rkeyT (O.getD j Ct.zero).l)) (int_ 0)=int_ j
theorem MapIs.nil:MapIs (.map []) []:=⟨isMap_empty,fun s=>⟨fun h=>(nomatch h),fun ⟨x,h,_⟩=>(nomatch h)⟩,fun j h=>absurd h (Nat.not_lt_zero _)⟩
theorem MapIs.new {D:MD} {O:List Ct} {x:Ct} {n:Nat} (h:MapIs D O) (hn:n=O.length) (hk:Maps.has D (.string (rkeyT x.l))=false):MapIs (D.put (.string (rkeyT x.l)) (int_ n)) (O++[x]):=by
 subst hn
 refine ⟨?_,fun s=>?_,fun j hj=>?_⟩
 ·obtain ⟨es,rfl⟩:=h.is
  exact ⟨_,rfl⟩
 ·by_cases e:s=rkeyT x.l
  ·subst e
   rw [has_put_same h.is (show WideAt.IsKeyLit (.string _) from trivial)]
   exact ⟨fun _=>⟨x,by simp,rfl⟩,fun _=>rfl⟩
  ·rw [has_put_other (fun q=>e (by injection q)),h.has]
   exact ⟨fun ⟨y,hy,q⟩=>⟨y,List.mem_append_left _ hy,q⟩,fun ⟨y,hy,q⟩=>by
    rcases List.mem_append.1 hy with hy | hy
    ·exact ⟨y,hy,q⟩
    ·rw [List.mem_singleton.1 hy] at q;exact absurd q.symm e⟩
 ·rw [List.length_append,List.length_singleton] at hj
  by_cases hj2:j<O.length
  ·have e:(O++[x]).getD j Ct.zero=O.getD j Ct.zero:=by rw [List.getD_eq_getElem?_getD,List.getElem?_append_left hj2,List.getD_eq_getElem?_getD]
   rw [e,atKey_put_other ?_,h.at_ j hj2]
   intro q
   injection q with q
   have hm : ∃ y∈O,rkeyT y.l=rkeyT x.l:=⟨O.getD j Ct.zero,by rw [List.getD_eq_getElem?_getD,List.getElem?_eq_getElem hj2];exact List.getElem_mem hj2,q⟩
   rw [(h.has _).2 hm] at hk
   cases hk
  ·obtain rfl:j=O.length:=by omega
   rw [getD_mid O x [],atKey_put_same h.is (show WideAt.IsKeyLit (.string _) from trivial)]
theorem MapIs.old {D:MD} {P Q:List Ct} {y z:Ct} (h:MapIs D (P++y :: Q)) (hz:z.l=y.l):MapIs D (P++z :: Q):=by
 refine ⟨h.is,fun s=>?_,fun j hj=>?_⟩
 ·rw [h.has]
  constructor
  ·rintro ⟨x,hx,q⟩
   rcases List.mem_append.1 hx with hx | hx
   ·exact ⟨x,List.mem_append_left _ hx,q⟩
   ·rcases List.mem_cons.1 hx with rfl | hx
    ·exact ⟨z,by simp,by rw [hz];exact q⟩
    ·exact ⟨x,by simp [hx],q⟩
  ·rintro ⟨x,hx,q⟩
   rcases List.mem_append.1 hx with hx | hx
   ·exact ⟨x,List.mem_append_left _ hx,q⟩
   ·rcases List.mem_cons.1 hx with rfl | hx
    ·exact ⟨y,by simp,by rw [← hz];exact q⟩
    ·exact ⟨x,by simp [hx],q⟩
 ·have e:((P++z :: Q).getD j Ct.zero).l=((P++y :: Q).getD j Ct.zero).l:=by
   rw [List.getD_eq_getElem?_getD,List.getD_eq_getElem?_getD]
   rcases Nat.lt_trichotomy j P.length with q | q | q
   ·rw [List.getElem?_append_left q,List.getElem?_append_left q]
   ·subst q
    rw [List.getElem?_append_right (Nat.le_refl _),List.getElem?_append_right (Nat.le_refl _),Nat.sub_self]
    exact hz
   ·rw [List.getElem?_append_right (by omega),List.getElem?_append_right (by omega)]
    obtain ⟨k,hk⟩ : ∃ k,j - P.length=k+1:=⟨j - P.length - 1,by omega⟩
    rw [hk,List.getElem?_cons_succ,List.getElem?_cons_succ]
  rw [e]
  exact h.at_ j (by simpa using hj)
end Go.Proofs.YtdgbkpoickbidaaGreatDoor
namespace Go.Proofs.YtdgbkpoickbidaaGreatDoor
open Go.RowKit Go.Maps

/-- rows with counts that come in -/
structure Ctin (w:World) (A:Option Addr) (c:Nat) (L:List Ct):Prop where
 sl:Sl w 2 A L.length c (ctsC L)
 rows : ∀ x∈L,Rw w x.A x.c x.l
theorem Ctin.ext {w w':World} {A:Option Addr} {c:Nat} {L:List Ct} (h:Ctin w A c L) (x:Ext w w'):Ctin w' A c L:=⟨h.sl.ext x,fun y hy=>(h.rows y hy).ext x⟩
theorem getD_mem {L:List Ct} {i:Nat} (h:i<L.length):L.getD i Ct.zero∈L:=by
 rw [List.getD_eq_getElem?_getD,List.getElem?_eq_getElem h]
 exact List.getElem_mem h
theorem Ctin.at {w:World} {A:Option Addr} {c:Nat} {L:List Ct} (h:Ctin w A c L) {i:Nat} (hi:i<L.length) : ∃ ad,A=some ad∧w.cell? (ad.add (i * 2))=some (.slice (L.getD i Ct.zero).A (L.getD i Ct.zero).l.length (L.getD i Ct.zero).c) ∧
  w.cell? ⟨(ad.add (i * 2)).block,(ad.add (i * 2)).off+1,none⟩=some (.int .i64 (L.getD i Ct.zero).k):=by
 obtain ⟨ad,e,hc⟩:=h.sl.2.2.2.2 (by omega)
 refine ⟨ad,e,hc _ _ (by rw [← Nat.add_zero (i * 2),ctsC_at L i 0 hi (by omega)];rfl),?_⟩
 rw [← add_fld ad _ 1 (by decide)]
 exact hc _ _ (by rw [ctsC_at L i 1 hi (by omega)];rfl)
theorem take_snocC {L:List Ct} {i:Nat} (h:i<L.length):L.take (i+1)=L.take i++[L.getD i Ct.zero]:=by
 rw [List.take_succ_eq_append_getElem h,List.getD_eq_getElem?_getD,List.getElem?_eq_getElem h]
 rfl
/-- a row that a call has made -/
def RwO (w:World) (A:Option Addr) (c:Nat) (l:List Dat):Prop:=Own w 0 204 4 A l.length c (rowC l)
theorem RwO.rw {w:World} {A:Option Addr} {c:Nat} {l:List Dat} (h:RwO w A c l):Rw w A c l:=Own.sl h
theorem RwO.ext {w w':World} {A:Option Addr} {c:Nat} {l:List Dat} (h:RwO w A c l) (x:Ext w w'):RwO w' A c l:=Own.ext h x
theorem RwO.upd {w w':World} {A:Option Addr} {c g:Nat} {l:List Dat} (h:RwO w A c l) (hx:w.grownBy w' (some g)) (ha : ∀ ad,A=some ad→ad.block≠g):RwO w' A c l:=Own.kept h hx (by
 cases hb:blk A c with
 | none=>exact .inl rfl
 | some k =>
  right
  intro e
  injection e with e
  obtain ⟨ad,e1,e2⟩:=blk_some hb
  exact ha ad e1 (by omega))
/-- no two of them in one block -/
def Apart (L:List Ct):Prop:=(L.map Ct.A).Pairwise fun x y => ∀ a b,x=some a→y=some b→a.block≠b.block
theorem Apart.sub {K L:List Ct} (h:Apart K) (hs:(L.map Ct.A).Sublist (K.map Ct.A)):Apart L:=List.Pairwise.sublist hs h
theorem Apart.perm {K L:List Ct} (h:Apart K) (hp:K.Perm L):Apart L:=(List.Perm.pairwise_iff (fun {_ _} q a b e1 e2 e3=>q b a e2 e1 e3.symm) (hp.map Ct.A)).1 h
/-- what stands behind i rounds -/
structure SumAt (w:World) (g gm n:Nat) (wr:World) (O:List Ct):Prop where
 arr:Arr wr w.heap.size g n O
 rows : ∀ x∈O,RwO wr x.A x.c x.l ∧ ∀ ad,x.A=some ad→gm<ad.block∧ad.block<wr.heap.size
 apart:Apart O
 ext:Ext w wr
 gg:w.heap.size≤g∧g<gm∧gm<wr.heap.size
theorem SumAt.mono {w wr wz:World} {g gm n:Nat} {O:List Ct} (h:SumAt w g gm n wr O) (x:Ext wr wz):SumAt w g gm n wz O :=
 ⟨h.arr.ext x,fun y hy=>⟨(h.rows y hy).1.ext x,fun ad e=>by have:=(h.rows y hy).2 ad e;have:=x.size;omega⟩,h.apart,h.ext.trans x,by have:=h.gg;have:=x.size;omega⟩
theorem SumAt.off {w wr:World} {g gm n:Nat} {O:List Ct} (h:SumAt w g gm n wr O):Rws wr g O:=fun x hx=>⟨(h.rows x hx).1.rw,fun ad e=>by have:=(h.rows x hx).2 ad e;have:=h.gg;omega⟩
/-- a store into the map -/
theorem SumAt.map {w wr wz:World} {g gm n:Nat} {O:List Ct} (h:SumAt w g gm n wr O) (hx:wr.grownBy wz (some gm)):SumAt w g gm n wz O:=by
 have hg:=h.gg
 have hs:=hx.size
 refine ⟨⟨h.arr.1.kept hx (.inr fun e=>?_),h.arr.2⟩,fun y hy=>⟨(h.rows y hy).1.upd hx fun ad e=>by have:=(h.rows y hy).2 ad e;omega,fun ad e=>by have:=(h.rows y hy).2 ad e;omega⟩,h.apart,h.ext.grown hx (fun k e=>by cases e;omega),by omega⟩
 obtain ⟨ad,e1,e2⟩:=blk_some e
 cases e1
 simp only at e2
 omega
theorem set_self {α:Type} {l:List α} {i:Nat} {a:α} (h:l[i]?=some a):l.set i a=l:=by
 refine List.ext_getElem? fun j=>?_
 rw [List.getElem?_set]
 split
 ·rename_i e
  subst e
  have hl:i<l.length:=by
   rcases Nat.lt_or_ge i l.length with q | q
   ·exact q
   ·rw [List.getElem?_eq_none q] at h;cases h
  rw [if_pos hl,h]
 ·rfl
/-- a count that has grown -/
theorem SumAt.set {w wr:World} {g gm n j:Nat} {P Q:List Ct} {y:Ct} (h:SumAt w g gm n wr (P++y :: Q)) (hj:j=P.length) (k:Int):SumAt w g gm n (wr.setCell ⟨g,j * 2+1,none⟩ (.int .i64 k)) (P++⟨y.A,y.c,y.l,k⟩ :: Q):=by
 subst hj
 have hg:=h.gg
 have hu:=upd_set wr g (P.length * 2+1) (.int .i64 k)
 have h1:=h.arr.1.put (P.length * 2+1) (.int .i64 k)
 have e:(ctsC (P++y :: Q)).set (P.length * 2+1) (.int .i64 k)=ctsC (P++⟨y.A,y.c,y.l,k⟩ :: Q):=by
  have:=ctsC_set (P++y :: Q) P.length ⟨y.A,y.c,y.l,k⟩
  rw [set_mid] at this
  rw [← this]
  congr 1
  refine (set_self ?_).symm
  have q:=ctsC_at (P++y :: Q) P.length 0 (by simp) (by decide)
  rw [getD_mid,Nat.add_zero] at q
  exact q
 rw [e] at h1
 refine ⟨⟨by simpa using h1,h.arr.2⟩,fun x hx=>?_,h.apart.sub (by simp),h.ext.set (p:=⟨g,_,none⟩) hg.1 _,by rw [World.size_setCell];exact hg⟩
 have hm : ∀ x∈P++y :: Q,RwO (wr.setCell ⟨g,P.length * 2+1,none⟩ (.int .i64 k)) x.A x.c x.l ∧ ∀ ad,x.A=some ad→gm<ad.block∧ad.block<(wr.setCell ⟨g,P.length * 2+1,none⟩ (.int .i64 k)).heap.size:=fun x hx =>
  ⟨(h.rows x hx).1.upd hu fun ad e=>by have:=(h.rows x hx).2 ad e;omega,fun ad e=>by rw [World.size_setCell];exact (h.rows x hx).2 ad e⟩
 rcases List.mem_append.1 hx with hx | hx
 ·exact hm x (List.mem_append_left _ hx)
 ·rcases List.mem_cons.1 hx with rfl | hx
  ·exact hm y (by simp)
  ·exact hm x (by simp [hx])
/-- one more -/
theorem SumAt.push {w wr wz:World} {g gm n:Nat} {O:List Ct} {x:Ct} (h:SumAt w g gm n wr O) (hr:RwO wr x.A x.c x.l) (hb : ∀ ad,x.A=some ad→gm<ad.block∧ad.block<wr.heap.size) (hn : ∀ y∈O, ∀ a b,y.A=some a→x.A=some b→a.block≠b.block)
  (ho:Own wz w.heap.size 154 2 (some ⟨g,0,none⟩) (O.length+1) n (ctsC O++ctC x)) (hx:wr.grownBy wz (some g)):SumAt w g gm n wz (O++[x]):=by
 have hg:=h.gg
 have hs:=hx.size
 refine ⟨⟨by rw [ctsC_append,List.length_append,show ctsC [x]=ctC x from List.append_nil _];exact ho,h.arr.2⟩,fun y hy=>?_,?_,h.ext.grown hx (fun k e=>by cases e;exact hg.1),by omega⟩
 ·rcases List.mem_append.1 hy with hy | hy
  ·exact ⟨(h.rows y hy).1.upd hx fun ad e=>by have:=(h.rows y hy).2 ad e;omega,fun ad e=>by have:=(h.rows y hy).2 ad e;omega⟩
  ·rw [List.mem_singleton.1 hy]
   exact ⟨hr.upd hx fun ad e=>by have:=hb ad e;omega,fun ad e=>by have:=hb ad e;omega⟩
 ·unfold Apart
  rw [List.map_append]
  refine List.pairwise_append.2 ⟨h.apart,List.pairwise_singleton _ _,fun a ha b hb'=>?_⟩
  obtain ⟨y,hy,rfl⟩:=List.mem_map.1 ha
  rw [List.map_singleton,List.mem_singleton] at hb'
  subst hb'
  exact hn y hy
/-- what has been put together, by its values -/
structure Vals (L:List Ct) (i:Nat) (O:List Ct):Prop where
 same : ∀ c,alike cmpV c (O.map valC)=sumClass (alike cmpV c ((L.take i).map valC))
 sub : ∀ x∈O, ∃ y∈L,x.l=y.l
 inv : ∀ x∈O,InN (valC x)
 len:O.length≤i
theorem Vals.zero (L:List Ct):Vals L 0 []:=⟨fun _=>rfl,fun x h=>(nomatch h),fun x h=>(nomatch h),Nat.le_refl _⟩
theorem Vals.new {L O:List Ct} {i:Nat} {x z:Ct} (h:Vals L i O) (hi:i<L.length) (hx:L.getD i Ct.zero=x) (hin:InN (valC x)) (hz:valC z=valC x) (hn : ∀ y∈O, ¬ cmpV (valC y) (valC x)=0):Vals L (i+1) (O++[z]):=by
 have hm:x∈L:=hx ▸ getD_mem hi
 refine ⟨fun c=>?_,fun y hy=>?_,fun y hy=>?_,by rw [List.length_append,List.length_singleton];have:=h.len;omega⟩
 ·rw [take_snocC hi,hx,List.map_append,List.map_append,List.map_singleton,List.map_singleton,hz]
  exact dedup_new h.same hin (fun y hy=>by obtain ⟨u,hu,rfl⟩:=List.mem_map.1 hy;exact hn u hu) c
 ·rcases List.mem_append.1 hy with hy | hy
  ·exact h.sub y hy
  ·rw [List.mem_singleton.1 hy]
   exact ⟨x,hm,congrArg Prod.fst hz⟩
 ·rcases List.mem_append.1 hy with hy | hy
  ·exact h.inv y hy
  ·rw [List.mem_singleton.1 hy,hz]
   exact hin
theorem Vals.old {L P Q:List Ct} {i:Nat} {x y:Ct} (h:Vals L i (P++y :: Q)) (hi:i<L.length) (hx:L.getD i Ct.zero=x) (hy:y.l=x.l):Vals L (i+1) (P++⟨y.A,y.c,y.l,w64 (y.k+x.k)⟩ :: Q):=by
 refine ⟨fun c=>?_,fun z hz=>?_,fun z hz=>?_,by have:=h.len;simp only [List.length_append,List.length_cons] at this ⊢;omega⟩
 ·rw [take_snocC hi,hx,List.map_append,List.map_append,List.map_singleton,List.map_cons]
  have q:=h.same
  rw [List.map_append,List.map_cons] at q
  exact dedup_old q (show cmpV (valC y) (valC x)=0 from (show cmpR y.l x.l=0 by rw [hy];exact cmpC_tot.refl x)) c
 ·rcases List.mem_append.1 hz with hz | hz
  ·exact h.sub z (List.mem_append_left _ hz)
  ·rcases List.mem_cons.1 hz with rfl | hz
   ·exact h.sub y (by simp)
   ·exact h.sub z (by simp [hz])
 ·rcases List.mem_append.1 hz with hz | hz
  ·exact h.inv z (List.mem_append_left _ hz)
  ·rcases List.mem_cons.1 hz with rfl | hz
   ·exact w64_in _
   ·exact h.inv z (by simp [hz])
end Go.Proofs.YtdgbkpoickbidaaGreatDoor
namespace Go.Proofs.YtdgbkpoickbidaaGreatDoor
open Go.RowKit Go.Maps

theorem rowCheck_lit {v:Int} (A:Option Addr) (c n:Nat) (l:List Dat) (w:World) (hv:Hid (checkR l=v)) (e1:Hid (n=l.length)) (h1:Hid (Rw w A c l)) (ht:Hid (RwTxt l)) (G:Good w) :
  Calls Tryz.prog 154 #[.slice A n c] w fun e w'=>e = .returned (.int .u16 v)∧Ext w w':=hv.out ▸ rowCheck_any A c n l w e1.out h1.out ht.out G
theorem key_lit (A:Option Addr) (c n:Nat) (l:List Dat) (w:World) (e1:Hid (n=l.length)) (h1:Hid (Rw w A c l)) (hi:Hid (RwInt l)) (hk:Hid (checkR l=0)) :
  Calls Tryz.prog 186 #[.slice A n c] w (PutOut w w.heap.size (rkeyT l)):=key_any A c n l w e1.out h1.out hi.out hk.out
theorem clone_lit (A:Option Addr) (c n:Nat) (l:List Dat) (w:World) (e1:Hid (n=l.length)) (h1:Hid (Rw w A c l)) (hs:n≤1000000000) :
  Calls Tryz.prog 183 #[.slice A n c] w fun e w'=>RowOut w.heap.size n l e w'∧Ext w w':=cloneRow_any A c n l w e1.out h1.out hs
/-- what is asked of the rows that come in -/
structure InC (x:Ct):Prop where
 txt:RwTxt x.l
 int:RwInt x.l
 num:InN (valC x)
 len:x.l.length≤1000000
/-- what stands ahead of the sort -/
structure SumEnd (w:World) (g gm n:Nat) (L O:List Ct) (wx:World):Prop where
 at_:SumAt w g gm n wx O
 same : ∀ c,sumClass (alike cmpV c (O.map valC))=sumClass (alike cmpV c (L.map valC))
 inv : ∀ x∈O,InN (valC x)
theorem Vals.out {w wx:World} {g gm n:Nat} {L O:List Ct} (h:Vals L n O) (hn:n=L.length) (hs:SumAt w g gm n wx O):SumEnd w g gm n L O wx :=
 ⟨hs,fun c=>by rw [h.same,sumClass_twice,List.take_of_length_le (by omega)],h.inv⟩
/-- while those that are alike are put together: M is done, X is to be thrown away, R is to come -/
structure MergeAt (w:World) (g gm n:Nat) (S:List Ct) (wr:World) (i:Nat) (T M X R:List Ct):Prop where
 arr:Arr wr w.heap.size g n (M++(X++R))
 len:i=M.length+X.length
 spl:S=T++R
 tl:T.length=i
 mv:M.map valC=mergeV (T.map valC)
 rows : ∀ x∈M++R,RwO wr x.A x.c x.l ∧ ∀ ad,x.A=some ad→gm<ad.block∧ad.block<wr.heap.size
 apart:Apart (M++R)
 ext:Ext w wr
 gg:w.heap.size≤g∧g<gm∧gm<wr.heap.size
theorem rows_upd {w w':World} {g gm:Nat} {K L:List Ct} (h : ∀ x∈K,RwO w x.A x.c x.l ∧ ∀ ad,x.A=some ad→gm<ad.block∧ad.block<w.heap.size) (hx:w.grownBy w' (some g)) (hg:g≤gm) (hs : ∀ x∈L, ∃ y∈K,x.A=y.A∧x.c=y.c∧x.l=y.l) :
  ∀ x∈L,RwO w' x.A x.c x.l ∧ ∀ ad,x.A=some ad→gm<ad.block∧ad.block<w'.heap.size:=fun x hxL=>by
 obtain ⟨y,hy,e1,e2,e3⟩:=hs x hxL
 have hs:=hx.size
 rw [e1,e2,e3]
 exact ⟨(h y hy).1.upd hx fun ad e=>by have:=(h y hy).2 ad e;omega,fun ad e=>by have:=(h y hy).2 ad e;omega⟩
theorem stable_perm {L M:List Ct} (h:Stable cmpC L M):L.Perm M:=by
 have key : ∀ (n:Nat) (L M:List Ct),L.length≤n→Stable cmpC L M→L.Perm M:=by
  intro n
  induction n with
  | zero =>
   intro L M hn h
   have:L=[]:=List.eq_nil_of_length_eq_zero (by omega)
   subst this
   rw [h.nil_of cmpC_tot]
  | succ n ih =>
   intro L M hn h
   cases M with
   | nil =>
    cases L with
    | nil=>exact .nil
    | cons y L=>exact absurd ((h.mem cmpC_tot y).2 (List.mem_cons_self ..)) List.not_mem_nil
   | cons y M =>
    have hy:=(h.mem cmpC_tot y).1 (List.mem_cons_self ..)
    have p1 : ∀ K:List Ct,(alike cmpC y K++(K.filter fun z => !(cmpC y z==0))).Perm K:=fun K=>List.filter_append_perm (fun z=>cmpC y z==0) K
    have h1:=(p1 L).length_eq
    rw [List.length_append] at h1
    have h4:0<(alike cmpC y L).length:=List.length_pos_of_mem (List.mem_filter.2 ⟨hy,by rw [beq_iff_eq];exact cmpC_tot.refl y⟩)
    have h5:=ih (L.filter fun z => !(cmpC y z==0)) ((y :: M).filter fun z => !(cmpC y z==0)) (by omega) ⟨h.sorted.filter _,fun z=>by
     have q:=h.same z
     unfold alike at q ⊢
     rw [List.filter_filter,List.filter_filter]
     have e : ∀ K:List Ct,K.filter (fun a=>(cmpC z a==0) && !(cmpC y a==0))=(K.filter (fun a=>cmpC z a==0)).filter (fun a => !(cmpC y a==0)):=fun K=>by
      rw [List.filter_filter]
      congr 1
      funext a
      rw [Bool.and_comm]
     rw [e,e,q]⟩
    have h6:(alike cmpC y L).Perm (alike cmpC y (y :: M)):=by rw [h.same y]
    exact (p1 L).symm.trans ((h6.append h5).trans (p1 (y :: M)))
 exact key L.length L M (Nat.le_refl _) h
theorem MergeAt.start {w wx w1:World} {g gm n:Nat} {L O S:List Ct} (h:SumEnd w g gm n L O wx) (st:Stable cmpC O S) (ar:Arr w1 w.heap.size g n S) (up:wx.grownBy w1 (some g)):MergeAt w g gm n S w1 0 [] [] [] S:=by
 have hg:=h.at_.gg
 have hs:=up.size
 exact ⟨ar,rfl,rfl,rfl,rfl,rows_upd (K:=O) h.at_.rows up (by omega) (fun x hx=>⟨x,(st.mem cmpC_tot x).1 hx,rfl,rfl,rfl⟩),h.at_.apart.perm (stable_perm st),h.at_.ext.grown up (fun k e=>by cases e;exact hg.1),by omega⟩
theorem MergeAt.mono {w wr wz:World} {g gm n i:Nat} {S T M X R:List Ct} (h:MergeAt w g gm n S wr i T M X R) (x:Ext wr wz):MergeAt w g gm n S wz i T M X R :=
 ⟨h.arr.ext x,h.len,h.spl,h.tl,h.mv,rows_upd (K:=M++R) h.rows (upd_ext x g) (by have:=h.gg;omega) (fun x hx=>⟨x,hx,rfl,rfl,rfl⟩),h.apart,h.ext.trans x,by have:=h.gg;have:=x.size;omega⟩
theorem MergeAt.join {w wr:World} {g gm n i q:Nat} {S T M X R:List Ct} {x y:Ct} {s:Int} (h:MergeAt w g gm n S wr i T (M++[y]) X (x :: R)) (hc:cmpR y.l x.l=0) (hq:q=M.length) (hs:w64 (y.k+x.k)=s) :
  MergeAt w g gm n S (wr.setCell ⟨g,q * 2+1,none⟩ (.int .i64 s)) (i+1) (T++[x]) (M++[⟨y.A,y.c,y.l,s⟩]) (X++[x]) R:=by
 subst hq hs
 have hg:=h.gg
 have hu:=upd_set wr g (M.length * 2+1) (.int .i64 (w64 (y.k+x.k)))
 have e0:M++[y]++(X++x :: R)=M++y :: (X++x :: R):=by simp
 have harr:=h.arr
 rw [e0] at harr
 have h1:=harr.1.put (M.length * 2+1) (.int .i64 (w64 (y.k+x.k)))
 have e:(ctsC (M++y :: (X++x :: R))).set (M.length * 2+1) (.int .i64 (w64 (y.k+x.k)))=ctsC (M++⟨y.A,y.c,y.l,w64 (y.k+x.k)⟩ :: (X++x :: R)):=by
  have:=ctsC_set (M++y :: (X++x :: R)) M.length ⟨y.A,y.c,y.l,w64 (y.k+x.k)⟩
  rw [set_mid] at this
  rw [← this]
  congr 1
  refine (set_self ?_).symm
  have q:=ctsC_at (M++y :: (X++x :: R)) M.length 0 (by simp) (by decide)
  rw [getD_mid,Nat.add_zero] at q
  exact q
 rw [e] at h1
 refine ⟨⟨?_,harr.2⟩,by have:=h.len;simp only [List.length_append,List.length_cons,List.length_nil] at this ⊢;omega,by rw [h.spl];simp,by rw [List.length_append,h.tl];rfl,?_,rows_upd (K:=M++[y]++x :: R) h.rows hu (by omega) (fun z hz=>?_),h.apart.sub (by simp),h.ext.set (p:=⟨g,_,none⟩) hg.1 _,by rw [World.size_setCell];exact hg⟩
 ·have e2:M++[⟨y.A,y.c,y.l,w64 (y.k+x.k)⟩]++(X++[x]++R)=M++⟨y.A,y.c,y.l,w64 (y.k+x.k)⟩ :: (X++x :: R):=by simp
  rw [e2]
  have e3:(M++(⟨y.A,y.c,y.l,w64 (y.k+x.k)⟩:Ct) :: (X++x :: R)).length=(M++y :: (X++x :: R)).length:=by simp
  rw [e3]
  exact h1
 ·rw [List.map_append,List.map_append,List.map_singleton,List.map_singleton,mergeV_snoc, ← h.mv,List.map_append,List.map_singleton,mergeStep_snoc,if_pos (show cmpV (valC y) (valC x)=0 from hc)]
  rfl
 ·rcases List.mem_append.1 hz with hz | hz
  ·rcases List.mem_append.1 hz with hz | hz
   ·exact ⟨z,by simp [hz],rfl,rfl,rfl⟩
   ·rw [List.mem_singleton.1 hz];exact ⟨y,by simp,rfl,rfl,rfl⟩
  ·exact ⟨z,by simp [hz],rfl,rfl,rfl⟩
theorem MergeAt.keep {w wr:World} {g gm n i q nx:Nat} {S T M X R:List Ct} {x:Ct} (h:MergeAt w g gm n S wr i T M X (x :: R)) (hc:mergeStep (M.map valC) (valC x)=M.map valC++[valC x]) (hq:q=M.length) (hnx:nx=x.l.length) :
  MergeAt w g gm n S ((wr.setCell ⟨g,q * 2,none⟩ (.slice x.A nx x.c)).setCell ⟨g,q * 2+1,none⟩ (.int .i64 x.k)) (i+1) (T++[x]) (M++[x]) (X++[x]).tail R:=by
 subst hq hnx
 have hg:=h.gg
 have hu:=(upd_set wr g (M.length * 2) (.slice x.A x.l.length x.c)).trans (upd_set _ g (M.length * 2+1) (.int .i64 x.k))
 have h1:=h.arr.set M.length x
 have e:(M++(X++x :: R)).set M.length x=M++[x]++((X++[x]).tail++R):=by
  cases X with
  | nil=>rw [List.nil_append,set_mid];simp
  | cons z X=>rw [List.cons_append,set_mid];simp
 rw [e] at h1
 refine ⟨h1,by have:=h.len;simp only [List.length_append,List.length_cons,List.length_nil,List.length_tail] at this ⊢;omega,by rw [h.spl];simp,by rw [List.length_append,h.tl];rfl,?_,rows_upd (K:=M++x :: R) h.rows hu (by omega) (fun z hz=>⟨z,?_,rfl,rfl,rfl⟩),h.apart.sub (by simp),(h.ext.set (p:=⟨g,_,none⟩) hg.1 _).set (p:=⟨g,_,none⟩) hg.1 _,by rw [World.size_setCell,World.size_setCell];exact hg⟩
 ·rw [List.map_append,List.map_append,List.map_singleton,mergeV_snoc, ← h.mv,hc]
 ·rcases List.mem_append.1 hz with hz | hz
  ·rcases List.mem_append.1 hz with hz | hz
   ·simp [hz]
   ·rw [List.mem_singleton.1 hz];simp
  ·simp [hz]
theorem stable_map {O S:List Ct} (h:Stable cmpC O S):Stable cmpV (O.map valC) (S.map valC):=by
 refine ⟨List.pairwise_map.2 (h.sorted.imp fun q=>q),fun c=>?_⟩
 have e : ∀ K:List Ct,alike cmpV c (K.map valC)=(alike cmpC ⟨none,0,c.1,c.2⟩ K).map valC:=fun K=>by
  unfold alike
  rw [List.filter_map]
  rfl
 rw [e,e,h.same]
theorem Summed.of_sum {L D R:List V} (h : ∀ c,sumClass (alike cmpV c D)=sumClass (alike cmpV c L)) (k:Summed D R):Summed L R:=⟨k.sorted,fun c=>by rw [k.same,h]⟩
/-- what Sum hands back -/
def SumRes (w:World) (L:List Ct) (e:Ending) (w':World):Prop := ∃ A m c R,e = .returned (.slice A m c)∧m=R.length∧Own w' w.heap.size 154 2 A m c (ctsC R) ∧
 (∀ x∈R,RwO w' x.A x.c x.l ∧ ∀ ad,x.A=some ad→w.heap.size≤ad.block∧blk A c≠some ad.block)∧Apart R∧R.map valC=sumV (L.map valC)∧Ext w w'
theorem sum_res {w wx wr w2:World} {g gm n i m c':Nat} {L O S T M X:List Ct} (he:SumEnd w g gm n L O wx) (hin : ∀ x∈L,InN (valC x)) (st:Stable cmpC O S) (h:MergeAt w g gm n S wr i T M X []) (ar:Arr w2 w.heap.size g n (M.filter nzC)) (up:wr.grownBy w2 (some g)) (hm:m=(M.filter nzC).length) (hc:c'=n) :
  SumRes w L (.returned (.slice (some ⟨g,0,none⟩) m c')) w2:=by
 subst hc hm
 have hg:=h.gg
 have hT:S=T:=by have:=h.spl;rwa [List.append_nil] at this
 have hrows:=rows_upd (K:=M++[]) (L:=M.filter nzC) h.rows up (by omega) (fun x hx=>⟨x,by rw [List.append_nil];exact (List.mem_filter.1 hx).1,rfl,rfl,rfl⟩)
 refine ⟨_,_,_,M.filter nzC,rfl,rfl,ar.1,fun x hx=>⟨(hrows x hx).1,fun ad e=>⟨by have:=(hrows x hx).2 ad e;omega,fun q=>?_⟩⟩,h.apart.sub (by rw [List.append_nil];exact List.filter_sublist.map _),?_,h.ext.grown up (fun k e=>by cases e;exact hg.1)⟩
 ·obtain ⟨a,e1,e2⟩:=blk_some q
  cases e1
  have:=(hrows x hx).2 ad e
  simp only at e2
  omega
 ·have h1:Summed (L.map valC) (M.map valC):=by
   rw [h.mv, ← hT]
   exact (Summed.of_stable (stable_map st) (fun y hy=>by obtain ⟨x,hx,rfl⟩:=List.mem_map.1 hy;exact he.inv x hx)).of_sum he.same
  have h2:=Summed.all (L.map valC) (fun y hy=>by obtain ⟨x,hx,rfl⟩:=List.mem_map.1 hy;exact hin x hx)
  unfold sumV
  rw [h2.unique h1,List.filter_map]
  rfl
/-- the loop's relation, of rows that all may be -/
structure SumP (w:World) (g gm n:Nat) (L:List Ct) (wr:World) (i:Nat) (O:List Ct) (D:MD):Prop where
 at_:SumAt w g gm n wr O
 vals:Vals L i O
 map:wr.ownsMap Tryz.prog 9 (plainElem Tryz.prog 3) gm i D
 is:MapIs D O
theorem SumP.mono {w wr wz:World} {g gm n i:Nat} {L O:List Ct} {D:MD} (h:SumP w g gm n L wr i O D) (x:Ext wr wz):SumP w g gm n L wz i O D :=
 ⟨h.at_.mono x,h.vals,h.map.kept (upd_ext x g) (fun e=>by have:=h.at_.gg;cases e;omega),h.is⟩
theorem arr_len {w:World} {B g c:Nat} {L:List Ct} (h:Arr w B g c L):L.length≤c:=h.1.le.1
theorem at_inj {D:MD} {k:Lit} {a j:Int} (h:D.atKey k (.lit (.int .i64 0)) = .lit (.int .i64 a)) (h2:D.atKey k (int_ 0)=int_ j):a=j:=by
 have:=h.symm.trans h2
 unfold int_ at this
 injection this with this
 injection this
theorem sl_ct (w:World) (t:TypeId) (u v:Value):Sl (w.alloc (.cells #[u,v] t)) 2 (some ⟨w.heap.size,0,none⟩) 1 1 [u,v] :=
 ⟨rfl,Nat.le_refl _,by unfold maxLen;omega,(fun h=>nomatch h),fun _=>⟨_,rfl,fun j x hx=>cells_at w t _ j x hx⟩⟩
theorem ok_data {x:Ct} (h:checkR x.l=0) (hi:RwInt x.l) : ∀ d∈x.l,d.check=0∧InD d:=fun d hd=>⟨((checkR_ok x.l).1 h).2 d hd,hi d hd⟩
theorem key_small {x:Ct} (h:checkR x.l=0):(rkeyT x.l).length≤100000000:=by
 obtain ⟨h1,h2⟩:=(checkR_ok x.l).1 h
 have:=keyT_len x.l (fun d hd=>size_of_check' (h2 d hd))
 omega
theorem SumP.there {w wr:World} {g gm n i:Nat} {L O:List Ct} {D:MD} (h:SumP w g gm n L wr i O D) (hok : ∀ x∈L,checkR x.l=0) (hin : ∀ x∈L,InC x) {x:Ct} (hx:x∈L) (hh:Maps.has D (.string (rkeyT x.l))=true) :
  ∃ P y Q,O=P++y :: Q∧y.l=x.l∧D.atKey (.string (rkeyT x.l)) (int_ 0)=int_ P.length:=by
 obtain ⟨y,hy,e⟩:=(h.is.has _).1 hh
 obtain ⟨u,hu,e2⟩:=h.vals.sub y hy
 have e3:y.l=x.l:=key_inj (by rw [e2];exact ok_data (hok u hu) (hin u hu).int) (ok_data (hok x hx) (hin x hx).int) e
 obtain ⟨P,Q,rfl⟩:=List.append_of_mem hy
 have:=h.is.at_ P.length (by simp)
 rw [getD_mid,e] at this
 exact ⟨P,y,Q,rfl,e3,this⟩
theorem SumP.away {w wr:World} {g gm n i:Nat} {L O:List Ct} {D:MD} (h:SumP w g gm n L wr i O D) (hok : ∀ x∈L,checkR x.l=0) (hin : ∀ x∈L,InC x) {x:Ct} (hx:x∈L) (hh:Maps.has D (.string (rkeyT x.l))=false) :
  ∀ y∈O, ¬ cmpV (valC y) (valC x)=0:=fun y hy e=>by
 obtain ⟨u,hu,e2⟩:=h.vals.sub y hy
 have e3:y.l=x.l:=row_zero _ _ (by rw [e2];exact ok_data (hok u hu) (hin u hu).int) (ok_data (hok x hx) (hin x hx).int) e
 have:=(h.is.has (rkeyT x.l)).2 ⟨y,hy,by rw [e3]⟩
 rw [hh] at this
 cases this
theorem SumP.old {w wr:World} {g gm n i j:Nat} {L P Q:List Ct} {D:MD} {x y:Ct} {s:Int} (h:SumP w g gm n L wr i (P++y :: Q) D) (hi:i<L.length) (hx:L.getD i Ct.zero=x) (hy:y.l=x.l) (hj:j=P.length) (hs:w64 (y.k+x.k)=s) :
  SumP w g gm n L (wr.setCell ⟨g,j * 2+1,none⟩ (.int .i64 s)) (i+1) (P++⟨y.A,y.c,y.l,s⟩ :: Q) D:=by
 subst hs
 exact ⟨h.at_.set hj _,h.vals.old hi hx hy,(h.map.kept (upd_set wr g _ _) (fun e=>by have:=h.at_.gg;cases e;omega)).mono (Nat.le_succ i),h.is.old rfl⟩
theorem SumP.new {w w1 w2 w3 w4:World} {g gm n i m:Nat} {L O:List Ct} {D:MD} {x:Ct} {A:Option Addr} {c nx:Nat} (h:SumP w g gm n L w1 i O D) (hi:i<L.length) (hx:L.getD i Ct.zero=x) (hin:InN (valC x)) (hn : ∀ y∈O, ¬ cmpV (valC y) (valC x)=0) (hh:Maps.has D (.string (rkeyT x.l))=false)
  (hm:m=O.length) (hnx:nx=x.l.length) (h2:w2.ownsMap Tryz.prog 9 (plainElem Tryz.prog 3) gm (i+1) (D.put (.string (rkeyT x.l)) (int_ m))) (g2:w1.grownBy w2 (some gm)) (x3:Ext w2 w3)
  (o3:Own w3 w2.heap.size 204 4 A nx c (rowC x.l)) (b3 : ∀ ad,A=some ad→w2.heap.size≤ad.block∧ad.block<w3.heap.size)
  (o4:Own w4 w.heap.size 154 2 (some ⟨g,0,none⟩) (m+1) n (ctsC O++[.slice A nx c, .int .i64 x.k])) (g4:w3.grownBy w4 (some g)):SumP w g gm n L w4 (i+1) (O++[⟨A,c,x.l,x.k⟩]) (D.put (.string (rkeyT x.l)) (int_ m)):=by
 subst hnx hm
 have s2:=h.at_.map g2
 have s3:=s2.mono x3
 have hg:=s2.gg
 refine ⟨s3.push (x:=⟨A,c,x.l,x.k⟩) (Own.mono o3 (Nat.zero_le _)) (fun ad e=>by have:=b3 ad e;omega) (fun y hy a b e1 e2=>by have:=(s2.rows y hy).2 a e1;have:=b3 b e2;omega) o4 g4,h.vals.new hi hx hin rfl hn,(h2.kept (upd_ext x3 g) (fun e=>by cases e;omega)).kept g4 (fun e=>by cases e;omega),MapIs.new (x:=⟨A,c,x.l,x.k⟩) h.is rfl hh⟩
theorem SumP.start {w w0:World} {n:Nat} (L:List Ct) (h0:0<n) (hn:n≤1000000000) (hw:w0=(w.alloc (madeCts n)).alloc (.map #[] 0)):SumP w w.heap.size (w.heap.size+1) n L w0 0 [] (.map []):=by
 subst hw
 refine ⟨⟨(arr_made w n h0 hn).ext ((Ext.refl _).alloc _),fun x h=>(nomatch h),List.Pairwise.nil,((Ext.refl w).alloc _).alloc _,by simp⟩,Vals.zero L,?_,MapIs.nil⟩
 have:=World.ownsMap_made (H:=Unit) (w.alloc (madeCts n)) Tryz.prog 9 (plainElem Tryz.prog 3)
 simpa using this
end Go.Proofs.YtdgbkpoickbidaaGreatDoor
namespace Go.Proofs.YtdgbkpoickbidaaGreatDoor
open Go.RowKit Go.Maps

set_option maxRecDepth 100000 in
set_option maxHeartbeats 16000000 in
theorem sum_plain (A:Option Addr) (c n:Nat) (L:List Ct) (w:World) (h0:0<n) (hn:n=L.length) (h20:n≤100000000) (h:Ctin w A c L) (hin : ∀ x∈L,InC x) (hok : ∀ x∈L,checkR x.l=0) (G:Good w) :
  Calls Tryz.prog 109 #[.slice A n c] w (SumRes w L):=by
 have HN:=Lib.hid hn
 have H:=Lib.hid h
 have HIN:=Lib.hid hin
 have HOK:=Lib.hid hok
 have hmk:=make_cts n (by omega)
 have hmm:=make_map (n:Int)
 clear hn h hin hok
 go_enter Tryz.func109,Tryz.ntmps109
 go_upto_region 4 with fail
 obtain ⟨w0,hw0⟩ : ∃ x,x=(w.alloc (madeCts n)).alloc (.map #[] 0):=⟨_,rfl⟩
 have X0:Ext w w0:=hw0 ▸ ((Ext.refl w).alloc _).alloc _
 have HP0:Hid (SumP w w.heap.size (w.heap.size+1) n L w0 0 [] (.map [])):=Lib.hid (SumP.start L h0 (by omega) hw0)
 rw [← hw0]
 clear hw0 hmk hmm
 go_wp2
 go_loopw [5,24] (fun u v wr => ∃ i:Nat,i≤n∧u = .bool true∧v = .int .i64 i∧Ext w0 wr) (fun _ v _=>n - (intOf v).toNat)
 case atStart=>exact ⟨0,Nat.zero_le _,rfl,rfl,Ext.refl _⟩
 case round =>
  obtain ⟨i,hi,rfl,rfl,er0⟩:=hrel
  by_cases hlt:i<n
  ·have hil:i<L.length:=by rw [← HN.out];exact hlt
   have er:=X0.trans er0
   obtain ⟨ad,rfl,p0,p1⟩:=(H.out.ext er).at hil
   have hm:=getD_mem hil
   obtain ⟨x,hx⟩ : ∃ x,L.getD i Ct.zero=x:=⟨_,rfl⟩
   rw [hx] at p0 p1 hm
   obtain ⟨nx,hnx⟩ : ∃ nx,nx=x.l.length:=⟨_,rfl⟩
   rw [← hnx] at p0
   have hnx9:nx≤1000000000:=by have:=(HIN.out x hm).len;omega
   have HT:=Lib.hid (HIN.out x hm).txt
   have HI:=Lib.hid (HIN.out x hm).int
   have HR:=Lib.hid ((H.out.rows x hm).ext (er.alloc (.cells #[.slice x.A nx x.c, .int .i64 x.k] 154)))
   have GW:=Lib.hid (G.ext (er.alloc (.cells #[.slice x.A nx x.c, .int .i64 x.k] 154)))
   have HNX:=Lib.hid hnx
   have HX:=Lib.hid hx
   have HIL:=Lib.hid hil
   have HM:=Lib.hid hm
   have HC:=Lib.hid (HOK.out x hm)
   clear hil hm hx hnx
   go_wp2_with (go_at_call 154;refine (rowCheck_lit x.A x.c nx x.l _ HC HNX HR HT GW.out).mono ?_;rintro e w1 ⟨rfl,x1⟩)
   go_roundw
   case rel=>exact ⟨i+1,by omega,rfl,by go_num,(er0.alloc _).trans x1⟩
   case measure=>simp [intOf];omega
  ·go_wp2
   go_loopg [3,38] n (fun z u v wr => ∃ (i:Nat) (O:List Ct) (D:MD),z=n - i∧i≤n∧u = .slice (some ⟨w.heap.size,0,none⟩) O.length n∧v = .int .i64 i∧Hid (SumP w w.heap.size (w.heap.size+1) n L wr i O D))
   case atStart=>exact ⟨0,[], .map [],rfl,Nat.zero_le _,rfl,rfl,Lib.hid (HP0.out.mono er0)⟩
   case round =>
    clear hi hlt er0 HP0 X0
    obtain ⟨i,O,D,rfl,hi,rfl,rfl,HP⟩:=hrel
    by_cases hlt:i<n
    ·have hil:i<L.length:=by rw [← HN.out];exact hlt
     have er:=HP.out.at_.ext
     obtain ⟨ad,rfl,p0,p1⟩:=(H.out.ext er).at hil
     have hm:=getD_mem hil
     obtain ⟨x,hx⟩ : ∃ x,L.getD i Ct.zero=x:=⟨_,rfl⟩
     rw [hx] at p0 p1 hm
     obtain ⟨nx,hnx⟩ : ∃ nx,nx=x.l.length:=⟨_,rfl⟩
     rw [← hnx] at p0
     have hnx9:nx≤1000000000:=by have:=(HIN.out x hm).len;omega
     have HT:=Lib.hid (HIN.out x hm).txt
     have HI:=Lib.hid (HIN.out x hm).int
     have HR:=Lib.hid ((H.out.rows x hm).ext (er.alloc (.cells #[.slice x.A nx x.c, .int .i64 x.k] 154)))
     have GW:=Lib.hid (G.ext (er.alloc (.cells #[.slice x.A nx x.c, .int .i64 x.k] 154)))
     have HNX:=Lib.hid hnx
     have HX:=Lib.hid hx
     have HIL:=Lib.hid hil
     have HM:=Lib.hid hm
     have HC:=Lib.hid (HOK.out x hm)
     have HKS:=Lib.hid (key_small HC.out)
     have hbx:w.heap.size+1<wr.heap.size:=HP.out.at_.gg.2.2
     obtain ⟨m,hmO⟩ : ∃ m,m=O.length:=⟨_,rfl⟩
     have hmi:m≤i:=by rw [hmO];exact HP.out.vals.len
     rw [← hmO]
     cases hth:Maps.has D (.string (rkeyT x.l))
     ·have HAW:=Lib.hid (HP.out.away HOK.out HIN.out hm hth)
      have HTH:=Lib.hid hth
      have HMO:=Lib.hid hmO
      clear hil hm hx hnx hmO
      go_upto_region 19 with (first
       | (go_at_call 186;refine (key_lit x.A x.c nx x.l _ HNX HR HI HC).mono ?_;rintro e w1 ⟨A1,n1,c1,rfl,o1,b1⟩;have O1:=Lib.hid o1;have X1:Ext (wr.alloc (.cells #[.slice x.A nx x.c, .int .i64 x.k] 154)) w1:=b1;have hcv:=conv_own o1;have BX:=(Bk.new wr 154 #[.slice x.A nx x.c, .int .i64 x.k]).ext X1;have bx0:=BX.cell 0;have bx1:=BX.cell 1;have XX:=((Ext.refl wr).alloc (.cells #[.slice x.A nx x.c, .int .i64 x.k] 154)).trans X1;have HP1:=Lib.hid (HP.out.mono XX);clear o1 b1)
       | (at_lookup;refine wpList_lookup_own_ok_int _ rfl _ _ 225 rfl 9 3 .i64 map_law Tryz.underlying225 Tryz.underlying3 (zero_int _) (w.heap.size+1) i D rfl HP1.out.map _ (.string (rkeyT x.l)) rfl (key_of HKS.out) ?_;intro cc hat hwc;clear hat hwc)
       | (at_mapUpdate;refine wpList_mapUpdate_own _ rfl _ _ _ 225 rfl 9 3 map_law Tryz.underlying225 (plainElem Tryz.prog 3) (w.heap.size+1) i D rfl HP1.out.map (by unfold maxLen;omega) _ _ (.string (rkeyT x.l)) rfl rfl (key_of HKS.out) (int_ m) [] (plainElem_int Tryz.underlying3 (WalkArith.wf_i64 (by omega))) ?_;intro w2 hown2 hgrow2;have HO2:=Lib.hid hown2;have HG2:=Lib.hid hgrow2;have HS2:=Lib.hid (HP1.out.at_.map hgrow2);have BX2:=BX.grown hgrow2 (by intro e;injection e with e;omega);clear hown2 hgrow2))
      have X2:Ext w2 w2.drew:=(Ext.refl w2).drew
      have HR2:=Lib.hid ((H.out.rows x HM.out).ext (HS2.out.ext.trans X2))
      have B0 : ∀ z:Xt w2.drew,z.W.cell? ⟨wr.heap.size,0,none⟩=some (.slice x.A nx x.c):=fun z=>(X2.trans z.x).cell (BX2.cell 0)
      have B1 : ∀ z:Xt w2.drew,z.W.cell? ⟨wr.heap.size,1,none⟩=some (.int .i64 x.k):=fun z=>(X2.trans z.x).cell (BX2.cell 1)
      go_simp
      refine wp_region_ord [0,0,2,6,0,16,62,126,255,511] (.pur [0] (.flo [1,2,4,5] (.ext 3 (.flo [6] (.one 7 (.one 8 (.flo [9] (.fin)))))))) (by kernel_rfl) (by kernel_rfl) (by intro _ _ d _ _ h;cases d<;>exact h) ?_
      (refine ord_pur (pick_cons rfl pick_nil) ?_;(repeat (go_big_quiet_step (fail)));refine wpQuiet_nil ?_;show ordWalk _ _ _ _ _ _ _)
      (refine ord_flo (pick_cons rfl (pick_cons rfl (pick_cons rfl (pick_cons rfl pick_nil)))) ?_;(repeat (go_big_quiet_step (fail)));refine wpQuiet_nil ?_;show ordWalk _ _ _ _ _ _ _)
      refine ord_ext (pick_cons rfl pick_nil) ?_;intro K_ hK_
      go_wp2_with (go_at_call 183;refine (clone_lit x.A x.c nx x.l _ HNX HR2 hnx9).mono ?_;rintro e w3 ⟨⟨A3,c3,rfl,o3,b3⟩,x3⟩)
      refine ordNext.mk x3 ?_
      have O3:=Lib.hid o3
      have HB3:=Lib.hid b3
      have X3:=Lib.hid (X2.trans x3)
      clear o3 b3
      (refine ord_flo (pick_cons rfl pick_nil) ?_;(repeat (go_big_quiet_step (fail)));refine wpQuiet_nil ?_;show ordWalk _ _ _ _ _ _ _)
      refine ord_one (pick_cons rfl pick_nil) ?_;intro K_ hK_
      go_wp2
      refine ord_one (pick_cons rfl pick_nil) ?_;intro K_ hK_
      have HS3:=Lib.hid (HS2.out.mono X3.out)
      go_wp2_with (at_builtin;refine wpList_append_stay _ elem_ct w.heap.size _ _ rfl rfl w.heap.size m n (ctsC O) rfl (by rw [HMO.out];exact (HS3.out.arr.ext ((Ext.refl _).alloc _)).1) h0 ⟨w3.heap.size,0,none⟩ 1 1 [.slice A3 nx c3, .int .i64 x.k] rfl (sl_ct _ _ _ _) (by decide) (by intro u hu;simp at hu;rcases hu with rfl | rfl<;>rfl) (by omega) ?_;intro w4 o4 g4)
      have O4:=Lib.hid o4
      have G4:=Lib.hid ((upd_ext ((Ext.refl w3).alloc (.cells #[.slice A3 nx c3, .int .i64 x.k] 154)) w.heap.size).trans g4)
      clear o4 g4
      go_simp
      (refine ord_flo (pick_cons rfl pick_nil) ?_;(repeat (go_big_quiet_step (fail)));refine wpQuiet_nil ?_;show ordWalk _ _ _ _ _ _ _)
      refine ord_fin ?_
      go_wp2
      go_roundg (n - (i+1))
      case measure=>omega
      case rel=>exact ⟨i+1,O++[⟨A3,c3,x.l,x.k⟩],D.put (.string (rkeyT x.l)) (int_ m),rfl,by omega,by rw [HMO.out];simp,by go_num,Lib.hid (SumP.new HP1.out HIL.out HX.out (HIN.out x HM.out).num HAW.out HTH.out HMO.out HNX.out HO2.out HG2.out X3.out (by have:=O3.out;exact this) (fun ad e=>by have:=HB3.out ad e;have:=X2.size;omega) O4.out G4.out)⟩
     ·obtain ⟨P,y,Q,rfl,hy,hat0⟩:=HP.out.there HOK.out HIN.out hm hth
      obtain ⟨j,hj⟩ : ∃ j,j=P.length:=⟨_,rfl⟩
      rw [← hj] at hat0
      have hjm:j<m:=by rw [hmO,hj];simp
      obtain ⟨s,hs⟩ : ∃ s,w64 (y.k+x.k)=s:=⟨_,rfl⟩
      have hs2:IntKind.i64.wrap (y.k+x.k)=s:=hs
      have HAT:=Lib.hid hat0
      have HJ:=Lib.hid hj
      have HMO:=Lib.hid hmO
      have HY:=Lib.hid hy
      have HS:=Lib.hid hs
      clear hil hm hx hnx hmO hy hat0 hj hs
      go_upto_region 17 with (first
       | (go_at_call 186;refine (key_lit x.A x.c nx x.l _ HNX HR HI HC).mono ?_;rintro e w1 ⟨A1,n1,c1,rfl,o1,b1⟩;have O1:=Lib.hid o1;have X1:Ext (wr.alloc (.cells #[.slice x.A nx x.c, .int .i64 x.k] 154)) w1:=b1;have hcv:=conv_own o1;have BX:=(Bk.new wr 154 #[.slice x.A nx x.c, .int .i64 x.k]).ext X1;have bx0:=BX.cell 0;have bx1:=BX.cell 1;have XX:=((Ext.refl wr).alloc (.cells #[.slice x.A nx x.c, .int .i64 x.k] 154)).trans X1;have HP1:=Lib.hid (HP.out.mono XX);clear o1 b1)
       | (at_lookup;refine wpList_lookup_own_ok_int _ rfl _ _ 225 rfl 9 3 .i64 map_law Tryz.underlying225 Tryz.underlying3 (zero_int _) (w.heap.size+1) i D rfl HP1.out.map _ (.string (rkeyT x.l)) rfl (key_of HKS.out) ?_;intro cc hat hwc;obtain rfl:cc=(j:Int):=at_inj hat HAT.out;clear hat hwc))
      have hA1:=HP1.out.at_.arr
      have hq:=hA1.at (i:=j) (by rw [HJ.out];simp)
      rw [HJ.out,getD_mid, ← HJ.out] at hq
      have q1:=hq.2
      have f1:=hA1.free (j * 2+1)
      have X2:Ext w1 w1.drew:=(Ext.refl w1).drew
      have Q1 : ∀ z:Xt w1.drew,z.W.cell? ⟨w.heap.size,j * 2+1,none⟩=some (.int .i64 y.k):=fun z=>(X2.trans z.x).cell q1
      have B1 : ∀ z:Xt w1.drew,z.W.cell? ⟨wr.heap.size,1,none⟩=some (.int .i64 x.k):=fun z=>(X2.trans z.x).cell bx1
      clear hA1 hq
      refine wp_region_ord [0,0,3,7,15,0,32,127,255,511,1023] (.flo [0,1,2,3,4,5,6,7,8,9] (.one 10 (.fin))) (by kernel_rfl) (by kernel_rfl) (by intro _ _ d _ _ h;cases d<;>exact h) ?_
      (refine ord_flo (pick_cons rfl (pick_cons rfl (pick_cons rfl (pick_cons rfl (pick_cons rfl (pick_cons rfl (pick_cons rfl (pick_cons rfl (pick_cons rfl (pick_cons rfl pick_nil)))))))))) ?_;(repeat (go_big_quiet_step (fail)));refine wpQuiet_nil ?_;show ordWalk _ _ _ _ _ _ _)
      refine ord_one (pick_cons rfl pick_nil) ?_;intro K_ hK_
      go_wp2
      refine ord_fin ?_
      go_wp2
      go_roundg (n - (i+1))
      case measure=>omega
      case rel=>exact ⟨i+1,P++⟨y.A,y.c,y.l,s⟩ :: Q,D,rfl,by omega,by rw [HMO.out];simp,by go_num,Lib.hid ((HP1.out.mono X2).old HIL.out HX.out HY.out HJ.out HS.out)⟩
    ·have hin':i=n:=by omega
     have HE:Hid (SumEnd w w.heap.size (w.heap.size+1) n L O wr):=Lib.hid (by have:=HP.out;rw [hin'] at this;exact this.vals.out HN.out this.at_)
     have hmn:O.length≤n:=arr_len HE.out.at_.arr
     obtain ⟨m,hmO⟩ : ∃ m,m=O.length:=⟨_,rfl⟩
     rw [← hmO] at hmn ⊢
     have HMO:=Lib.hid hmO
     have HINV:Hid (∀ x∈L,InN (valC x)):=Lib.hid fun x hx=>(HIN.out x hx).num
     have hg0:w.heap.size+1<wr.heap.size:=HE.out.at_.gg.2.2
     clear hmO hin' HP
     go_wp2_with (go_at_call 187;refine (sortStable_any w.heap.size w.heap.size n m O _ HMO.out (by omega) HE.out.at_.arr HE.out.at_.off).mono ?_;rintro e w1 ⟨rfl,S,st,ar,up⟩;have HME:=Lib.hid (MergeAt.start HE.out st ar up);have HST:=Lib.hid st;have HSL:Hid (m=S.length):=Lib.hid (by rw [stable_len st];exact HMO.out);clear st ar up)
     go_loopg [13,82] m (fun z u v wr => ∃ (i q:Nat) (T M X R:List Ct),z=m - i∧i≤m∧q≤i∧u = .int .i64 q∧v = .int .i64 i∧Hid (q=M.length)∧Hid (MergeAt w w.heap.size (w.heap.size+1) n S wr i T M X R))
     case atStart=>exact ⟨0,0,[],[],[],S,rfl,Nat.zero_le _,Nat.le_refl _,rfl,rfl,Lib.hid rfl,HME⟩
     case round =>
      clear HME
      obtain ⟨i,q,T,M,X,R,rfl,hi,hqi,rfl,rfl,HQ,HG⟩:=hrel
      have hbx:w.heap.size+1<wr.heap.size:=HG.out.gg.2.2
      by_cases hlt:i<m
      ·obtain ⟨x,R,rfl⟩ : ∃ x R',R=x :: R':=by
        cases R with
        | nil =>
         have h1:=HG.out.spl
         have h2:=HG.out.tl
         have h3:=HSL.out
         rw [h1,List.append_nil,h2] at h3
         omega
        | cons x R=>exact ⟨x,R,rfl⟩
       have hA:=HG.out.arr
       have hxl:i<(M++(X++x :: R)).length:=by have:=HG.out.len;simp only [List.length_append,List.length_cons] at this ⊢;omega
       obtain ⟨p0,p1⟩:=hA.at hxl
       have e:(M++(X++x :: R)).getD i Ct.zero=x:=by
        rw [← List.append_assoc,show i=(M++X).length by rw [List.length_append];exact HG.out.len]
        exact getD_mid _ x R
       rw [e] at p0 p1
       obtain ⟨nx,hnx⟩ : ∃ nx,nx=x.l.length:=⟨_,rfl⟩
       rw [← hnx] at p0
       have HNX:=Lib.hid hnx
       have hqm:q<m:=by omega
       have XB:Ext wr (wr.alloc (.cells #[.slice x.A nx x.c, .int .i64 x.k] 154)):=(Ext.refl wr).alloc _
       have HG1:=Lib.hid (HG.out.mono XB)
       have BX:=Bk.new wr 154 #[.slice x.A nx x.c, .int .i64 x.k]
       have f0:=HG1.out.arr.free (q * 2)
       have f1:=HG1.out.arr.free (q * 2+1)
       have hqn:q<n:=by omega
       obtain ⟨u0,d0⟩:=Option.isSome_iff_exists.1 (HG1.out.arr.cells_past (j:=q * 2) (by omega))
       obtain ⟨u1,d1⟩:=Option.isSome_iff_exists.1 (HG1.out.arr.cells_past (j:=q * 2+1) (by omega))
       clear hA hxl e hnx
       rcases snoc_cases M with rfl | ⟨M,y,rfl⟩
       ·have hq0:q=0:=HQ.out
        subst hq0
        have HK:Hid (mergeStep (([]:List Ct).map valC) (valC x)=([]:List Ct).map valC++[valC x]):=Lib.hid rfl
        go_upto_region 26 with fail
        have X2:Ext (wr.alloc (.cells #[.slice x.A nx x.c, .int .i64 x.k] 154)) (wr.alloc (.cells #[.slice x.A nx x.c, .int .i64 x.k] 154)).drew:=(Ext.refl _).drew
        refine wp_region_ord [0,1,3,7,7,23,63,127,255,7,519,2047,4095,8191] (.flo [0,1,2,3,4,5,6,7,8,9,10] (.one 11 (.flo [12,13] (.fin)))) (by kernel_rfl) (by kernel_rfl) (by intro _ _ d _ _ h;cases d<;>exact h) ?_
        (refine ord_flo (pick_cons rfl (pick_cons rfl (pick_cons rfl (pick_cons rfl (pick_cons rfl (pick_cons rfl (pick_cons rfl (pick_cons rfl (pick_cons rfl (pick_cons rfl (pick_cons rfl pick_nil))))))))))) ?_;(repeat (go_big_quiet_step (fail)));refine wpQuiet_nil ?_;show ordWalk _ _ _ _ _ _ _)
        refine ord_one (pick_cons rfl pick_nil) ?_;intro K_ hK_
        go_wp2
        (refine ord_flo (pick_cons rfl (pick_cons rfl pick_nil)) ?_;(repeat (go_big_quiet_step (fail)));refine wpQuiet_nil ?_;show ordWalk _ _ _ _ _ _ _)
        refine ord_fin ?_
        have BX2:=BX.drew
        go_wp2
        go_roundg (m - (i+1))
        case measure=>omega
        case rel=>exact ⟨i+1,1,T++[x],[x],(X++[x]).tail,R,rfl,by omega,by omega,rfl,by go_num,Lib.hid rfl,Lib.hid ((HG1.out.mono X2).keep HK.out rfl HNX.out)⟩
       ·obtain ⟨p,hp⟩ : ∃ p,p=M.length:=⟨_,rfl⟩
        have hqp:q=p+1:=by have:=HQ.out;rw [List.length_append,List.length_singleton] at this;omega
        subst hqp
        have hy:=HG1.out.arr.at (i:=p) (by rw [hp];simp)
        have ey:(M++[y]++(X++x :: R)).getD p Ct.zero=y:=by rw [hp,List.append_assoc];exact getD_mid M y _
        rw [ey] at hy
        obtain ⟨y0,y1⟩:=hy
        obtain ⟨ny,hny⟩ : ∃ ny,ny=y.l.length:=⟨_,rfl⟩
        rw [← hny] at y0
        have HNY:=Lib.hid hny
        have HPL:=Lib.hid hp
        have f3:=HG1.out.arr.free (p * 2+1)
        obtain ⟨v,hv⟩ : ∃ v,cmpR y.l x.l=v:=⟨_,rfl⟩
        have HV:=Lib.hid hv
        have za:decide ((0:Int)<(p:Int)+1)=true:=decide_eq_true (by omega)
        obtain ⟨wb,hwb⟩ : ∃ z,z=wr.alloc (.cells #[.slice x.A nx x.c, .int .i64 x.k] 154):=⟨_,rfl⟩
        have hgb:w.heap.size+1<wb.heap.size:=by rw [hwb];exact HG1.out.gg.2.2
        go_upto_region 26 with fail
        rw [← hwb] at XB HG1 BX f0 f1 d0 d1 y0 y1 f3 ⊢
        clear ey hny hp hv hwb
        have X2:Ext wb wb.drew:=(Ext.refl wb).drew
        have HRY:=Lib.hid ((HG1.out.rows y (by simp)).1.rw.ext X2)
        have HRX:=Lib.hid ((HG1.out.rows x (by simp)).1.rw.ext X2)
        have Y0 : ∀ z:Xt wb.drew,z.W.cell? ⟨w.heap.size,p * 2,none⟩=some (.slice y.A ny y.c):=fun z=>(X2.trans z.x).cell y0
        have B0 : ∀ z:Xt wb.drew,z.W.cell? ⟨wr.heap.size,0,none⟩=some (.slice x.A nx x.c):=fun z=>(X2.trans z.x).cell (BX.cell 0)
        by_cases hv0:v=0
        ·subst hv0
         refine wp_region_ord [0,1,3,7,7,23,63,127,255,7,519,2047,4095,8191] (.flo [0,1,2,3,4,5,6,7,8,9,10] (.one 11 (.flo [12,13] (.fin)))) (by kernel_rfl) (by kernel_rfl) (by intro _ _ d _ _ h;cases d<;>exact h) ?_
         (refine ord_flo (pick_cons rfl (pick_cons rfl (pick_cons rfl (pick_cons rfl (pick_cons rfl (pick_cons rfl (pick_cons rfl (pick_cons rfl (pick_cons rfl (pick_cons rfl (pick_cons rfl pick_nil))))))))))) ?_;(repeat (go_big_quiet_step (fail)));refine wpQuiet_nil ?_;show ordWalk _ _ _ _ _ _ _)
         refine ord_one (pick_cons rfl pick_nil) ?_;intro K_ hK_
         go_wp2_with (go_at_call 164;refine (rowCmp_any y.A x.A y.c x.c ny nx y.l x.l _ HNY.out HNX.out HRY.out HRX.out).mono ?_;rintro e w1 ⟨rfl,x1⟩;rw [HV.out])
         (refine ord_flo (pick_cons rfl (pick_cons rfl pick_nil)) ?_;(repeat (go_big_quiet_step (fail)));refine wpQuiet_nil ?_;show ordWalk _ _ _ _ _ _ _)
         refine ord_fin ?_
         have X3:=X2.trans x1
         have HG2:=Lib.hid (HG1.out.mono X3)
         have yk:=X3.cell y1
         have bk:=X3.cell (BX.cell 1)
         have f4:=HG2.out.arr.free (p * 2+1)
         obtain ⟨s,hs⟩ : ∃ s,w64 (y.k+x.k)=s:=⟨_,rfl⟩
         have hs2:IntKind.i64.wrap (y.k+x.k)=s:=hs
         have HS:=Lib.hid hs
         have X4:Ext w1 w1.drew:=(Ext.refl w1).drew
         have Y1 : ∀ z:Xt w1.drew,z.W.cell? ⟨w.heap.size,p * 2+1,none⟩=some (.int .i64 y.k):=fun z=>(X4.trans z.x).cell yk
         have B1 : ∀ z:Xt w1.drew,z.W.cell? ⟨wr.heap.size,1,none⟩=some (.int .i64 x.k):=fun z=>(X4.trans z.x).cell bk
         clear hs
         go_upto_region 27 with fail
         refine wp_region_ord [0,0,2,7,15,31,0,64,255,511,1023,2047] (.flo [0,1,2,3,4,5,6,7,8,9,10] (.one 11 (.fin))) (by kernel_rfl) (by kernel_rfl) (by intro _ _ d _ _ h;cases d<;>exact h) ?_
         (refine ord_flo (pick_cons rfl (pick_cons rfl (pick_cons rfl (pick_cons rfl (pick_cons rfl (pick_cons rfl (pick_cons rfl (pick_cons rfl (pick_cons rfl (pick_cons rfl (pick_cons rfl pick_nil))))))))))) ?_;(repeat (go_big_quiet_step (fail)));refine wpQuiet_nil ?_;show ordWalk _ _ _ _ _ _ _)
         refine ord_one (pick_cons rfl pick_nil) ?_;intro K_ hK_
         go_wp2
         refine ord_fin ?_
         go_wp2
         go_roundg (m - (i+1))
         case measure=>omega
         case rel=>exact ⟨i+1,p+1,T++[x],M++[(⟨y.A,y.c,y.l,s⟩:Ct)],X++[x],R,rfl,by omega,by omega,by go_num,by go_num,Lib.hid (by rw [List.length_append,List.length_singleton, ← HPL.out]),Lib.hid ((HG2.out.mono X4).join HV.out HPL.out HS.out)⟩
        ·have zv:(v==0)=false:=by simpa using hv0
         have HK:Hid (mergeStep ((M++[y]).map valC) (valC x)=(M++[y]).map valC++[valC x]):=Lib.hid (by
          rw [List.map_append,List.map_singleton,mergeStep_snoc,if_neg (show ¬ cmpV (valC y) (valC x)=0 from fun q=>hv0 (HV.out.symm.trans q))])
         clear hv0
         refine wp_region_ord [0,1,3,7,7,23,63,127,255,7,519,2047,4095,8191] (.flo [0,1,2,3,4,5,6,7,8,9,10] (.one 11 (.flo [12,13] (.fin)))) (by kernel_rfl) (by kernel_rfl) (by intro _ _ d _ _ h;cases d<;>exact h) ?_
         (refine ord_flo (pick_cons rfl (pick_cons rfl (pick_cons rfl (pick_cons rfl (pick_cons rfl (pick_cons rfl (pick_cons rfl (pick_cons rfl (pick_cons rfl (pick_cons rfl (pick_cons rfl pick_nil))))))))))) ?_;(repeat (go_big_quiet_step (fail)));refine wpQuiet_nil ?_;show ordWalk _ _ _ _ _ _ _)
         refine ord_one (pick_cons rfl pick_nil) ?_;intro K_ hK_
         go_wp2_with (go_at_call 164;refine (rowCmp_any y.A x.A y.c x.c ny nx y.l x.l _ HNY.out HNX.out HRY.out HRX.out).mono ?_;rintro e w1 ⟨rfl,x1⟩;rw [HV.out])
         (refine ord_flo (pick_cons rfl (pick_cons rfl pick_nil)) ?_;(repeat (go_big_quiet_step (fail)));refine wpQuiet_nil ?_;show ordWalk _ _ _ _ _ _ _)
         refine ord_fin ?_
         have X3:=X2.trans x1
         have HG2:=Lib.hid (HG1.out.mono X3)
         have b0:=X3.cell (BX.cell 0)
         have b1:=X3.cell (BX.cell 1)
         have g0:=HG2.out.arr.free ((p+1) * 2)
         have g1:=HG2.out.arr.free ((p+1) * 2+1)
         have e0:=X3.cell d0
         have e1:=X3.cell d1
         go_wp2
         go_roundg (m - (i+1))
         case measure=>omega
         case rel=>exact ⟨i+1,p+1+1,T++[x],M++[y]++[x],(X++[x]).tail,R,rfl,by omega,by omega,by go_num,by go_num,Lib.hid (by rw [List.length_append,List.length_singleton, ← HQ.out]),Lib.hid (HG2.out.keep HK.out HQ.out HNX.out)⟩
      ·have hR:R=[]:=List.eq_nil_of_length_eq_zero (by
        have h1:=HG.out.spl
        have h2:=HG.out.tl
        have h3:=HSL.out
        rw [h1,List.length_append,h2] at h3
        omega)
       subst hR
       have hqn:q≤n:=by omega
       go_wp2_with (go_at_call 189;refine (deleteFunc_any w.heap.size w.heap.size n q M _ HQ.out HG.out.arr.prefix_).mono ?_;rintro e w2 ⟨mf,rfl,hmf,ar2,up2⟩;have HR2:=Lib.hid (fun c' hc=>sum_res (c':=c') HE.out HINV.out HST.out HG.out ar2 up2 hmf hc);clear hmf ar2 up2)
       go_ret
       exact HR2.out n rfl
end Go.Proofs.YtdgbkpoickbidaaGreatDoor
namespace Go.Proofs.YtdgbkpoickbidaaGreatDoor
open Go.RowKit Go.Maps

/-- the loop's relation, of rows that may not all be -/
structure SumO (w:World) (g gm n:Nat) (L:List Ct) (wr:World) (i:Nat) (O:List Ct):Prop where
 at_:SumAt w g gm n wr O
 vals:O.map valC=(L.take i).map valC
 len:O.length=i
theorem SumO.mono {w wr wz:World} {g gm n i:Nat} {L O:List Ct} (h:SumO w g gm n L wr i O) (x:Ext wr wz):SumO w g gm n L wz i O:=⟨h.at_.mono x,h.vals,h.len⟩
theorem SumO.start {w w0:World} {n:Nat} (L:List Ct) (h0:0<n) (hn:n≤1000000000) (hw:w0=(w.alloc (madeCts n)).alloc (.map #[] 0)):SumO w w.heap.size (w.heap.size+1) n L w0 0 []:=by
 subst hw
 exact ⟨⟨(arr_made w n h0 hn).ext ((Ext.refl _).alloc _),fun x h=>(nomatch h),List.Pairwise.nil,((Ext.refl w).alloc _).alloc _,by simp⟩,rfl,rfl⟩
theorem SumO.new {w w1 w3 w4:World} {g gm n i m:Nat} {L O:List Ct} {x:Ct} {A:Option Addr} {c nx:Nat} (h:SumO w g gm n L w1 i O) (hi:i<L.length) (hx:L.getD i Ct.zero=x) (hm:m=O.length) (hnx:nx=x.l.length) (x3:Ext w1 w3)
  (o3:Own w3 w1.heap.size 204 4 A nx c (rowC x.l)) (b3 : ∀ ad,A=some ad→w1.heap.size≤ad.block∧ad.block<w3.heap.size)
  (o4:Own w4 w.heap.size 154 2 (some ⟨g,0,none⟩) (m+1) n (ctsC O++[.slice A nx c, .int .i64 x.k])) (g4:w3.grownBy w4 (some g)):SumO w g gm n L w4 (i+1) (O++[⟨A,c,x.l,x.k⟩]):=by
 subst hnx hm
 have s3:=h.at_.mono x3
 have hg:=h.at_.gg
 refine ⟨s3.push (x:=⟨A,c,x.l,x.k⟩) (Own.mono o3 (Nat.zero_le _)) (fun ad e=>by have:=b3 ad e;omega) (fun y hy a b e1 e2=>by have:=(h.at_.rows y hy).2 a e1;have:=b3 b e2;omega) o4 g4,?_,by rw [List.length_append,h.len];rfl⟩
 rw [take_snocC hi,hx,List.map_append,List.map_append,h.vals]
 rfl
theorem SumO.out {w wx:World} {g gm n:Nat} {L O:List Ct} (h:SumO w g gm n L wx n O) (hn:n=L.length) (hin : ∀ x∈L,InN (valC x)):SumEnd w g gm n L O wx:=by
 have e:O.map valC=L.map valC:=by rw [h.vals,List.take_of_length_le (by omega)]
 refine ⟨h.at_,fun c=>by rw [e],fun x hx=>?_⟩
 have:valC x∈O.map valC:=List.mem_map.2 ⟨x,hx,rfl⟩
 rw [e] at this
 obtain ⟨y,hy,e2⟩:=List.mem_map.1 this
 rw [← e2]
 exact hin y hy
def okTo (L:List Ct) (i:Nat):Prop := ∀ x∈L.take i,checkR x.l=0
theorem okTo.step {L:List Ct} {i:Nat} {x:Ct} (hi:i<L.length) (hx:L.getD i Ct.zero=x):okTo L (i+1)↔okTo L i∧checkR x.l=0:=by
 unfold okTo
 rw [take_snocC hi,hx]
 exact ⟨fun h=>⟨fun y hy=>h y (List.mem_append_left _ hy),h x (by simp)⟩,fun h y hy=>by
  rcases List.mem_append.1 hy with q | q
  ·exact h.1 y q
  ·rw [List.mem_singleton.1 q];exact h.2⟩
/-- the first loop's answer -/
def Plain (L:List Ct) (i:Nat) (b:Bool):Prop:=b=true↔okTo L i
set_option maxRecDepth 100000 in
set_option maxHeartbeats 16000000 in
theorem sum_other (A:Option Addr) (c n:Nat) (L:List Ct) (w:World) (h0:0<n) (hn:n=L.length) (h20:n≤100000000) (h:Ctin w A c L) (hin : ∀ x∈L,InC x) (hbad : ∃ x∈L,checkR x.l≠0) (G:Good w) :
  Calls Tryz.prog 109 #[.slice A n c] w (SumRes w L):=by
 have HN:=Lib.hid hn
 have H:=Lib.hid h
 have HIN:=Lib.hid hin
 have HBAD:=Lib.hid hbad
 have hmk:=make_cts n (by omega)
 have hmm:=make_map (n:Int)
 clear hn h hin hbad
 go_enter Tryz.func109,Tryz.ntmps109
 go_upto_region 4 with fail
 obtain ⟨w0,hw0⟩ : ∃ x,x=(w.alloc (madeCts n)).alloc (.map #[] 0):=⟨_,rfl⟩
 have X0:Ext w w0:=hw0 ▸ ((Ext.refl w).alloc _).alloc _
 have HP0:Hid (SumO w w.heap.size (w.heap.size+1) n L w0 0 []):=Lib.hid (SumO.start L h0 (by omega) hw0)
 rw [← hw0]
 clear hw0 hmk hmm
 go_wp2
 go_loopw [5,24] (fun u v wr => ∃ (i:Nat) (b:Bool),i≤n∧u = .bool b∧v = .int .i64 i∧Hid (Plain L i b)∧Ext w0 wr) (fun _ v _=>n - (intOf v).toNat)
 case atStart=>exact ⟨0,true,Nat.zero_le _,rfl,rfl,Lib.hid ⟨fun _ x hx=>by simp at hx,fun _=>rfl⟩,Ext.refl _⟩
 case round =>
  obtain ⟨i,b,hi,rfl,rfl,HB,er0⟩:=hrel
  by_cases hlt:i<n
  ·have hil:i<L.length:=by rw [← HN.out];exact hlt
   have er:=X0.trans er0
   obtain ⟨ad,rfl,p0,p1⟩:=(H.out.ext er).at hil
   have hm:=getD_mem hil
   obtain ⟨x,hx⟩ : ∃ x,L.getD i Ct.zero=x:=⟨_,rfl⟩
   rw [hx] at p0 p1 hm
   obtain ⟨nx,hnx⟩ : ∃ nx,nx=x.l.length:=⟨_,rfl⟩
   rw [← hnx] at p0
   have hnx9:nx≤1000000000:=by have:=(HIN.out x hm).len;omega
   have HT:=Lib.hid (HIN.out x hm).txt
   have HI:=Lib.hid (HIN.out x hm).int
   have HR:=Lib.hid ((H.out.rows x hm).ext (er.alloc (.cells #[.slice x.A nx x.c, .int .i64 x.k] 154)))
   have GW:=Lib.hid (G.ext (er.alloc (.cells #[.slice x.A nx x.c, .int .i64 x.k] 154)))
   have HNX:=Lib.hid hnx
   have HX:=Lib.hid hx
   have HIL:=Lib.hid hil
   have HM:=Lib.hid hm
   clear hil hm hx hnx
   cases b
   ·have HB2:Hid (Plain L (i+1) false):=Lib.hid ⟨fun q=>(nomatch q),fun q=>absurd (HB.out.2 ((okTo.step HIL.out HX.out).1 q).1) (by decide)⟩
    clear HB
    go_wp2
    go_roundw
    case rel=>exact ⟨i+1,false,by omega,rfl,by go_num,HB2,er0.alloc _⟩
    case measure=>simp [intOf];omega
   ·obtain ⟨v,hv⟩ : ∃ v,checkR x.l=v:=⟨_,rfl⟩
    have HV:=Lib.hid hv
    by_cases hv0:v=0
    ·subst hv0
     have HB2:Hid (Plain L (i+1) true):=Lib.hid ⟨fun _=>(okTo.step HIL.out HX.out).2 ⟨HB.out.1 rfl,HV.out⟩,fun _=>rfl⟩
     clear hv HB
     go_wp2_with (go_at_call 154;refine (rowCheck_lit x.A x.c nx x.l _ HV HNX HR HT GW.out).mono ?_;rintro e w1 ⟨rfl,x1⟩)
     go_roundw
     case rel=>exact ⟨i+1,true,by omega,rfl,by go_num,HB2,(er0.alloc _).trans x1⟩
     case measure=>simp [intOf];omega
    ·have zv:(v==0)=false:=by simpa using hv0
     have HV0:=Lib.hid hv0
     have HB2:Hid (Plain L (i+1) false):=Lib.hid ⟨fun q=>(nomatch q),fun q=>absurd (HV.out.symm.trans ((okTo.step HIL.out HX.out).1 q).2) HV0.out⟩
     clear hv HB hv0
     go_wp2_with (go_at_call 154;refine (rowCheck_lit x.A x.c nx x.l _ HV HNX HR HT GW.out).mono ?_;rintro e w1 ⟨rfl,x1⟩)
     go_roundw
     case rel=>exact ⟨i+1,false,by omega,rfl,by go_num,HB2,(er0.alloc _).trans x1⟩
     case measure=>simp [intOf];omega
  ·have hbf:b=false:=by
    cases b with
    | false=>rfl
    | true =>
     obtain ⟨x,hx,q⟩:=HBAD.out
     exact absurd (HB.out.1 rfl x (by rw [List.take_of_length_le (by rw [← HN.out];omega)];exact hx)) q
   subst hbf
   clear HB
   go_wp2
   go_loopg [3,38] n (fun z u v wr => ∃ (i:Nat) (O:List Ct),z=n - i∧i≤n∧u = .slice (some ⟨w.heap.size,0,none⟩) O.length n∧v = .int .i64 i∧Hid (SumO w w.heap.size (w.heap.size+1) n L wr i O))
   case atStart=>exact ⟨0,[],rfl,Nat.zero_le _,rfl,rfl,Lib.hid (HP0.out.mono er0)⟩
   case round =>
    clear hi hlt er0 HP0 X0
    obtain ⟨i,O,rfl,hi,rfl,rfl,HP⟩:=hrel
    by_cases hlt:i<n
    ·have hil:i<L.length:=by rw [← HN.out];exact hlt
     have er:=HP.out.at_.ext
     obtain ⟨ad,rfl,p0,p1⟩:=(H.out.ext er).at hil
     have hm:=getD_mem hil
     obtain ⟨x,hx⟩ : ∃ x,L.getD i Ct.zero=x:=⟨_,rfl⟩
     rw [hx] at p0 p1 hm
     obtain ⟨nx,hnx⟩ : ∃ nx,nx=x.l.length:=⟨_,rfl⟩
     rw [← hnx] at p0
     have hnx9:nx≤1000000000:=by have:=(HIN.out x hm).len;omega
     have HT:=Lib.hid (HIN.out x hm).txt
     have HI:=Lib.hid (HIN.out x hm).int
     have HR:=Lib.hid ((H.out.rows x hm).ext (er.alloc (.cells #[.slice x.A nx x.c, .int .i64 x.k] 154)))
     have GW:=Lib.hid (G.ext (er.alloc (.cells #[.slice x.A nx x.c, .int .i64 x.k] 154)))
     have HNX:=Lib.hid hnx
     have HX:=Lib.hid hx
     have HIL:=Lib.hid hil
     have HM:=Lib.hid hm
     have hbx:w.heap.size+1<wr.heap.size:=HP.out.at_.gg.2.2
     obtain ⟨m,hmO⟩ : ∃ m,m=O.length:=⟨_,rfl⟩
     have hmi:m≤i:=by rw [hmO,HP.out.len];exact Nat.le_refl _
     rw [← hmO]
     have HMO:=Lib.hid hmO
     clear hil hm hx hnx hmO
     have p0':=((Ext.refl wr).alloc (.cells #[.slice x.A nx x.c, .int .i64 x.k] 154)).cell p0
     have p1':=((Ext.refl wr).alloc (.cells #[.slice x.A nx x.c, .int .i64 x.k] 154)).cell p1
     obtain ⟨wb,hwb⟩ : ∃ z,z=wr.alloc (.cells #[.slice x.A nx x.c, .int .i64 x.k] 154):=⟨_,rfl⟩
     have BX2:Bk wb wr.heap.size 154 #[.slice x.A nx x.c, .int .i64 x.k]:=by rw [hwb];exact Bk.new _ _ _
     have HS2:Hid (SumAt w w.heap.size (w.heap.size+1) n wb O):=Lib.hid (by rw [hwb];exact HP.out.at_.mono ((Ext.refl wr).alloc _))
     have HP2:Hid (SumO w w.heap.size (w.heap.size+1) n L wb i O):=Lib.hid (by rw [hwb];exact HP.out.mono ((Ext.refl wr).alloc _))
     go_upto_region 19 with fail
     rw [← hwb] at ⊢
     clear hwb p0' p1'
     have X2:Ext wb wb.drew:=(Ext.refl wb).drew
     have HR2:=Lib.hid ((H.out.rows x HM.out).ext (HS2.out.ext.trans X2))
     have B0 : ∀ z:Xt wb.drew,z.W.cell? ⟨wr.heap.size,0,none⟩=some (.slice x.A nx x.c):=fun z=>(X2.trans z.x).cell (BX2.cell 0)
     have B1 : ∀ z:Xt wb.drew,z.W.cell? ⟨wr.heap.size,1,none⟩=some (.int .i64 x.k):=fun z=>(X2.trans z.x).cell (BX2.cell 1)
     go_simp
     refine wp_region_ord [0,0,2,6,0,16,62,126,255,511] (.pur [0] (.flo [1,2,4,5] (.ext 3 (.flo [6] (.one 7 (.one 8 (.flo [9] (.fin)))))))) (by kernel_rfl) (by kernel_rfl) (by intro _ _ d _ _ h;cases d<;>exact h) ?_
     (refine ord_pur (pick_cons rfl pick_nil) ?_;(repeat (go_big_quiet_step (fail)));refine wpQuiet_nil ?_;show ordWalk _ _ _ _ _ _ _)
     (refine ord_flo (pick_cons rfl (pick_cons rfl (pick_cons rfl (pick_cons rfl pick_nil)))) ?_;(repeat (go_big_quiet_step (fail)));refine wpQuiet_nil ?_;show ordWalk _ _ _ _ _ _ _)
     refine ord_ext (pick_cons rfl pick_nil) ?_;intro K_ hK_
     go_wp2_with (go_at_call 183;refine (clone_lit x.A x.c nx x.l _ HNX HR2 hnx9).mono ?_;rintro e w3 ⟨⟨A3,c3,rfl,o3,b3⟩,x3⟩)
     refine ordNext.mk x3 ?_
     have O3:=Lib.hid o3
     have HB3:=Lib.hid b3
     have X3:=Lib.hid (X2.trans x3)
     clear o3 b3
     (refine ord_flo (pick_cons rfl pick_nil) ?_;(repeat (go_big_quiet_step (fail)));refine wpQuiet_nil ?_;show ordWalk _ _ _ _ _ _ _)
     refine ord_one (pick_cons rfl pick_nil) ?_;intro K_ hK_
     go_wp2
     refine ord_one (pick_cons rfl pick_nil) ?_;intro K_ hK_
     have HS3:=Lib.hid (HS2.out.mono X3.out)
     go_wp2_with (at_builtin;refine wpList_append_stay _ elem_ct w.heap.size _ _ rfl rfl w.heap.size m n (ctsC O) rfl (by rw [HMO.out];exact (HS3.out.arr.ext ((Ext.refl _).alloc _)).1) h0 ⟨w3.heap.size,0,none⟩ 1 1 [.slice A3 nx c3, .int .i64 x.k] rfl (sl_ct _ _ _ _) (by decide) (by intro u hu;simp at hu;rcases hu with rfl | rfl<;>rfl) (by omega) ?_;intro w4 o4 g4)
     have O4:=Lib.hid o4
     have G4:=Lib.hid ((upd_ext ((Ext.refl w3).alloc (.cells #[.slice A3 nx c3, .int .i64 x.k] 154)) w.heap.size).trans g4)
     clear o4 g4
     go_simp
     (refine ord_flo (pick_cons rfl pick_nil) ?_;(repeat (go_big_quiet_step (fail)));refine wpQuiet_nil ?_;show ordWalk _ _ _ _ _ _ _)
     refine ord_fin ?_
     go_wp2
     go_roundg (n - (i+1))
     case measure=>omega
     case rel=>exact ⟨i+1,O++[⟨A3,c3,x.l,x.k⟩],rfl,by omega,by rw [HMO.out];simp,by go_num,Lib.hid (HP2.out.new HIL.out HX.out HMO.out HNX.out X3.out (by have:=O3.out;exact this) (fun ad e=>by have:=HB3.out ad e;have:=X2.size;omega) O4.out G4.out)⟩
    ·have hin':i=n:=by omega
     have HE:Hid (SumEnd w w.heap.size (w.heap.size+1) n L O wr):=Lib.hid (by have:=HP.out;rw [hin'] at this;exact this.out HN.out (fun x hx=>(HIN.out x hx).num))
     have hmn:O.length≤n:=arr_len HE.out.at_.arr
     obtain ⟨m,hmO⟩ : ∃ m,m=O.length:=⟨_,rfl⟩
     rw [← hmO] at hmn ⊢
     have HMO:=Lib.hid hmO
     have HINV:Hid (∀ x∈L,InN (valC x)):=Lib.hid fun x hx=>(HIN.out x hx).num
     have hg0:w.heap.size+1<wr.heap.size:=HE.out.at_.gg.2.2
     clear hmO hin' HP
     go_wp2_with (go_at_call 187;refine (sortStable_any w.heap.size w.heap.size n m O _ HMO.out (by omega) HE.out.at_.arr HE.out.at_.off).mono ?_;rintro e w1 ⟨rfl,S,st,ar,up⟩;have HME:=Lib.hid (MergeAt.start HE.out st ar up);have HST:=Lib.hid st;have HSL:Hid (m=S.length):=Lib.hid (by rw [stable_len st];exact HMO.out);clear st ar up)
     go_loopg [13,82] m (fun z u v wr => ∃ (i q:Nat) (T M X R:List Ct),z=m - i∧i≤m∧q≤i∧u = .int .i64 q∧v = .int .i64 i∧Hid (q=M.length)∧Hid (MergeAt w w.heap.size (w.heap.size+1) n S wr i T M X R))
     case atStart=>exact ⟨0,0,[],[],[],S,rfl,Nat.zero_le _,Nat.le_refl _,rfl,rfl,Lib.hid rfl,HME⟩
     case round =>
      clear HME
      obtain ⟨i,q,T,M,X,R,rfl,hi,hqi,rfl,rfl,HQ,HG⟩:=hrel
      have hbx:w.heap.size+1<wr.heap.size:=HG.out.gg.2.2
      by_cases hlt:i<m
      ·obtain ⟨x,R,rfl⟩ : ∃ x R',R=x :: R':=by
        cases R with
        | nil =>
         have h1:=HG.out.spl
         have h2:=HG.out.tl
         have h3:=HSL.out
         rw [h1,List.append_nil,h2] at h3
         omega
        | cons x R=>exact ⟨x,R,rfl⟩
       have hA:=HG.out.arr
       have hxl:i<(M++(X++x :: R)).length:=by have:=HG.out.len;simp only [List.length_append,List.length_cons] at this ⊢;omega
       obtain ⟨p0,p1⟩:=hA.at hxl
       have e:(M++(X++x :: R)).getD i Ct.zero=x:=by
        rw [← List.append_assoc,show i=(M++X).length by rw [List.length_append];exact HG.out.len]
        exact getD_mid _ x R
       rw [e] at p0 p1
       obtain ⟨nx,hnx⟩ : ∃ nx,nx=x.l.length:=⟨_,rfl⟩
       rw [← hnx] at p0
       have HNX:=Lib.hid hnx
       have hqm:q<m:=by omega
       have XB:Ext wr (wr.alloc (.cells #[.slice x.A nx x.c, .int .i64 x.k] 154)):=(Ext.refl wr).alloc _
       have HG1:=Lib.hid (HG.out.mono XB)
       have BX:=Bk.new wr 154 #[.slice x.A nx x.c, .int .i64 x.k]
       have f0:=HG1.out.arr.free (q * 2)
       have f1:=HG1.out.arr.free (q * 2+1)
       have hqn:q<n:=by omega
       obtain ⟨u0,d0⟩:=Option.isSome_iff_exists.1 (HG1.out.arr.cells_past (j:=q * 2) (by omega))
       obtain ⟨u1,d1⟩:=Option.isSome_iff_exists.1 (HG1.out.arr.cells_past (j:=q * 2+1) (by omega))
       clear hA hxl e hnx
       rcases snoc_cases M with rfl | ⟨M,y,rfl⟩
       ·have hq0:q=0:=HQ.out
        subst hq0
        have HK:Hid (mergeStep (([]:List Ct).map valC) (valC x)=([]:List Ct).map valC++[valC x]):=Lib.hid rfl
        go_upto_region 26 with fail
        have X2:Ext (wr.alloc (.cells #[.slice x.A nx x.c, .int .i64 x.k] 154)) (wr.alloc (.cells #[.slice x.A nx x.c, .int .i64 x.k] 154)).drew:=(Ext.refl _).drew
        refine wp_region_ord [0,1,3,7,7,23,63,127,255,7,519,2047,4095,8191] (.flo [0,1,2,3,4,5,6,7,8,9,10] (.one 11 (.flo [12,13] (.fin)))) (by kernel_rfl) (by kernel_rfl) (by intro _ _ d _ _ h;cases d<;>exact h) ?_
        (refine ord_flo (pick_cons rfl (pick_cons rfl (pick_cons rfl (pick_cons rfl (pick_cons rfl (pick_cons rfl (pick_cons rfl (pick_cons rfl (pick_cons rfl (pick_cons rfl (pick_cons rfl pick_nil))))))))))) ?_;(repeat (go_big_quiet_step (fail)));refine wpQuiet_nil ?_;show ordWalk _ _ _ _ _ _ _)
        refine ord_one (pick_cons rfl pick_nil) ?_;intro K_ hK_
        go_wp2
        (refine ord_flo (pick_cons rfl (pick_cons rfl pick_nil)) ?_;(repeat (go_big_quiet_step (fail)));refine wpQuiet_nil ?_;show ordWalk _ _ _ _ _ _ _)
        refine ord_fin ?_
        have BX2:=BX.drew
        go_wp2
        go_roundg (m - (i+1))
        case measure=>omega
        case rel=>exact ⟨i+1,1,T++[x],[x],(X++[x]).tail,R,rfl,by omega,by omega,rfl,by go_num,Lib.hid rfl,Lib.hid ((HG1.out.mono X2).keep HK.out rfl HNX.out)⟩
       ·obtain ⟨p,hp⟩ : ∃ p,p=M.length:=⟨_,rfl⟩
        have hqp:q=p+1:=by have:=HQ.out;rw [List.length_append,List.length_singleton] at this;omega
        subst hqp
        have hy:=HG1.out.arr.at (i:=p) (by rw [hp];simp)
        have ey:(M++[y]++(X++x :: R)).getD p Ct.zero=y:=by rw [hp,List.append_assoc];exact getD_mid M y _
        rw [ey] at hy
        obtain ⟨y0,y1⟩:=hy
        obtain ⟨ny,hny⟩ : ∃ ny,ny=y.l.length:=⟨_,rfl⟩
        rw [← hny] at y0
        have HNY:=Lib.hid hny
        have HPL:=Lib.hid hp
        have f3:=HG1.out.arr.free (p * 2+1)
        obtain ⟨v,hv⟩ : ∃ v,cmpR y.l x.l=v:=⟨_,rfl⟩
        have HV:=Lib.hid hv
        have za:decide ((0:Int)<(p:Int)+1)=true:=decide_eq_true (by omega)
        obtain ⟨wb,hwb⟩ : ∃ z,z=wr.alloc (.cells #[.slice x.A nx x.c, .int .i64 x.k] 154):=⟨_,rfl⟩
        have hgb:w.heap.size+1<wb.heap.size:=by rw [hwb];exact HG1.out.gg.2.2
        go_upto_region 26 with fail
        rw [← hwb] at XB HG1 BX f0 f1 d0 d1 y0 y1 f3 ⊢
        clear ey hny hp hv hwb
        have X2:Ext wb wb.drew:=(Ext.refl wb).drew
        have HRY:=Lib.hid ((HG1.out.rows y (by simp)).1.rw.ext X2)
        have HRX:=Lib.hid ((HG1.out.rows x (by simp)).1.rw.ext X2)
        have Y0 : ∀ z:Xt wb.drew,z.W.cell? ⟨w.heap.size,p * 2,none⟩=some (.slice y.A ny y.c):=fun z=>(X2.trans z.x).cell y0
        have B0 : ∀ z:Xt wb.drew,z.W.cell? ⟨wr.heap.size,0,none⟩=some (.slice x.A nx x.c):=fun z=>(X2.trans z.x).cell (BX.cell 0)
        by_cases hv0:v=0
        ·subst hv0
         refine wp_region_ord [0,1,3,7,7,23,63,127,255,7,519,2047,4095,8191] (.flo [0,1,2,3,4,5,6,7,8,9,10] (.one 11 (.flo [12,13] (.fin)))) (by kernel_rfl) (by kernel_rfl) (by intro _ _ d _ _ h;cases d<;>exact h) ?_
         (refine ord_flo (pick_cons rfl (pick_cons rfl (pick_cons rfl (pick_cons rfl (pick_cons rfl (pick_cons rfl (pick_cons rfl (pick_cons rfl (pick_cons rfl (pick_cons rfl (pick_cons rfl pick_nil))))))))))) ?_;(repeat (go_big_quiet_step (fail)));refine wpQuiet_nil ?_;show ordWalk _ _ _ _ _ _ _)
         refine ord_one (pick_cons rfl pick_nil) ?_;intro K_ hK_
         go_wp2_with (go_at_call 164;refine (rowCmp_any y.A x.A y.c x.c ny nx y.l x.l _ HNY.out HNX.out HRY.out HRX.out).mono ?_;rintro e w1 ⟨rfl,x1⟩;rw [HV.out])
         (refine ord_flo (pick_cons rfl (pick_cons rfl pick_nil)) ?_;(repeat (go_big_quiet_step (fail)));refine wpQuiet_nil ?_;show ordWalk _ _ _ _ _ _ _)
         refine ord_fin ?_
         have X3:=X2.trans x1
         have HG2:=Lib.hid (HG1.out.mono X3)
         have yk:=X3.cell y1
         have bk:=X3.cell (BX.cell 1)
         have f4:=HG2.out.arr.free (p * 2+1)
         obtain ⟨s,hs⟩ : ∃ s,w64 (y.k+x.k)=s:=⟨_,rfl⟩
         have hs2:IntKind.i64.wrap (y.k+x.k)=s:=hs
         have HS:=Lib.hid hs
         have X4:Ext w1 w1.drew:=(Ext.refl w1).drew
         have Y1 : ∀ z:Xt w1.drew,z.W.cell? ⟨w.heap.size,p * 2+1,none⟩=some (.int .i64 y.k):=fun z=>(X4.trans z.x).cell yk
         have B1 : ∀ z:Xt w1.drew,z.W.cell? ⟨wr.heap.size,1,none⟩=some (.int .i64 x.k):=fun z=>(X4.trans z.x).cell bk
         clear hs
         go_upto_region 27 with fail
         refine wp_region_ord [0,0,2,7,15,31,0,64,255,511,1023,2047] (.flo [0,1,2,3,4,5,6,7,8,9,10] (.one 11 (.fin))) (by kernel_rfl) (by kernel_rfl) (by intro _ _ d _ _ h;cases d<;>exact h) ?_
         (refine ord_flo (pick_cons rfl (pick_cons rfl (pick_cons rfl (pick_cons rfl (pick_cons rfl (pick_cons rfl (pick_cons rfl (pick_cons rfl (pick_cons rfl (pick_cons rfl (pick_cons rfl pick_nil))))))))))) ?_;(repeat (go_big_quiet_step (fail)));refine wpQuiet_nil ?_;show ordWalk _ _ _ _ _ _ _)
         refine ord_one (pick_cons rfl pick_nil) ?_;intro K_ hK_
         go_wp2
         refine ord_fin ?_
         go_wp2
         go_roundg (m - (i+1))
         case measure=>omega
         case rel=>exact ⟨i+1,p+1,T++[x],M++[(⟨y.A,y.c,y.l,s⟩:Ct)],X++[x],R,rfl,by omega,by omega,by go_num,by go_num,Lib.hid (by rw [List.length_append,List.length_singleton, ← HPL.out]),Lib.hid ((HG2.out.mono X4).join HV.out HPL.out HS.out)⟩
        ·have zv:(v==0)=false:=by simpa using hv0
         have HK:Hid (mergeStep ((M++[y]).map valC) (valC x)=(M++[y]).map valC++[valC x]):=Lib.hid (by
          rw [List.map_append,List.map_singleton,mergeStep_snoc,if_neg (show ¬ cmpV (valC y) (valC x)=0 from fun q=>hv0 (HV.out.symm.trans q))])
         clear hv0
         refine wp_region_ord [0,1,3,7,7,23,63,127,255,7,519,2047,4095,8191] (.flo [0,1,2,3,4,5,6,7,8,9,10] (.one 11 (.flo [12,13] (.fin)))) (by kernel_rfl) (by kernel_rfl) (by intro _ _ d _ _ h;cases d<;>exact h) ?_
         (refine ord_flo (pick_cons rfl (pick_cons rfl (pick_cons rfl (pick_cons rfl (pick_cons rfl (pick_cons rfl (pick_cons rfl (pick_cons rfl (pick_cons rfl (pick_cons rfl (pick_cons rfl pick_nil))))))))))) ?_;(repeat (go_big_quiet_step (fail)));refine wpQuiet_nil ?_;show ordWalk _ _ _ _ _ _ _)
         refine ord_one (pick_cons rfl pick_nil) ?_;intro K_ hK_
         go_wp2_with (go_at_call 164;refine (rowCmp_any y.A x.A y.c x.c ny nx y.l x.l _ HNY.out HNX.out HRY.out HRX.out).mono ?_;rintro e w1 ⟨rfl,x1⟩;rw [HV.out])
         (refine ord_flo (pick_cons rfl (pick_cons rfl pick_nil)) ?_;(repeat (go_big_quiet_step (fail)));refine wpQuiet_nil ?_;show ordWalk _ _ _ _ _ _ _)
         refine ord_fin ?_
         have X3:=X2.trans x1
         have HG2:=Lib.hid (HG1.out.mono X3)
         have b0:=X3.cell (BX.cell 0)
         have b1:=X3.cell (BX.cell 1)
         have g0:=HG2.out.arr.free ((p+1) * 2)
         have g1:=HG2.out.arr.free ((p+1) * 2+1)
         have e0:=X3.cell d0
         have e1:=X3.cell d1
         go_wp2
         go_roundg (m - (i+1))
         case measure=>omega
         case rel=>exact ⟨i+1,p+1+1,T++[x],M++[y]++[x],(X++[x]).tail,R,rfl,by omega,by omega,by go_num,by go_num,Lib.hid (by rw [List.length_append,List.length_singleton, ← HQ.out]),Lib.hid (HG2.out.keep HK.out HQ.out HNX.out)⟩
      ·have hR:R=[]:=List.eq_nil_of_length_eq_zero (by
        have h1:=HG.out.spl
        have h2:=HG.out.tl
        have h3:=HSL.out
        rw [h1,List.length_append,h2] at h3
        omega)
       subst hR
       have hqn:q≤n:=by omega
       go_wp2_with (go_at_call 189;refine (deleteFunc_any w.heap.size w.heap.size n q M _ HQ.out HG.out.arr.prefix_).mono ?_;rintro e w2 ⟨mf,rfl,hmf,ar2,up2⟩;have HR2:=Lib.hid (fun c' hc=>sum_res (c':=c') HE.out HINV.out HST.out HG.out ar2 up2 hmf hc);clear hmf ar2 up2)
       go_ret
       exact HR2.out n rfl
set_option maxRecDepth 100000 in
set_option maxHeartbeats 1000000 in
theorem stable_nil (A:Option Addr) (c:Nat) (w:World):Calls Tryz.prog 225 #[.slice A 0 c, .int .i64 0, .func (.func 188) #[] #[]] w fun e w'=>e = .returned (.tuple #[])∧w=w':=by
 go_enter Tryz.func225,Tryz.ntmps225
 go_wp2
 go_loop [7,8] (fun u v=>u = .int .i64 0∧v = .int .i64 20) (fun _ _=>0)
 case atStart=>exact ⟨rfl,rfl⟩
 case round =>
  obtain ⟨rfl,rfl⟩:=hrel
  go_wp2_with (go_at_call 256;refine (insSort_none _ 0 c 0 0 _ (Nat.le_refl _) (by decide)).mono ?_;rintro e w1 ⟨rfl,rfl⟩)
  go_loop [6,7,8] (fun u v z=>u = .int .i64 20) (fun _ _ _=>0)
  case atStart=>rfl
  case round =>
   subst hrel
   go_wp2
   go_end0
   exact ⟨rfl,rfl⟩
set_option maxRecDepth 100000 in
set_option maxHeartbeats 800000 in
theorem sortStable_nil (A:Option Addr) (c:Nat) (w:World):Calls Tryz.prog 187 #[.slice A 0 c, .func (.func 188) #[] #[]] w fun e w'=>e = .returned (.tuple #[])∧w=w':=by
 go_enter Tryz.func187,Tryz.ntmps187
 go_wp2_with (go_at_call 225;refine (stable_nil A c _).mono ?_;rintro e w1 ⟨rfl,rfl⟩)
 go_end0
 exact ⟨rfl,rfl⟩
set_option maxRecDepth 100000 in
set_option maxHeartbeats 800000 in
theorem index_nil (A:Option Addr) (c:Nat) (w:World):Calls Tryz.prog 226 #[.slice A 0 c, .func (.func 190) #[] #[]] w fun e w'=>e = .returned (.int .i64 (-1))∧w=w':=by
 go_enter Tryz.func226,Tryz.ntmps226
 go_wp2
 refine wp_loop_rounds 1 ?_
 rw [rounds_succ]
 go_wp2
 go_ret
 exact ⟨rfl,rfl⟩
set_option maxRecDepth 100000 in
set_option maxHeartbeats 800000 in
theorem delete_nil (A:Option Addr) (c:Nat) (w:World):Calls Tryz.prog 189 #[.slice A 0 c, .func (.func 190) #[] #[]] w fun e w'=>e = .returned (.slice A 0 c)∧w=w':=by
 go_enter Tryz.func189,Tryz.ntmps189
 go_wp2_with (go_at_call 226;refine (index_nil A c _).mono ?_;rintro e w1 ⟨rfl,rfl⟩)
 go_ret
 exact ⟨rfl,rfl⟩
set_option maxRecDepth 100000 in
set_option maxHeartbeats 1000000 in
theorem sum_none (A:Option Addr) (c:Nat) (w:World):Calls Tryz.prog 109 #[.slice A 0 c] w (SumRes w []):=by
 have hmk : ∀ W:World,(Instr.makeSlice 31 (.int .i64 0) (.int .i64 0)).run Tryz.prog W = .ok (.slice (some ⟨W.heap.size,0,none⟩) 0 0) (W.alloc (madeCts 0)):=make_cts 0 (by omega)
 have hmm:=make_map (0:Int)
 go_enter Tryz.func109,Tryz.ntmps109
 go_upto_region 4 with fail
 obtain ⟨w0,hw0⟩ : ∃ x,x=(w.alloc (madeCts 0)).alloc (.map #[] 0):=⟨_,rfl⟩
 have X0:Ext w w0:=hw0 ▸ ((Ext.refl w).alloc _).alloc _
 rw [← hw0]
 clear hw0 hmk hmm
 go_wp2
 refine wp_loop_rounds 1 ?_
 rw [rounds_succ]
 go_wp2
 refine wp_loop_rounds 1 ?_
 rw [rounds_succ]
 go_wp2_with (go_at_call 187;refine (sortStable_nil _ _ _).mono ?_;rintro e w1 ⟨rfl,rfl⟩)
 refine wp_loop_rounds 1 ?_
 rw [rounds_succ]
 go_wp2_with (go_at_call 189;refine (delete_nil _ _ _).mono ?_;rintro e w1 ⟨rfl,rfl⟩)
 go_ret
 exact ⟨_,0,_,[],rfl,rfl,Own.empty _ _ _ _ _,fun x h=>(nomatch h),List.Pairwise.nil,rfl,X0⟩
/-- row.Sum of any rows -/
theorem sum_any (A:Option Addr) (c n:Nat) (L:List Ct) (w:World) (hn:n=L.length) (h20:n≤100000000) (h:Ctin w A c L) (hin : ∀ x∈L,InC x) (G:Good w):Calls Tryz.prog 109 #[.slice A n c] w (SumRes w L):=by
 rcases Nat.eq_zero_or_pos n with h0 | h0
 ·subst h0
  have:L=[]:=List.eq_nil_of_length_eq_zero hn.symm
  subst this
  exact sum_none A c w
 ·by_cases hb : ∀ x∈L,checkR x.l=0
  ·exact sum_plain A c n L w h0 hn h20 h hin hb G
  ·refine sum_other A c n L w h0 hn h20 h hin ?_ G
   obtain ⟨x,hx⟩:=Classical.not_forall.1 hb
   obtain ⟨h1,h2⟩:=Classical.not_imp.1 hx
   exact ⟨x,h1,h2⟩
open Go.RowKit
theorem grow3 (w:World) (o1 o2 o3:Obj):(((w.alloc o1).alloc o2).alloc o3).drew=Go.Sort.grow (w.drewN 1) #[o1,o2,o3]:=by
 rw [Go.Sort.alloc_eq_grow,Go.Sort.alloc_eq_grow,Go.Sort.alloc_eq_grow,Go.Sort.grow_grow,Go.Sort.grow_grow]
 rfl
set_option maxRecDepth 100000 in
set_option maxHeartbeats 600000 in
theorem or_eq (g:Nat) (t:TypeId) (x y z:Int) (w:World) (hb:Bk w g t #[.int .i64 x, .int .i64 y, .int .i64 z]) :
  Calls Tryz.prog 182 #[.slice (some ⟨g,0,none⟩) 3 3] w fun e w'=>e = .returned (.int .i64 (orT x y z))∧w=w':=by
 have hx:w.cell? ⟨g,0,none⟩=some (.int .i64 x):=hb.cell 0
 have hy:w.cell? ⟨g,1,none⟩=some (.int .i64 y):=hb.cell 1
 have hz:w.cell? ⟨g,2,none⟩=some (.int .i64 z):=hb.cell 2
 obtain ⟨r,hr⟩ : ∃ r,r=orT x y z:=⟨_,rfl⟩
 rw [← hr]
 have HR:=Lib.hid hr
 clear hr
 go_enter Tryz.func182,Tryz.ntmps182
 go_wp2
 go_loop [8] (fun v => ∃ k:Nat,k≤3∧v = .int .i64 k∧(0<k→x=0)∧(1<k→y=0)∧(2<k→z=0)) (fun v=>3 - (intOf v).toNat)
 case atStart=>exact ⟨0,by omega,rfl,by omega,by omega,by omega⟩
 case round =>
  obtain ⟨k,hk,rfl,k0,k1,k2⟩:=hrel
  have K0:=Lib.hid k0
  have K1:=Lib.hid k1
  have K2:=Lib.hid k2
  clear k0 k1 k2
  match k,hk with
  | 0,_ =>
   by_cases q:x=0
   ·have q':(x != 0)=false:=by simpa using q
    have Q:=Lib.hid q
    clear q
    go_wp2
    go_round
    case rel=>exact ⟨1,by omega,rfl,fun _=>Q.out,by omega,by omega⟩
    case measure=>simp [intOf]
   ·have q':(x != 0)=true:=by simpa using q
    go_wp2
    go_ret
    exact ⟨ret_int (by rw [HR.out];simp [orT,q]),rfl⟩
  | 1,_ =>
   by_cases q:y=0
   ·have q':(y != 0)=false:=by simpa using q
    have Q:=Lib.hid q
    clear q
    go_wp2
    go_round
    case rel=>exact ⟨2,by omega,rfl,fun _=>K0.out (by omega),fun _=>Q.out,by omega⟩
    case measure=>simp [intOf]
   ·have q':(y != 0)=true:=by simpa using q
    go_wp2
    go_ret
    exact ⟨ret_int (by rw [HR.out];simp [orT,q,K0.out (by omega)]),rfl⟩
  | 2,_ =>
   by_cases q:z=0
   ·have q':(z != 0)=false:=by simpa using q
    have Q:=Lib.hid q
    clear q
    go_wp2
    go_round
    case rel=>exact ⟨3,by omega,rfl,fun _=>K0.out (by omega),fun _=>K1.out (by omega),fun _=>Q.out⟩
    case measure=>simp [intOf]
   ·have q':(z != 0)=true:=by simpa using q
    go_wp2
    go_ret
    exact ⟨ret_int (by rw [HR.out];simp [orT,K1.out (by omega),K0.out (by omega)]),rfl⟩
  | 3,_ =>
   go_wp2
   go_ret
   exact ⟨ret_int (by rw [HR.out];simp [orT,K1.out (by omega),K0.out (by omega),K2.out (by omega)]),rfl⟩
  | k+4,hk=>omega

set_option maxRecDepth 100000 in
set_option maxHeartbeats 800000 in
theorem cmp_grow (e1 e2:Int) (A1 A2:Option Addr) (n1 n2 c1 c2:Nat) (l1 l2:List Int) (w:World) (h1:Sl w 1 A1 n1 c1 (wds l1)) (h2:Sl w 1 A2 n2 c2 (wds l2)) :
  Calls Tryz.prog 146 #[.agg #[.int .u64 e1, .slice A1 n1 c1], .agg #[.int .u64 e2, .slice A2 n2 c2]] w fun e w'=>e = .returned (.int .i64 (cmpTT e1 l1 e2 l2)) ∧ ∃ q os,w'=Go.Sort.grow (w.drewN q) os:=by
 have hR:cmpTT e1 l1 e2 l2=orT (cmpT n1 n2) (cmpT e1 e2) (lexT l1 l2):=by unfold cmpTT;rw [h1.wlen,h2.wlen]
 rw [hR]
 clear hR
 go_enter Tryz.func146,Tryz.ntmps146
 go_upto_region 1 with fail
 obtain ⟨w0,hw0⟩ : ∃ w0,w0=(w.alloc (Obj.cells #[Value.int IntKind.u64 e1,Value.slice A1 n1 c1] 26)).alloc (Obj.cells #[Value.int IntKind.u64 e2,Value.slice A2 n2 c2] 26):=⟨_,rfl⟩
 have x0:Ext w w0:=hw0 ▸ ((Ext.refl w).alloc _).alloc _
 have a0:Bk w0 w.heap.size 26 #[Value.int IntKind.u64 e1,Value.slice A1 n1 c1]:=by subst hw0;exact (Bk.new _ _ _).alloc _
 have b0:Bk w0 (w.heap.size+1) 26 #[Value.int IntKind.u64 e2,Value.slice A2 n2 c2]:=by subst hw0;exact Bk.at (by simp)
 rw [← hw0]
 have HW0:=Lib.hid hw0
 clear hw0
 have X:Ext w0 w0.drew:=(Ext.refl w0).drew
 have q1 : ∀ y:Xt w0.drew,y.W.cell? ⟨w.heap.size,0,none⟩=some (.int .u64 e1):=fun y=>(a0.ext (X.trans y.x)).cell 0
 have q2 : ∀ y:Xt w0.drew,y.W.cell? ⟨w.heap.size,1,none⟩=some (.slice A1 n1 c1):=fun y=>(a0.ext (X.trans y.x)).cell 1
 have q3 : ∀ y:Xt w0.drew,y.W.cell? ⟨w.heap.size+1,0,none⟩=some (.int .u64 e2):=fun y=>(b0.ext (X.trans y.x)).cell 0
 have q4 : ∀ y:Xt w0.drew,y.W.cell? ⟨w.heap.size+1,1,none⟩=some (.slice A2 n2 c2):=fun y=>(b0.ext (X.trans y.x)).cell 1
 refine wp_region_ord [0,1,3,0,8,24,63,0,128,0,512,2047,0,4096,0,16384,65535,131071,262143,524287] (.flo [0,1,2,3,4,5,7,8,9,10,12,13,14,15] (.ext 6 (.ext 11 (.one 16 (.one 17 (.one 18 (.flo [19] (.fin)))))))) (by kernel_rfl) (by kernel_rfl) (by intro _ _ d _ _ h;cases d<;>exact h) ?_
 (refine ord_flo (pick_cons rfl (pick_cons rfl (pick_cons rfl (pick_cons rfl (pick_cons rfl (pick_cons rfl (pick_cons rfl (pick_cons rfl (pick_cons rfl (pick_cons rfl (pick_cons rfl (pick_cons rfl (pick_cons rfl (pick_cons rfl pick_nil)))))))))))))) ?_;(repeat (go_big_quiet_step (fail)));refine wpQuiet_nil ?_;show ordWalk _ _ _ _ _ _ _)
 refine ord_ext (pick_cons rfl pick_nil) ?_;intro K_ hK_
 go_wp2_with (refine (compare_int _ _ _).mono ?_;rintro e w1 ⟨rfl,rfl⟩)
 refine ordNext.mk (Ext.refl _) ?_
 refine ord_ext (pick_cons rfl pick_nil) ?_;intro K_ hK_
 go_wp2_with (refine (compare_u64 _ _ _).mono ?_;rintro e w1 ⟨rfl,rfl⟩)
 refine ordNext.mk (Ext.refl _) ?_
 refine ord_one (pick_cons rfl pick_nil) ?_;intro K_ hK_
 go_wp2_with (refine (lex_any _ _ _ _ _ _ _ _ _ (h1.ext (x0.trans X)) (h2.ext (x0.trans X))).mono ?_;rintro e w1 ⟨rfl,rfl⟩)
 refine ord_one (pick_cons rfl pick_nil) ?_;intro K_ hK_
 go_wp2
 refine ord_one (pick_cons rfl pick_nil) ?_;intro K_ hK_
 go_wp2_with (refine (or_eq _ _ _ _ _ _ (by exact (Bk.at (by simp)).drew)).mono ?_;rintro e w1 ⟨rfl,rfl⟩)
 (refine ord_flo (pick_cons rfl pick_nil) ?_;(repeat (go_big_quiet_step (fail)));refine wpQuiet_nil ?_;show ordWalk _ _ _ _ _ _ _)
 refine ord_fin ?_
 go_wp2
 go_ret
 rw [HW0.out]
 exact ⟨rfl,1,_,grow3 w _ _ _⟩
open Go.RowKit
set_option maxRecDepth 100000 in
set_option maxHeartbeats 600000 in
theorem or2_any (g:Nat) (t:TypeId) (x y:Int) (w:World) (hb:Bk w g t #[.int .i64 x, .int .i64 y]) :
  Calls Tryz.prog 182 #[.slice (some ⟨g,0,none⟩) 2 2] w fun e w'=>e = .returned (.int .i64 (if x=0 then y else x))∧w=w':=by
 have hx:w.cell? ⟨g,0,none⟩=some (.int .i64 x):=hb.cell 0
 have hy:w.cell? ⟨g,1,none⟩=some (.int .i64 y):=hb.cell 1
 obtain ⟨r,hr⟩ : ∃ r,r=(if x=0 then y else x):=⟨_,rfl⟩
 rw [← hr]
 have HR:=Lib.hid hr
 clear hr
 go_enter Tryz.func182,Tryz.ntmps182
 go_wp2
 go_loop [8] (fun v => ∃ k:Nat,k≤2∧v = .int .i64 k∧(0<k→x=0)∧(1<k→y=0)) (fun v=>2 - (intOf v).toNat)
 case atStart=>exact ⟨0,by omega,rfl,by omega,by omega⟩
 case round =>
  obtain ⟨k,hk,rfl,k0,k1⟩:=hrel
  have K0:=Lib.hid k0
  have K1:=Lib.hid k1
  clear k0 k1
  match k,hk with
  | 0,_ =>
   by_cases q:x=0
   ·have q':(x != 0)=false:=by simpa using q
    have Q:=Lib.hid q
    clear q
    go_wp2
    go_round
    case rel=>exact ⟨1,by omega,rfl,fun _=>Q.out,by omega⟩
    case measure=>simp [intOf]
   ·have q':(x != 0)=true:=by simpa using q
    go_wp2
    go_ret
    exact ⟨ret_int (by rw [HR.out];simp [q]),rfl⟩
  | 1,_ =>
   by_cases q:y=0
   ·have q':(y != 0)=false:=by simpa using q
    have Q:=Lib.hid q
    clear q
    go_wp2
    go_round
    case rel=>exact ⟨2,by omega,rfl,fun _=>K0.out (by omega),fun _=>Q.out⟩
    case measure=>simp [intOf]
   ·have q':(y != 0)=true:=by simpa using q
    go_wp2
    go_ret
    exact ⟨ret_int (by rw [HR.out];simp [K0.out (by omega)]),rfl⟩
  | 2,_ =>
   go_wp2
   go_ret
   exact ⟨ret_int (by rw [HR.out];simp [K0.out (by omega),K1.out (by omega)]),rfl⟩
  | k+3,hk=>omega
set_option maxRecDepth 100000 in
set_option maxHeartbeats 1600000 in
theorem order_any (x y:Ud) (nx ny tx ty:Nat) (v:Int) (w:World) (hv:Hid (UdS.cmpC x y=v)) (hnx:Hid (nx=x.l.length)) (hny:Hid (ny=y.l.length)) (htx:Hid (tx=x.t.l.length)) (hty:Hid (ty=y.t.l.length)) (hx:Hid (UdR w x)) (hy:Hid (UdR w y)) :
  Calls Tryz.prog 103 #[.agg #[.slice x.A nx x.c, .int .u64 x.t.e, .slice x.t.A tx x.t.c, .int .i64 x.d], .agg #[.slice y.A ny y.c, .int .u64 y.t.e, .slice y.t.A ty y.t.c, .int .i64 y.d]] w fun e w'=>e = .returned (.int .i64 v)∧Ext w w':=by
 obtain ⟨r,hr⟩ : ∃ r,cmpR x.l y.l=r:=⟨_,rfl⟩
 obtain ⟨t,ht⟩ : ∃ t,cmpTT x.t.e x.t.l y.t.e y.t.l=t:=⟨_,rfl⟩
 have hvv:(if r=0 then t else r)=v:=by rw [← hv.out, ← hr, ← ht];rfl
 have HV:=Lib.hid hvv
 have HR:=Lib.hid hr
 have HT:=Lib.hid ht
 have X1:Hid (Sl w 1 x.t.A tx x.t.c (wds x.t.l)):=Lib.hid (by rw [htx.out];exact hx.out.t)
 have Y1:Hid (Sl w 1 y.t.A ty y.t.c (wds y.t.l)):=Lib.hid (by rw [hty.out];exact hy.out.t)
 clear hvv hr ht
 go_enter Tryz.func103,Tryz.ntmps103
 go_upto_region 1 with fail
 obtain ⟨w0,hw0⟩ : ∃ w0,w0=(w.alloc (Obj.cells #[.slice x.A nx x.c, .int .u64 x.t.e, .slice x.t.A tx x.t.c, .int .i64 x.d] 95)).alloc (Obj.cells #[.slice y.A ny y.c, .int .u64 y.t.e, .slice y.t.A ty y.t.c, .int .i64 y.d] 95):=⟨_,rfl⟩
 have x0:Ext w w0:=hw0 ▸ ((Ext.refl w).alloc _).alloc _
 have a0:Bk w0 w.heap.size 95 #[.slice x.A nx x.c, .int .u64 x.t.e, .slice x.t.A tx x.t.c, .int .i64 x.d]:=by subst hw0;exact (Bk.new _ _ _).alloc _
 have b0:Bk w0 (w.heap.size+1) 95 #[.slice y.A ny y.c, .int .u64 y.t.e, .slice y.t.A ty y.t.c, .int .i64 y.d]:=by subst hw0;exact Bk.at (by simp)
 rw [← hw0]
 have HW0:=Lib.hid hw0
 clear hw0
 have X:Ext w0 w0.drew:=(Ext.refl w0).drew
 have q1 : ∀ y:Xt w0.drew,y.W.cell? ⟨w.heap.size,0,none⟩=some (.slice x.A nx x.c):=fun y=>(a0.ext (X.trans y.x)).cell 0
 have q2 : ∀ y:Xt w0.drew,y.W.cell? ⟨w.heap.size,1,none⟩=some (.int .u64 x.t.e):=fun y=>(a0.ext (X.trans y.x)).cell 1
 have q3 : ∀ y:Xt w0.drew,y.W.cell? ⟨w.heap.size,2,none⟩=some (.slice x.t.A tx x.t.c):=fun y=>(a0.ext (X.trans y.x)).cell 2
 have q4 : ∀ z:Xt w0.drew,z.W.cell? ⟨w.heap.size+1,0,none⟩=some (.slice y.A ny y.c):=fun z=>(b0.ext (X.trans z.x)).cell 0
 have q5 : ∀ z:Xt w0.drew,z.W.cell? ⟨w.heap.size+1,1,none⟩=some (.int .u64 y.t.e):=fun z=>(b0.ext (X.trans z.x)).cell 1
 have q6 : ∀ z:Xt w0.drew,z.W.cell? ⟨w.heap.size+1,2,none⟩=some (.slice y.t.A ty y.t.c):=fun z=>(b0.ext (X.trans z.x)).cell 2
 refine wp_region_ord [0,1,0,4,15,0,32,0,128,511,1023,2047,4095] (.flo [0,1,2,3,5,6,7,8] (.ext 4 (.one 9 (.one 10 (.one 11 (.flo [12] (.fin))))))) (by kernel_rfl) (by kernel_rfl) (by intro _ _ d _ _ h;cases d<;>exact h) ?_
 (refine ord_flo (pick_cons rfl (pick_cons rfl (pick_cons rfl (pick_cons rfl (pick_cons rfl (pick_cons rfl (pick_cons rfl (pick_cons rfl pick_nil)))))))) ?_;(repeat (go_big_quiet_step (fail)));refine wpQuiet_nil ?_;show ordWalk _ _ _ _ _ _ _)
 refine ord_ext (pick_cons rfl pick_nil) ?_;intro K_ hK_
 go_wp2_with (go_at_call 164;refine (rowCmp_any x.A y.A x.c y.c nx ny x.l y.l _ hnx.out hny.out (hx.out.r.ext (x0.trans X)) (hy.out.r.ext (x0.trans X))).mono ?_;rintro e w1 ⟨rfl,x1⟩;rw [HR.out])
 refine ordNext.mk x1 ?_
 refine ord_one (pick_cons rfl pick_nil) ?_;intro K_ hK_
 go_wp2_with (go_at_call 146;refine (cmp_any x.t.e y.t.e x.t.A y.t.A tx ty x.t.c y.t.c x.t.l y.t.l _ (X1.out.ext ((x0.trans X).trans x1)) (Y1.out.ext ((x0.trans X).trans x1))).mono ?_;rintro e w2 ⟨rfl,x2⟩;rw [HT.out])
 refine ord_one (pick_cons rfl pick_nil) ?_;intro K_ hK_
 go_wp2
 refine ord_one (pick_cons rfl pick_nil) ?_;intro K_ hK_
 go_wp2_with (go_at_call 182;refine (or2_any _ _ _ _ _ (Bk.at (by simp))).mono ?_;rintro e w3 ⟨rfl,rfl⟩;rw [HV.out])
 (refine ord_flo (pick_cons rfl pick_nil) ?_;(repeat (go_big_quiet_step (fail)));refine wpQuiet_nil ?_;show ordWalk _ _ _ _ _ _ _)
 refine ord_fin ?_
 go_wp2
 go_ret
 exact ⟨rfl,(((x0.trans X).trans x1).trans x2).alloc _⟩
end Go.Proofs.YtdgbkpoickbidaaGreatDoor
