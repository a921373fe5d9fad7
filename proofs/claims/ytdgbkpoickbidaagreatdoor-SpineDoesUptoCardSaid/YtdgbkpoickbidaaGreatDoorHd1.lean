/- Parts of the proof, put together. Conditions: each theorem states its own. -/
import Derived.WalkKit
import Derived.Deep.QuietTactic
import Derived.BigQuiet
import Derived.Lib.Hide
import Derived.Deep.AppendLies
import Derived.Deep.Draws
import Derived.Deep.RegionHeld3
import Derived.Deep.DrawnRows
import Derived.Deep.RegionLaw
import Derived.StillTailTactics
import Derived.WalkLawsBesides
import Derived.WalkSpells
import Derived.Outline
import Derived.Handy
import Derived.Deep.DeepCutAuto
import Derived.Test.YtdgbkpoickbidaaGreatDoorCards
import Derived.Test.YtdgbkpoickbidaaGreatDoorTie
import Derived.ProofKit
import Derived.OpenShut
import Derived.Lay
import Derived.Lib.SmallJoins
import Derived.Deep.DeepHandedRow
import Derived.MakeChecks
import Derived.OrdersHeld
import Derived.Test.YtdgbkpoickbidaaGreatDoorChecked
set_option maxRecDepth 100000
set_option maxHeartbeats 4000000
open Go.RowKit
namespace Go.Proofs.YtdgbkpoickbidaaGreatDoor
set_option linter.defProp false
def AA:=@List.length_append
def AB:=@List.getD_eq_getElem?_getD
def AC:=@List.getElem?_eq_getElem
def AD:=@Nat.le_refl
def AE:=@Nat.zero_le
def AG:=@List.eq_nil_of_length_eq_zero
def AH:=@List.mem_singleton
def AI:=@List.length_cons
def AJ:=@List.append_assoc
def AK:=@List.length_singleton
def AN:=@List.length_map
def AO:=@List.map_append
def AP:=@List.append_nil
def AQ:=@Nat.le_trans
def AR:=@List.mem_append
def AT:=@List.take_of_length_le
def AW:=@List.mem_map
def AY:=@IntKind.wrap_i64
def AZ:=@List.mem_cons
def BC:=@List.nil_append
def BD:=@List.getElem?_append_right
def BE:=@List.mem_cons_self
def BF:=@Nat.lt_of_lt_of_le
def BG:=@List.pairwise_append
def BH:=@List.mem_append_left
def BI:=@List.getElem?_append_left
def BJ:=@Array.getElem?_eq_some_iff
def BL:=@List.pairwise_singleton
def BM:=@List.flatMap_cons
def BN:=@List.mem_cons_of_mem
def BP:=@List.getElem_mem
def BQ:=@List.take_succ_eq_append_getElem
def BR:=@Nat.zero_add
def BS:=@List.pairwise_cons
def BV:=@List.mem_filter
def BY:=@List.drop_eq_getElem_cons
def BZ:=@List.map_singleton
def CA:=@List.length_take
def CB:=@List.length_nil
def CC:=@List.mem_append_right
def CD:=@List.cons_append
def CE:=@List.take_append_drop
def CF:=@List.mem_of_mem_take
def CG:=@List.set_append_right
def CH:=@World.grownBy.refl
def CI:=@List.getElem?_map
def CJ:=@List.flatten_append
def CK:=@Option.isSome_iff_exists
def CL:=@Nat.eq_zero_or_pos
def CM:=@List.drop_eq_nil_of_le
def CN:=@List.map_cons
def CO:=@Nat.lt_irrefl
def CP:=@List.mem_of_mem_drop
def CQ:=@List.length_drop
def CR:=@Nat.add_sub_cancel_left
def CS:=@List.flatMap_append
def CT:=@Nat.mul_le_mul_right
def CU:=@List.not_mem_nil
def CW:=@List.filter_filter
def CY:=@List.filter_cons_of_pos
def CZ:=@List.pairwise_iff_getElem
def DA:=@World.size_setCell
def DB:=@IntWalk.i64_in
def DC:=@List.filter_cons_of_neg
def DD:=@List.map_map
def DE:=@Nat.add_mul
def DF:=@UInt8.toNat_ofNat'
def DG:=@Nat.sub_self
def DH:=@List.mem_flatMap
def DI:=@List.getElem_of_mem
def DJ:=@List.getElem?_eq_none
def DK:=@Int.lt_trichotomy
def DL:=@List.pairwise_map
def DM:=@List.mem_range
def DN:=@List.drop_of_length_le
def DO:=@List.flatten_singleton
def DP:=@Nat.lt_or_ge
def DQ:=@Nat.not_lt_zero
def DR:=@List.filter_append
def DS:=@List.take_left
def DT:=@List.foldl_append
def DU:=@List.take_length
def DV:=@Nat.add_zero
def DW:=@Nat.add_sub_cancel
def DX:=@List.getLast?_singleton
def DY:=@List.length_set
def DZ:=@Array.length_toList
def EA:=@List.length_pos_iff
def EB:=@Int.le_of_lt
def EC:=@Nat.lt_of_succ_lt_succ
def ED:=@List.any_eq_true
def EE:=@List.getElem?_take
def EF:=@Nat.le_of_eq
def EG:=@List.getLast?_append
def EH:=@List.filter_map
def EI:=@List.size_toArray
def EJ:=@Below.heap_alloc
def EK:=@List.all_eq_true
def EL:=@Int.le_refl
def EM:=@List.map_nil
def EN:=@Go.Deep.open_slice
def EO:=@IntKind.wrap_u8
def EP:=@UInt8.lt_iff_toNat_lt
def EQ:=@List.map_take
def ER:=@Option.some.injEq
def ES:=@Below.refl
def ET:=@Array.getElem?_eq_getElem
def EU:=@Nat.mul_one
def EV:=@IntWalk.u64_in
def EW:=@Array.setIfInBounds_comm
def EX:=@IntKind.wrap_u64
def EY:=@List.map_congr_left
def EZ:=@World.block_lt_of_cell?
def FA:=@Nat.succ_pred_eq_of_pos
def FB:=@List.map_drop
def FC:=@Option.map_some
def FD:=@List.sum_append
def FE:=@Array.getElem?_eq_none
def FF:=@Array.size_append
def FG:=@World.cells?_some
def FH:=@Array.getElem?_modify
def FI:=@Lib.run_eql_slice_nil
def FJ:=@List.eq_nil_or_concat
def FK:=@List.concat_eq_append
def FL:=@Nat.zero_mul
def FM:=@Array.getElem?_toList
def FN:=@List.map_toArray
def FO:=@List.filter_cons
def FP:=@Nat.le_add_right
def FQ:=@Array.toList_append
def FR:=@List.getElem?_range
def FS:=@List.filter_eq_self
def FT:=@List.length_zipWith
def FU:=@Lib.toList_data
def FV:=@Below.heap_setCell
def FW:=@List.set_eq_of_length_le
def FX:=@List.filter_append_perm
def FY:=@Go.Deep.choose_lt
def FZ:=@Nat.lt_trichotomy
def GA:=@List.any_eq_false
def GB:=@List.flatten_cons
def GC:=@List.filter_eq_nil_iff
def GD:=@List.length_pos_of_mem
def GE:=@List.mem_flatten
def GF:=@Go.Sort.alloc_eq_grow
def GH:=@List.length_filter_le
def GI:=@UInt8.toNat_inj
def GJ:=@Int.add_zero
def GK:=@Int.natCast_sub
def GL:=@List.zipWith_append
def GM:=@List.filter_sublist
def GN:=@List.take_zero
def GO:=@Below.trans
def GQ:=@List.getElem?_drop
def GR:=@Int.natCast_nonneg
def GS:=@Int.lt_or_eq_of_le
def GT:=@List.ext_getElem?
def GU:=@List.take_add_one
def GV:=@List.take_append
def GX:=@List.drop_append
def GY:=@Int.add_comm
def GZ:=@IntKind.wrap_u32
theorem hid{p:Prop}(h:p):Go.RowKit.Hid p:=Lib.hid h
def Ext(w w':World):Prop:=Below w.heap.size w w'
theorem Ext.refl(w:World):Ext w w:=ES _ _
theorem Ext.size{w w':World}(h:Ext w w'):w.heap.size<=w'.heap.size:=Below.size h
theorem Ext.trans{a b c:World}(h:Ext a b)(k:Ext b c):Ext a c:=GO h (Below.mono k h.size)
theorem Ext.drewN{a w:World}(h:Ext a w)(n:Nat):Ext a (w.drewN n):=h.trans ⟨rfl,rfl,rfl,AD _,fun _ _=>rfl⟩
theorem Ext.drew{a w:World}(h:Ext a w):Ext a w.drew:=h.trans ⟨rfl,rfl,rfl,AD _,fun _ _=>rfl⟩
theorem Ext.alloc{a w:World}(h:Ext a w)(o:Obj):Ext a (w.alloc o):=Below.alloc h h.size o
theorem Ext.set{a w:World}(h:Ext a w){p:Addr}(hp:a.heap.size<=p.block)(u:Value):Ext a (w.setCell p u):=Below.setCell h hp u
theorem Ext.grown{a w w':World}{row:Option Nat}(h:Ext a w)(hg:w.grownBy w' row)(hr:∀k,row=some k->a.heap.size<=k):Ext a w':=Below.grown h hg h.size hr
theorem Ext.cell{w w':World}(h:Ext w w'){p:Addr}{u:Value}(hc:w.cell? p=some u):w'.cell? p=some u :=
 (Below.cell h (EZ w p hc)).trans hc
theorem Ext.heap{w w':World}(h:Ext w w'){k:Nat}{o:Obj}(hc:w.heap[k]?=some o):w'.heap[k]?=some o :=
 (Below.block h k (BJ.1 hc).1).trans hc
theorem Hn(a:Addr)(i j:Nat):(a.add i).add j=a.add (i+j):=by
 unfold Addr.add;by_cases hi:i=0<;>by_cases hj:j=0<;>simp[hi,hj,Nat.add_assoc]
theorem De(a:Addr)(n:Nat):(a.add n).block=a.block:=by unfold Addr.add;split<;>rfl
def Sl(w:World)(size:Nat)(A:Option Addr)(n c:Nat)(xs:List Value):Prop :=
 xs.length=n*size/\n<=c/\c<=maxLen/\(A=none->c=0)/\(0<n->∃ad,A=some ad/\∀j u,xs[j]?=some u->w.cell? (ad.add j)=some u)
theorem Sl.ext{w w':World}{size n c:Nat}{A:Option Addr}{xs:List Value}(h:Sl w size A n c xs)(e:Ext w w'):Sl w' size A n c xs :=
 ⟨h.1,h.2.1,h.2.2.1,h.2.2.2.1,fun hn=>by obtain⟨ad,h1,h2⟩:=h.2.2.2.2 hn;exact⟨ad,h1,fun j u hu=>e.cell (h2 j u hu)⟩⟩
theorem Sl.drew{w:World}{size n c:Nat}{A:Option Addr}{xs:List Value}(h:Sl w size A n c xs):Sl w.drew size A n c xs:=h
theorem Sl.nil(w:World)(size:Nat):Sl w size none 0 0 []:=⟨by simp,AD _,AE _,fun _=>rfl,fun h=>absurd h (by omega)⟩
theorem Sl.le{w:World}{size n c:Nat}{A:Option Addr}{xs:List Value}(h:Sl w size A n c xs):n<=9223372036854775807:=by
 have:=h.2.1;have:=h.2.2.1;unfold maxLen at *;omega
theorem Sl.cap{w:World}{size n c:Nat}{A:Option Addr}{xs:List Value}(h:Sl w size A n c xs):n<=c/\c<=9223372036854775807:=by
 have:=h.2.1;have:=h.2.2.1;unfold maxLen at *;omega
theorem Sl.take{w:World}{size n c k:Nat}{A:Option Addr}{xs:List Value}(h:Sl w size A n c xs)(hk:k<=n):Sl w size A k c (xs.take (k*size)):=by
 obtain⟨h1,h2,h3,h4,h5⟩:=h;refine⟨?_,by omega,h3,h4,fun hn=>?_⟩
 ·rw[CA,h1];exact Nat.min_eq_left (CT _ hk)
 ·obtain⟨ad,e,hc⟩:=h5 (by omega);refine⟨ad,e,fun j u hu=>hc j u ?_⟩;rw[EE]at hu;split at hu
  ·exact hu
  ·cases hu
theorem Sl.drop{w:World}{size n c k:Nat}{A:Option Addr}{xs:List Value}(h:Sl w size A n c xs)(hk:k<=n) :
  Sl w size (if c=k then A else A.map (·.add (k*size))) (n-k) (c-k) (xs.drop (k*size)):=by
 obtain⟨h1,h2,h3,h4,h5⟩:=h;refine⟨by rw[CQ,h1,Nat.sub_mul],by omega,by omega,fun hA=>?_,fun hn=>?_⟩
 ·split at hA
  ·omega
  ·cases A with
   | none=>have:=h4 rfl;omega
   | some a=>simp at hA
 ·obtain⟨ad,e,hc⟩:=h5 (by omega);subst e;rw[if_neg (by omega)];refine⟨_,rfl,fun j u hu=>?_⟩;rw[Hn];exact hc _ u (by rw[<-hu,GQ])
def Own(w:World)(base:Nat)(e:TypeId)(size:Nat)(A:Option Addr)(n c:Nat)(xs:List Value):Prop :=
 xs.length=n*size /\
 ((c=0/\n=0) \/
  ∃g cur,A=some ⟨g,0,none⟩/\base<=g/\w.heap[g]?=some (.cells cur e (0,0))/\n<=c/\c<=maxLen/\c*size<=cur.size/\cur.toList.take (n*size)=xs)
def blk:Option Addr->Nat->Option Nat
 | some a,_+1=>some a.block
 | _,_=>none
theorem Oq(A:Option Addr):blk A 0=none:=by cases A<;>rfl
theorem Own.nil(w:World)(base:Nat)(e:TypeId)(size:Nat):Own w base e size none 0 0 []:=⟨by simp,.inl ⟨rfl,rfl⟩⟩
theorem Own.empty(w:World)(base:Nat)(e:TypeId)(size:Nat)(A:Option Addr):Own w base e size A 0 0 []:=⟨by simp,.inl ⟨rfl,rfl⟩⟩
section
variable{w w':World}{base base':Nat}{e:TypeId}{size:Nat}{A:Option Addr}{n c:Nat}{xs:List Value}
theorem Own.le(h:Own w base e size A n c xs):n<=c/\c<=9223372036854775807:=by
 rcases h.2 with ⟨h1,h2⟩|⟨g,cur,_,_,_,h1,h2,_⟩
 ·omega
 ·unfold maxLen at h2;omega
theorem Own.mono(h:Own w base e size A n c xs)(hb:base'<=base):Own w base' e size A n c xs:=by
 refine⟨h.1,?_⟩;rcases h.2 with h2|⟨g,cur,hv,hg,r⟩
 ·exact .inl h2
 ·exact .inr ⟨g,cur,hv,by omega,r⟩
theorem Own.lt(h:Own w base e size A n c xs):∀k,blk A c=some k->base<=k/\k<w.heap.size:=by
 intro k hk;rcases h.2 with ⟨rfl,_⟩|⟨g,cur,rfl,hb,hg,_⟩
 ·simp[Oq]at hk
 ·cases c with
  | zero=>simp[blk]at hk
  | succ c =>
   simp[blk]at hk;subst hk;exact⟨hb,(BJ.1 hg).1⟩
theorem Own.ne(h:Own w base e size A n c xs){k:Nat}(hk:k<base):blk A c≠some k:=fun e=>by have:=(h.lt k e).1;omega
theorem Own.kept{row:Option Nat}(h:Own w base e size A n c xs)(hg:w.grownBy w' row)(hne:blk A c=none\/blk A c≠row):Own w' base e size A n c xs:=by
 refine⟨h.1,?_⟩;rcases h.2 with hn|⟨g,cur,rfl,hb,hgg,rest⟩
 ·exact .inl hn
 ·cases c with
  | zero =>
   obtain⟨h1,_⟩:=rest;exact .inl ⟨rfl,by omega⟩
  | succ c =>
   refine .inr ⟨g,cur,rfl,hb,?_,rest⟩;rw[hg.block g (BJ.1 hgg).1 (by simpa [blk] using hne)];exact hgg
theorem Own.ext(h:Own w base e size A n c xs)(x:Ext w w'):Own w' base e size A n c xs:=by
 refine⟨h.1,?_⟩;rcases h.2 with hn|⟨g,cur,rfl,hb,hgg,rest⟩
 ·exact .inl hn
 ·exact .inr ⟨g,cur,rfl,hb,x.heap hgg,rest⟩
theorem Own.drew(h:Own w base e size A n c xs):Own w.drew base e size A n c xs:=h
theorem Own.alloc(h:Own w base e size A n c xs)(o:Obj):Own (w.alloc o) base e size A n c xs:=h.ext ((Ext.refl w).alloc o)
theorem Own.far(h:Own w base e size A n c xs){p:Addr}(hp:blk A c≠some p.block)(u:Value):Own (w.setCell p u) base e size A n c xs:=by
 refine⟨h.1,?_⟩;rcases h.2 with hn|⟨g,cur,rfl,hb,hgg,rest⟩
 ·exact .inl hn
 ·cases c with
  | zero =>
   obtain⟨h1,_⟩:=rest;exact .inl ⟨rfl,by omega⟩
  | succ c =>
   refine .inr ⟨g,cur,rfl,hb,?_,rest⟩;rw[FV _ _ _ _ (by intro e;exact hp (by simp[blk,e]))];exact hgg
theorem Own.sl(h:Own w base e size A n c xs):Sl w size A n c xs:=by
 obtain⟨h1,h2⟩:=h;rcases h2 with ⟨rfl,rfl⟩|⟨g,cur,rfl,hb,hg,hnc,hcm,hcs,htake⟩
 ·have:xs=[]:=AG (by simpa using h1);subst this;exact⟨by simp,AD _,AE _,fun _=>rfl,fun h=>absurd h (by omega)⟩
 ·refine⟨h1,hnc,hcm,(fun h=>nomatch h),fun _=>⟨_,rfl,fun j u hu=>?_⟩⟩;have hadd:(⟨g,0,none⟩:Addr).add j=⟨g,j,none⟩:=by unfold Addr.add;split<;>simp_all
  rw[hadd,cell_of_row w g j cur e (0,0) hg];rw[<-htake,EE]at hu;split at hu
  ·simpa using hu
  ·cases hu
end
theorem Uk{w:World}{g k:Nat}{cur:Array Value}{e:TypeId}{xs:List Value}(hg:w.heap[g]?=some (.cells cur e (0,0)))(ht:cur.toList.take k=xs)(j:Nat)(u:Value)(hu:xs[j]?=some u):w.cell? ((⟨g,0,none⟩:Addr).add j)=some u:=by
 have hadd:(⟨g,0,none⟩:Addr).add j=⟨g,j,none⟩:=by unfold Addr.add;split<;>simp_all
 rw[hadd,cell_of_row w g j cur e (0,0) hg];rw[<-ht,EE]at hu;split at hu
 ·simpa using hu
 ·cases hu
theorem Own.form{w:World}{base:Nat}{e:TypeId}{size:Nat}{A:Option Addr}{n c:Nat}{xs:List Value}(h:Own w base e size A n c xs)(hn:0<n) :
  ∃g,A=some ⟨g,0,none⟩/\blk A c=some g/\base<=g/\g<w.heap.size/\(∀j u,xs[j]?=some u->w.cell? ⟨g,j,none⟩=some u)/\∀j,w.frozen? ⟨g,j,none⟩=false:=by
 obtain⟨h1,h2⟩:=h;rcases h2 with ⟨rfl,rfl⟩|⟨g,cur,rfl,hb,hg,hnc,hcm,hcs,htake⟩
 ·omega
 ·obtain⟨c,rfl⟩:∃k,c=k+1:=⟨c-1,by omega⟩;refine⟨g,rfl,rfl,hb,(BJ.1 hg).1,fun j u hu=>?_,fun j=>by simp[World.frozen?,hg]⟩;rw[cell_of_row w g j cur e (0,0) hg];rw[<-htake,EE]at hu;split at hu
  ·simpa using hu
  ·cases hu
theorem Own.put{w:World}{base:Nat}{e:TypeId}{size g n c:Nat}{xs:List Value}(h:Own w base e size (some ⟨g,0,none⟩) n c xs)(k:Nat)(u:Value):Own (w.setCell ⟨g,k,none⟩ u) base e size (some ⟨g,0,none⟩) n c (xs.set k u):=by
 obtain⟨h1,h2⟩:=h;refine⟨by simpa using h1,?_⟩;rcases h2 with h2|⟨g',cur,e',hb,hg,hnc,hcm,hcs,htake⟩
 ·exact .inl h2
 ·cases e';refine .inr ⟨g,cur.setIfInBounds k u,rfl,hb,?_,hnc,hcm,by simpa using hcs,?_⟩
  ·simp[World.setCell,FH,hg]
  ·rw[Array.toList_setIfInBounds,<-htake,List.take_set]
def Bk(w:World)(g:Nat)(t:TypeId)(cs:Array Value):Prop:=w.heap[g]?=some (.cells cs t (0,0))
theorem Bk.lt{w:World}{g:Nat}{t:TypeId}{cs:Array Value}(h:Bk w g t cs):g<w.heap.size:=(BJ.1 h).1
theorem Bk.cell{w:World}{g:Nat}{t:TypeId}{cs:Array Value}(h:Bk w g t cs)(i:Nat):w.cell? ⟨g,i,none⟩=cs[i]?:=cell_of_row w g i cs t (0,0) h
theorem Bk.free{w:World}{g:Nat}{t:TypeId}{cs:Array Value}(h:Bk w g t cs)(i:Nat):w.frozen? ⟨g,i,none⟩=false:=by
 unfold Bk at h;simp[World.frozen?,h]
theorem Bk.new(w:World)(t:TypeId)(cs:Array Value):Bk (w.alloc (.cells cs t)) w.heap.size t cs:=heap_alloc_new w _
theorem Bk.at{w:World}{g:Nat}{t:TypeId}{cs:Array Value}(hg:g=w.heap.size):Bk (w.alloc (.cells cs t)) g t cs:=hg▸heap_alloc_new w _
theorem Bk.drew{w:World}{g:Nat}{t:TypeId}{cs:Array Value}(h:Bk w g t cs):Bk w.drew g t cs:=h
theorem Bk.alloc{w:World}{g:Nat}{t:TypeId}{cs:Array Value}(h:Bk w g t cs)(o:Obj):Bk (w.alloc o) g t cs:=(EJ w o g h.lt).trans h
theorem Bk.set{w:World}{g:Nat}{t:TypeId}{cs:Array Value}(h:Bk w g t cs)(i:Nat)(u:Value):Bk (w.setCell ⟨g,i,none⟩ u) g t (cs.setIfInBounds i u):=by
 unfold Bk at h ⊢;simp[World.setCell,FH,h]
theorem Bk.far{w:World}{g:Nat}{t:TypeId}{cs:Array Value}(h:Bk w g t cs){p:Addr}(hp:g≠p.block)(u:Value):Bk (w.setCell p u) g t cs:=(FV w p u g hp).trans h
theorem Bk.ext{w w':World}{g:Nat}{t:TypeId}{cs:Array Value}(h:Bk w g t cs)(x:Ext w w'):Bk w' g t cs:=x.heap h
theorem Bk.below{w w':World}{B g:Nat}{t:TypeId}{cs:Array Value}(h:Bk w g t cs)(hb:Below B w w')(hg:g<B):Bk w' g t cs:=(hb.block g hg).trans h
theorem Bk.grown{w w':World}{g:Nat}{t:TypeId}{cs:Array Value}{row:Option Nat}(h:Bk w g t cs)(hb:w.grownBy w' row)(hg:row≠some g):Bk w' g t cs:=(hb.block g h.lt (Ne.symm hg)).trans h
theorem Cm{w w':World}{B:Nat}(hb:Below B w w'){p:Addr}{u:Value}(hc:w.cell? p=some u)(hp:p.block<B):w'.cell? p=some u:=(hb.cell hp).trans hc
theorem Bk.set2{w:World}{g:Nat}{t:TypeId}{a b:Value}(h:Bk w g t #[a,b])(u v:Value) :
  ((w.setCell ⟨g,0,none⟩ u).setCell ⟨g,1,none⟩ v).cell? ⟨g,0,none⟩=some u/\((w.setCell ⟨g,0,none⟩ u).setCell ⟨g,1,none⟩ v).cell? ⟨g,1,none⟩=some v:=by
 have bb:=(h.set 0 u).set 1 v;exact⟨bb.cell 0,bb.cell 1⟩
structure Gj (P:Program) (t e size bytes:Nat) (z:Value):Prop where
 under:P.underlying t=some (.slice e)
 info:(P.info? e).map (fun i=>(i.zero,i.size,i.bytes))=some (some z,size,bytes)
 zsize:z.cells.size=size
 pos:0<size
theorem Fk{P:Program}(w:World){t ty e size bytes:Nat}{z:Value}(E:Gj P t e size bytes z)(A:Option Addr)(n c:Nat)(hn:n<=c)(B:Option Addr)(c':Nat) :
  (Builtin.append_ #[t,t] ty #[.slice A n c,.slice B 0 c']).run P w=.ok (.slice A n c) w:=by
 obtain⟨i,hi,hz,hs,hb⟩:=info_parts E.info;cases A<;>cases B<;>simp[Builtin.append_,run_underlying E.under,sizeOf,typeInfo,hi,Builtin.lenOf,Builtin.firstCells,hn,storeCells,loadCells,loadCellsFrom]
theorem Vb{P:Program}(w:World){t ty e size bytes:Nat}{z:Value}(E:Gj P t e size bytes z)(base:Nat)
  (A0:Option Addr) (n c0:Nat) (xs:List Value) (hown:Own w base e size A0 n c0 xs)
  (A:Option Addr) (m c:Nat) (news:List Value) (hr:Sl w size A m c news) (h1:∀u∈news,u.oneCell'=true)
  (hbytes:(n+m)*bytes<=140737488355328) (hb1:0<bytes) (hbase:base<=w.heap.size) :
  ∃A' c' w',(Builtin.append_ #[t,t] ty #[.slice A0 n c0,.slice A m c]).run P w=.ok (.slice A' (n+m) c') w'/\Own w' base e size A' (n+m) c' (xs++news)/\w.grownBy w' (blk A0 c0) /\
   (blk A' c'=blk A0 c0\/blk A' c'=some w.heap.size):=by
 obtain⟨i,hi,hz,hs,hby⟩:=info_parts E.info;have h63:n+m<=maxLen:=by
  have:n+m<=(n+m)*bytes:=Nat.le_mul_of_pos_right _ hb1;unfold maxLen;omega
 rcases CL m with hm|hm
 ·subst hm;have hnews:news=[]:=AG (by simpa using hr.1);subst hnews;exact⟨_,_,w,Fk w E A0 n c0 hown.le.1 A c,by simpa using hown,CH w _,.inl rfl⟩
 ·obtain⟨ad,rfl,hcells⟩:=hr.2.2.2.2 hm;rcases hown.2 with ⟨rfl,rfl⟩|⟨g,cur,rfl,hb,hg,hnc,hcm,hcs,htake⟩
  ·have hx:xs=[]:=AG (by simpa using hown.1);subst hx;have hge:=grownCap_ge w (0+m) 0 e;have hcm:grownCap w (0+m) 0 e<=maxLen:=grownCap_le_maxLen w (0+m) 0 e h63;obtain⟨kk,hk⟩:∃k,grownCap w (0+m) 0 e=k+1:=⟨_,(FA (by omega)).symm⟩;have hfin:Own (w.drew.alloc (.cells ((#[]:Array Value)++news.toArray++Builtin.zeroCells z.cells (grownCap w (0+m) 0 e-(0+m))) e)) base e size (some ⟨w.heap.size,0,none⟩) (0+m) (grownCap w (0+m) 0 e) ([]++news):=by
    refine⟨by simpa using hr.1,.inr ⟨w.heap.size,_,rfl,hbase,heap_alloc_new w.drew _,hge,hcm,?_,?_⟩⟩
    ·refine EF (Eq.symm ?_);simp only[FF,EI,size_zeroCells,E.zsize,hr.1,CB,BR,<-DE]
     congr 1
     simp only[BR]at hge;omega
    ·have hlen:([]++news).length=(0+m)*size:=by simpa using hr.1
     simp only[FQ,AJ];rw[<-AJ,<-hlen];exact DS
   cases A0 with
   | none =>
    have hr2:=run_append_nil (P:=P) w t ty e i z E.under hi hz ad m c news (by rw[hs];exact hr.1) hcells hm (by unfold maxLen at h63;omega) (by rw[hby];simp only[BR]at hbytes;omega);simp only[BR,BC,Array.empty_append]at hfin hk ⊢;refine⟨_,_,_,hr2,hfin,⟨rfl,rfl,rfl,by simp,fun k hk _=>EJ w.drew _ k hk⟩,.inr ?_⟩;rw[hk];rfl
   | some b =>
    have hr2:=run_append_grow (P:=P) w t ty e i z E.under hi hz b 0 0 [] (by simp) (by simp) ad m c news (by rw[hs];exact hr.1) hcells (by omega) (by unfold maxLen at h63;omega) (by rw[hby];exact growslice_fits (by omega) hbytes);refine⟨_,_,_,hr2,hfin,⟨rfl,rfl,rfl,by simp,fun k hk _=>EJ w.drew _ k hk⟩,.inr ?_⟩;rw[hk];rfl
  ·have hlen:(xs++news).length=(n+m)*size:=by rw[AA,hown.1,hr.1,DE]
   by_cases hroom:n+m<=c0
   ·have hfit:n*i.size+news.length<=cur.size:=by rw[hr.1,hs,<-DE];exact AQ (CT _ hroom) hcs
    have hr2:=run_append_room (P:=P) w t ty e i E.under hi g n c0 cur hg ad m c news (by rw[hs];exact hr.1) hcells h1 hroom hfit;refine⟨_,_,_,hr2,⟨hlen,.inr ⟨g,_,rfl,hb,setRow_heap w g cur _ e _ hg,hroom,hcm,?_,?_⟩⟩,⟨rfl,rfl,rfl,by simp,fun k _ hk=>setRow_other w g k _ (fun e'=>hk (by
     obtain⟨c1,rfl⟩:∃c1,c0=c1+1:=⟨c0-1,by omega⟩;simp[blk,e']))⟩,.inl rfl⟩
    ·simp only[EI,AA,CA,CQ,DZ];omega
    ·rw[hs,htake,<-hlen];exact DS
   ·have holds:∀j u,xs[j]?=some u->w.cell? ((⟨g,0,none⟩:Addr).add j)=some u:=Uk hg htake;have hr2:=run_append_grow (P:=P) w t ty e i z E.under hi hz ⟨g,0,none⟩ n c0 xs (by rw[hs];exact hown.1) holds ad m c news (by rw[hs];exact hr.1) hcells (by omega) (by unfold maxLen at h63;omega) (by rw[hby];exact growslice_fits (by omega) hbytes);have hge:=grownCap_ge w (n+m) c0 e;have hcm:grownCap w (n+m) c0 e<=maxLen:=grownCap_le_maxLen w (n+m) c0 e h63;refine⟨_,_,_,hr2,⟨hlen,.inr ⟨w.heap.size,_,rfl,hbase,heap_alloc_new w.drew _,hge,hcm,?_,?_⟩⟩,⟨rfl,rfl,rfl,by simp,fun k hk _=>EJ w.drew _ k hk⟩,.inr ?_⟩
    ·refine EF (Eq.symm ?_);simp only[FF,EI,size_zeroCells,E.zsize,hr.1,hown.1,<-DE]
     congr 1
     omega
    ·simp only[FQ,AJ];rw[<-AJ,<-hlen];exact DS
    ·obtain⟨kk,hk⟩:∃k,grownCap w (n+m) c0 e=k+1:=⟨_,(FA (by omega)).symm⟩;rw[hk];rfl
theorem Vm{P:Program}(w:World){o:Oper}{a:Act}{K:Act->World->Prop}{Q:Exit->Act->World->Prop}{t e size bytes:Nat}{z:Value}(E:Gj P t e size bytes z)(base:Nat)(s x:Operand)
  (ho:o.op=.call { callee:=.builtin .append,args:=#[s,x],argTypes:=#[t,t] })
  (A0:Option Addr) (n c0:Nat) (xs:List Value) (hs:a.eval s=.slice A0 n c0) (hown:Own w base e size A0 n c0 xs)
  (A:Option Addr) (m c:Nat) (news:List Value) (hx:a.eval x=.slice A m c) (hr:Sl w size A m c news) (h1:∀u∈news,u.oneCell'=true)
  (hbytes:(n+m)*bytes<=140737488355328) (hb1:0<bytes) (hbase:base<=w.heap.size)
  (h:∀A' c' w',Own w' base e size A' (n+m) c' (xs++news)->w.grownBy w' (blk A0 c0)->(blk A' c'=blk A0 c0\/blk A' c'=some w.heap.size)->K (a.put o.dst (.slice A' (n+m) c')) w'):o.wp P a w K Q:=by
 obtain⟨A',c',w',hrun,h2,h3,h4⟩:=Vb (P:=P) (ty:=o.type) w E base A0 n c0 xs hown A m c news hr h1 hbytes hb1 hbase;unfold Oper.wp execOp;simp only[ho,resolve,invoke,builtin,Sem.run_bind,Sem.run_pure,Result.andThen_ok,FN,CN,EM,hs,hx,hrun];exact h A' c' w' h2 h3 h4
theorem Ck{P:Program}(w:World){ops:Array Oper}{rest:List Oper}{o:Oper}{a:Act}{Q:Exit->Act->World->Prop}{t e size bytes:Nat}{z:Value}(E:Gj P t e size bytes z)(base:Nat)(s x:Operand)
  (ho:o.op=.call { callee:=.builtin .append,args:=#[s,x],argTypes:=#[t,t] }) (hgd:o.guard=none)
  (A0:Option Addr) (n c0:Nat) (xs:List Value) (hs:a.eval s=.slice A0 n c0) (hown:Own w base e size A0 n c0 xs)
  (A:Option Addr) (m c:Nat) (news:List Value) (hx:a.eval x=.slice A m c) (hr:Sl w size A m c news) (h1:∀u∈news,u.oneCell'=true)
  (hbytes:(n+m)*bytes<=140737488355328) (hb1:0<bytes) (hbase:base<=w.heap.size)
  (h:∀A' c' w',Own w' base e size A' (n+m) c' (xs++news)->w.grownBy w' (blk A0 c0)->(blk A' c'=blk A0 c0\/blk A' c'=some w.heap.size)->wpList P ops Q rest (a.put o.dst (.slice A' (n+m) c')) w'):wpList P ops Q (o::rest) a w :=
 wpList_plain hgd fun _ hK=>Vm w E base s x ho A0 n c0 xs hs hown A m c news hx hr h1 hbytes hb1 hbase fun A' c' w' h2 h3 h4=>hK _ _ (h A' c' w' h2 h3 h4)
theorem Sl.one(w:World)(cs:Array Value)(t:TypeId)(size:Nat)(hs:cs.size=size):Sl (w.alloc (.cells cs t)) size (some ⟨w.heap.size,0,none⟩) 1 1 cs.toList:=by
 refine⟨by simp[hs],AD _,by unfold maxLen;omega,(fun h=>nomatch h),fun _=>⟨_,rfl,fun j u hu=>?_⟩⟩;have hadd:(⟨w.heap.size,0,none⟩:Addr).add j=⟨w.heap.size,j,none⟩:=by unfold Addr.add;split<;>simp_all
 rw[hadd,cell_of_row _ w.heap.size j cs t (0,0) (heap_alloc_new w _)];simpa using hu
theorem Cb{a b:Bool}(h:a=b):Ending.returned (.bool a)=Ending.returned (.bool b):=by rw[h]
theorem Bu{k:IntKind}{a b:Int}(h:a=b):Ending.returned (.int k a)=Ending.returned (.int k b):=by rw[h]
def U32(l:List Int):Prop:=∀x∈l,0<=x/\x<=4294967295
def wds(l:List Int):List Value:=l.map (Value.int .u32)
theorem Rn(l:List Int):∀u∈wds l,u.oneCell'=true:=by
 intro u hu;obtain⟨x,_,rfl⟩:=AW.1 hu;rfl
theorem In(a b:List Int):wds a++wds b=wds (a++b):=by simp[wds]
theorem qF(l:List Int)(k:Nat):(wds l).take k=wds (l.take k):=by simp[wds]
theorem jE(l:List Int):(wds l).length=l.length:=by simp[wds]
theorem Sl.wlen{w:World}{n c:Nat}{A:Option Addr}{l:List Int}(h:Sl w 1 A n c (wds l)):l.length=n:=by simpa [wds] using h.1
theorem Sl.word{w:World}{n c:Nat}{A:Option Addr}{l:List Int}(h:Sl w 1 A n c (wds l)){k:Nat}(hk:k<n) :
  ∃ad,A=some ad/\w.cell? (ad.add k)=some (.int .u32 (l.getD k 0))/\ad.block<w.heap.size:=by
 obtain⟨ad,h1,h2⟩:=h.2.2.2.2 (by omega);have hl:=h.wlen;have hc:=h2 k (.int .u32 (l.getD k 0)) ?_
 ·exact⟨ad,h1,hc,by simpa [De] using EZ w _ hc⟩
 simp[wds,CI,AB,AC (show k<l.length by omega)]
theorem U32.getD{l:List Int}(h:U32 l)(k:Nat):0<=l.getD k 0/\l.getD k 0<=4294967295:=by
 rw[AB];by_cases hk:k<l.length
 ·rw[AC hk];exact h _ (BP hk)
 ·rw[DJ (by omega)];simp
theorem U32.at{l:List Int}(h:U32 l)(k:Nat):0<=l[k]?.getD 0/\l[k]?.getD 0<=4294967295:=by
 have:=h.getD k
 rwa [AB]at this
theorem Df(l:List Int)(k:Nat)(h:k<l.length):l.take (k+1)=l.take k++[l.getD k 0]:=by
 rw[BQ h,AB,AC h];rfl
open Go.ChangeShapes Go.WideShapes Go.ChangeAt Go.RowKit Go.WideElems
theorem own_knob:ownKnob Tryz.prog.godebug=none:=by kernel_rfl
theorem laid_out:laidOutB Tryz.prog=true:=by kernel_rfl
section
variable{H:Type}{enc:TypeId×Value->H}
theorem Xm{P:Program}{W W':World}(hl:laidOutB P=true)(x:Ext W W'){sp:Nat->Bool} :
  ∀{ts:List TypeId} {vs:List Value} {ds:List (DataW H)} {ps:List MemPlace},(ts.all fun t=>P.readableRec t&&decide (t<P.types.size))=true->DataW.TrodAll enc P W 0 (fun _=>true) true ts vs ds ps ->
   (∀p∈ps,p.block<W.heap.size)->(∀p∈ps,sp p.block=true)->DataW.TrodAll enc P W' 0 sp true ts vs ds ps
 | [],_,_,_,_,h,_,_=>by
  obtain⟨rfl,rfl,rfl⟩:=trodAll_nil h;exact trodAll_mk0
 | t::ts,vs,ds,ps,hr,h,hlt,hs=>by
  obtain⟨v,vs',d,ds',p,q,rfl,rfl,rfl,h1,h2⟩:=trodAll_cons h;simp only[List.all_cons,Bool.and_eq_true,decide_eq_true_eq]at hr;exact trodAll_cons_mk (Trod_stays hl hr.1.1 hr.1.2 h1 (fun y hy=>Below.same x (hlt y (BH _ hy))) (fun y hy=>hs y (BH _ hy)))
   (Xm hl x hr.2 h2 (fun y hy=>hlt y (CC _ hy)) (fun y hy=>hs y (CC _ hy)))
theorem law_post{P:Program}{fn:Func}{s:ChangeSpec}{W W':World}{args:Array Value}{ds gs:List (DataW H)}{before:List MemPlace}{tb:TypeId}(hl:laidOutB P=true)
  (hr:(fn.params.toList.all fun t=>P.readableRec t&&decide (t<P.types.size))=true) (hrt:fn.resultTypes=#[tb]) (htb:P.underlying tb=some .bool) (hv:s.vars=[])
  (hW:DataW.Whole enc P fn.params.toList s.vars false W args.toList ds gs before) (hs:s.fn H (ds++gs)={ results:=[.lit (.bool true)],args:=ds,vars:=[] }) (x:Ext W W') :
  s.post enc P fn false true false false W args (.bool true) W':=by
 have hlt:∀p∈before,p.block<W.heap.size:=fun p hp=>hW.lt p hp;obtain⟨p,q,hA,hV,hb,hz,hn⟩:=id hW;rw[hv]at hV;obtain⟨rfl,rfl⟩:=trodVars_none hV;rw[AP]at hb;subst hb;have hA':∀sp:Nat->Bool,(∀p∈before,sp p.block=true)->DataW.TrodAll enc P W' 0 sp true fn.params.toList args.toList ds before:=fun sp hsp=>Xm hl x hr hA hlt hsp;have hres:∀(b:Nat) (sp:Nat->Bool) (hd:Bool),DataW.TrodAll enc P W' b sp hd fn.resultTypes.toList ((Value.bool true).resultList fn.resultTypes.size) [.lit (.bool true)] []:=fun b sp hd=>by
  rw[hrt];exact trodAll_mk1 (shut_bool htb _)
 refine⟨ds,[],before,[],before,[],hW,?_,?_,?_,World.keptBut_mono (fun p hp=>⟨hp,Or.inr (Or.inl hp)⟩) (Below.frame x (· ∈ before)),fun h=>by cases h⟩
 ·rw[hs];exact hres _ _ _
 ·rw[hs];exact hA' _ (fun p hp=>by simpa using hlt p hp)
 ·rw[hs,hv];exact(rfl:([]:List MemPlace)=[])
end
open Go.ChangeShapes Go.WideShapes Go.ChangeAt Go.RowKit Go.WideElems
theorem yB{n:Int}(h:(Lit.int .u64 n).wf=true):0<=n/\n<=18446744073709551615:=by
 simpa [Lit.wf,IntKind.min,IntKind.max,IntKind.signed,IntKind.bits] using h
theorem yC{n:Int}(h:(Lit.int .u32 n).wf=true):0<=n/\n<=4294967295:=by
 simpa [Lit.wf,IntKind.min,IntKind.max,IntKind.signed,IntKind.bits] using h
section
variable{H:Type}{enc:TypeId×Value->H}{W:World}
theorem iV{fuel:Nat}{v:Value}{y:DataW H×List MemPlace}(h:DataW.trod enc Tryz.prog W 0 (fun _=>true) true fuel 24 [v]=some y) :
  ∃A n c l,v=.slice A n c/\Sl W 1 A n c (wds l)/\U32 l:=by
 rcases open_ints Tryz.underlying24 Tryz.underlying180 (by kernel_rfl) h with ⟨hcs,_⟩|⟨a,n,c,zs,hcs,_,hnc,hcm,hzl,_,hcell,hwf⟩
 ·obtain rfl:v=.slice none 0 0:=by simpa using hcs
  exact⟨none,0,0,[],rfl,Sl.nil W 1,fun x hx=>by cases hx⟩
 ·obtain rfl:v=.slice (some a) n c:=by simpa using hcs
  have hz:zs.length=c:=by simpa using hzl
  refine⟨some a,n,c,zs.take n,rfl,⟨by simp[wds];omega,hnc,hcm,(fun h=>nomatch h),fun _=>⟨a,rfl,fun j u hu=>?_⟩⟩,fun x hx=>yC (hwf x (CF hx))⟩;simp only[wds,CI,EE]at hu;split at hu
  ·rename_i hj;have hc1:=hcell j (by omega);rw[AB,AC (show j<zs.length by omega)]at hc1;rw[AC (show j<zs.length by omega)]at hu;simp only[FC,ER]at hu;rw[<-hu];exact hc1
  ·cases hu
end
structure Xt (w:World) where
 W:World
 x:Ext w W
instance Xt.any (w:World):Nonempty (Xt w):=⟨⟨w,Ext.refl w⟩⟩
theorem Ji{P:Program}{id:Nat}{Q:Exit->Act->World->Prop}{a:Act}{w:World}{l:List Oper}(hm:P.follows .mixedOrders=true)(hB:Region.lexB .any l.toArray=true)
  (h:wpQuiet P l.toArray (fun w'=>∃y:Xt w,w'=y.W) (fun a'=>∀w',(∃y:Xt w,w'=y.W)->Q .normal a' w') l a):(Code.region id l.toArray true).wp P Q a w :=
 wp_region_quiet (C:=fun w'=>∃y:Xt w,w'=y.W) hm hB ⟨⟨_,(Ext.refl w).drew⟩,rfl⟩ (by simpa using h)
theorem Tn{P:Program}{f:FuncId}{args:Array Value}{w:World}{y:Xt w}{v:Value}(h:Calls P f args y.W fun e w'=>e=.returned v/\Ext y.W w') :
  Calls P f args y.W fun e w''=>e=.returned v/\∃z:Xt w,w''=z.W :=
 h.mono fun _ w' ⟨he,hx⟩=>⟨he,⟨w',y.x.trans hx⟩,rfl⟩
def Kx:Op->Bool
 | .move _ | .assign _ | .pick .. | .build .. | .load .. | .nilCheck _ | .binOp .. | .unOp .. | .convert .. | .slice .. | .fieldAddr .. | .field .. | .indexAddr .. | .index .. | .lookup .. | .extract .. | .makeInterface .. | .makeFunc .. => true
 | .call { callee:=.builtin .len,.. } | .call { callee:=.builtin .cap,.. } | .call { callee:=.builtin .min,.. } | .call { callee:=.builtin .max,.. }=>true
 | _=>false
theorem Ba{P:Program}{s:Sem Value}{w w':World}{r:Next}(h:(do let x <-s;pure (Next.value x):Sem Next).run P w=.ok r w'):∃v,r=.value v:=by
 simp only[Sem.run_bind]at h;cases hs:s.run P w with
 | ok v w1=>rw[hs]at h;simp only[Result.andThen_ok,Sem.run_pure,Result.ok.injEq]at h;exact⟨v,h.1.symm⟩
 | halt x w1=>rw[hs]at h;simp[Result.andThen]at h
theorem Pv{P:Program}{o:Oper}(ho:Kx o.op=true){ρ:Operand->Value}{w w':World}{r:Next}(h:(execOp ρ o).run P w=.ok r w'):∃v,r=.value v:=by
 obtain⟨dst,op,type,pos,after,guard⟩:=o;cases op with
 | move x=>simp only[execOp,Sem.run_pure,Result.ok.injEq]at h;exact⟨_,h.1.symm⟩
 | assign x=>simp only[execOp,Sem.run_pure,Result.ok.injEq]at h;exact⟨_,h.1.symm⟩
 | pick c x y =>
  simp only[execOp,Sem.run_bind]at h;cases hs:(asBool (ρ c)).run P w with
  | ok v w1=>rw[hs]at h;simp only[Result.andThen_ok,Sem.run_pure,Result.ok.injEq]at h;exact⟨_,h.1.symm⟩
  | halt x w1=>rw[hs]at h;simp[Result.andThen]at h
 | nilCheck x =>
  simp only[execOp]at h;have key:∀v:Value,(pure (Next.value v):Sem Next).run P w=.ok r w'->∃v,r=.value v:=fun v hh=>by
   simp only[Sem.run_pure,Result.ok.injEq]at hh;exact⟨_,hh.1.symm⟩
  have bad:(runtimePanic RuntimeError.nilDeref:Sem Next).run P w=.ok r w'->∃v,r=.value v:=fun hh=>by
   simp[runtimePanic]at hh
  split at h
  ·exact bad h
  ·exact bad h
  ·exact bad h
  ·split at h
   ·exact bad h
   ·simp only[Sem.run_bind]at h;cases h1:(Sem.run P program w)with
    | halt x w1=>rw[h1]at h;simp[Result.andThen]at h
    | ok p w1 =>
     rw[h1]at h;simp only[Result.andThen_ok]at h;cases hh:(nilAhead (p.types.size+Made.depth) _ _ _).run P w1 with
     | halt x w2=>rw[hh]at h;simp[Result.andThen]at h
     | ok b w2 =>
      rw[hh]at h;simp only[Result.andThen_ok]at h;split at h
      ·simp[unsupported,Result.andThen]at h
      ·simp only[Sem.run_pure,Result.ok.injEq]at h;exact⟨_,h.1.symm⟩
   ·exact key _ h
  ·exact key _ h
 | build t parts=>exact Ba h
 | load t x=>exact Ba h
 | binOp op t x y u=>exact Ba h
 | unOp op t x=>exact Ba h
 | convert s d x=>exact Ba h
 | slice t x lo hi mx=>exact Ba h
 | fieldAddr s x f=>exact Ba h
 | field t x f=>exact Ba h
 | indexAddr t x i=>exact Ba h
 | index t x i=>exact Ba h
 | lookup t x i ok=>exact Ba h
 | extract t i=>exact Ba h
 | makeInterface t x=>exact Ba h
 | makeFunc f a b=>exact Ba h
 | call c =>
  obtain⟨callee,args,ats⟩:=c;cases callee with
  | builtin b =>
   have e:execOp ρ { dst,op:=.call { callee:=.builtin b,args,argTypes:=ats },type,pos,after,guard }=builtin b ats type (args.map fun | .const _=>true|_=>false) (args.map ρ):=rfl;rw[e]at h;cases b<;>first|exact Ba h|(simp[Kx]at ho)
  | value f=>simp[Kx]at ho
  | invoke r m=>simp[Kx]at ho
 | _=>simp[Kx]at ho
section
variable{P:Program}{ops:Array Oper}{Q:Exit->Act->World->Prop}{bs:Array Nat}
def Fr(ops:Array Oper)(bs:Array Nat)(i j:Nat):Bool:=decide (i<ops.size)&&(bs.getD j 0).testBit i
def Fv(ops:Array Oper)(bs:Array Nat):Bool :=
 (List.range ops.size).all fun j=>(List.range ops.size).all fun i=>!Fr ops bs i j ||
  match ops[j]? with
  | some o=>o.after.toList.any fun e=>Region.binds .any e&&(e.on==i||Fr ops bs i e.on)
  | none=>false
theorem jB(h:Fv ops bs=true){i j:Nat}(hij:Fr ops bs i j=true){o:Oper}(ho:ops[j]?=some o) :
  ∃e∈o.after,Region.binds .any e=true/\(e.on=i\/Fr ops bs i e.on=true):=by
 have hj:j<ops.size:=(BJ.1 ho).1;have hi:i<ops.size:=by
  unfold Fr at hij;simp only[Bool.and_eq_true,decide_eq_true_eq]at hij;exact hij.1
 unfold Fv at h;have h1:=EK.1 (EK.1 h j (DM.2 hj)) i (DM.2 hi);rw[hij,ho]at h1;simp only[Bool.not_true,Bool.false_or,ED,Bool.and_eq_true,Bool.or_eq_true,beq_iff_eq]at h1;obtain⟨e,he,hb,hh⟩:=h1;exact⟨e,Array.mem_toList_iff.1 he,hb,hh⟩
def Jh(ops:Array Oper)(bs:Array Nat)(listed:Array Bool):Prop:=∀j,listed.getD j false=true->∀i,Fr ops bs i j=true->listed.getD i false=true
theorem Jq(hok:Fv ops bs=true){listed:Array Bool}(hc:Jh ops bs listed){j i:Nat}(hj:j∈Region.ready .any ops listed)(hij:Fr ops bs i j=true):listed.getD i false=true:=by
 obtain⟨_,o,ho,hall⟩:=mem_ready.1 hj;obtain⟨e,he,hb,hh⟩:=jB hok hij ho;have h1:=hall e he hb;rcases hh with rfl|hh
 ·exact h1
 ·exact hc _ h1 _ hh
theorem Jh.add(hok:Fv ops bs=true){listed:Array Bool}(hc:Jh ops bs listed){j:Nat}(hj:j∈Region.ready .any ops listed):Jh ops bs (listed.setIfInBounds j true):=by
 intro k hk i hik;by_cases hjk:j=k
 ·subst hjk;exact getD_set_true (Jq hok hc hj hik)
 ·rw[getD_set_ne false hjk]at hk;exact getD_set_true (hc k hk i hik)
def wpX(P:Program)(ops:Array Oper)(Q:Exit->Act->World->Prop)(X:Nat->Bool):Nat->Array Bool->Act->World->Prop
 | 0,listed,a,w=>Region.ready .any ops listed=[]/\Q .normal a w
 | fuel+1,listed,a,w =>
  (Region.ready .any ops listed=[]->Q .normal a w) /\
  ∀i∈Region.ready .any ops listed,wpOp P ops Q i (fun a' w'=>(X i=true->Ext w w')/\wpX P ops Q X fuel (listed.setIfInBounds i true) a' w') a w
theorem Tq{X:Nat->Bool}:∀(fuel:Nat) (listed:Array Bool) (a:Act) (w:World),wpX P ops Q X fuel listed a w->wpAny P .any ops Q fuel listed a w
 | 0,_,_,_,h=>h
 | fuel+1,_,_,_,h=>⟨h.1,fun i hi=>wpOp_mono (fun a' w' h'=>Tq fuel _ a' w' h'.2) (h.2 i hi)⟩
theorem qB{X:Nat->Bool}{listed:Array Bool}{a:Act}{w:World}(hr:Region.ready .any ops listed=[])(h:Q .normal a w):∀fuel,wpX P ops Q X fuel listed a w
 | 0=>⟨hr,h⟩
 | _+1=>⟨fun _=>h,by rw[hr];simp⟩
theorem Za{o:Oper}{v:Value}{a:Act}{w w':World}(h:YieldsIf P ops (Ext w) o v a)(x:Ext w w'):YieldsIf P ops (Ext w') o v a :=
 h.imp (fun ⟨h1,h2⟩=>⟨h1,fun u hu=>h2 u (x.trans hu)⟩) id
theorem kP{X:Nat->Bool}(hok:Fv ops bs=true){i:Nat}{oi:Oper}{v:Value}(hi:ops[i]?=some oi)(hsel:∀(j:Nat) (o:Oper) cs b,ops[j]?=some o->o.op≠.select cs b)
  (hQ:∀c a d v w,Q (.panic c) (a.put d v) w->Q (.panic c) a w) :
  ∀(fuel:Nat) (listed:Array Bool) (a:Act) (w:World),Jh ops bs listed ->
   (∀j oj,ops[j]?=some oj->j≠i->listed.getD j true=false->Fr ops bs i j=false->oi.apart ops oj=true/\X j=true) ->
   i∈Region.ready .any ops listed->YieldsIf P ops (Ext w) oi v a ->
   wpX P ops Q X fuel (listed.setIfInBounds i true) (a.put oi.dst v) w->wpX P ops Q X (fuel+1) listed a w:=by
 intro fuel;induction fuel with
 | zero =>
  intro listed a w hcl _ hr hy H;refine⟨fun h=>(by rw[h]at hr;cases hr),fun j hj=>?_⟩;by_cases hji:j=i
  ·subst hji;exact hy.wpOp hi (Ext.refl w) ⟨fun _=>Ext.refl w,H⟩
  ·have:=ready_mono hj hji;rw[H.1]at this;cases this
 | succ fuel ih =>
  intro listed a w hcl hfree hr hy H;refine⟨fun h=>(by rw[h]at hr;cases hr),fun j hj=>?_⟩;by_cases hji:j=i
  ·subst hji;exact hy.wpOp hi (Ext.refl w) ⟨fun _=>Ext.refl w,H⟩
  ·have h1:=H.2 j (ready_mono hj hji);obtain⟨hjun,oj,hoj,hall⟩:=mem_ready.1 hj;have hiun:=(mem_ready.1 hr).1;have hnot:Fr ops bs i j=false:=by
    cases hb:Fr ops bs i j with
    | false=>rfl
    | true =>
     have h2:=Jq hok hcl hj hb;rcases DP i listed.size with h'|h'
     ·simp[h']at h2 hiun;rw[hiun]at h2;cases h2
     ·simp[FE h']at h2
   obtain⟨hap,hX⟩:=hfree j oj hoj hji hjun hnot;have h2:=wpOp_putIf hoj hap (fun cs b=>hsel i oi cs b hi) (fun cs b=>hsel j oj cs b hoj) (fun c a w=>hQ c a _ _ w) hy h1;have hfree':∀k ok,ops[k]?=some ok->k≠i->(listed.setIfInBounds j true).getD k true=false->Fr ops bs i k=false->oi.apart ops ok=true/\X k=true:=fun k ok hk hki hun hno=>by
    refine hfree k ok hk hki ?_ hno;by_cases hjk:j=k
    ·subst hjk;exact hjun
    ·rw[getD_set_ne true hjk]at hun;exact hun
   refine wpOp_mono (fun a' w' h3=>⟨h3.2.1,ih (listed.setIfInBounds j true) a' w' (hcl.add hok hj) hfree' (ready_mono hr (Ne.symm hji)) (Za h3.1 (h3.2.1 hX)) ?_⟩) h2;rw[EW _ _ hji];exact h3.2.2
theorem Ut{X:Nat->Bool}(hok:Fv ops bs=true){i:Nat}{oi:Oper}{v:Value}(hi:ops[i]?=some oi)(hsel:∀(j:Nat) (o:Oper) cs b,ops[j]?=some o->o.op≠.select cs b)
  (hQ:∀c a d v w,Q (.panic c) (a.put d v) w->Q (.panic c) a w) :
  ∀(fuel:Nat) (listed:Array Bool) (a:Act) (w:World),Jh ops bs listed ->
   (∀j oj,ops[j]?=some oj->j≠i->listed.getD j true=false->Fr ops bs i j=false->oi.apart ops oj=true) ->
   i∈Region.ready .any ops listed->YieldsIf P ops (fun _=>True) oi v a ->
   wpX P ops Q X fuel (listed.setIfInBounds i true) (a.put oi.dst v) w->wpX P ops Q X (fuel+1) listed a w:=by
 intro fuel;induction fuel with
 | zero =>
  intro listed a w hcl _ hr hy H;refine⟨fun h=>(by rw[h]at hr;cases hr),fun j hj=>?_⟩;by_cases hji:j=i
  ·subst hji;exact hy.wpOp hi trivial ⟨fun _=>Ext.refl w,H⟩
  ·have:=ready_mono hj hji;rw[H.1]at this;cases this
 | succ fuel ih =>
  intro listed a w hcl hfree hr hy H;refine⟨fun h=>(by rw[h]at hr;cases hr),fun j hj=>?_⟩;by_cases hji:j=i
  ·subst hji;exact hy.wpOp hi trivial ⟨fun _=>Ext.refl w,H⟩
  ·have h1:=H.2 j (ready_mono hj hji);obtain⟨hjun,oj,hoj,hall⟩:=mem_ready.1 hj;have hiun:=(mem_ready.1 hr).1;have hnot:Fr ops bs i j=false:=by
    cases hb:Fr ops bs i j with
    | false=>rfl
    | true =>
     have h2:=Jq hok hcl hj hb;rcases DP i listed.size with h'|h'
     ·simp[h']at h2 hiun;rw[hiun]at h2;cases h2
     ·simp[FE h']at h2
   have hap:=hfree j oj hoj hji hjun hnot;have h2:=wpOp_putIf hoj hap (fun cs b=>hsel i oi cs b hi) (fun cs b=>hsel j oj cs b hoj) (fun c a w=>hQ c a _ _ w) hy h1;have hfree':∀k ok,ops[k]?=some ok->k≠i->(listed.setIfInBounds j true).getD k true=false->Fr ops bs i k=false->oi.apart ops ok=true:=fun k ok hk hki hun hno=>by
    refine hfree k ok hk hki ?_ hno;by_cases hjk:j=k
    ·subst hjk;exact hjun
    ·rw[getD_set_ne true hjk]at hun;exact hun
   refine wpOp_mono (fun a' w' h3=>⟨h3.2.1,ih (listed.setIfInBounds j true) a' w' (hcl.add hok hj) hfree' (ready_mono hr (Ne.symm hji)) h3.1 ?_⟩) h2;rw[EW _ _ hji];exact h3.2.2
def Ai(ops:Array Oper)(l:List Nat):List Oper:=l.filterMap (ops[·]?)
inductive Fq where
 | fin
 | flo (l:List Nat) (r:Fq)
 | pur (l:List Nat) (r:Fq)
 | ext (i:Nat) (r:Fq)
 | one (i:Nat) (r:Fq)
 | both (i j:Nat) (r q:Fq)
def Bh(P:Program)(ops:Array Oper)(Q:Exit->Act->World->Prop):Fq->World->Act->World->Prop
 | .fin,_,a,w=>Q .normal a w
 | .flo l r,b,a,w=>wpQuiet P ops (fun w'=>∃y:Xt b,w'=y.W) (fun a'=>Bh P ops Q r b a' w) (Ai ops l) a
 | .pur l r,b,a,w=>wpQuiet P ops (fun _=>True) (fun a'=>Bh P ops Q r b a' w) (Ai ops l) a
 | .ext i r,b,a,w=>wpList P ops (Exit.then (fun a' w'=>Ext w w'/\Bh P ops Q r b a' w') Q) (Ai ops [i]) a w
 | .one i r,_,a,w=>wpList P ops (Exit.then (fun a' w'=>Bh P ops Q r w' a' w') Q) (Ai ops [i]) a w
 | .both i j r q,b,a,w=>wpList P ops (Exit.then (fun a' w'=>Ext w w'/\Bh P ops Q r b a' w') Q) (Ai ops [i]) a w/\wpList P ops (Exit.then (fun a' w'=>Ext w w'/\Bh P ops Q q b a' w') Q) (Ai ops [j]) a w
def Jg:Fq->List Nat
 | .fin=>[]
 | .flo _ r=>Jg r
 | .pur _ r=>Jg r
 | .ext i r=>i::Jg r
 | .one _ r=>Jg r
 | .both i j r q=>i::j::(Jg r++Jg q)
def inX(ops:Array Oper)(es:List Nat)(j:Nat):Bool:=es.contains j||((ops[j]?).map (Kx ·.op)).getD false
def oM(ops:Array Oper)(bs:Array Nat)(es:List Nat)(i:Nat)(listed:Array Bool):Bool :=
 match ops[i]? with
 | some oi=>Kx oi.op&&(Region.ready .any ops listed).contains i &&
   (List.range ops.size).all fun j=>j==i||listed.getD j true||Fr ops bs i j||(match ops[j]? with|some oj=>oi.apart ops oj&&inX ops es j|none=>true)
 | none=>false
def oK(ops:Array Oper)(bs:Array Nat)(i:Nat)(listed:Array Bool):Bool :=
 match ops[i]? with
 | some oi=>Kx oi.op&&(Region.ready .any ops listed).contains i &&
   (List.range ops.size).all fun j=>j==i||listed.getD j true||Fr ops bs i j||(match ops[j]? with|some oj=>oi.apart ops oj|none=>true)
 | none=>false
def Wd(ops:Array Oper)(bs:Array Nat):List Nat->Array Bool->Bool
 | [],_=>true
 | i::l,listed=>oK ops bs i listed&&Wd ops bs l (listed.setIfInBounds i true)
def We(ops:Array Oper)(bs:Array Nat)(es:List Nat):List Nat->Array Bool->Bool
 | [],_=>true
 | i::l,listed=>oM ops bs es i listed&&We ops bs es l (listed.setIfInBounds i true)
def Fz:List Nat->Array Bool->Array Bool
 | [],listed=>listed
 | i::l,listed=>Fz l (listed.setIfInBounds i true)
def Eu(ops:Array Oper)(bs:Array Nat)(es:List Nat):Fq->Array Bool->Bool
 | .fin,listed=>(Region.ready .any ops listed).isEmpty
 | .flo l r,listed=>We ops bs es l listed&&Eu ops bs es r (Fz l listed)
 | .pur l r,listed=>Wd ops bs l listed&&Eu ops bs es r (Fz l listed)
 | .ext i r,listed=>((Region.ready .any ops listed)==[i])&&Eu ops bs es r (listed.setIfInBounds i true)
 | .one i r,listed=>((Region.ready .any ops listed)==[i]) && !inX ops es i&&Eu ops bs es r (listed.setIfInBounds i true)
 | .both i j r q,listed=>((Region.ready .any ops listed)==[i,j])&&Eu ops bs es r (listed.setIfInBounds i true)&&Eu ops bs es q (listed.setIfInBounds j true)
def By:Fq->Nat
 | .fin=>0
 | .flo l r=>l.length+By r
 | .pur l r=>l.length+By r
 | .ext _ r=>1+By r
 | .one _ r=>1+By r
 | .both _ _ r q=>1+max (By r) (By q)
theorem Zo{o:Oper}{a:Act}{w:World}{K:Act->Prop}(ho:Kx o.op=true)(h:o.quiet P a (fun w'=>∃y:Xt w,w'=y.W) K) :
  ∃v,(∀u,Ext w u->(execOp a.eval o).run P u=.ok (.value v) u)/\K (a.put o.dst v):=by
 obtain⟨v,h1,h2⟩:=h;refine⟨v,fun u hu=>?_,h2⟩;have h3:=h1 u ⟨⟨u,hu⟩,rfl⟩;unfold Oper.quietAt at h3;cases hr:(execOp a.eval o).run P u with
 | ok n u' =>
  rw[hr]at h3;obtain⟨x,rfl⟩:=Pv ho hr;obtain⟨e1,e2⟩:=h3;rw[e1,e2]
 | halt x u'=>rw[hr]at h3;exact h3.elim
theorem Jf{o:Oper}{a:Act}{K:Act->Prop}(ho:Kx o.op=true)(h:o.quiet P a (fun _=>True) K) :
  ∃v,(∀u,(execOp a.eval o).run P u=.ok (.value v) u)/\K (a.put o.dst v):=by
 obtain⟨v,h1,h2⟩:=h;refine⟨v,fun u=>?_,h2⟩;have h3:=h1 u trivial;unfold Oper.quietAt at h3;cases hr:(execOp a.eval o).run P u with
 | ok n u' =>
  rw[hr]at h3;obtain⟨x,rfl⟩:=Pv ho hr;obtain⟨e1,e2⟩:=h3;rw[e1,e2]
 | halt x u'=>rw[hr]at h3;exact h3.elim
theorem Hl{K:Act->World->Prop}{i:Nat}{o:Oper}{a:Act}{w:World}(hi:ops[i]?=some o)(h:wpList P ops (Exit.then K Q) (Ai ops [i]) a w):wpOp P ops Q i K a w:=by
 have e:Ai ops [i]=[o]:=by simp[Ai,hi]
 rw[e]at h;unfold wpList at h;unfold wpOp;simp only[hi];split at h
 ·rename_i hw;rw[if_pos hw];refine h.imp (fun hh=>?_) (fun ⟨h1,a0,w0,h2⟩=>⟨h1,a0,w0,h2⟩);unfold Oper.wp at hh ⊢;generalize (execOp a.eval o).run P w=r at *;cases r with
  | ok n w' =>
   cases n<;>simp only[Oper.upon]at hh ⊢ <;>
    first
     | exact hh
     | exact Calls.mono hh (fun e w'' he=>by cases e<;>exact he)
  | halt x w'=>cases x<;>simp only[Oper.upon]at hh ⊢ <;> exact hh
 ·rename_i hw;rw[if_neg hw];exact h
theorem tX(hok:Fv ops bs=true)(hsel:Region.noSelect ops=true)(hQ:∀c a d v w,Q (.panic c) (a.put d v) w->Q (.panic c) a w)(es:List Nat) :
  ∀(p:Fq) (b:World) (listed:Array Bool) (a:Act) (w:World) (fuel:Nat),Ext b w->By p<=fuel->Jh ops bs listed->Eu ops bs es p listed=true->Bh P ops Q p b a w ->
   wpX P ops Q (inX ops es) fuel listed a w:=by
 intro p;induction p with
 | fin =>
  intro b listed a w fuel _ _ _ hB h;exact qB (by simpa [Eu] using hB) h fuel
 | flo l r ih =>
  induction l with
  | nil =>
   intro b listed a w fuel hx hf hc hB h;refine ih b listed a w fuel hx (by simpa [By] using hf) hc (by simpa [Eu,We,Fz] using hB) ?_;simpa [Bh,Ai,wpQuiet] using h
  | cons i l ihl =>
   intro b listed a w fuel hx hf hc hB h;simp only[Eu,We,Fz,Bool.and_eq_true]at hB;obtain⟨⟨hi,hl⟩,hr⟩:=hB;cases ho:ops[i]? with
   | none=>simp[oM,ho]at hi
   | some oi =>
    simp only[oM,ho,Bool.and_eq_true]at hi;obtain⟨⟨hflo,hrd⟩,hfr⟩:=hi;have hrd':i∈Region.ready .any ops listed:=by simpa using hrd
    obtain⟨fuel,rfl⟩:∃f,fuel=f+1:=⟨fuel-1,by simp[By]at hf;omega⟩;have hfree:∀j oj,ops[j]?=some oj->j≠i->listed.getD j true=false->Fr ops bs i j=false->oi.apart ops oj=true/\inX ops es j=true:=by
     intro j oj hj hne hun hno;have:=EK.1 hfr j (DM.2 (BJ.1 hj).1);simpa [hne,hun,hno,hj] using this
    have hp:Ai ops (i::l)=oi::Ai ops l:=by simp[Ai,ho]
    simp only[Bh,hp]at h;unfold wpQuiet at h;have go:∀v,YieldsIf P ops (Ext w) oi v a->wpQuiet P ops (fun w'=>∃y:Xt b,w'=y.W) (fun a'=>Bh P ops Q r b a' w) (Ai ops l) (a.put oi.dst v)->wpX P ops Q (inX ops es) (fuel+1) listed a w:=by
     intro v hy hk;refine kP hok ho (Region.noSelect_spec hsel) hQ fuel listed a w hc hfree hrd' hy ?_;refine ihl b (listed.setIfInBounds i true) (a.put oi.dst v) w fuel hx (by simp[By]at hf ⊢;omega) (hc.add hok hrd') ?_ ?_
     ·simp only[Eu,Bool.and_eq_true];exact⟨hl,hr⟩
     ·simpa only[Bh] using hk
    split at h
    ·rename_i hw;obtain⟨v,hv,hk⟩:=Zo hflo h;exact go v (.inl ⟨hw,fun u hu=>hv u (hx.trans hu)⟩) hk
    ·rename_i hw;exact go undef (.inr ⟨by simpa using hw,rfl⟩) h
 | pur l r ih =>
  induction l with
  | nil =>
   intro b listed a w fuel hx hf hc hB h;refine ih b listed a w fuel hx (by simpa [By] using hf) hc (by simpa [Eu,Wd,Fz] using hB) ?_;simpa [Bh,Ai,wpQuiet] using h
  | cons i l ihl =>
   intro b listed a w fuel hx hf hc hB h;simp only[Eu,Wd,Fz,Bool.and_eq_true]at hB;obtain⟨⟨hi,hl⟩,hr⟩:=hB;cases ho:ops[i]? with
   | none=>simp[oK,ho]at hi
   | some oi =>
    simp only[oK,ho,Bool.and_eq_true]at hi;obtain⟨⟨hflo,hrd⟩,hfr⟩:=hi;have hrd':i∈Region.ready .any ops listed:=by simpa using hrd
    obtain⟨fuel,rfl⟩:∃f,fuel=f+1:=⟨fuel-1,by simp[By]at hf;omega⟩;have hfree:∀j oj,ops[j]?=some oj->j≠i->listed.getD j true=false->Fr ops bs i j=false->oi.apart ops oj=true:=by
     intro j oj hj hne hun hno;have:=EK.1 hfr j (DM.2 (BJ.1 hj).1);simpa [hne,hun,hno,hj] using this
    have hp:Ai ops (i::l)=oi::Ai ops l:=by simp[Ai,ho]
    simp only[Bh,hp]at h;unfold wpQuiet at h;have go:∀v,YieldsIf P ops (fun _=>True) oi v a->wpQuiet P ops (fun _=>True) (fun a'=>Bh P ops Q r b a' w) (Ai ops l) (a.put oi.dst v)->wpX P ops Q (inX ops es) (fuel+1) listed a w:=by
     intro v hy hk;refine Ut hok ho (Region.noSelect_spec hsel) hQ fuel listed a w hc hfree hrd' hy ?_;refine ihl b (listed.setIfInBounds i true) (a.put oi.dst v) w fuel hx (by simp[By]at hf ⊢;omega) (hc.add hok hrd') ?_ ?_
     ·simp only[Eu,Bool.and_eq_true];exact⟨hl,hr⟩
     ·simpa only[Bh] using hk
    split at h
    ·rename_i hw;obtain⟨v,hv,hk⟩:=Jf hflo h;exact go v (.inl ⟨hw,fun u _=>hv u⟩) hk
    ·rename_i hw;exact go undef (.inr ⟨by simpa using hw,rfl⟩) h
 | ext i r ih =>
  intro b listed a w fuel hx hf hc hB h;simp only[Eu,Bool.and_eq_true]at hB;obtain⟨hr,hr2⟩:=hB;have hr':Region.ready .any ops listed=[i]:=by simpa using hr
  have hmem:i∈Region.ready .any ops listed:=by rw[hr'];simp
  obtain⟨_,o,ho,_⟩:=mem_ready.1 hmem;obtain⟨fuel,rfl⟩:∃f,fuel=f+1:=⟨fuel-1,by simp[By]at hf;omega⟩;refine⟨fun h0=>(by rw[hr']at h0;cases h0),fun j hj=>?_⟩;rw[hr']at hj;obtain rfl:j=i:=by simpa using hj
  exact wpOp_mono (fun a' w' hh=>⟨fun _=>hh.1,ih b _ a' w' fuel (hx.trans hh.1) (by simp[By]at hf ⊢;omega) (hc.add hok hmem) hr2 hh.2⟩) (Hl ho h)
 | one i r ih =>
  intro b listed a w fuel hx hf hc hB h;simp only[Eu,Bool.and_eq_true]at hB;obtain⟨⟨hr,hk⟩,hr2⟩:=hB;have hr':Region.ready .any ops listed=[i]:=by simpa using hr
  have hmem:i∈Region.ready .any ops listed:=by rw[hr'];simp
  obtain⟨_,o,ho,_⟩:=mem_ready.1 hmem;obtain⟨fuel,rfl⟩:∃f,fuel=f+1:=⟨fuel-1,by simp[By]at hf;omega⟩;refine⟨fun h0=>(by rw[hr']at h0;cases h0),fun j hj=>?_⟩;rw[hr']at hj;obtain rfl:j=i:=by simpa using hj
  have hnx:inX ops es j=false:=by simpa using hk
  exact wpOp_mono (fun a' w' hh=>⟨fun hX=>(by rw[hnx]at hX;cases hX),ih w' _ a' w' fuel (Ext.refl w') (by simp[By]at hf ⊢;omega) (hc.add hok hmem) hr2 hh⟩) (Hl ho h)
 | both i j r q ihr ihq =>
  intro b listed a w fuel hx hf hc hB h;simp only[Eu,Bool.and_eq_true]at hB;obtain⟨⟨hr,hr2⟩,hq2⟩:=hB;have hr':Region.ready .any ops listed=[i,j]:=by simpa using hr
  obtain⟨fuel,rfl⟩:∃f,fuel=f+1:=⟨fuel-1,by simp[By]at hf;omega⟩;have mi:i∈Region.ready .any ops listed:=by rw[hr'];simp
  have mj:j∈Region.ready .any ops listed:=by rw[hr'];simp
  refine⟨fun h0=>(by rw[hr']at h0;cases h0),fun k hk=>?_⟩;rw[hr']at hk;rcases AZ.1 hk with rfl|hk
  ·obtain⟨_,o,ho,_⟩:=mem_ready.1 mi;exact wpOp_mono (fun a' w' hh=>⟨fun _=>hh.1,ihr b _ a' w' fuel (hx.trans hh.1) (by simp[By]at hf ⊢;omega) (hc.add hok mi) hr2 hh.2⟩) (Hl ho h.1)
  ·obtain rfl:k=j:=by simpa using hk
   obtain⟨_,o,ho,_⟩:=mem_ready.1 mj;exact wpOp_mono (fun a' w' hh=>⟨fun _=>hh.1,ihq b _ a' w' fuel (hx.trans hh.1) (by simp[By]at hf ⊢;omega) (hc.add hok mj) hq2 hh.2⟩) (Hl ho h.2)
theorem Vk{id:Nat}{a:Act}{w:World}{l:List Oper}(bs:List Nat)(p:Fq)(hm:P.follows .mixedOrders=true)
  (hB:(Fv l.toArray bs.toArray&&Region.noSelect l.toArray&&Eu l.toArray bs.toArray (Jg p) p (Array.replicate l.toArray.size false)&&decide (By p<=l.toArray.size))=true)
  (hQ:∀c a d v w,Q (.panic c) (a.put d v) w->Q (.panic c) a w)
  (h:Bh P l.toArray Q p w.drew a w.drew):(Code.region id l.toArray true).wp P Q a w:=by
 simp only[Bool.and_eq_true,decide_eq_true_eq]at hB;obtain⟨⟨⟨h1,h2⟩,h3⟩,h4⟩:=hB;refine wp_region_any hm (Tq _ _ _ _ (tX h1 h2 hQ _ p w.drew _ a w.drew _ (Ext.refl _) h4 ?_ h3 h));intro j hj;exfalso;rcases DP j l.toArray.size with h'|h'
 ·simp[Array.getD]at hj
 ·simp[Array.getD]at hj
theorem a0b:Ai ops []=[]:=rfl
def nth:List Oper->Nat->Option Oper
 | [],_=>none
 | o::_,0=>some o
 | _::l,i+1=>nth l i
theorem pF:∀(l:List Oper) (i:Nat),nth l i=l[i]?
 | [],_=>by simp[nth]
 | _::_,0=>rfl
 | _::l,i+1=>by simp[nth,pF l i]
theorem lV{i:Nat}{o:Oper}{ol:List Oper}{l:List Nat}{r:List Oper}(h:nth ol i=some o)(k:Ai ol.toArray l=r):Ai ol.toArray (i::l)=o::r:=by
 subst k;rw[pF]at h;simp[Ai,h]
def xW(ol:List Oper):List Nat->Option (List Oper)
 | []=>some []
 | i::l=>match nth ol i,xW ol l with
  | some o,some r=>some (o::r)
  | _,_=>none
theorem pks{ol:List Oper}:∀{l:List Nat} {r:List Oper},xW ol l=some r->Ai ol.toArray l=r
 | [],_,h=>by
  cases h;rfl
 | i::l,r,h=>by
  unfold xW at h;split at h
  · rename_i o s h1 h2;injection h with h;subst h;exact lV h1 (pks h2)
  · cases h
theorem oq{r:Fq}{a:Act}{b w:World}{X:World->Prop}(h:Bh P ops Q r b a w):wpQuiet P ops X (fun a'=>Bh P ops Q r b a' w) [] a:=wpQuiet_nil h
theorem wro{id:Nat}{a:Act}{w:World}{l:List Oper}(bs:List Nat)(p:Fq)(h:Bh P l.toArray Q p w.drew a w.drew)
 (hm:P.follows .mixedOrders=true:=by kernel_rfl)
 (hB:(Fv l.toArray bs.toArray && Region.noSelect l.toArray && Eu l.toArray bs.toArray (Jg p) p (Array.replicate l.toArray.size false) && decide (By p<=l.toArray.size))=true:=by kernel_rfl)
 (hQ:∀c a d v w,Q (.panic c) (a.put d v) w->Q (.panic c) a w:=by intro _ _ d _ _ h;cases d<;>exact h):(Code.region id l.toArray true).wp P Q a w:=Vk bs p hm hB hQ h
def Aq(P:Program)(ops:Array Oper)(Q:Exit->Act->World->Prop)(r:Fq)(b w:World)(a':Act)(w':World):Prop:=Ext w w'/\Bh P ops Q r b a' w'
theorem Aq.mk{r:Fq}{b w w':World}{a:Act}(x:Ext w w')(h:Bh P ops Q r b a w'):Aq P ops Q r b w a w':=⟨x,h⟩
theorem Aa{l:List Nat}{r:Fq}{a:Act}{b w:World}{ol:List Oper}(hp:Ai ops l=ol)
  (h:wpQuiet P ops (fun w'=>∃y:Xt b,w'=y.W) (fun a'=>Bh P ops Q r b a' w) ol a):Bh P ops Q (.flo l r) b a w:=by
 subst hp;exact h
theorem Bv{l:List Nat}{r:Fq}{a:Act}{b w:World}{ol:List Oper}(hp:Ai ops l=ol)
  (h:wpQuiet P ops (fun _=>True) (fun a'=>Bh P ops Q r b a' w) ol a):Bh P ops Q (.pur l r) b a w:=by
 subst hp;exact h
theorem Bi{i:Nat}{r:Fq}{a:Act}{b w:World}{o:Oper}(hp:Ai ops [i]=[o])
  (h:∀K:Act->World->Prop,(∀a' w',Aq P ops Q r b w a' w'->K a' w')->wpList P ops (Exit.then K Q) [o] a w):Bh P ops Q (.ext i r) b a w:=by
 show wpList P ops _ (Ai ops [i]) a w;rw[hp];exact h _ fun _ _ h=>h
theorem Ac{i:Nat}{r:Fq}{a:Act}{b w:World}{o:Oper}(hp:Ai ops [i]=[o])
  (h:∀K:Act->World->Prop,(∀a' w',Bh P ops Q r w' a' w'->K a' w')->wpList P ops (Exit.then K Q) [o] a w):Bh P ops Q (.one i r) b a w:=by
 show wpList P ops _ (Ai ops [i]) a w;rw[hp];exact h _ fun _ _ h=>h
theorem bR{i j:Nat}{r q:Fq}{a:Act}{b w:World}{o u:Oper}(hp:Ai ops [i]=[o])(hq:Ai ops [j]=[u])
  (h:∀K:Act->World->Prop,(∀a' w',Aq P ops Q r b w a' w'->K a' w')->wpList P ops (Exit.then K Q) [o] a w)
  (k:∀K:Act->World->Prop,(∀a' w',Aq P ops Q q b w a' w'->K a' w')->wpList P ops (Exit.then K Q) [u] a w):Bh P ops Q (.both i j r q) b a w:=by
 refine⟨?_,?_⟩
 ·rw[hp];exact h _ fun _ _ h=>h
 ·rw[hq];exact k _ fun _ _ h=>h
theorem Ad{a:Act}{b w:World}(h:Q .normal a w):Bh P ops Q .fin b a w:=h
end
theorem Ei:Gj Tryz.prog 24 180 1 4 (.int .u32 0):=⟨by kernel_rfl,by kernel_rfl,rfl,by omega⟩
theorem Wz(g:Int->Int->Int)(F:Nat)(hent:∀args w,Sem.run Tryz.prog (callFunc F args) w=.ok (.enter F args) w)(hF:∀x y w,Calls Tryz.prog F #[.int .u64 x,.int .u64 y] w fun e w'=>e=.returned (.int .u64 (g x y))/\w=w')
  (hg:∀x y,0<=x->x<=4294967295->0<=y->y<=4294967295->0<=g x y/\g x y<=4294967295)
  (e1 e2:Int) (A1 A2:Option Addr) (n c1 c2:Nat) (l1 l2:List Int) (w:World) (h1:Sl w 1 A1 n c1 (wds l1)) (h2:Sl w 1 A2 n c2 (wds l2)) (u1:U32 l1) (u2:U32 l2) (hn:n*4<=140737488355328) :
  Calls Tryz.prog 227 #[.agg #[.int .u64 e1,.slice A1 n c1],.agg #[.int .u64 e2,.slice A2 n c2],.func (.func F) #[] #[]] w fun e w' =>
   ∃A c,e=.returned (.tuple #[.agg #[.int .u64 (g e1 e2),.slice A n c],.int .u16 0])/\Own w' w.heap.size 180 1 A n c (wds (List.zipWith g l1 l2))/\Ext w w':=by
 have hm:=h1.le;have he:((n:Int) != (n:Int))=false:=by simp
 have HF:=hid hF;have HG:=hid hg;clear hF hg;go_enter Tryz.func227,Tryz.ntmps227;go_wp2_with (refine(HF.out _ _ _).mono ?_;rintro e w1 ⟨rfl,rfl⟩)
 obtain⟨w0,hw0⟩:∃w0,w0=((w.alloc (Obj.cells #[Value.int IntKind.u64 e1,Value.slice A1 n c1] 26)).alloc (Obj.cells #[Value.int IntKind.u64 e2,Value.slice A2 n c2] 26)).alloc
   (Obj.cells #[Value.int IntKind.u64 0,Value.slice none 0 0] 26):=⟨_,rfl⟩
 have x0:Ext w w0:=hw0▸(((Ext.refl w).alloc _).alloc _).alloc _;have s0:w0.heap.size=w.heap.size+3:=by subst hw0;simp
 have b3:w0.cell? ⟨w.heap.size,1,none⟩=some (Value.slice A1 n c1):=by subst hw0;go_simp
 have b4:w0.cell? ⟨w.heap.size+1,1,none⟩=some (Value.slice A2 n c2):=by subst hw0;go_simp
 have b6:Bk w0 (w.heap.size+1+1) 26 #[Value.int IntKind.u64 0,Value.slice none 0 0]:=by subst hw0;exact Bk.at (by simp)
 rw[<-hw0];clear hw0;have S0:=hid s0
 go_loopw [28] (fun t wr=>∃(k:Nat) (A:Option Addr) (c:Nat),k<=n/\t=.int .i64 k/\Below (w.heap.size+3) w0 wr/\Bk wr (w.heap.size+1+1+1) 26 #[.int .u64 (g e1 e2),.slice A k c]/\Own wr (w.heap.size+4) 180 1 A k c (wds (List.zipWith g (l1.take k) (l2.take k))))
  (fun t _=>n-(intOf t).toNat)
 case atStart =>
  refine⟨0,_,_,AE _,rfl,?_,?_,by simpa [wds] using Own.nil _ _ _ _⟩
  ·exact(ES _ _).alloc (by omega) _
  ·have:=Bk.new w0 26 #[.int .u64 (g e1 e2),Value.slice none 0 0];rw[s0]at this;exact this
 case round =>
  obtain⟨k,A,c,hk,rfl,hbl,hb8,hown⟩:=hrel;by_cases hlt:k<n
  ·obtain⟨a1,ha1,hc1,k1⟩:=h1.word hlt;obtain⟨a2,ha2,hc2,k2⟩:=h2.word hlt;have q3:=Cm hbl b3 (by simp);have q4:=Cm hbl b4 (by simp);have q8:=hb8.cell 1;have f8:=hb8.free 1;have d1:=Cm hbl (x0.cell hc1) (by simp only[De];omega);have d2:=Cm hbl (x0.cell hc2) (by simp only[De];omega);simp at q8;have C1:=hid hc1;have C2:=hid hc2;clear hc1 hc2;have i0:(0:Int)<=(k:Int):=GR _;have i1:(k:Int)<(n:Int):=by omega
   have hsz:=hbl.size;have r1:=u1.at k;have r2:=u2.at k;have R:=HG.out _ _ r1.1 r1.2 r2.1 r2.2;have E1:IntKind.u64.wrap (l1[k]?.getD 0)=l1[k]?.getD 0:=EV _ (by omega);have E2:IntKind.u64.wrap (l2[k]?.getD 0)=l2[k]?.getD 0:=EV _ (by omega);have E3:IntKind.u32.wrap (g (l1[k]?.getD 0) (l2[k]?.getD 0))=g (l1[k]?.getD 0) (l2[k]?.getD 0):=IntWalk.u32_in _ (by omega);go_wp2;refine wro [0,1,0,0,8,0,56,120,248,0,512,0,3584,7680,15872,32764,65532,131068,262143,524287,1048575] (.flo [0,1,2,3,4,5,6,7,8,9,10,11,12,13,14] (.ext 15 (.flo [16] (.ext 17 (.one 18 (.flo [19] (.one 20 (.fin)))))))) ?_;have X:Ext wr wr.drew:=(Ext.refl wr).drew;have q3':∀y:Xt wr.drew,y.W.cell? ⟨w.heap.size,1,none⟩=some (.slice A1 n c1):=fun y=>y.x.cell (X.cell q3);have q4':∀y:Xt wr.drew,y.W.cell? ⟨w.heap.size+1,1,none⟩=some (.slice A2 n c2):=fun y=>y.x.cell (X.cell q4);have q8':∀y:Xt wr.drew,y.W.cell? ⟨w.heap.size+1+1+1,1,none⟩=some (.slice A k c):=fun y=>y.x.cell (X.cell q8);have d1':∀y:Xt wr.drew,y.W.cell? (a1.add k)=some (.int .u32 (l1.getD k 0)):=fun y=>y.x.cell (X.cell d1);have d2':∀y:Xt wr.drew,y.W.cell? (a2.add k)=some (.int .u32 (l2.getD k 0)):=fun y=>y.x.cell (X.cell d2)
   (refine Aa (pks rfl) ?_;(repeat (go_big_quiet_step (fail)));refine oq ?_)
   refine Bi (pks rfl) ?_;intro K_ hK_;go_wp2_with (refine(HF.out _ _ _).mono ?_;rintro e w1 ⟨rfl,rfl⟩)
   refine Aq.mk (Ext.refl _) ?_
   (refine Aa (pks rfl) ?_;(repeat (go_big_quiet_step (fail)));refine oq ?_)
   refine Bi (pks rfl) ?_;intro K_ hK_;go_wp2;refine Aq.mk ((Ext.refl _).alloc _) ?_;refine Ac (pks rfl) ?_;intro K_ hK_;go_wp2_with (at_builtin;refine Ck _ Ei (w.heap.size+4) _ _ (by rfl) (by rfl) A k c _ (by rfl) ((hown.alloc _).drew) (some ⟨wr.heap.size,0,none⟩) 1 1 _ (by rfl) ((Sl.one wr _ _ 1 rfl).drew) (by simp[Value.oneCell']) (by omega) (by omega) (by simp;omega) ?_;intro A' c' w1 ho1 hg1 hk1)
   have b81:=Bk.grown (by exact(hb8.alloc _).drew) hg1 (hown.ne (by simp));have f81:=b81.free 1;have q81:w1.cell? ⟨w.heap.size+1+1+1,1,none⟩=some (.slice A k c):=b81.cell 1
   (refine Aa (pks rfl) ?_;(repeat (go_big_quiet_step (fail)));refine oq ?_)
   refine Ac (pks rfl) ?_;intro K_ hK_;go_wp2;refine Ad ?_;go_wp2;rw[<-ha1,<-ha2]
   go_roundw
   case rel =>
    refine⟨k+1,A',c',by omega,by go_num,?_,?_,?_⟩
    ·exact(((hbl.alloc (by omega) _).drew).grown hg1 (by simp;omega) (fun g hg=>by have:=hown.lt g hg;omega)).setCell (by simp) _
    ·exact b81.set 1 _
    ·refine(show Own _ _ _ _ _ _ _ _ from ?_);have hl1:=h1.wlen;have hl2:=h2.wlen;rw[Df _ _ (by omega),Df _ _ (by omega),GL (by simp;omega),<-In];exact(ho1.far (by rcases hk1 with e|e<;>rw[e];exact hown.ne (by simp);simp;omega) _)
   case measure=>simp[intOf];omega
  ·obtain rfl:k=n:=by omega
   have r0:wr.cell? ⟨w.heap.size+1+1+1,0,none⟩=some (.int .u64 (g e1 e2)):=hb8.cell 0;have r1:wr.cell? ⟨w.heap.size+1+1+1,1,none⟩=some (.slice A k c):=hb8.cell 1;have b6r:=b6.below hbl (by omega);have r2:wr.cell? ⟨w.heap.size+1+1,0,none⟩=some (.int .u64 0):=b6r.cell 0;have r3:wr.cell? ⟨w.heap.size+1+1,1,none⟩=some (.slice none 0 0):=b6r.cell 1;have r4:=b6r.free 0;have r5:=b6r.free 1;have bb:=(b6r.set 0 (.int .u64 (g e1 e2))).set 1 (.slice A k c);have q0:((wr.setCell ⟨w.heap.size+1+1,0,none⟩ (.int .u64 (g e1 e2))).setCell ⟨w.heap.size+1+1,1,none⟩ (.slice A k c)).cell? ⟨w.heap.size+1+1,0,none⟩=some (.int .u64 (g e1 e2)):=bb.cell 0;have q1:((wr.setCell ⟨w.heap.size+1+1,0,none⟩ (.int .u64 (g e1 e2))).setCell ⟨w.heap.size+1+1,1,none⟩ (.slice A k c)).cell? ⟨w.heap.size+1+1,1,none⟩=some (.slice A k c):=bb.cell 1;go_wp2;refine bodyPost_ret (v:=.tuple #[.agg #[.int .u64 (g e1 e2),.slice A k c],.int .u16 0]) (by simp[results,Tryz.results227,go_sem,q0,q1]) rfl ?_;refine⟨A,c,rfl,?_,?_⟩
   ·have hl1:=h1.wlen;have hl2:=h2.wlen;rw[AT (by omega),AT (by omega)]at hown;exact((hown.mono (by omega)).far (hown.ne (by simp)) _).far (hown.ne (by simp)) _
   ·have e1:Ext w wr:=GO x0 (hbl.mono (by omega));exact(e1.set (by simp;omega) _).set (by simp;omega) _
theorem nI(F:Nat)(e1 e2:Int)(A1 A2:Option Addr)(n1 n2 c1 c2:Nat)(w:World)(hne:((n1:Int) != (n2:Int))=true) :
  Calls Tryz.prog 227 #[.agg #[.int .u64 e1,.slice A1 n1 c1],.agg #[.int .u64 e2,.slice A2 n2 c2],.func (.func F) #[] #[]] w fun e w' =>
   e=.returned (.tuple #[.agg #[.int .u64 0,.slice none 0 0],.int .u16 40])/\Ext w w':=by
 go_enter Tryz.func227,Tryz.ntmps227;go_wp2;go_returns;exact⟨rfl,(((Ext.refl w).alloc _).alloc _).alloc _⟩
theorem vN(x y:Int)(w:World):Calls Tryz.prog 228 #[.int .u64 x,.int .u64 y] w fun e w'=>e=.returned (.int .u64 (max x y))/\w=w':=by
 go_enter Tryz.func228,Tryz.ntmps228;go_wp2;all_goals go_ret
 all_goals exact⟨Bu (by omega),rfl⟩
theorem vL(x y:Int)(w:World):Calls Tryz.prog 229 #[.int .u64 x,.int .u64 y] w fun e w'=>e=.returned (.int .u64 (min x y))/\w=w':=by
 go_enter Tryz.func229,Tryz.ntmps229;go_wp2;all_goals go_ret
 all_goals exact⟨Bu (by omega),rfl⟩
theorem nA(e1 e2:Int)(A1 A2:Option Addr)(n1 n2 c1 c2:Nat)(w:World)(hne:((n1:Int) != (n2:Int))=true) :
  Calls Tryz.prog 191 #[.agg #[.int .u64 e1,.slice A1 n1 c1],.agg #[.int .u64 e2,.slice A2 n2 c2]] w fun e w' =>
   e=.returned (.tuple #[.agg #[.int .u64 0,.slice none 0 0],.int .u16 40])/\Ext w w':=by
 go_enter Tryz.func191,Tryz.ntmps191;go_wp2_with (refine(nI _ _ _ _ _ _ _ _ _ _ hne).mono ?_;rintro e w1 ⟨rfl,x1⟩;have b4:Bk w1 (w.heap.size+1+1) 26 #[.int .u64 0,.slice none 0 0]:=Bk.ext (Bk.at (by simp)) x1;have q0:=b4.cell 0;have q1:=b4.cell 1;have f0:=b4.free 0;have f1:=b4.free 1)
 have q:=b4.set2 (.int .u64 0) (.slice none 0 0);refine bodyPost_ret (v:=.tuple #[.agg #[.int .u64 0,.slice none 0 0],.int .u16 40]) (by simp[results,Tryz.results191,go_sem,q.1,q.2]) rfl ⟨rfl,?_⟩;have x2:=((((Ext.refl w).alloc _).alloc _).alloc _).trans x1;exact(x2.set (by simp;omega) _).set (by simp;omega) _
theorem mZ(e1 e2:Int)(A1 A2:Option Addr)(n c1 c2:Nat)(l1 l2:List Int)(w:World)(h1:Sl w 1 A1 n c1 (wds l1))(h2:Sl w 1 A2 n c2 (wds l2))(u1:U32 l1)(u2:U32 l2)(hn:n*4<=140737488355328) :
  Calls Tryz.prog 191 #[.agg #[.int .u64 e1,.slice A1 n c1],.agg #[.int .u64 e2,.slice A2 n c2]] w fun e w' =>
   ∃A c,e=.returned (.tuple #[.agg #[.int .u64 (max e1 e2),.slice A n c],.int .u16 0])/\Own w' w.heap.size 180 1 A n c (wds (List.zipWith max l1 l2))/\Ext w w':=by
 go_enter Tryz.func191,Tryz.ntmps191;go_wp2_with (refine(Wz max 228 (fun _ _=>by kernel_rfl) vN (by intros;omega) e1 e2 A1 A2 n c1 c2 l1 l2 _ (h1.ext ((((Ext.refl w).alloc _).alloc _).alloc _)) (h2.ext ((((Ext.refl w).alloc _).alloc _).alloc _)) u1 u2 hn).mono ?_;rintro e w1 ⟨A,c,rfl,ho,x1⟩;have b4:Bk w1 (w.heap.size+1+1) 26 #[.int .u64 0,.slice none 0 0]:=Bk.ext (Bk.at (by simp)) x1;have q0:=b4.cell 0;have q1:=b4.cell 1;have f0:=b4.free 0;have f1:=b4.free 1)
 have q:=b4.set2 (.int .u64 (max e1 e2)) (.slice A n c);refine bodyPost_ret (v:=.tuple #[.agg #[.int .u64 (max e1 e2),.slice A n c],.int .u16 0]) (by simp[results,Tryz.results191,go_sem,q.1,q.2]) rfl ⟨A,c,rfl,?_,?_⟩
 ·exact((ho.mono (by simp;omega)).far (ho.ne (by simp)) _).far (ho.ne (by simp)) _
 ·have x2:=((((Ext.refl w).alloc _).alloc _).alloc _).trans x1;exact(x2.set (by simp;omega) _).set (by simp;omega) _
theorem mD(e1 e2:Int)(A1 A2:Option Addr)(n c1 c2:Nat)(l1 l2:List Int)(w:World)(h1:Sl w 1 A1 n c1 (wds l1))(h2:Sl w 1 A2 n c2 (wds l2))(u1:U32 l1)(u2:U32 l2)(hn:n*4<=140737488355328) :
  Calls Tryz.prog 192 #[.agg #[.int .u64 e1,.slice A1 n c1],.agg #[.int .u64 e2,.slice A2 n c2]] w fun e w' =>
   ∃A c,e=.returned (.tuple #[.agg #[.int .u64 (min e1 e2),.slice A n c],.int .u16 0])/\Own w' w.heap.size 180 1 A n c (wds (List.zipWith min l1 l2))/\Ext w w':=by
 go_enter Tryz.func192,Tryz.ntmps192;go_wp2_with (refine(Wz min 229 (fun _ _=>by kernel_rfl) vL (by intros;omega) e1 e2 A1 A2 n c1 c2 l1 l2 _ (h1.ext ((((Ext.refl w).alloc _).alloc _).alloc _)) (h2.ext ((((Ext.refl w).alloc _).alloc _).alloc _)) u1 u2 hn).mono ?_;rintro e w1 ⟨A,c,rfl,ho,x1⟩;have b4:Bk w1 (w.heap.size+1+1) 26 #[.int .u64 0,.slice none 0 0]:=Bk.ext (Bk.at (by simp)) x1;have q0:=b4.cell 0;have q1:=b4.cell 1;have f0:=b4.free 0;have f1:=b4.free 1)
 have q:=b4.set2 (.int .u64 (min e1 e2)) (.slice A n c);refine bodyPost_ret (v:=.tuple #[.agg #[.int .u64 (min e1 e2),.slice A n c],.int .u16 0]) (by simp[results,Tryz.results192,go_sem,q.1,q.2]) rfl ⟨A,c,rfl,?_,?_⟩
 ·exact((ho.mono (by simp;omega)).far (ho.ne (by simp)) _).far (ho.ne (by simp)) _
 ·have x2:=((((Ext.refl w).alloc _).alloc _).alloc _).trans x1;exact(x2.set (by simp;omega) _).set (by simp;omega) _
theorem Qz(A:Option Addr)(n c:Nat)(xs:List Value)(w:World)(h:Sl w 1 A n c xs)(h1:∀u∈xs,u.oneCell'=true)(hn:n*4<=140737488355328) :
  Calls Tryz.prog 184 #[.slice A n c] w fun e w'=>∃A' c',e=.returned (.slice A' n c')/\Own w' w.heap.size 180 1 A' n c' xs/\Ext w w':=by
 have hnil:=fun (W:World)=>FI (P:=Tryz.prog) W 24 180 A n c 0 0 Tryz.underlying24;rcases A with _|a
 ·obtain rfl:c=0:=h.2.2.2.1 rfl;have hn0:n=0:=by have:=h.2.1;omega
  subst hn0;have hx:xs=[]:=AG (by simpa using h.1);subst hx;go_enter Tryz.func184,Tryz.ntmps184;go_wp2;go_ret;exact⟨none,0,rfl,Own.nil _ _ _ _,Ext.refl _⟩
 ·go_enter Tryz.func184,Tryz.ntmps184;go_wp2_with (at_builtin;refine Ck _ Ei w.heap.size _ _ (by rfl) (by rfl) _ 0 0 [] (by rfl) (Own.empty _ _ _ _ _) (some a) n c xs (by rfl) (h.ext ((Ext.refl w).alloc _)) h1 (by omega) (by omega) (by simp) ?_;intro A' c' w1 ho1 hg1 hk1)
  go_ret;refine⟨A',c',by simp,by simpa using ho1,?_⟩;exact((Ext.refl w).alloc _).grown hg1 (by simp[blk])
theorem Ux(A1 A2:Option Addr)(n1 n2 c1 c2:Nat)(w:World)(hne:((n1:Int) != (n2:Int))=true) :
  Calls Tryz.prog 166 #[.slice A1 n1 c1,.slice A2 n2 c2] w fun e w'=>e=.returned (.bool false)/\Ext w w':=by
 go_enter Tryz.func166,Tryz.ntmps166;go_wp2;go_ret;exact⟨rfl,Ext.refl _⟩
theorem cE{l1 l2:List Int}(hl:l1.length=l2.length):(∀k,k<l1.length->l1.getD k 0=l2.getD k 0)↔l1=l2:=by
 constructor
 ·intro h;refine List.ext_getElem hl fun k h1 h2=>?_;have:=h k h1;simpa [AB,AC h1,AC h2] using this
 ·rintro rfl k _;rfl
theorem Uw(A1 A2:Option Addr)(n c1 c2:Nat)(l1 l2:List Int)(w:World)(h1:Sl w 1 A1 n c1 (wds l1))(h2:Sl w 1 A2 n c2 (wds l2)) :
  Calls Tryz.prog 166 #[.slice A1 n c1,.slice A2 n c2] w fun e w'=>e=.returned (.bool (decide (l1=l2)))/\Ext w w':=by
 have hm:=h1.le;have hl1:=hid h1.wlen;have hl2:=hid h2.wlen;have he:((n:Int) != (n:Int))=false:=by simp
 go_enter Tryz.func166,Tryz.ntmps166;go_wp2
 go_loopw [5] (fun v wr=>∃k:Nat,k<=n/\v=.int .i64 k/\(∀j,j<k->l1.getD j 0=l2.getD j 0)/\∃m,wr=w.drewN m) (fun v _=>n-(intOf v).toNat)
 case atStart=>exact⟨0,AE _,rfl,fun j hj=>absurd hj (by omega),0,rfl⟩
 case round =>
  obtain⟨k,hk,rfl,hall,m,rfl⟩:=hrel;have H:=hid hall;clear hall;by_cases hlt:k<n
  ·obtain⟨a1,ha1,hc1,_⟩:=h1.word hlt;obtain⟨a2,ha2,hc2,_⟩:=h2.word hlt;have T:Hid (k<l1.length):=by show k<l1.length;rw[hl1.out];exact hlt
   by_cases hq:(l1[k]?.getD 0 != l2[k]?.getD 0)=true
   ·go_wp2;go_quiet (fail);go_wp2;go_ret;refine⟨Cb (Eq.symm (decide_eq_false fun e=>?_)),((Ext.refl w).drewN _).drewN _⟩;rw[e]at hq;simp at hq
   ·have hq':(l1[k]?.getD 0 != l2[k]?.getD 0)=false:=by simpa using hq
    have Q:=hid hq;clear hq;go_wp2;go_quiet (fail);go_wp2
    go_roundw
    case rel =>
     refine⟨k+1,by omega,by go_num,fun j hj=>?_,_,rfl⟩;by_cases hjk:j<k
     ·exact H.out j hjk
     ·obtain rfl:j=k:=by omega
      simpa [AB] using hq'
    case measure=>simp[intOf];omega
  ·go_wp2;go_ret;refine⟨Cb (Eq.symm (decide_eq_true ?_)),(Ext.refl w).drewN _⟩;exact(cE (by rw[hl1.out,hl2.out])).1 fun j hj=>H.out j (by rw[hl1.out]at hj;omega)
theorem Mx(A1 A2:Option Addr)(n1 n2 c1 c2:Nat)(l1 l2:List Int)(w:World)(h1:Sl w 1 A1 n1 c1 (wds l1))(h2:Sl w 1 A2 n2 c2 (wds l2)) :
  Calls Tryz.prog 166 #[.slice A1 n1 c1,.slice A2 n2 c2] w fun e w'=>e=.returned (.bool (decide (l1=l2)))/\Ext w w':=by
 by_cases hn:n1=n2
 ·subst hn;exact Uw A1 A2 n1 c1 c2 l1 l2 w h1 h2
 ·have hf:decide (l1=l2)=false:=decide_eq_false fun e=>hn (by rw[<-h1.wlen,<-h2.wlen,e]);rw[hf];exact Ux A1 A2 n1 n2 c1 c2 w (by simp;omega)
def Iq(e1:Int)(l1:List Int)(e2:Int)(l2:List Int):Bool:=decide (l1.length=l2.length/\e1<=e2/\∀k,k<l1.length->l1.getD k 0<=l2.getD k 0)
theorem sG(e1 e2:Int)(A1 A2:Option Addr)(n1 n2 c1 c2:Nat)(w:World)(hne:((n1:Int) != (n2:Int))=true) :
  Calls Tryz.prog 108 #[.agg #[.int .u64 e1,.slice A1 n1 c1],.agg #[.int .u64 e2,.slice A2 n2 c2]] w fun e w'=>e=.returned (.bool false)/\Ext w w':=by
 go_enter Tryz.func108,Tryz.ntmps108;go_wp2;go_ret;exact⟨rfl,((Ext.refl w).alloc _).alloc _⟩
theorem sF(e1 e2:Int)(A1 A2:Option Addr)(n c1 c2:Nat)(w:World)(hlt:e2<e1) :
  Calls Tryz.prog 108 #[.agg #[.int .u64 e1,.slice A1 n c1],.agg #[.int .u64 e2,.slice A2 n c2]] w fun e w'=>e=.returned (.bool false)/\Ext w w':=by
 have he:((n:Int) != (n:Int))=false:=by simp
 go_enter Tryz.func108,Tryz.ntmps108;go_wp2;go_ret;exact⟨rfl,((Ext.refl w).alloc _).alloc _⟩
theorem sE(e1 e2:Int)(A1 A2:Option Addr)(n c1 c2:Nat)(l1 l2:List Int)(w:World)(h1:Sl w 1 A1 n c1 (wds l1))(h2:Sl w 1 A2 n c2 (wds l2))(hle:e1<=e2) :
  Calls Tryz.prog 108 #[.agg #[.int .u64 e1,.slice A1 n c1],.agg #[.int .u64 e2,.slice A2 n c2]] w fun e w'=>e=.returned (.bool (decide (∀k,k<n->l1.getD k 0<=l2.getD k 0)))/\Ext w w':=by
 have hm:=h1.le;have he:((n:Int) != (n:Int))=false:=by simp
 go_enter Tryz.func108,Tryz.ntmps108;go_wp2;obtain⟨w0,hw0⟩:∃w0,w0=(w.alloc (Obj.cells #[Value.int IntKind.u64 e1,Value.slice A1 n c1] 26)).alloc (Obj.cells #[Value.int IntKind.u64 e2,Value.slice A2 n c2] 26):=⟨_,rfl⟩;have e0:Ext w w0:=hw0▸((Ext.refl w).alloc _).alloc _;have b1:w0.cell? ⟨w.heap.size,1,none⟩=some (Value.slice A1 n c1):=by subst hw0;go_simp
 have b2:w0.cell? ⟨w.heap.size+1,1,none⟩=some (Value.slice A2 n c2):=by subst hw0;go_simp
 rw[<-hw0];clear hw0
 go_loopw [23] (fun v wr=>∃k:Nat,k<=n/\v=.int .i64 k/\(∀j,j<k->l1.getD j 0<=l2.getD j 0)/\∃m,wr=w0.drewN m) (fun v _=>n-(intOf v).toNat)
 case atStart=>exact⟨0,AE _,rfl,fun j hj=>absurd hj (by omega),0,rfl⟩
 case round =>
  obtain⟨k,hk,rfl,hall,m,rfl⟩:=hrel;have H:=hid hall;clear hall;by_cases hlt:k<n
  ·obtain⟨a1,ha1,hc1,_⟩:=(h1.ext e0).word hlt;obtain⟨a2,ha2,hc2,_⟩:=(h2.ext e0).word hlt;go_wp2;go_quiet (fail);go_wp2
   ·have hv:l2[k]?.getD 0<l1[k]?.getD 0:=by assumption
    go_ret;refine⟨Cb (Eq.symm (decide_eq_false fun hh=>?_)),(e0.drewN _).drewN _⟩;have:=hh k hlt;simp only[AB]at this;omega
   ·have hv:l1[k]?.getD 0<=l2[k]?.getD 0:=by assumption
    go_roundw
    case rel =>
     refine⟨k+1,by omega,by go_num,fun j hj=>?_,_,rfl⟩;by_cases hjk:j<k
     ·exact H.out j hjk
     ·obtain rfl:j=k:=by omega
      simpa only[AB] using hv
    case measure=>simp[intOf];omega
  ·go_wp2;go_ret;refine⟨Cb (Eq.symm (decide_eq_true fun j hj=>H.out j (by omega))),e0.drewN _⟩
theorem jT(e1 e2:Int)(A1 A2:Option Addr)(n1 n2 c1 c2:Nat)(l1 l2:List Int)(w:World)(h1:Sl w 1 A1 n1 c1 (wds l1))(h2:Sl w 1 A2 n2 c2 (wds l2)) :
  Calls Tryz.prog 108 #[.agg #[.int .u64 e1,.slice A1 n1 c1],.agg #[.int .u64 e2,.slice A2 n2 c2]] w fun e w'=>e=.returned (.bool (Iq e1 l1 e2 l2))/\Ext w w':=by
 have hl1:=h1.wlen;have hl2:=h2.wlen;by_cases hn:n1=n2
 ·subst hn;by_cases hlt:e2<e1
  ·have hf:Iq e1 l1 e2 l2=false:=decide_eq_false fun hh=>by have:=hh.2.1;omega
   rw[hf];exact sF e1 e2 A1 A2 n1 c1 c2 w hlt
  ·refine(sE e1 e2 A1 A2 n1 c1 c2 l1 l2 w h1 h2 (by omega)).mono fun e w' ⟨he,hx⟩=>⟨he.trans (Cb ?_),hx⟩;unfold Iq;rw[decide_eq_decide,hl1,hl2];exact⟨fun h=>⟨rfl,by omega,h⟩,fun h=>h.2.2⟩
 ·have hf:Iq e1 l1 e2 l2=false:=decide_eq_false fun hh=>by have:=hh.1;omega
  rw[hf];exact sG e1 e2 A1 A2 n1 n2 c1 c2 w (by simp;omega)
def Bz(x y:Int):Int:=if x<y then -1 else if y<x then 1 else 0
theorem Rt{x y:Int}(h:x<y):Bz x y = -1:=by unfold Bz;rw[if_pos h]
theorem Rv{x y:Int}(h:y<x):Bz x y=1:=by unfold Bz;rw[if_neg (by omega),if_pos h]
theorem Ej(x:Int):Bz x x=0:=by unfold Bz;rw[if_neg (by omega),if_neg (by omega)]
theorem Yo(x:Int)(w:World):Calls Tryz.prog 235 #[.int .i64 x] w fun e w'=>e=.returned (.bool false)/\w=w':=by
 have h:(x != x)=false:=by simp
 go_enter Tryz.func235,Tryz.ntmps235;go_wp2;go_ret;exact⟨rfl,rfl⟩
theorem Ym(x:Int)(w:World):Calls Tryz.prog 236 #[.int .u64 x] w fun e w'=>e=.returned (.bool false)/\w=w':=by
 have h:(x != x)=false:=by simp
 go_enter Tryz.func236,Tryz.ntmps236;go_wp2;go_ret;exact⟨rfl,rfl⟩
theorem Yn(x:Int)(w:World):Calls Tryz.prog 272 #[.int .u32 x] w fun e w'=>e=.returned (.bool false)/\w=w':=by
 have h:(x != x)=false:=by simp
 go_enter Tryz.func272,Tryz.ntmps272;go_wp2;go_ret;exact⟨rfl,rfl⟩
theorem Qx(x y:Int)(w:World):Calls Tryz.prog 205 #[.int .i64 x,.int .i64 y] w fun e w'=>e=.returned (.int .i64 (Bz x y))/\w=w':=by
 rcases DK x y with h|h|h
 ·rw[Rt h];go_enter Tryz.func205,Tryz.ntmps205;go_wp2_with (refine(Yo _ _).mono ?_;rintro e w1 ⟨rfl,rfl⟩)
  go_ret;exact⟨rfl,rfl⟩
 ·subst h;rw[Ej];go_enter Tryz.func205,Tryz.ntmps205;go_wp2_with (refine(Yo _ _).mono ?_;rintro e w1 ⟨rfl,rfl⟩)
  go_ret;exact⟨rfl,rfl⟩
 ·rw[Rv h];go_enter Tryz.func205,Tryz.ntmps205;go_wp2_with (refine(Yo _ _).mono ?_;rintro e w1 ⟨rfl,rfl⟩)
  go_ret;exact⟨rfl,rfl⟩
theorem Qv(x y:Int)(w:World):Calls Tryz.prog 206 #[.int .u64 x,.int .u64 y] w fun e w'=>e=.returned (.int .i64 (Bz x y))/\w=w':=by
 rcases DK x y with h|h|h
 ·rw[Rt h];go_enter Tryz.func206,Tryz.ntmps206;go_wp2_with (refine(Ym _ _).mono ?_;rintro e w1 ⟨rfl,rfl⟩)
  go_ret;exact⟨rfl,rfl⟩
 ·subst h;rw[Ej];go_enter Tryz.func206,Tryz.ntmps206;go_wp2_with (refine(Ym _ _).mono ?_;rintro e w1 ⟨rfl,rfl⟩)
  go_ret;exact⟨rfl,rfl⟩
 ·rw[Rv h];go_enter Tryz.func206,Tryz.ntmps206;go_wp2_with (refine(Ym _ _).mono ?_;rintro e w1 ⟨rfl,rfl⟩)
  go_ret;exact⟨rfl,rfl⟩
theorem Qw(x y:Int)(w:World):Calls Tryz.prog 237 #[.int .u32 x,.int .u32 y] w fun e w'=>e=.returned (.int .i64 (Bz x y))/\w=w':=by
 rcases DK x y with h|h|h
 ·rw[Rt h];go_enter Tryz.func237,Tryz.ntmps237;go_wp2_with (refine(Yn _ _).mono ?_;rintro e w1 ⟨rfl,rfl⟩)
  go_ret;exact⟨rfl,rfl⟩
 ·subst h;rw[Ej];go_enter Tryz.func237,Tryz.ntmps237;go_wp2_with (refine(Yn _ _).mono ?_;rintro e w1 ⟨rfl,rfl⟩)
  go_ret;exact⟨rfl,rfl⟩
 ·rw[Rv h];go_enter Tryz.func237,Tryz.ntmps237;go_wp2_with (refine(Yn _ _).mono ?_;rintro e w1 ⟨rfl,rfl⟩)
  go_ret;exact⟨rfl,rfl⟩
def Dy:List Int->List Int->Int
 | [],[]=>0
 | [],_::_ => -1
 | _::_,[]=>1
 | x::l,y::m=>if Bz x y=0 then Dy l m else Bz x y
theorem Gw{x y:Int}:Bz x y=0↔x=y:=by
 unfold Bz;by_cases h1:x<y
 ·rw[if_pos h1];omega
 ·rw[if_neg h1];by_cases h2:y<x
  ·rw[if_pos h2];omega
  ·rw[if_neg h2];omega
theorem Wv:∀(k:Nat) (l m:List Int),k<l.length->k<m.length->Dy (l.drop k) (m.drop k)=if Bz (l.getD k 0) (m.getD k 0)=0 then Dy (l.drop (k+1)) (m.drop (k+1)) else Bz (l.getD k 0) (m.getD k 0):=by
 intro k l m h1 h2;rw[BY h1,BY h2];simp[Dy,AB,AC h1,AC h2]
theorem jS(A1 A2:Option Addr)(n1 n2 c1 c2:Nat)(l1 l2:List Int)(w:World)(h1:Sl w 1 A1 n1 c1 (wds l1))(h2:Sl w 1 A2 n2 c2 (wds l2)) :
  Calls Tryz.prog 207 #[.slice A1 n1 c1,.slice A2 n2 c2] w fun e w'=>e=.returned (.int .i64 (Dy l1 l2))/\w=w':=by
 have hm1:=h1.le;have hm2:=h2.le;have hl1:=hid h1.wlen;have hl2:=hid h2.wlen;obtain⟨r,hr⟩:∃r,r=Dy l1 l2:=⟨_,rfl⟩;rw[<-hr];have HR:=hid hr;clear hr;go_enter Tryz.func207,Tryz.ntmps207;go_wp2
 go_loop [11] (fun v=>∃k:Nat,k<=n1/\k<=n2/\v=.int .i64 k/\r=Dy (l1.drop k) (l2.drop k)) (fun v=>n1-(intOf v).toNat)
 case atStart=>exact⟨0,AE _,AE _,rfl,by simpa using HR.out⟩
 case round =>
  obtain⟨k,hk1,hk2,rfl,hrk⟩:=hrel;have RK:=hid hrk;clear hrk;by_cases q1:k<n1
  ·obtain⟨a1,rfl,hc1,_⟩:=h1.word q1;by_cases q2:k<n2
   ·obtain⟨a2,rfl,hc2,_⟩:=h2.word q2;have T:=Wv k l1 l2 (by rw[hl1.out];exact q1) (by rw[hl2.out];exact q2);by_cases q3:Bz (l1.getD k 0) (l2.getD k 0)=0
    ·rw[if_pos q3]at T;have HT:=hid T;have q4:(Bz (l1[k]?.getD 0) (l2[k]?.getD 0) != 0)=false:=by rw[<-AB,<-AB,q3];rfl
     clear T q3;go_wp2_with (refine(Qw _ _ _).mono ?_;rintro e w1 ⟨rfl,rfl⟩)
     go_round
     case rel=>exact⟨k+1,by omega,by omega,by go_num,by rw[RK.out,HT.out]⟩
     case measure=>simp[intOf];omega
    ·rw[if_neg q3]at T;have HT:=hid T;have q4:(Bz (l1[k]?.getD 0) (l2[k]?.getD 0) != 0)=true:=by simpa [AB] using q3
     clear T q3;go_wp2_with (refine(Qw _ _ _).mono ?_;rintro e w1 ⟨rfl,rfl⟩)
     go_ret;exact⟨Bu (by rw[RK.out,HT.out];simp[AB]),rfl⟩
   ·have e2:k=n2:=by omega
    have T:Dy (l1.drop k) (l2.drop k)=1:=by
     rw[BY (show k<l1.length by rw[hl1.out];exact q1),CM (show l2.length<=k by rw[hl2.out];omega)];rfl
    have HT:=hid T;have E2:=hid e2;clear T e2;go_wp2;go_ret;exact⟨Bu (by rw[RK.out,HT.out]),rfl⟩
  ·have e1:k=n1:=by omega
   have E1:=hid e1;clear e1;by_cases q2:n1<n2
   ·have T:Dy (l1.drop k) (l2.drop k) = -1:=by
     rw[CM (show l1.length<=k by rw[hl1.out];omega),BY (show k<l2.length by rw[hl2.out,E1.out];exact q2)];rfl
    have HT:=hid T;clear T;go_wp2;go_ret;exact⟨Bu (by rw[RK.out,HT.out]),rfl⟩
   ·have T:Dy (l1.drop k) (l2.drop k)=0:=by
     rw[CM (show l1.length<=k by rw[hl1.out];omega),CM (show l2.length<=k by rw[hl2.out];omega)];rfl
    have HT:=hid T;clear T;go_wp2;go_ret;exact⟨Bu (by rw[RK.out,HT.out]),rfl⟩
def orT(x y z:Int):Int:=if x=0 then (if y=0 then z else y) else x
theorem yL(g:Nat)(t:TypeId)(x y z:Int)(w:World)(hb:Bk w g t #[.int .i64 x,.int .i64 y,.int .i64 z]) :
  Calls Tryz.prog 182 #[.slice (some ⟨g,0,none⟩) 3 3] w fun e w'=>e=.returned (.int .i64 (orT x y z))/\Ext w w':=by
 have hx:w.cell? ⟨g,0,none⟩=some (.int .i64 x):=hb.cell 0;have hy:w.cell? ⟨g,1,none⟩=some (.int .i64 y):=hb.cell 1;have hz:w.cell? ⟨g,2,none⟩=some (.int .i64 z):=hb.cell 2;obtain⟨r,hr⟩:∃r,r=orT x y z:=⟨_,rfl⟩;rw[<-hr];have HR:=hid hr;clear hr;go_enter Tryz.func182,Tryz.ntmps182;go_wp2
 go_loop [8] (fun v=>∃k:Nat,k<=3/\v=.int .i64 k/\(0<k->x=0)/\(1<k->y=0)/\(2<k->z=0)) (fun v=>3-(intOf v).toNat)
 case atStart=>exact⟨0,by omega,rfl,by omega,by omega,by omega⟩
 case round =>
  obtain⟨k,hk,rfl,k0,k1,k2⟩:=hrel;have K0:=hid k0;have K1:=hid k1;have K2:=hid k2;clear k0 k1 k2
  match k,hk with
  | 0,_ =>
   by_cases q:x=0
   ·have q':(x != 0)=false:=by simpa using q
    have Q:=hid q;clear q;go_wp2
    go_round
    case rel=>exact⟨1,by omega,rfl,fun _=>Q.out,by omega,by omega⟩
    case measure=>simp[intOf]
   ·have q':(x != 0)=true:=by simpa using q
    go_wp2;go_ret;exact⟨Bu (by rw[HR.out];simp[orT,q]),Ext.refl _⟩
  | 1,_ =>
   by_cases q:y=0
   ·have q':(y != 0)=false:=by simpa using q
    have Q:=hid q;clear q;go_wp2
    go_round
    case rel=>exact⟨2,by omega,rfl,fun _=>K0.out (by omega),fun _=>Q.out,by omega⟩
    case measure=>simp[intOf]
   ·have q':(y != 0)=true:=by simpa using q
    go_wp2;go_ret;exact⟨Bu (by rw[HR.out];simp[orT,q,K0.out (by omega)]),Ext.refl _⟩
  | 2,_ =>
   by_cases q:z=0
   ·have q':(z != 0)=false:=by simpa using q
    have Q:=hid q;clear q;go_wp2
    go_round
    case rel=>exact⟨3,by omega,rfl,fun _=>K0.out (by omega),fun _=>K1.out (by omega),fun _=>Q.out⟩
    case measure=>simp[intOf]
   ·have q':(z != 0)=true:=by simpa using q
    go_wp2;go_ret;exact⟨Bu (by rw[HR.out];simp[orT,K1.out (by omega),K0.out (by omega)]),Ext.refl _⟩
  | 3,_ =>
   go_wp2;go_ret;exact⟨Bu (by rw[HR.out];simp[orT,K1.out (by omega),K0.out (by omega),K2.out (by omega)]),Ext.refl _⟩
  | k+4,hk=>omega
def Gl(e1:Int)(l1:List Int)(e2:Int)(l2:List Int):Int:=orT (Bz l1.length l2.length) (Bz e1 e2) (Dy l1 l2)
theorem wK(e1 e2:Int)(A1 A2:Option Addr)(n1 n2 c1 c2:Nat)(l1 l2:List Int)(w:World)(h1:Sl w 1 A1 n1 c1 (wds l1))(h2:Sl w 1 A2 n2 c2 (wds l2)) :
  Calls Tryz.prog 146 #[.agg #[.int .u64 e1,.slice A1 n1 c1],.agg #[.int .u64 e2,.slice A2 n2 c2]] w fun e w'=>e=.returned (.int .i64 (Gl e1 l1 e2 l2))/\Ext w w':=by
 have hR:Gl e1 l1 e2 l2=orT (Bz n1 n2) (Bz e1 e2) (Dy l1 l2):=by unfold Gl;rw[h1.wlen,h2.wlen]
 rw[hR];clear hR;go_enter Tryz.func146,Tryz.ntmps146
 go_upto_region 1 with fail
 obtain⟨w0,hw0⟩:∃w0,w0=(w.alloc (Obj.cells #[Value.int IntKind.u64 e1,Value.slice A1 n1 c1] 26)).alloc (Obj.cells #[Value.int IntKind.u64 e2,Value.slice A2 n2 c2] 26):=⟨_,rfl⟩;have x0:Ext w w0:=hw0▸((Ext.refl w).alloc _).alloc _;have a0:Bk w0 w.heap.size 26 #[Value.int IntKind.u64 e1,Value.slice A1 n1 c1]:=by subst hw0;exact(Bk.new _ _ _).alloc _
 have b0:Bk w0 (w.heap.size+1) 26 #[Value.int IntKind.u64 e2,Value.slice A2 n2 c2]:=by subst hw0;exact Bk.at (by simp)
 rw[<-hw0];clear hw0;have X:Ext w0 w0.drew:=(Ext.refl w0).drew;have q1:∀y:Xt w0.drew,y.W.cell? ⟨w.heap.size,0,none⟩=some (.int .u64 e1):=fun y=>(a0.ext (X.trans y.x)).cell 0;have q2:∀y:Xt w0.drew,y.W.cell? ⟨w.heap.size,1,none⟩=some (.slice A1 n1 c1):=fun y=>(a0.ext (X.trans y.x)).cell 1;have q3:∀y:Xt w0.drew,y.W.cell? ⟨w.heap.size+1,0,none⟩=some (.int .u64 e2):=fun y=>(b0.ext (X.trans y.x)).cell 0;have q4:∀y:Xt w0.drew,y.W.cell? ⟨w.heap.size+1,1,none⟩=some (.slice A2 n2 c2):=fun y=>(b0.ext (X.trans y.x)).cell 1;refine wro [0,1,3,0,8,24,63,0,128,0,512,2047,0,4096,0,16384,65535,131071,262143,524287] (.flo [0,1,2,3,4,5,7,8,9,10,12,13,14,15] (.ext 6 (.ext 11 (.one 16 (.one 17 (.one 18 (.flo [19] (.fin)))))))) ?_
 (refine Aa (pks rfl) ?_;(repeat (go_big_quiet_step (fail)));refine oq ?_)
 refine Bi (pks rfl) ?_;intro K_ hK_;go_wp2_with (refine(Qx _ _ _).mono ?_;rintro e w1 ⟨rfl,rfl⟩)
 refine Aq.mk (Ext.refl _) ?_;refine Bi (pks rfl) ?_;intro K_ hK_;go_wp2_with (refine(Qv _ _ _).mono ?_;rintro e w1 ⟨rfl,rfl⟩)
 refine Aq.mk (Ext.refl _) ?_;refine Ac (pks rfl) ?_;intro K_ hK_;go_wp2_with (refine(jS _ _ _ _ _ _ _ _ _ (h1.ext (x0.trans X)) (h2.ext (x0.trans X))).mono ?_;rintro e w1 ⟨rfl,rfl⟩)
 refine Ac (pks rfl) ?_;intro K_ hK_;go_wp2;refine Ac (pks rfl) ?_;intro K_ hK_;go_wp2_with (refine(yL _ _ _ _ _ _ (by exact(Bk.at (by simp)).drew)).mono ?_;rintro e w1 ⟨rfl,x1⟩)
 (refine Aa (pks rfl) ?_;(repeat (go_big_quiet_step (fail)));refine oq ?_)
 refine Ad ?_;go_wp2;go_ret;exact⟨rfl,((x0.trans X).alloc _).trans x1⟩
end Go.Proofs.YtdgbkpoickbidaaGreatDoor
