/- Parts of the proof. Conditions: as stated. -/
import Derived.WalkKit
import Derived.Deep.QuietTactic
import Derived.BigQuiet
import Derived.Lib.Hide
import Derived.Deep.AppendLies
import Derived.Deep.Draws
import Derived.Deep.RegionHeld3
import Derived.Deep.DrawnRows
import Derived.Deep.RegionLaw
import Derived.StillTailTactics
import Derived.WalkLawsBesides
import Derived.WalkSpells
import Derived.Outline
import Derived.Handy
import Derived.Deep.DeepCutAuto
import Derived.Test.YtdgbkpoickbidaaGreatDoorCards
import Derived.Test.YtdgbkpoickbidaaGreatDoorTie
import Derived.ProofKit
import Derived.OpenShut
import Derived.Lay
import Derived.Lib.SmallJoins
import Derived.Deep.DeepHandedRow
import Derived.MakeChecks
import Derived.OrdersHeld
import Derived.Test.YtdgbkpoickbidaaGreatDoorChecked
set_option maxRecDepth 100000
set_option maxHeartbeats 4000000
open Go.RowKit Go.Proofs.Tryz
namespace Go.Proofs.YtdgbkpoickbidaaGreatDoor
variable{e1 e2 e3 x y:Int}{l l1 l2 l3:List Int}{xs:List Value}{B c g i j n:Nat}{A:Option Addr}{e t tb:TypeId}{W W' w w':World}
abbrev C3:=Calls prog
set_option linter.defProp false
def tz{α:Sort _}(a:α):∃x,a=x:=⟨_,rfl⟩
def E9{α:Sort _}(a:α):∃x,x=a:=⟨_,rfl⟩
def TI:True:=trivial
def AA:=@List.length_append
def AB:=@List.getD_eq_getElem?_getD
def AC:=@List.getElem?_eq_getElem
def AD:=@Nat.le_refl
def AE:=@List.mem_singleton
def AG:=@Nat.zero_le
def AH:=@List.eq_nil_of_length_eq_zero
def AI:=@List.map_append
def AJ:=@List.length_cons
def AK:=@List.append_assoc
def AN:=@List.length_map
def AO:=@List.length_singleton
def AP:=@List.mem_map
def AQ:=@List.mem_append
def AR:=@Nat.le_trans
def AV:=@List.append_nil
def AW:=@List.take_of_length_le
def AY:=@List.mem_cons
def AZ:=@Nat.lt_of_lt_of_le
def BC:=@List.mem_cons_self
def BD:=@List.nil_append
def BE:=@List.mem_append_left
def BF:=@List.getElem?_append_right
def BI:=@List.mem_filter
def BJ:=@IntKind.wrap_i64
def BL:=@List.pairwise_append
def BM:=@List.mem_cons_of_mem
def BN:=@List.pairwise_singleton
def BP:=@Array.getElem?_eq_some_iff
def BQ:=@List.flatMap_cons
def BR:=@List.getElem_mem
def BS:=@List.getElem?_append_left
def BV:=@Nat.zero_add
def BY:=@List.drop_eq_getElem_cons
def BZ:=@List.pairwise_cons
def CA:=@List.map_singleton
def CB:=@List.length_nil
def CC:=@List.take_succ_eq_append_getElem
def CD:=@List.mem_append_right
def CE:=@List.length_take
def CF:=@List.take_append_drop
def CG:=@List.getElem?_map
def CI:=@List.cons_append
def CJ:=@List.map_cons
def CK:=@List.mem_of_mem_take
def CL:=@List.set_append_right
def CM:=@World.grownBy.refl
def CN:=@List.flatten_append
def CO:=@List.map_map
def CP:=@List.filter_cons_of_neg
def CQ:=@Option.isSome_iff_exists
def CR:=@List.filter_cons_of_pos
def CS:=@Nat.eq_zero_or_pos
def CT:=@List.filter_append
def CU:=@IntWalk.i64_in
def CV:=@List.drop_eq_nil_of_le
def CW:=@Nat.lt_irrefl
def CY:=@List.mem_of_mem_drop
def CZ:=@List.length_drop
def DA:=@List.not_mem_nil
def DB:=@List.length_filter_le
def DC:=@List.mem_flatMap
def DD:=@List.filter_filter
def DE:=@Nat.add_sub_cancel_left
def DF:=@List.flatMap_append
def DG:=@Nat.mul_le_mul_right
def DH:=@List.pairwise_iff_getElem
def DI:=@UInt8.toNat_ofNat'
def DJ:=@Int.le_trans
def DK:=@List.getElem_of_mem
def DL:=@List.getElem?_eq_none
def DM:=@Nat.add_mul
def DN:=@Int.lt_trichotomy
def DO:=@Nat.lt_or_ge
def DP:=@Int.le_of_lt
def DQ:=@Nat.sub_self
def DR:=@Nat.not_lt_zero
def DS:=@List.drop_of_length_le
def DT:=@List.flatten_singleton
def DU:=@List.foldl_append
def DV:=@List.pairwise_map
def DW:=@List.mem_range
def DX:=@Int.le_refl
def DY:=@List.take_left
def DZ:=@List.map_congr_left
def EA:=@World.size_setCell
def EB:=@Nat.add_sub_cancel
def EC:=@List.getLast?_singleton
def ED:=@List.length_set
def EE:=@List.filter_map
def EF:=@Array.length_toList
def EG:=@List.length_pos_iff
def EH:=@Nat.add_zero
def EI:=@List.any_eq_true
def EJ:=@List.getElem?_take
def EK:=@List.getLast?_append
def EL:=@List.size_toArray
def EM:=@List.filter_eq_self
def EN:=@Below.heap_alloc
def EO:=@List.all_eq_true
def EP:=@List.take_length
def EQ:=@IntKind.wrap_u64
def ER:=@Array.getElem?_eq_none
def ES:=@Nat.lt_of_succ_lt_succ
def ET:=@Nat.le_of_eq
def EU:=@IntKind.wrap_u8
def EV:=@UInt8.lt_iff_toNat_lt
def EW:=@List.map_take
def EX:=@Option.some.injEq
def EY:=@List.nodup_append
def EZ:=@Array.getElem?_eq_getElem
def FA:=@Nat.mul_one
def FB:=@IntWalk.u64_in
def FC:=@Array.setIfInBounds_comm
def FD:=@World.block_lt_of_cell?
def FE:=@Nat.succ_pred_eq_of_pos
def FF:=@List.getElem?_cons_succ
def FG:=@List.map_drop
def FH:=@Below.refl
def FI:=@Option.map_some
def FJ:=@Go.Deep.open_slice
def FK:=@Array.size_append
def FL:=@List.any_eq_false
def FM:=@List.take_add_one
def FN:=@Array.getElem?_modify
def FO:=@List.map_nil
def FP:=@Lib.run_eql_slice_nil
def FQ:=@List.eq_nil_or_concat
def FR:=@List.concat_eq_append
def FS:=@Array.getElem?_toList
def FT:=@List.map_toArray
def FU:=@List.filter_cons
def FV:=@Array.toList_append
def FW:=@List.filter_sublist
def FX:=@List.length_zipWith
def FY:=@Lib.toList_data
def FZ:=@List.nodup_cons
def GA:=@List.sum_append
def GB:=@Below.heap_setCell
def GC:=@Nat.zero_mul
def GD:=@List.set_eq_of_length_le
def GE:=@List.nodup_nil
def GF:=@List.filter_append_perm
def GH:=@Nat.lt_trichotomy
def GI:=@World.cells?_some
def GJ:=@List.flatten_cons
def GK:=@List.filter_eq_nil_iff
def GL:=@List.length_pos_of_mem
def GM:=@List.mem_flatten
def GN:=@Go.ChangeMaps.heap_setBlock_same
def GO:=@Nat.le_add_right
def GP:=@Go.Sort.alloc_eq_grow
def GQ:=@UInt8.toNat_inj
def GR:=@Int.add_zero
def GS:=@Int.natCast_sub
def GT:=@List.getElem?_range
def GU:=@List.getElem?_drop
def GV:=@Int.lt_or_eq_of_le
def GX:=@Go.Deep.choose_lt
def GY:=@List.ext_getElem?
def GZ:=@List.Sublist.refl
def IA:=@List.take_append
def IB:=@List.drop_append
def IC:=@Int.add_comm
def ID:=@IntKind.wrap_u32
def H0(p:Prop):Prop:=p
def H0.o{p:Prop}(h:H0 p):p:=h
def j6{p:Prop}(h:p):H0 p:=h
def Ext(w w':World):Prop:=Below w.heap.size w w'
def Ext.refl(w:World):Ext w w:=FH _ _
def Ext.size(h:Ext w w'):w.heap.size<=w'.heap.size:=Below.size h
def Ext.trans{a b c:World}(h:Ext a b)(k:Ext b c):Ext a c:=Below.trans h (Below.mono k h.size)
def Ext.drewN{a:World}(h:Ext a w)(n:Nat):Ext a (w.drewN n):=h.trans ⟨rfl,rfl,rfl,AD _,λ_ _=>rfl⟩
def Ext.drew{a:World}(h:Ext a w):Ext a w.drew:=h.trans ⟨rfl,rfl,rfl,AD _,λ_ _=>rfl⟩
def Ext.alloc{a:World}(h:Ext a w)(o:Obj):Ext a (w.alloc o):=Below.alloc h h.size o
def Ext.set{a:World}(h:Ext a w){p:Addr}(hp:a.heap.size<=p.block)(u:Value):Ext a (w.setCell p u):=Below.setCell h hp u
def Ext.grown{a:World}{row:Option Nat}(h:Ext a w)(hg:w.grownBy w' row)(hr:∀k,row=some k->a.heap.size<=k):Ext a w':=Below.grown h hg h.size hr
def Ext.cell(h:Ext w w'){p:Addr}{u:Value}(hc:w.cell? p=some u):w'.cell? p=some u :=
 (Below.cell h (FD w p hc)).trans hc
def Ext.heap(h:Ext w w'){k:Nat}{o:Obj}(hc:w.heap[k]?=some o):w'.heap[k]?=some o :=
 (Below.block h k (BP.1 hc).1).trans hc
def Ji(a:Addr)(i j:Nat):(a.add i).add j=a.add (i+j):=by
 unfold Addr.add;by_cases hi:i=0<;>by_cases hj:j=0<;>simp[hi,hj,Nat.add_assoc]
def Ep(a:Addr)(n:Nat):(a.add n).block=a.block:=by unfold Addr.add;split<;>rfl
def Sl(w:World)(size:Nat)(A:Option Addr)(n c:Nat)(xs:List Value):Prop :=
 xs.length=n*size/\n<=c/\c<=maxLen/\(A=none->c=0)/\(0<n->∃ad,A=some ad/\∀j u,xs[j]?=some u->w.cell? (ad.add j)=some u)
def Sl.ext{size:Nat}(h:Sl w size A n c xs)(e:Ext w w'):Sl w' size A n c xs :=
 ⟨h.1,h.2.1,h.2.2.1,h.2.2.2.1,λhn=>by have⟨ad,h1,h2⟩:=h.2.2.2.2 hn;exact⟨ad,h1,λj u hu=>e.cell (h2 j u hu)⟩⟩
def Sl.drew{size:Nat}(h:Sl w size A n c xs):Sl w.drew size A n c xs:=h
def Sl.nil(w:World)(size:Nat):Sl w size none 0 0 []:=⟨by simp,AD _,AG _,λ_=>rfl,λh=>absurd h (by omega)⟩
def Sl.le{size:Nat}(h:Sl w size A n c xs):n<=9223372036854775807:=by
 have:=h.2.1;have:=h.2.2.1;unfold maxLen at *;omega
def Sl.cap{size:Nat}(h:Sl w size A n c xs):n<=c/\c<=9223372036854775807:=by
 have:=h.2.1;have:=h.2.2.1;unfold maxLen at *;omega
def Sl.take{size k:Nat}(h:Sl w size A n c xs)(hk:k<=n):Sl w size A k c (xs.take (k*size)):=by
 obtain⟨h1,h2,h3,h4,h5⟩:=h;refine⟨?_,by omega,h3,h4,λhn=>?_⟩
 ·rw[CE,h1];exact Nat.min_eq_left (DG _ hk)
 ·have⟨ad,e,hc⟩:=h5 (by omega);refine⟨ad,e,λj u hu=>hc j u ?_⟩;rw[EJ]at hu;split at hu
  ·exact hu
  ·cases hu
def Sl.drop{size k:Nat}(h:Sl w size A n c xs)(hk:k<=n) :
  Sl w size (if c=k then A else A.map (·.add (k*size))) (n-k) (c-k) (xs.drop (k*size)):=by
 obtain⟨h1,h2,h3,h4,h5⟩:=h;refine⟨by rw[CZ,h1,Nat.sub_mul],by omega,by omega,λhA=>?_,λhn=>?_⟩
 ·split at hA
  ·omega
  ·cases A with
   | none=>have:=h4 rfl;omega
   | some a=>simp at hA
 ·have⟨ad,e,hc⟩:=h5 (by omega);subst e;rw[if_neg (by omega)];refine⟨_,rfl,λj u hu=>?_⟩;rw[Ji];exact hc _ u (by rw[<-hu,GU])
def Own(w:World)(base:Nat)(e:TypeId)(size:Nat)(A:Option Addr)(n c:Nat)(xs:List Value):Prop :=
 xs.length=n*size /\
 ((c=0/\n=0) \/
  ∃g cur,A=some ⟨g,0,none⟩/\base<=g/\w.heap[g]?=some (.cells cur e (0,0))/\n<=c/\c<=maxLen/\c*size<=cur.size/\cur.toList.take (n*size)=xs)
def blk:Option Addr->Nat->Option Nat
 | some a,_+1=>some a.block
 | _,_=>none
def Pp(A:Option Addr):blk A 0=none:=by cases A<;>rfl
def Own.nil(w:World)(base:Nat)(e:TypeId)(size:Nat):Own w base e size none 0 0 []:=⟨by simp,.inl ⟨rfl,rfl⟩⟩
def Own.empty(w:World)(base:Nat)(e:TypeId)(size:Nat)(A:Option Addr):Own w base e size A 0 0 []:=⟨by simp,.inl ⟨rfl,rfl⟩⟩
section
variable{w w':World}{base base':Nat}{e:TypeId}{size:Nat}{A:Option Addr}{n c:Nat}{xs:List Value}
def Own.le(h:Own w base e size A n c xs):n<=c/\c<=9223372036854775807:=by
 rcases h.2 with ⟨h1,h2⟩|⟨g,cur,_,_,_,h1,h2,_⟩
 ·omega
 ·unfold maxLen at h2;omega
def Own.mono(h:Own w base e size A n c xs)(hb:base'<=base):Own w base' e size A n c xs:=by
 refine⟨h.1,?_⟩;rcases h.2 with h2|⟨g,cur,hv,hg,r⟩
 ·exact .inl h2
 ·exact .inr ⟨g,cur,hv,by omega,r⟩
def Own.lt(h:Own w base e size A n c xs):∀k,blk A c=some k->base<=k/\k<w.heap.size:=by
 intro k hk;rcases h.2 with ⟨rfl,_⟩|⟨g,cur,rfl,hb,hg,_⟩
 ·simp[Pp]at hk
 ·cases c with
  | zero=>simp[blk]at hk
  | succ c =>
   simp[blk]at hk;subst hk;exact⟨hb,(BP.1 hg).1⟩
def Own.ne(h:Own w base e size A n c xs){k:Nat}(hk:k<base):blk A c≠some k:=λe=>by have:=(h.lt k e).1;omega
def Own.kept{row:Option Nat}(h:Own w base e size A n c xs)(hg:w.grownBy w' row)(hne:blk A c=none\/blk A c≠row):Own w' base e size A n c xs:=by
 refine⟨h.1,?_⟩;rcases h.2 with hn|⟨g,cur,rfl,hb,hgg,rest⟩
 ·exact .inl hn
 ·cases c with
  | zero =>
   obtain⟨h1,_⟩:=rest;exact .inl ⟨rfl,by omega⟩
  | succ c =>
   refine .inr ⟨g,cur,rfl,hb,?_,rest⟩;rw[hg.block g (BP.1 hgg).1 (by simpa [blk] using hne)];exact hgg
def Own.ext(h:Own w base e size A n c xs)(x:Ext w w'):Own w' base e size A n c xs:=by
 refine⟨h.1,?_⟩;rcases h.2 with hn|⟨g,cur,rfl,hb,hgg,rest⟩
 ·exact .inl hn
 ·exact .inr ⟨g,cur,rfl,hb,x.heap hgg,rest⟩
def Own.drew(h:Own w base e size A n c xs):Own w.drew base e size A n c xs:=h
def Own.alloc(h:Own w base e size A n c xs)(o:Obj):Own (w.alloc o) base e size A n c xs:=h.ext ((Ext.refl w).alloc o)
def Own.far(h:Own w base e size A n c xs){p:Addr}(hp:blk A c≠some p.block)(u:Value):Own (w.setCell p u) base e size A n c xs:=by
 refine⟨h.1,?_⟩;rcases h.2 with hn|⟨g,cur,rfl,hb,hgg,rest⟩
 ·exact .inl hn
 ·cases c with
  | zero =>
   obtain⟨h1,_⟩:=rest;exact .inl ⟨rfl,by omega⟩
  | succ c =>
   refine .inr ⟨g,cur,rfl,hb,?_,rest⟩;rw[GB _ _ _ _ (by intro e;exact hp (by simp[blk,e]))];exact hgg
def Own.sl(h:Own w base e size A n c xs):Sl w size A n c xs:=by
 obtain⟨h1,h2⟩:=h;rcases h2 with ⟨rfl,rfl⟩|⟨g,cur,rfl,hb,hg,hnc,hcm,hcs,htake⟩
 ·have:xs=[]:=AH (by simpa using h1);subst this;exact⟨by simp,AD _,AG _,λ_=>rfl,λh=>absurd h (by omega)⟩
 ·refine⟨h1,hnc,hcm,(λh=>nomatch h),λ_=>⟨_,rfl,λj u hu=>?_⟩⟩;have a:(⟨g,0,none⟩:Addr).add j=⟨g,j,none⟩:=by unfold Addr.add;split<;>simp_all
  rw[a,cell_of_row w g j cur e (0,0) hg];rw[<-htake,EJ]at hu;split at hu
  ·simpa using hu
  ·cases hu
end
def Ve{k:Nat}{cur:Array Value}(hg:w.heap[g]?=some (.cells cur e (0,0)))(ht:cur.toList.take k=xs)(j:Nat)(u:Value)(hu:xs[j]?=some u):w.cell? ((⟨g,0,none⟩:Addr).add j)=some u:=by
 have a:(⟨g,0,none⟩:Addr).add j=⟨g,j,none⟩:=by unfold Addr.add;split<;>simp_all
 rw[a,cell_of_row w g j cur e (0,0) hg];rw[<-ht,EJ]at hu;split at hu
 ·simpa using hu
 ·cases hu
def Own.form{base:Nat}{size:Nat}(h:Own w base e size A n c xs)(hn:0<n) :
  ∃g,A=some ⟨g,0,none⟩/\blk A c=some g/\base<=g/\g<w.heap.size/\(∀j u,xs[j]?=some u->w.cell? ⟨g,j,none⟩=some u)/\∀j,w.frozen? ⟨g,j,none⟩=false:=by
 obtain⟨h1,h2⟩:=h;rcases h2 with ⟨rfl,rfl⟩|⟨g,cur,rfl,hb,hg,hnc,hcm,hcs,htake⟩
 ·omega
 ·obtain⟨c,rfl⟩:∃k,c=k+1:=⟨c-1,by omega⟩;refine⟨g,rfl,rfl,hb,(BP.1 hg).1,λj u hu=>?_,λj=>by simp[World.frozen?,hg]⟩;rw[cell_of_row w g j cur e (0,0) hg];rw[<-htake,EJ]at hu;split at hu
  ·simpa using hu
  ·cases hu
def Own.put{base:Nat}{size:Nat}(h:Own w base e size (some ⟨g,0,none⟩) n c xs)(k:Nat)(u:Value):Own (w.setCell ⟨g,k,none⟩ u) base e size (some ⟨g,0,none⟩) n c (xs.set k u):=by
 obtain⟨h1,h2⟩:=h;refine⟨by simpa using h1,?_⟩;rcases h2 with h2|⟨g',cur,e',hb,hg,hnc,hcm,hcs,htake⟩
 ·exact .inl h2
 ·cases e';refine .inr ⟨g,cur.setIfInBounds k u,rfl,hb,?_,hnc,hcm,by simpa using hcs,?_⟩
  ·simp[World.setCell,FN,hg]
  ·rw[Array.toList_setIfInBounds,<-htake,List.take_set]
def Bk(w:World)(g:Nat)(t:TypeId)(cs:Array Value):Prop:=w.heap[g]?=some (.cells cs t (0,0))
def Bk.lt{cs:Array Value}(h:Bk w g t cs):g<w.heap.size:=(BP.1 h).1
def Bk.cell{cs:Array Value}(h:Bk w g t cs)(i:Nat):w.cell? ⟨g,i,none⟩=cs[i]?:=cell_of_row w g i cs t (0,0) h
def Bk.free{cs:Array Value}(h:Bk w g t cs)(i:Nat):w.frozen? ⟨g,i,none⟩=false:=by
 unfold Bk at h;simp[World.frozen?,h]
def Bk.new(w:World)(t:TypeId)(cs:Array Value):Bk (w.alloc (.cells cs t)) w.heap.size t cs:=heap_alloc_new w _
def Bk.at{cs:Array Value}(hg:g=w.heap.size):Bk (w.alloc (.cells cs t)) g t cs:=hg▸heap_alloc_new w _
def Bk.drew{cs:Array Value}(h:Bk w g t cs):Bk w.drew g t cs:=h
def Bk.alloc{cs:Array Value}(h:Bk w g t cs)(o:Obj):Bk (w.alloc o) g t cs:=(EN w o g h.lt).trans h
def Bk.set{cs:Array Value}(h:Bk w g t cs)(i:Nat)(u:Value):Bk (w.setCell ⟨g,i,none⟩ u) g t (cs.setIfInBounds i u):=by
 unfold Bk at h ⊢;simp[World.setCell,FN,h]
def Bk.far{cs:Array Value}(h:Bk w g t cs){p:Addr}(hp:g≠p.block)(u:Value):Bk (w.setCell p u) g t cs:=(GB w p u g hp).trans h
def Bk.ext{cs:Array Value}(h:Bk w g t cs)(x:Ext w w'):Bk w' g t cs:=x.heap h
def Bk.below{cs:Array Value}(h:Bk w g t cs)(hb:Below B w w')(hg:g<B):Bk w' g t cs:=(hb.block g hg).trans h
def Bk.grown{cs:Array Value}{row:Option Nat}(h:Bk w g t cs)(hb:w.grownBy w' row)(hg:row≠some g):Bk w' g t cs:=(hb.block g h.lt (Ne.symm hg)).trans h
def Ei(hb:Below B w w'){p:Addr}{u:Value}(hc:w.cell? p=some u)(hp:p.block<B):w'.cell? p=some u:=(hb.cell hp).trans hc
def Bk.set2{a b:Value}(h:Bk w g t #[a,b])(u v:Value) :
  ((w.setCell ⟨g,0,none⟩ u).setCell ⟨g,1,none⟩ v).cell? ⟨g,0,none⟩=some u/\((w.setCell ⟨g,0,none⟩ u).setCell ⟨g,1,none⟩ v).cell? ⟨g,1,none⟩=some v:=by
 have bb:=(h.set 0 u).set 1 v;exact⟨bb.cell 0,bb.cell 1⟩
structure Gr (P:Program) (t e size bytes:Nat) (z:Value):Prop where
 under:P.underlying t=some (.slice e)
 info:(P.info? e).map (λi=>(i.zero,i.size,i.bytes))=some (some z,size,bytes)
 zsize:z.cells.size=size
 pos:0<size
def Fj{P:Program}(w:World){t ty e size bytes:Nat}{z:Value}(E:Gr P t e size bytes z)(A:Option Addr)(n c:Nat)(hn:n<=c)(B:Option Addr)(c':Nat) :
  (Builtin.append_ #[t,t] ty #[.slice A n c,.slice B 0 c']).run P w=.ok (.slice A n c) w:=by
 have⟨i,hi,hz,hs,hb⟩:=info_parts E.info;cases A<;>cases B<;>simp[Builtin.append_,run_underlying E.under,sizeOf,typeInfo,hi,Builtin.lenOf,Builtin.firstCells,hn,storeCells,loadCells,loadCellsFrom]
def Vv{P:Program}(w:World){t ty e size bytes:Nat}{z:Value}(E:Gr P t e size bytes z)(base:Nat)
  (A0:Option Addr) (n c0:Nat) (xs:List Value) (hown:Own w base e size A0 n c0 xs)
  (A:Option Addr) (m c:Nat) (news:List Value) (hr:Sl w size A m c news) (h1:∀u∈news,u.oneCell'=true)
  (hbytes:(n+m)*bytes<=140737488355328) (hb1:0<bytes) (hbase:base<=w.heap.size) :
  ∃A' c' w',(Builtin.append_ #[t,t] ty #[.slice A0 n c0,.slice A m c]).run P w=.ok (.slice A' (n+m) c') w'/\Own w' base e size A' (n+m) c' (xs++news)/\w.grownBy w' (blk A0 c0) /\
   (blk A' c'=blk A0 c0\/blk A' c'=some w.heap.size):=by
 have⟨i,hi,hz,hs,x⟩:=info_parts E.info;have h:n+m<=maxLen:=by
  have:n+m<=(n+m)*bytes:=Nat.le_mul_of_pos_right _ hb1;unfold maxLen;omega
 rcases CS m with hm|hm
 ·subst hm;have y:news=[]:=AH (by simpa using hr.1);subst y;exact⟨_,_,w,Fj w E A0 n c0 hown.le.1 A c,by simpa using hown,CM w _,.inl rfl⟩
 ·obtain⟨ad,rfl,a⟩:=hr.2.2.2.2 hm;rcases hown.2 with ⟨rfl,rfl⟩|⟨g,cur,rfl,hb,hg,hnc,l,hcs,htake⟩
  ·have hx:xs=[]:=AH (by simpa using hown.1);subst hx;have r:=grownCap_ge w (0+m) 0 e;have l:grownCap w (0+m) 0 e<=maxLen:=grownCap_le_maxLen w (0+m) 0 e h;obtain⟨kk,hk⟩:∃k,grownCap w (0+m) 0 e=k+1:=⟨_,(FE (by omega)).symm⟩;have q:Own (w.drew.alloc (.cells ((#[]:Array Value)++news.toArray++Builtin.zeroCells z.cells (grownCap w (0+m) 0 e-(0+m))) e)) base e size (some ⟨w.heap.size,0,none⟩) (0+m) (grownCap w (0+m) 0 e) ([]++news):=by
    refine⟨by simpa using hr.1,.inr ⟨w.heap.size,_,rfl,hbase,heap_alloc_new w.drew _,r,l,?_,?_⟩⟩
    ·refine ET (Eq.symm ?_);simp only[FK,EL,size_zeroCells,E.zsize,hr.1,CB,BV,<-DM]
     congr 1
     simp only[BV]at r;omega
    ·have d:([]++news).length=(0+m)*size:=by simpa using hr.1
     simp only[FV,AK];rw[<-AK,<-d];exact DY
   cases A0 with
   | none =>
    have f:=run_append_nil (P:=P) w t ty e i z E.under hi hz ad m c news (by rw[hs];exact hr.1) a hm (by unfold maxLen at h;omega) (by rw[x];simp only[BV]at hbytes;omega);simp only[BV,BD,Array.empty_append]at q hk ⊢;refine⟨_,_,_,f,q,⟨rfl,rfl,rfl,by simp,λk hk _=>EN w.drew _ k hk⟩,.inr ?_⟩;rw[hk];rfl
   | some b =>
    have f:=run_append_grow (P:=P) w t ty e i z E.under hi hz b 0 0 [] (by simp) (by simp) ad m c news (by rw[hs];exact hr.1) a (by omega) (by unfold maxLen at h;omega) (by rw[x];exact growslice_fits (by omega) hbytes);refine⟨_,_,_,f,q,⟨rfl,rfl,rfl,by simp,λk hk _=>EN w.drew _ k hk⟩,.inr ?_⟩;rw[hk];rfl
  ·have d:(xs++news).length=(n+m)*size:=by rw[AA,hown.1,hr.1,DM]
   by_cases hroom:n+m<=c0
   ·have C:n*i.size+news.length<=cur.size:=by rw[hr.1,hs,<-DM];exact AR (DG _ hroom) hcs
    have f:=run_append_room (P:=P) w t ty e i E.under hi g n c0 cur hg ad m c news (by rw[hs];exact hr.1) a h1 hroom C;refine⟨_,_,_,f,⟨d,.inr ⟨g,_,rfl,hb,setRow_heap w g cur _ e _ hg,hroom,l,?_,?_⟩⟩,⟨rfl,rfl,rfl,by simp,λk _ hk=>setRow_other w g k _ (λe'=>hk (by
     obtain⟨c1,rfl⟩:∃c1,c0=c1+1:=⟨c0-1,by omega⟩;simp[blk,e']))⟩,.inl rfl⟩
    ·simp only[EL,AA,CE,CZ,EF];omega
    ·rw[hs,htake,<-d];exact DY
   ·have B:∀j u,xs[j]?=some u->w.cell? ((⟨g,0,none⟩:Addr).add j)=some u:=Ve hg htake;have f:=run_append_grow (P:=P) w t ty e i z E.under hi hz ⟨g,0,none⟩ n c0 xs (by rw[hs];exact hown.1) B ad m c news (by rw[hs];exact hr.1) a (by omega) (by unfold maxLen at h;omega) (by rw[x];exact growslice_fits (by omega) hbytes);have r:=grownCap_ge w (n+m) c0 e;have l:grownCap w (n+m) c0 e<=maxLen:=grownCap_le_maxLen w (n+m) c0 e h;refine⟨_,_,_,f,⟨d,.inr ⟨w.heap.size,_,rfl,hbase,heap_alloc_new w.drew _,r,l,?_,?_⟩⟩,⟨rfl,rfl,rfl,by simp,λk hk _=>EN w.drew _ k hk⟩,.inr ?_⟩
    ·refine ET (Eq.symm ?_);simp only[FK,EL,size_zeroCells,E.zsize,hr.1,hown.1,<-DM]
     congr 1
     omega
    ·simp only[FV,AK];rw[<-AK,<-d];exact DY
    ·obtain⟨kk,hk⟩:∃k,grownCap w (n+m) c0 e=k+1:=⟨_,(FE (by omega)).symm⟩;rw[hk];rfl
def Wg{P:Program}(w:World){o:Oper}{a:Act}{K:Act->World->Prop}{Q:Exit->Act->World->Prop}{t e size bytes:Nat}{z:Value}(E:Gr P t e size bytes z)(base:Nat)(s x:Operand)
  (ho:o.op=.call { callee:=.builtin .append,args:=#[s,x],argTypes:=#[t,t] })
  (A0:Option Addr) (n c0:Nat) (xs:List Value) (hs:a.eval s=.slice A0 n c0) (hown:Own w base e size A0 n c0 xs)
  (A:Option Addr) (m c:Nat) (news:List Value) (hx:a.eval x=.slice A m c) (hr:Sl w size A m c news) (h1:∀u∈news,u.oneCell'=true)
  (hbytes:(n+m)*bytes<=140737488355328) (hb1:0<bytes) (hbase:base<=w.heap.size)
  (h:∀A' c' w',Own w' base e size A' (n+m) c' (xs++news)->w.grownBy w' (blk A0 c0)->(blk A' c'=blk A0 c0\/blk A' c'=some w.heap.size)->K (a.put o.dst (.slice A' (n+m) c')) w'):o.wp P a w K Q:=by
 have⟨A',c',w',d,h2,h3,h4⟩:=Vv (P:=P) (ty:=o.type) w E base A0 n c0 xs hown A m c news hr h1 hbytes hb1 hbase;unfold Oper.wp execOp;simp only[ho,resolve,invoke,builtin,Sem.run_bind,Sem.run_pure,Result.andThen_ok,FT,CJ,FO,hs,hx,d];exact h A' c' w' h2 h3 h4
def Da{P:Program}(w:World){ops:Array Oper}{rest:List Oper}{o:Oper}{a:Act}{Q:Exit->Act->World->Prop}{t e size bytes:Nat}{z:Value}(E:Gr P t e size bytes z)(base:Nat)(s x:Operand)
  (ho:o.op=.call { callee:=.builtin .append,args:=#[s,x],argTypes:=#[t,t] }) (hgd:o.guard=none)
  (A0:Option Addr) (n c0:Nat) (xs:List Value) (hs:a.eval s=.slice A0 n c0) (hown:Own w base e size A0 n c0 xs)
  (A:Option Addr) (m c:Nat) (news:List Value) (hx:a.eval x=.slice A m c) (hr:Sl w size A m c news) (h1:∀u∈news,u.oneCell'=true)
  (hbytes:(n+m)*bytes<=140737488355328) (hb1:0<bytes) (hbase:base<=w.heap.size)
  (h:∀A' c' w',Own w' base e size A' (n+m) c' (xs++news)->w.grownBy w' (blk A0 c0)->(blk A' c'=blk A0 c0\/blk A' c'=some w.heap.size)->wpList P ops Q rest (a.put o.dst (.slice A' (n+m) c')) w'):wpList P ops Q (o::rest) a w :=
 wpList_plain hgd λ_ hK=>Wg w E base s x ho A0 n c0 xs hs hown A m c news hx hr h1 hbytes hb1 hbase λA' c' w' h2 h3 h4=>hK _ _ (h A' c' w' h2 h3 h4)
def Sl.one(w:World)(cs:Array Value)(t:TypeId)(size:Nat)(hs:cs.size=size):Sl (w.alloc (.cells cs t)) size (some ⟨w.heap.size,0,none⟩) 1 1 cs.toList:=by
 refine⟨by simp[hs],AD _,by unfold maxLen;omega,(λh=>nomatch h),λ_=>⟨_,rfl,λj u hu=>?_⟩⟩;have a:(⟨w.heap.size,0,none⟩:Addr).add j=⟨w.heap.size,j,none⟩:=by unfold Addr.add;split<;>simp_all
 rw[a,cell_of_row _ w.heap.size j cs t (0,0) (heap_alloc_new w _)];simpa using hu
def Cm{a b:Bool}(h:a=b):Ending.returned (.bool a)=Ending.returned (.bool b):=by rw[h]
def Bw{k:IntKind}{a b:Int}(h:a=b):Ending.returned (.int k a)=Ending.returned (.int k b):=by rw[h]
def U32(l:List Int):Prop:=∀x∈l,0<=x/\x<=4294967295
def wds(l:List Int):List Value:=l.map (Value.int .u32)
def Se(l:List Int):∀u∈wds l,u.oneCell'=true:=by
 intro u hu;obtain⟨x,_,rfl⟩:=AP.1 hu;rfl
def Ku(a b:List Int):wds a++wds b=wds (a++b):=by simp[wds]
def tP(l:List Int)(k:Nat):(wds l).take k=wds (l.take k):=by simp[wds]
def lH(l:List Int):(wds l).length=l.length:=by simp[wds]
def Sl.wlen(h:Sl w 1 A n c (wds l)):l.length=n:=by simpa [wds] using h.1
def Sl.word(h:Sl w 1 A n c (wds l)){k:Nat}(hk:k<n) :
  ∃ad,A=some ad/\w.cell? (ad.add k)=some (.int .u32 (l.getD k 0))/\ad.block<w.heap.size:=by
 have⟨ad,h1,h2⟩:=h.2.2.2.2 (by omega);have hl:=h.wlen;have hc:=h2 k (.int .u32 (l.getD k 0)) ?_
 ·exact⟨ad,h1,hc,by simpa [Ep] using FD w _ hc⟩
 simp[wds,CG,AB,AC (show k<l.length by omega)]
def U32.getD(h:U32 l)(k:Nat):0<=l.getD k 0/\l.getD k 0<=4294967295:=by
 rw[AB];by_cases hk:k<l.length
 ·rw[AC hk];exact h _ (BR hk)
 ·rw[DL (by omega)];simp
def U32.at(h:U32 l)(k:Nat):0<=l[k]?.getD 0/\l[k]?.getD 0<=4294967295:=by
 have:=h.getD k
 rwa [AB]at this
def Gh(l:List Int)(k:Nat)(h:k<l.length):l.take (k+1)=l.take k++[l.getD k 0]:=by
 rw[CC h,AB,AC h];rfl
open Go.ChangeShapes Go.WideShapes Go.ChangeAt Go.RowKit Go.WideElems
def own_knob:ownKnob prog.godebug=none:=by kernel_rfl
def laid_out:laidOutB prog=true:=by kernel_rfl
section
variable{H:Type}{enc:TypeId×Value->H}
def Yu{P:Program}(hl:laidOutB P=true)(x:Ext W W'){sp:Nat->Bool} :
  ∀{ts:List TypeId} {vs:List Value} {ds:List (DataW H)} {ps:List MemPlace},(ts.all λt=>P.readableRec t&&decide (t<P.types.size))=true->DataW.TrodAll enc P W 0 (λ_=>true) true ts vs ds ps ->
   (∀p∈ps,p.block<W.heap.size)->(∀p∈ps,sp p.block=true)->DataW.TrodAll enc P W' 0 sp true ts vs ds ps
 | [],_,_,_,_,h,_,_=>by
  obtain⟨rfl,rfl,rfl⟩:=trodAll_nil h;exact trodAll_mk0
 | t::ts,vs,ds,ps,hr,h,hlt,hs=>by
  obtain⟨v,vs',d,ds',p,q,rfl,rfl,rfl,h1,h2⟩:=trodAll_cons h;simp only[List.all_cons,Bool.and_eq_true,decide_eq_true_eq]at hr;exact trodAll_cons_mk (Trod_stays hl hr.1.1 hr.1.2 h1 (λy hy=>Below.same x (hlt y (BE _ hy))) (λy hy=>hs y (BE _ hy)))
   (Yu hl x hr.2 h2 (λy hy=>hlt y (CD _ hy)) (λy hy=>hs y (CD _ hy)))
def law_post{P:Program}{fn:Func}{s:ChangeSpec}{W':World}{args:Array Value}{ds gs:List (DataW H)}{before:List MemPlace}(hl:laidOutB P=true)
  (hr:(fn.params.toList.all λt=>P.readableRec t&&decide (t<P.types.size))=true) (hrt:fn.resultTypes=#[tb]) (htb:P.underlying tb=some .bool) (hv:s.vars=[])
  (hW:DataW.Whole enc P fn.params.toList s.vars false W args.toList ds gs before) (hs:s.fn H (ds++gs)={ results:=[.lit (.bool true)],args:=ds,vars:=[] }) (x:Ext W W') :
  s.post enc P fn false true false false W args (.bool true) W':=by
 have a:∀p∈before,p.block<W.heap.size:=λp hp=>hW.lt p hp;have⟨p,q,hA,hV,hb,hz,hn⟩:=id hW;rw[hv]at hV;obtain⟨rfl,rfl⟩:=trodVars_none hV;rw[AV]at hb;subst hb;have d:∀sp:Nat->Bool,(∀p∈before,sp p.block=true)->DataW.TrodAll enc P W' 0 sp true fn.params.toList args.toList ds before:=λsp hsp=>Yu hl x hr hA a hsp;have c:∀(b:Nat) (sp:Nat->Bool) (hd:Bool),DataW.TrodAll enc P W' b sp hd fn.resultTypes.toList ((Value.bool true).resultList fn.resultTypes.size) [.lit (.bool true)] []:=λb sp hd=>by
  rw[hrt];exact trodAll_mk1 (shut_bool htb _)
 refine⟨ds,[],before,[],before,[],hW,?_,?_,?_,World.keptBut_mono (λp hp=>⟨hp,Or.inr (Or.inl hp)⟩) (Below.frame x (· ∈ before)),λh=>by cases h⟩
 ·rw[hs];exact c _ _ _
 ·rw[hs];exact d _ (λp hp=>by simpa using a p hp)
 ·rw[hs,hv];exact(rfl:([]:List MemPlace)=[])
end
open Go.ChangeShapes Go.WideShapes Go.ChangeAt Go.RowKit Go.WideElems
def rY{n:Int}(h:(Lit.int .u64 n).wf=true):0<=n/\n<=18446744073709551615:=by
 simpa [Lit.wf,IntKind.min,IntKind.max,IntKind.signed,IntKind.bits] using h
def a1r{n:Int}(h:(Lit.int .u32 n).wf=true):0<=n/\n<=4294967295:=by
 simpa [Lit.wf,IntKind.min,IntKind.max,IntKind.signed,IntKind.bits] using h
section
variable{H:Type}{enc:TypeId×Value->H}{W:World}
def kT{fuel:Nat}{v:Value}{y:DataW H×List MemPlace}(h:DataW.trod enc prog W 0 (λ_=>true) true fuel 24 [v]=some y) :
  ∃A n c l,v=.slice A n c/\Sl W 1 A n c (wds l)/\U32 l:=by
 rcases open_ints Tryz.underlying24 Tryz.underlying180 (by kernel_rfl) h with ⟨hcs,_⟩|⟨a,n,c,zs,hcs,_,hnc,hcm,hzl,_,hcell,hwf⟩
 ·obtain rfl:v=.slice none 0 0:=by simpa using hcs
  exact⟨none,0,0,[],rfl,Sl.nil W 1,λx hx=>by cases hx⟩
 ·obtain rfl:v=.slice (some a) n c:=by simpa using hcs
  have hz:zs.length=c:=by simpa using hzl
  refine⟨some a,n,c,zs.take n,rfl,⟨by simp[wds];omega,hnc,hcm,(λh=>nomatch h),λ_=>⟨a,rfl,λj u hu=>?_⟩⟩,λx hx=>a1r (hwf x (CK hx))⟩;simp only[wds,CG,EJ]at hu;split at hu
  ·rename_i hj;have d:=hcell j (by omega);rw[AB,AC (show j<zs.length by omega)]at d;rw[AC (show j<zs.length by omega)]at hu;simp only[FI,EX]at hu;rw[<-hu];exact d
  ·cases hu
end
structure Xt (w:World) where
 W:World
 x:Ext w W
instance Xt.any (w:World):Nonempty (Xt w):=⟨⟨w,Ext.refl w⟩⟩
def Nu{P:Program}{id:Nat}{Q:Exit->Act->World->Prop}{a:Act}{l:List Oper}(hm:P.follows .mixedOrders=true)(hB:Region.lexB .any l.toArray=true)
  (h:wpQuiet P l.toArray (λw'=>∃y:Xt w,w'=y.W) (λa'=>∀w',(∃y:Xt w,w'=y.W)->Q .normal a' w') l a):(Code.region id l.toArray true).wp P Q a w :=
 wp_region_quiet (C:=λw'=>∃y:Xt w,w'=y.W) hm hB ⟨⟨_,(Ext.refl w).drew⟩,rfl⟩ (by simpa using h)
def eH{P:Program}{f:FuncId}{args:Array Value}{y:Xt w}{v:Value}(h:Calls P f args y.W λe w'=>e=.returned v/\Ext y.W w') :
  Calls P f args y.W λe w''=>e=.returned v/\∃z:Xt w,w''=z.W :=
 h.mono λ_ w' ⟨he,hx⟩=>⟨he,⟨w',y.x.trans hx⟩,rfl⟩
def Lm:Op->Bool
 | .move _ | .assign _ | .pick .. | .build .. | .load .. | .nilCheck _ | .binOp .. | .unOp .. | .convert .. | .slice .. | .fieldAddr .. | .field .. | .indexAddr .. | .index .. | .lookup .. | .extract .. | .makeInterface .. | .makeFunc .. => true
 | .call { callee:=.builtin .len,.. } | .call { callee:=.builtin .cap,.. } | .call { callee:=.builtin .min,.. } | .call { callee:=.builtin .max,.. }=>true
 | _=>false
def Ay{P:Program}{s:Sem Value}{r:Next}(h:(do let x <-s;pure (Next.value x):Sem Next).run P w=.ok r w'):∃v,r=.value v:=by
 simp only[Sem.run_bind]at h;cases hs:s.run P w with
 | ok v w1=>rw[hs]at h;simp only[Result.andThen_ok,Sem.run_pure,Result.ok.injEq]at h;exact⟨v,h.1.symm⟩
 | halt x w1=>rw[hs]at h;simp[Result.andThen]at h
def Qm{P:Program}{o:Oper}(ho:Lm o.op=true){ρ:Operand->Value}{w w':World}{r:Next}(h:(execOp ρ o).run P w=.ok r w'):∃v,r=.value v:=by
 obtain⟨dst,op,type,pos,after,guard⟩:=o;cases op with
 | move x=>simp only[execOp,Sem.run_pure,Result.ok.injEq]at h;exact⟨_,h.1.symm⟩
 | assign x=>simp only[execOp,Sem.run_pure,Result.ok.injEq]at h;exact⟨_,h.1.symm⟩
 | pick c x y =>
  simp only[execOp,Sem.run_bind]at h;cases hs:(asBool (ρ c)).run P w with
  | ok v w1=>rw[hs]at h;simp only[Result.andThen_ok,Sem.run_pure,Result.ok.injEq]at h;exact⟨_,h.1.symm⟩
  | halt x w1=>rw[hs]at h;simp[Result.andThen]at h
 | nilCheck x =>
  simp only[execOp]at h;have key:∀v:Value,(pure (Next.value v):Sem Next).run P w=.ok r w'->∃v,r=.value v:=λv hh=>by
   simp only[Sem.run_pure,Result.ok.injEq]at hh;exact⟨_,hh.1.symm⟩
  have g:(runtimePanic RuntimeError.nilDeref:Sem Next).run P w=.ok r w'->∃v,r=.value v:=λhh=>by
   simp[runtimePanic]at hh
  split at h
  ·exact g h
  ·exact g h
  ·exact g h
  ·split at h
   ·exact g h
   ·simp only[Sem.run_bind]at h;cases h1:(Sem.run P program w)with
    | halt x w1=>rw[h1]at h;simp[Result.andThen]at h
    | ok p w1 =>
     rw[h1]at h;simp only[Result.andThen_ok]at h;cases hh:(nilAhead (p.types.size+Made.depth) _ _ _).run P w1 with
     | halt x w2=>rw[hh]at h;simp[Result.andThen]at h
     | ok b w2 =>
      rw[hh]at h;simp only[Result.andThen_ok]at h;split at h
      ·simp[unsupported,Result.andThen]at h
      ·simp only[Sem.run_pure,Result.ok.injEq]at h;exact⟨_,h.1.symm⟩
   ·exact key _ h
  ·exact key _ h
 | build t parts=>exact Ay h
 | load t x=>exact Ay h
 | binOp op t x y u=>exact Ay h
 | unOp op t x=>exact Ay h
 | convert s d x=>exact Ay h
 | slice t x lo hi mx=>exact Ay h
 | fieldAddr s x f=>exact Ay h
 | field t x f=>exact Ay h
 | indexAddr t x i=>exact Ay h
 | index t x i=>exact Ay h
 | lookup t x i ok=>exact Ay h
 | extract t i=>exact Ay h
 | makeInterface t x=>exact Ay h
 | makeFunc f a b=>exact Ay h
 | call c =>
  obtain⟨callee,args,ats⟩:=c;cases callee with
  | builtin b =>
   have e:execOp ρ { dst,op:=.call { callee:=.builtin b,args,argTypes:=ats },type,pos,after,guard }=builtin b ats type (args.map fun | .const _=>true|_=>false) (args.map ρ):=rfl;rw[e]at h;cases b<;>first|exact Ay h|(simp[Lm]at ho)
  | value f=>simp[Lm]at ho
  | invoke r m=>simp[Lm]at ho
 | _=>simp[Lm]at ho
section
variable{P:Program}{ops:Array Oper}{Q:Exit->Act->World->Prop}{bs:Array Nat}
def Fr(ops:Array Oper)(bs:Array Nat)(i j:Nat):Bool:=decide (i<ops.size)&&(bs.getD j 0).testBit i
def Fv(ops:Array Oper)(bs:Array Nat):Bool :=
 (List.range ops.size).all λj=>(List.range ops.size).all λi=>!Fr ops bs i j ||
  match ops[j]? with
  | some o=>o.after.toList.any λe=>Region.binds .any e&&(e.on==i||Fr ops bs i e.on)
  | none=>false
def lA(h:Fv ops bs=true){i j:Nat}(hij:Fr ops bs i j=true){o:Oper}(ho:ops[j]?=some o) :
  ∃e∈o.after,Region.binds .any e=true/\(e.on=i\/Fr ops bs i e.on=true):=by
 have hj:j<ops.size:=(BP.1 ho).1;have hi:i<ops.size:=by
  unfold Fr at hij;simp only[Bool.and_eq_true,decide_eq_true_eq]at hij;exact hij.1
 unfold Fv at h;have h1:=EO.1 (EO.1 h j (DW.2 hj)) i (DW.2 hi);rw[hij,ho]at h1;simp only[Bool.not_true,Bool.false_or,EI,Bool.and_eq_true,Bool.or_eq_true,beq_iff_eq]at h1;obtain⟨e,he,hb,hh⟩:=h1;exact⟨e,Array.mem_toList_iff.1 he,hb,hh⟩
def Ka(ops:Array Oper)(bs:Array Nat)(listed:Array Bool):Prop:=∀j,listed.getD j false=true->∀i,Fr ops bs i j=true->listed.getD i false=true
def Kh(hok:Fv ops bs=true){listed:Array Bool}(hc:Ka ops bs listed){j i:Nat}(hj:j∈Region.ready .any ops listed)(hij:Fr ops bs i j=true):listed.getD i false=true:=by
 have⟨_,o,ho,a⟩:=mem_ready.1 hj;have⟨e,he,hb,hh⟩:=lA hok hij ho;have h1:=a e he hb;rcases hh with rfl|hh
 ·exact h1
 ·exact hc _ h1 _ hh
def Ka.add(hok:Fv ops bs=true){listed:Array Bool}(hc:Ka ops bs listed){j:Nat}(hj:j∈Region.ready .any ops listed):Ka ops bs (listed.setIfInBounds j true):=by
 intro k hk i a;by_cases hjk:j=k
 ·subst hjk;exact getD_set_true (Kh hok hc hj a)
 ·rw[getD_set_ne false hjk]at hk;exact getD_set_true (hc k hk i a)
def wpX(P:Program)(ops:Array Oper)(Q:Exit->Act->World->Prop)(X:Nat->Bool):Nat->Array Bool->Act->World->Prop
 | 0,listed,a,w=>Region.ready .any ops listed=[]/\Q .normal a w
 | fuel+1,listed,a,w =>
  (Region.ready .any ops listed=[]->Q .normal a w) /\
  ∀i∈Region.ready .any ops listed,wpOp P ops Q i (λa' w'=>(X i=true->Ext w w')/\wpX P ops Q X fuel (listed.setIfInBounds i true) a' w') a w
def Ul{X:Nat->Bool}:∀(fuel:Nat) (listed:Array Bool) (a:Act) (w:World),wpX P ops Q X fuel listed a w->wpAny P .any ops Q fuel listed a w
 | 0,_,_,_,h=>h
 | fuel+1,_,_,_,h=>⟨h.1,λi hi=>wpOp_mono (λa' w' h'=>Ul fuel _ a' w' h'.2) (h.2 i hi)⟩
def tK{X:Nat->Bool}{listed:Array Bool}{a:Act}(hr:Region.ready .any ops listed=[])(h:Q .normal a w):∀fuel,wpX P ops Q X fuel listed a w
 | 0=>⟨hr,h⟩
 | _+1=>⟨λ_=>h,by rw[hr];simp⟩
def aG{o:Oper}{v:Value}{a:Act}(h:YieldsIf P ops (Ext w) o v a)(x:Ext w w'):YieldsIf P ops (Ext w') o v a :=
 h.imp (λ⟨h1,h2⟩=>⟨h1,λu hu=>h2 u (x.trans hu)⟩) id
def nD{X:Nat->Bool}(hok:Fv ops bs=true){i:Nat}{oi:Oper}{v:Value}(hi:ops[i]?=some oi)(hsel:∀(j:Nat) (o:Oper) cs b,ops[j]?=some o->o.op≠.select cs b)
  (hQ:∀c a d v w,Q (.panic c) (a.put d v) w->Q (.panic c) a w) :
  ∀(fuel:Nat) (listed:Array Bool) (a:Act) (w:World),Ka ops bs listed ->
   (∀j oj,ops[j]?=some oj->j≠i->listed.getD j true=false->Fr ops bs i j=false->oi.apart ops oj=true/\X j=true) ->
   i∈Region.ready .any ops listed->YieldsIf P ops (Ext w) oi v a ->
   wpX P ops Q X fuel (listed.setIfInBounds i true) (a.put oi.dst v) w->wpX P ops Q X (fuel+1) listed a w:=by
 intro fuel;induction fuel with
 | zero =>
  intro listed a w f _ hr hy H;refine⟨λh=>(by rw[h]at hr;cases hr),λj hj=>?_⟩;by_cases hji:j=i
  ·subst hji;exact hy.wpOp hi (Ext.refl w) ⟨λ_=>Ext.refl w,H⟩
  ·have:=ready_mono hj hji;rw[H.1]at this;cases this
 | succ fuel ih =>
  intro listed a w f e hr hy H;refine⟨λh=>(by rw[h]at hr;cases hr),λj hj=>?_⟩;by_cases hji:j=i
  ·subst hji;exact hy.wpOp hi (Ext.refl w) ⟨λ_=>Ext.refl w,H⟩
  ·have h1:=H.2 j (ready_mono hj hji);have⟨m,oj,n,t⟩:=mem_ready.1 hj;have l:=(mem_ready.1 hr).1;have q:Fr ops bs i j=false:=by
    cases hb:Fr ops bs i j with
    | false=>rfl
    | true =>
     have h2:=Kh hok f hj hb;rcases DO i listed.size with h'|h'
     ·simp[h']at h2 l;rw[l]at h2;cases h2
     ·simp[ER h']at h2
   have⟨r,hX⟩:=e j oj n hji m q;have h2:=wpOp_putIf n r (λcs b=>hsel i oi cs b hi) (λcs b=>hsel j oj cs b n) (λc a w=>hQ c a _ _ w) hy h1;have g:∀k ok,ops[k]?=some ok->k≠i->(listed.setIfInBounds j true).getD k true=false->Fr ops bs i k=false->oi.apart ops ok=true/\X k=true:=λk ok hk hki hun hno=>by
    refine e k ok hk hki ?_ hno;by_cases hjk:j=k
    ·subst hjk;exact m
    ·rw[getD_set_ne true hjk]at hun;exact hun
   refine wpOp_mono (λa' w' h3=>⟨h3.2.1,ih (listed.setIfInBounds j true) a' w' (f.add hok hj) g (ready_mono hr (Ne.symm hji)) (aG h3.1 (h3.2.1 hX)) ?_⟩) h2;rw[FC _ _ hji];exact h3.2.2
def Vn{X:Nat->Bool}(hok:Fv ops bs=true){i:Nat}{oi:Oper}{v:Value}(hi:ops[i]?=some oi)(hsel:∀(j:Nat) (o:Oper) cs b,ops[j]?=some o->o.op≠.select cs b)
  (hQ:∀c a d v w,Q (.panic c) (a.put d v) w->Q (.panic c) a w) :
  ∀(fuel:Nat) (listed:Array Bool) (a:Act) (w:World),Ka ops bs listed ->
   (∀j oj,ops[j]?=some oj->j≠i->listed.getD j true=false->Fr ops bs i j=false->oi.apart ops oj=true) ->
   i∈Region.ready .any ops listed->YieldsIf P ops (λ_=>True) oi v a ->
   wpX P ops Q X fuel (listed.setIfInBounds i true) (a.put oi.dst v) w->wpX P ops Q X (fuel+1) listed a w:=by
 intro fuel;induction fuel with
 | zero =>
  intro listed a w f _ hr hy H;refine⟨λh=>(by rw[h]at hr;cases hr),λj hj=>?_⟩;by_cases hji:j=i
  ·subst hji;exact hy.wpOp hi trivial ⟨λ_=>Ext.refl w,H⟩
  ·have:=ready_mono hj hji;rw[H.1]at this;cases this
 | succ fuel ih =>
  intro listed a w f e hr hy H;refine⟨λh=>(by rw[h]at hr;cases hr),λj hj=>?_⟩;by_cases hji:j=i
  ·subst hji;exact hy.wpOp hi trivial ⟨λ_=>Ext.refl w,H⟩
  ·have h1:=H.2 j (ready_mono hj hji);have⟨m,oj,n,t⟩:=mem_ready.1 hj;have l:=(mem_ready.1 hr).1;have q:Fr ops bs i j=false:=by
    cases hb:Fr ops bs i j with
    | false=>rfl
    | true =>
     have h2:=Kh hok f hj hb;rcases DO i listed.size with h'|h'
     ·simp[h']at h2 l;rw[l]at h2;cases h2
     ·simp[ER h']at h2
   have r:=e j oj n hji m q;have h2:=wpOp_putIf n r (λcs b=>hsel i oi cs b hi) (λcs b=>hsel j oj cs b n) (λc a w=>hQ c a _ _ w) hy h1;have g:∀k ok,ops[k]?=some ok->k≠i->(listed.setIfInBounds j true).getD k true=false->Fr ops bs i k=false->oi.apart ops ok=true:=λk ok hk hki hun hno=>by
    refine e k ok hk hki ?_ hno;by_cases hjk:j=k
    ·subst hjk;exact m
    ·rw[getD_set_ne true hjk]at hun;exact hun
   refine wpOp_mono (λa' w' h3=>⟨h3.2.1,ih (listed.setIfInBounds j true) a' w' (f.add hok hj) g (ready_mono hr (Ne.symm hji)) h3.1 ?_⟩) h2;rw[FC _ _ hji];exact h3.2.2
def Ai(ops:Array Oper)(l:List Nat):List Oper:=l.filterMap (ops[·]?)
inductive Fp where
 | fin
 | flo (l:List Nat) (r:Fp)
 | pur (l:List Nat) (r:Fp)
 | ext (i:Nat) (r:Fp)
 | one (i:Nat) (r:Fp)
 | both (i j:Nat) (r q:Fp)
def Bf(P:Program)(ops:Array Oper)(Q:Exit->Act->World->Prop):Fp->World->Act->World->Prop
 | .fin,_,a,w=>Q .normal a w
 | .flo l r,b,a,w=>wpQuiet P ops (λw'=>∃y:Xt b,w'=y.W) (λa'=>Bf P ops Q r b a' w) (Ai ops l) a
 | .pur l r,b,a,w=>wpQuiet P ops (λ_=>True) (λa'=>Bf P ops Q r b a' w) (Ai ops l) a
 | .ext i r,b,a,w=>wpList P ops (Exit.then (λa' w'=>Ext w w'/\Bf P ops Q r b a' w') Q) (Ai ops [i]) a w
 | .one i r,_,a,w=>wpList P ops (Exit.then (λa' w'=>Bf P ops Q r w' a' w') Q) (Ai ops [i]) a w
 | .both i j r q,b,a,w=>wpList P ops (Exit.then (λa' w'=>Ext w w'/\Bf P ops Q r b a' w') Q) (Ai ops [i]) a w/\wpList P ops (Exit.then (λa' w'=>Ext w w'/\Bf P ops Q q b a' w') Q) (Ai ops [j]) a w
def Jz:Fp->List Nat
 | .fin=>[]
 | .flo _ r=>Jz r
 | .pur _ r=>Jz r
 | .ext i r=>i::Jz r
 | .one _ r=>Jz r
 | .both i j r q=>i::j::(Jz r++Jz q)
def inX(ops:Array Oper)(es:List Nat)(j:Nat):Bool:=es.contains j||((ops[j]?).map (Lm ·.op)).getD false
def rQ(ops:Array Oper)(bs:Array Nat)(es:List Nat)(i:Nat)(listed:Array Bool):Bool :=
 match ops[i]? with
 | some oi=>Lm oi.op&&(Region.ready .any ops listed).contains i &&
   (List.range ops.size).all λj=>j==i||listed.getD j true||Fr ops bs i j||(match ops[j]? with|some oj=>oi.apart ops oj&&inX ops es j|none=>true)
 | none=>false
def rO(ops:Array Oper)(bs:Array Nat)(i:Nat)(listed:Array Bool):Bool :=
 match ops[i]? with
 | some oi=>Lm oi.op&&(Region.ready .any ops listed).contains i &&
   (List.range ops.size).all λj=>j==i||listed.getD j true||Fr ops bs i j||(match ops[j]? with|some oj=>oi.apart ops oj|none=>true)
 | none=>false
def Wy(ops:Array Oper)(bs:Array Nat):List Nat->Array Bool->Bool
 | [],_=>true
 | i::l,listed=>rO ops bs i listed&&Wy ops bs l (listed.setIfInBounds i true)
def Xd(ops:Array Oper)(bs:Array Nat)(es:List Nat):List Nat->Array Bool->Bool
 | [],_=>true
 | i::l,listed=>rQ ops bs es i listed&&Xd ops bs es l (listed.setIfInBounds i true)
def Fx:List Nat->Array Bool->Array Bool
 | [],listed=>listed
 | i::l,listed=>Fx l (listed.setIfInBounds i true)
def Ey(ops:Array Oper)(bs:Array Nat)(es:List Nat):Fp->Array Bool->Bool
 | .fin,listed=>(Region.ready .any ops listed).isEmpty
 | .flo l r,listed=>Xd ops bs es l listed&&Ey ops bs es r (Fx l listed)
 | .pur l r,listed=>Wy ops bs l listed&&Ey ops bs es r (Fx l listed)
 | .ext i r,listed=>((Region.ready .any ops listed)==[i])&&Ey ops bs es r (listed.setIfInBounds i true)
 | .one i r,listed=>((Region.ready .any ops listed)==[i]) && !inX ops es i&&Ey ops bs es r (listed.setIfInBounds i true)
 | .both i j r q,listed=>((Region.ready .any ops listed)==[i,j])&&Ey ops bs es r (listed.setIfInBounds i true)&&Ey ops bs es q (listed.setIfInBounds j true)
def Bv:Fp->Nat
 | .fin=>0
 | .flo l r=>l.length+Bv r
 | .pur l r=>l.length+Bv r
 | .ext _ r=>1+Bv r
 | .one _ r=>1+Bv r
 | .both _ _ r q=>1+max (Bv r) (Bv q)
def aT{o:Oper}{a:Act}{K:Act->Prop}(ho:Lm o.op=true)(h:o.quiet P a (λw'=>∃y:Xt w,w'=y.W) K) :
  ∃v,(∀u,Ext w u->(execOp a.eval o).run P u=.ok (.value v) u)/\K (a.put o.dst v):=by
 obtain⟨v,h1,h2⟩:=h;refine⟨v,λu hu=>?_,h2⟩;have h3:=h1 u ⟨⟨u,hu⟩,rfl⟩;unfold Oper.quietAt at h3;cases hr:(execOp a.eval o).run P u with
 | ok n u' =>
  rw[hr]at h3;obtain⟨x,rfl⟩:=Qm ho hr;obtain⟨e1,e2⟩:=h3;rw[e1,e2]
 | halt x u'=>rw[hr]at h3;exact h3.elim
def Jx{o:Oper}{a:Act}{K:Act->Prop}(ho:Lm o.op=true)(h:o.quiet P a (λ_=>True) K) :
  ∃v,(∀u,(execOp a.eval o).run P u=.ok (.value v) u)/\K (a.put o.dst v):=by
 obtain⟨v,h1,h2⟩:=h;refine⟨v,λu=>?_,h2⟩;have h3:=h1 u trivial;unfold Oper.quietAt at h3;cases hr:(execOp a.eval o).run P u with
 | ok n u' =>
  rw[hr]at h3;obtain⟨x,rfl⟩:=Qm ho hr;obtain⟨e1,e2⟩:=h3;rw[e1,e2]
 | halt x u'=>rw[hr]at h3;exact h3.elim
def Hr{K:Act->World->Prop}{o:Oper}{a:Act}(hi:ops[i]?=some o)(h:wpList P ops (Exit.then K Q) (Ai ops [i]) a w):wpOp P ops Q i K a w:=by
 have e:Ai ops [i]=[o]:=by simp[Ai,hi]
 rw[e]at h;unfold wpList at h;unfold wpOp;simp only[hi];split at h
 ·rename_i hw;rw[if_pos hw];refine h.imp (λhh=>?_) (λ⟨h1,a0,w0,h2⟩=>⟨h1,a0,w0,h2⟩);unfold Oper.wp at hh ⊢;generalize (execOp a.eval o).run P w=r at *;cases r with
  | ok n w' =>
   cases n<;>simp only[Oper.upon]at hh ⊢ <;>
    first
     | exact hh
     | exact Calls.mono hh (λe w'' he=>by cases e<;>exact he)
  | halt x w'=>cases x<;>simp only[Oper.upon]at hh ⊢ <;> exact hh
 ·rename_i hw;rw[if_neg hw];exact h
def xT(hok:Fv ops bs=true)(hsel:Region.noSelect ops=true)(hQ:∀c a d v w,Q (.panic c) (a.put d v) w->Q (.panic c) a w)(es:List Nat) :
  ∀(p:Fp) (b:World) (listed:Array Bool) (a:Act) (w:World) (fuel:Nat),Ext b w->Bv p<=fuel->Ka ops bs listed->Ey ops bs es p listed=true->Bf P ops Q p b a w ->
   wpX P ops Q (inX ops es) fuel listed a w:=by
 intro p;induction p with
 | fin =>
  intro b listed a w fuel _ _ _ hB h;exact tK (by simpa [Ey] using hB) h fuel
 | flo l r ih =>
  induction l with
  | nil =>
   intro b listed a w fuel hx hf hc hB h;refine ih b listed a w fuel hx (by simpa [Bv] using hf) hc (by simpa [Ey,Xd,Fx] using hB) ?_;simpa [Bf,Ai,wpQuiet] using h
  | cons i l ihl =>
   intro b listed a w fuel hx hf hc hB h;simp only[Ey,Xd,Fx,Bool.and_eq_true]at hB;obtain⟨⟨hi,hl⟩,hr⟩:=hB;cases ho:ops[i]? with
   | none=>simp[rQ,ho]at hi
   | some oi =>
    simp only[rQ,ho,Bool.and_eq_true]at hi;obtain⟨⟨x,C⟩,z⟩:=hi;have m:i∈Region.ready .any ops listed:=by simpa using C
    obtain⟨fuel,rfl⟩:∃f,fuel=f+1:=⟨fuel-1,by simp[Bv]at hf;omega⟩;have n:∀j oj,ops[j]?=some oj->j≠i->listed.getD j true=false->Fr ops bs i j=false->oi.apart ops oj=true/\inX ops es j=true:=by
     intro j oj hj A D B;have:=EO.1 z j (DW.2 (BP.1 hj).1);simpa [A,D,B,hj] using this
    have hp:Ai ops (i::l)=oi::Ai ops l:=by simp[Ai,ho]
    simp only[Bf,hp]at h;unfold wpQuiet at h;have go:∀v,YieldsIf P ops (Ext w) oi v a->wpQuiet P ops (λw'=>∃y:Xt b,w'=y.W) (λa'=>Bf P ops Q r b a' w) (Ai ops l) (a.put oi.dst v)->wpX P ops Q (inX ops es) (fuel+1) listed a w:=by
     intro v hy hk;refine nD hok ho (Region.noSelect_spec hsel) hQ fuel listed a w hc n m hy ?_;refine ihl b (listed.setIfInBounds i true) (a.put oi.dst v) w fuel hx (by simp[Bv]at hf ⊢;omega) (hc.add hok m) ?_ ?_
     ·simp only[Ey,Bool.and_eq_true];exact⟨hl,hr⟩
     ·simpa only[Bf] using hk
    split at h
    ·rename_i hw;have⟨v,hv,hk⟩:=aT x h;exact go v (.inl ⟨hw,λu hu=>hv u (hx.trans hu)⟩) hk
    ·rename_i hw;exact go undef (.inr ⟨by simpa using hw,rfl⟩) h
 | pur l r ih =>
  induction l with
  | nil =>
   intro b listed a w fuel hx hf hc hB h;refine ih b listed a w fuel hx (by simpa [Bv] using hf) hc (by simpa [Ey,Wy,Fx] using hB) ?_;simpa [Bf,Ai,wpQuiet] using h
  | cons i l ihl =>
   intro b listed a w fuel hx hf hc hB h;simp only[Ey,Wy,Fx,Bool.and_eq_true]at hB;obtain⟨⟨hi,hl⟩,hr⟩:=hB;cases ho:ops[i]? with
   | none=>simp[rO,ho]at hi
   | some oi =>
    simp only[rO,ho,Bool.and_eq_true]at hi;obtain⟨⟨x,C⟩,z⟩:=hi;have m:i∈Region.ready .any ops listed:=by simpa using C
    obtain⟨fuel,rfl⟩:∃f,fuel=f+1:=⟨fuel-1,by simp[Bv]at hf;omega⟩;have n:∀j oj,ops[j]?=some oj->j≠i->listed.getD j true=false->Fr ops bs i j=false->oi.apart ops oj=true:=by
     intro j oj hj A D B;have:=EO.1 z j (DW.2 (BP.1 hj).1);simpa [A,D,B,hj] using this
    have hp:Ai ops (i::l)=oi::Ai ops l:=by simp[Ai,ho]
    simp only[Bf,hp]at h;unfold wpQuiet at h;have go:∀v,YieldsIf P ops (λ_=>True) oi v a->wpQuiet P ops (λ_=>True) (λa'=>Bf P ops Q r b a' w) (Ai ops l) (a.put oi.dst v)->wpX P ops Q (inX ops es) (fuel+1) listed a w:=by
     intro v hy hk;refine Vn hok ho (Region.noSelect_spec hsel) hQ fuel listed a w hc n m hy ?_;refine ihl b (listed.setIfInBounds i true) (a.put oi.dst v) w fuel hx (by simp[Bv]at hf ⊢;omega) (hc.add hok m) ?_ ?_
     ·simp only[Ey,Bool.and_eq_true];exact⟨hl,hr⟩
     ·simpa only[Bf] using hk
    split at h
    ·rename_i hw;have⟨v,hv,hk⟩:=Jx x h;exact go v (.inl ⟨hw,λu _=>hv u⟩) hk
    ·rename_i hw;exact go undef (.inr ⟨by simpa using hw,rfl⟩) h
 | ext i r ih =>
  intro b listed a w fuel hx hf hc hB h;simp only[Ey,Bool.and_eq_true]at hB;obtain⟨hr,t⟩:=hB;have e:Region.ready .any ops listed=[i]:=by simpa using hr
  have g:i∈Region.ready .any ops listed:=by rw[e];simp
  have⟨_,o,ho,_⟩:=mem_ready.1 g;obtain⟨fuel,rfl⟩:∃f,fuel=f+1:=⟨fuel-1,by simp[Bv]at hf;omega⟩;refine⟨λh0=>(by rw[e]at h0;cases h0),λj hj=>?_⟩;rw[e]at hj;obtain rfl:j=i:=by simpa using hj
  exact wpOp_mono (λa' w' hh=>⟨λ_=>hh.1,ih b _ a' w' fuel (hx.trans hh.1) (by simp[Bv]at hf ⊢;omega) (hc.add hok g) t hh.2⟩) (Hr ho h)
 | one i r ih =>
  intro b listed a w fuel hx hf hc hB h;simp only[Ey,Bool.and_eq_true]at hB;obtain⟨⟨hr,hk⟩,t⟩:=hB;have e:Region.ready .any ops listed=[i]:=by simpa using hr
  have g:i∈Region.ready .any ops listed:=by rw[e];simp
  have⟨_,o,ho,_⟩:=mem_ready.1 g;obtain⟨fuel,rfl⟩:∃f,fuel=f+1:=⟨fuel-1,by simp[Bv]at hf;omega⟩;refine⟨λh0=>(by rw[e]at h0;cases h0),λj hj=>?_⟩;rw[e]at hj;obtain rfl:j=i:=by simpa using hj
  have E:inX ops es j=false:=by simpa using hk
  exact wpOp_mono (λa' w' hh=>⟨λhX=>(by rw[E]at hX;cases hX),ih w' _ a' w' fuel (Ext.refl w') (by simp[Bv]at hf ⊢;omega) (hc.add hok g) t hh⟩) (Hr ho h)
 | both i j r q ihr ihq =>
  intro b listed a w fuel hx hf hc hB h;simp only[Ey,Bool.and_eq_true]at hB;obtain⟨⟨hr,t⟩,F⟩:=hB;have e:Region.ready .any ops listed=[i,j]:=by simpa using hr
  obtain⟨fuel,rfl⟩:∃f,fuel=f+1:=⟨fuel-1,by simp[Bv]at hf;omega⟩;have mi:i∈Region.ready .any ops listed:=by rw[e];simp
  have mj:j∈Region.ready .any ops listed:=by rw[e];simp
  refine⟨λh0=>(by rw[e]at h0;cases h0),λk hk=>?_⟩;rw[e]at hk;rcases AY.1 hk with rfl|hk
  ·have⟨_,o,ho,_⟩:=mem_ready.1 mi;exact wpOp_mono (λa' w' hh=>⟨λ_=>hh.1,ihr b _ a' w' fuel (hx.trans hh.1) (by simp[Bv]at hf ⊢;omega) (hc.add hok mi) t hh.2⟩) (Hr ho h.1)
  ·obtain rfl:k=j:=by simpa using hk
   have⟨_,o,ho,_⟩:=mem_ready.1 mj;exact wpOp_mono (λa' w' hh=>⟨λ_=>hh.1,ihq b _ a' w' fuel (hx.trans hh.1) (by simp[Bv]at hf ⊢;omega) (hc.add hok mj) F hh.2⟩) (Hr ho h.2)
def We{id:Nat}{a:Act}{l:List Oper}(bs:List Nat)(p:Fp)(hm:P.follows .mixedOrders=true)
  (hB:(Fv l.toArray bs.toArray&&Region.noSelect l.toArray&&Ey l.toArray bs.toArray (Jz p) p (Array.replicate l.toArray.size false)&&decide (Bv p<=l.toArray.size))=true)
  (hQ:∀c a d v w,Q (.panic c) (a.put d v) w->Q (.panic c) a w)
  (h:Bf P l.toArray Q p w.drew a w.drew):(Code.region id l.toArray true).wp P Q a w:=by
 simp only[Bool.and_eq_true,decide_eq_true_eq]at hB;obtain⟨⟨⟨h1,h2⟩,h3⟩,h4⟩:=hB;refine wp_region_any hm (Ul _ _ _ _ (xT h1 h2 hQ _ p w.drew _ a w.drew _ (Ext.refl _) h4 ?_ h3 h));intro j hj;exfalso;rcases DO j l.toArray.size with h'|h'
 ·simp[Array.getD]at hj
 ·simp[Array.getD]at hj
def a3u:Ai ops []=[]:=rfl
def nth:List Oper->Nat->Option Oper
 | [],_=>none
 | o::_,0=>some o
 | _::l,i+1=>nth l i
def sN:∀(l:List Oper) (i:Nat),nth l i=l[i]?
 | [],_=>by simp[nth]
 | _::_,0=>rfl
 | _::l,i+1=>by simp[nth,sN l i]
def oX{o:Oper}{ol:List Oper}{l:List Nat}{r:List Oper}(h:nth ol i=some o)(k:Ai ol.toArray l=r):Ai ol.toArray (i::l)=o::r:=by
 subst k;rw[sN]at h;simp[Ai,h]
def a1o(ol:List Oper):List Nat->Option (List Oper)
 | []=>some []
 | i::l=>match nth ol i,a1o ol l with
  | some o,some r=>some (o::r)
  | _,_=>none
def pks{ol:List Oper}:∀{l:List Nat} {r:List Oper},a1o ol l=some r->Ai ol.toArray l=r
 | [],_,h=>by
  cases h;rfl
 | i::l,r,h=>by
  unfold a1o at h;split at h
  · rename_i o s h1 h2;injection h with h;subst h;exact oX h1 (pks h2)
  · cases h
def oq{r:Fp}{a:Act}{b:World}{X:World->Prop}(h:Bf P ops Q r b a w):wpQuiet P ops X (λa'=>Bf P ops Q r b a' w) [] a:=wpQuiet_nil h
def wro{id:Nat}{a:Act}{l:List Oper}(bs:List Nat)(p:Fp)(h:Bf P l.toArray Q p w.drew a w.drew)
 (hm:P.follows .mixedOrders=true:=by kernel_rfl)
 (hB:(Fv l.toArray bs.toArray && Region.noSelect l.toArray && Ey l.toArray bs.toArray (Jz p) p (Array.replicate l.toArray.size false) && decide (Bv p<=l.toArray.size))=true:=by kernel_rfl)
 (hQ:∀c a d v w,Q (.panic c) (a.put d v) w->Q (.panic c) a w:=by intro _ _ d _ _ h;cases d<;>exact h):(Code.region id l.toArray true).wp P Q a w:=We bs p hm hB hQ h
def An(P:Program)(ops:Array Oper)(Q:Exit->Act->World->Prop)(r:Fp)(b w:World)(a':Act)(w':World):Prop:=Ext w w'/\Bf P ops Q r b a' w'
def An.mk{r:Fp}{b:World}{a:Act}(x:Ext w w')(h:Bf P ops Q r b a w'):An P ops Q r b w a w':=⟨x,h⟩
def Aa{l:List Nat}{r:Fp}{a:Act}{b:World}{ol:List Oper}(hp:Ai ops l=ol)
  (h:wpQuiet P ops (λw'=>∃y:Xt b,w'=y.W) (λa'=>Bf P ops Q r b a' w) ol a):Bf P ops Q (.flo l r) b a w:=by
 subst hp;exact h
def Bi{l:List Nat}{r:Fp}{a:Act}{b:World}{ol:List Oper}(hp:Ai ops l=ol)
  (h:wpQuiet P ops (λ_=>True) (λa'=>Bf P ops Q r b a' w) ol a):Bf P ops Q (.pur l r) b a w:=by
 subst hp;exact h
def Ar{r:Fp}{a:Act}{b:World}{o:Oper}(hp:Ai ops [i]=[o])
  (h:∀K:Act->World->Prop,(∀a' w',An P ops Q r b w a' w'->K a' w')->wpList P ops (Exit.then K Q) [o] a w):Bf P ops Q (.ext i r) b a w:=by
 show wpList P ops _ (Ai ops [i]) a w;rw[hp];exact h _ λ_ _ h=>h
def Ac{r:Fp}{a:Act}{b:World}{o:Oper}(hp:Ai ops [i]=[o])
  (h:∀K:Act->World->Prop,(∀a' w',Bf P ops Q r w' a' w'->K a' w')->wpList P ops (Exit.then K Q) [o] a w):Bf P ops Q (.one i r) b a w:=by
 show wpList P ops _ (Ai ops [i]) a w;rw[hp];exact h _ λ_ _ h=>h
def vI{r q:Fp}{a:Act}{b:World}{o u:Oper}(hp:Ai ops [i]=[o])(hq:Ai ops [j]=[u])
  (h:∀K:Act->World->Prop,(∀a' w',An P ops Q r b w a' w'->K a' w')->wpList P ops (Exit.then K Q) [o] a w)
  (k:∀K:Act->World->Prop,(∀a' w',An P ops Q q b w a' w'->K a' w')->wpList P ops (Exit.then K Q) [u] a w):Bf P ops Q (.both i j r q) b a w:=by
 refine⟨?_,?_⟩
 ·rw[hp];exact h _ λ_ _ h=>h
 ·rw[hq];exact k _ λ_ _ h=>h
def Ad{a:Act}{b:World}(h:Q .normal a w):Bf P ops Q .fin b a w:=h
end
def Fl:Gr prog 24 180 1 4 (.int .u32 0):=⟨by kernel_rfl,by kernel_rfl,rfl,by omega⟩
def qO(g:Int->Int->Int)(F:Nat)(hent:∀args w,Sem.run prog (callFunc F args) w=.ok (.enter F args) w)(hF:∀x y w,C3 F #[.int .u64 x,.int .u64 y] w λe w'=>e=.returned (.int .u64 (g x y))/\w=w')
  (hg:∀x y,0<=x->x<=4294967295->0<=y->y<=4294967295->0<=g x y/\g x y<=4294967295)
  (e1 e2:Int) (A1 A2:Option Addr) (n c1 c2:Nat) (l1 l2:List Int) (w:World) (h1:Sl w 1 A1 n c1 (wds l1)) (h2:Sl w 1 A2 n c2 (wds l2)) (u1:U32 l1) (u2:U32 l2) (hn:n*4<=140737488355328) :
  C3 227 #[.agg #[.int .u64 e1,.slice A1 n c1],.agg #[.int .u64 e2,.slice A2 n c2],.func (.func F) #[] #[]] w λe w' =>
   ∃A c,e=.returned (.tuple #[.agg #[.int .u64 (g e1 e2),.slice A n c],.int .u16 0])/\Own w' w.heap.size 180 1 A n c (wds (List.zipWith g l1 l2))/\Ext w w':=by
 have hm:=h1.le;have he:((n:Int) != (n:Int))=false:=by simp
 have HF:=j6 hF;have HG:=j6 hg;clear hF hg;go_enter func227,ntmps227;go_wp2_with (refine(HF.o _ _ _).mono ?_;rintro e w1 ⟨rfl,rfl⟩)
 obtain⟨w0,f⟩:∃w0,w0=((w.alloc (Obj.cells #[Value.int IntKind.u64 e1,Value.slice A1 n c1] 26)).alloc (Obj.cells #[Value.int IntKind.u64 e2,Value.slice A2 n c2] 26)).alloc
   (Obj.cells #[Value.int IntKind.u64 0,Value.slice none 0 0] 26):=⟨_,rfl⟩
 have x0:Ext w w0:=f▸(((Ext.refl w).alloc _).alloc _).alloc _;have s0:w0.heap.size=w.heap.size+3:=by subst f;simp
 have b3:w0.cell? ⟨w.heap.size,1,none⟩=some (Value.slice A1 n c1):=by subst f;go_simp
 have b4:w0.cell? ⟨w.heap.size+1,1,none⟩=some (Value.slice A2 n c2):=by subst f;go_simp
 have b6:Bk w0 (w.heap.size+1+1) 26 #[Value.int IntKind.u64 0,Value.slice none 0 0]:=by subst f;exact Bk.at (by simp)
 rw[<-f];clear f;have S0:=j6 s0
 go_loopw [28] (λt wr=>∃(k:Nat) (A:Option Addr) (c:Nat),k<=n/\t=.int .i64 k/\Below (w.heap.size+3) w0 wr/\Bk wr (w.heap.size+1+1+1) 26 #[.int .u64 (g e1 e2),.slice A k c]/\Own wr (w.heap.size+4) 180 1 A k c (wds (List.zipWith g (l1.take k) (l2.take k))))
  (λt _=>n-(intOf t).toNat)
 case atStart =>
  refine⟨0,_,_,AG _,rfl,?_,?_,by simpa [wds] using Own.nil _ _ _ _⟩
  ·exact(FH _ _).alloc (by omega) _
  ·have:=Bk.new w0 26 #[.int .u64 (g e1 e2),Value.slice none 0 0];rw[s0]at this;exact this
 case round =>
  obtain⟨k,A,c,hk,rfl,d,i,a⟩:=hrel;by_cases hlt:k<n
  ·have⟨a1,z,m,k1⟩:=h1.word hlt;have⟨a2,B,q,k2⟩:=h2.word hlt;have q3:=Ei d b3 (by simp);have q4:=Ei d b4 (by simp);have q8:=i.cell 1;have f8:=i.free 1;have d1:=Ei d (x0.cell m) (by simp only[Ep];omega);have d2:=Ei d (x0.cell q) (by simp only[Ep];omega);simp at q8;have C1:=j6 m;have C2:=j6 q;clear m q;have i0:(0:Int)<=(k:Int):=Int.natCast_nonneg _;have i1:(k:Int)<(n:Int):=by omega
   have K:=d.size;have r1:=u1.at k;have r2:=u2.at k;have R:=HG.o _ _ r1.1 r1.2 r2.1 r2.2;have E1:IntKind.u64.wrap (l1[k]?.getD 0)=l1[k]?.getD 0:=FB _ (by omega);have E2:IntKind.u64.wrap (l2[k]?.getD 0)=l2[k]?.getD 0:=FB _ (by omega);have E3:IntKind.u32.wrap (g (l1[k]?.getD 0) (l2[k]?.getD 0))=g (l1[k]?.getD 0) (l2[k]?.getD 0):=IntWalk.u32_in _ (by omega);go_wp2;refine wro [0,1,0,0,8,0,56,120,248,0,512,0,3584,7680,15872,32764,65532,131068,262143,524287,1048575] (.flo [0,1,2,3,4,5,6,7,8,9,10,11,12,13,14] (.ext 15 (.flo [16] (.ext 17 (.one 18 (.flo [19] (.one 20 (.fin)))))))) ?_;have X:Ext wr wr.drew:=(Ext.refl wr).drew;have L:∀y:Xt wr.drew,y.W.cell? ⟨w.heap.size,1,none⟩=some (.slice A1 n c1):=λy=>y.x.cell (X.cell q3);have M:∀y:Xt wr.drew,y.W.cell? ⟨w.heap.size+1,1,none⟩=some (.slice A2 n c2):=λy=>y.x.cell (X.cell q4);have N:∀y:Xt wr.drew,y.W.cell? ⟨w.heap.size+1+1+1,1,none⟩=some (.slice A k c):=λy=>y.x.cell (X.cell q8);have H:∀y:Xt wr.drew,y.W.cell? (a1.add k)=some (.int .u32 (l1.getD k 0)):=λy=>y.x.cell (X.cell d1);have I:∀y:Xt wr.drew,y.W.cell? (a2.add k)=some (.int .u32 (l2.getD k 0)):=λy=>y.x.cell (X.cell d2)
   (refine Aa (pks rfl) ?_;(repeat (go_big_quiet_step (fail)));refine oq ?_)
   refine Ar (pks rfl) ?_;intro K_ l;go_wp2_with (refine(HF.o _ _ _).mono ?_;rintro e w1 ⟨rfl,rfl⟩)
   refine An.mk (Ext.refl _) ?_
   (refine Aa (pks rfl) ?_;(repeat (go_big_quiet_step (fail)));refine oq ?_)
   refine Ar (pks rfl) ?_;intro K_ l;go_wp2;refine An.mk ((Ext.refl _).alloc _) ?_;refine Ac (pks rfl) ?_;intro K_ l;go_wp2_with (at_builtin;refine Da _ Fl (w.heap.size+4) _ _ (by rfl) (by rfl) A k c _ (by rfl) ((a.alloc _).drew) (some ⟨wr.heap.size,0,none⟩) 1 1 _ (by rfl) ((Sl.one wr _ _ 1 rfl).drew) (by simp[Value.oneCell']) (by omega) (by omega) (by simp;omega) ?_;intro A' c' w1 G r C)
   have j:=Bk.grown (by exact(i.alloc _).drew) r (a.ne (by simp));have J:=j.free 1;have O:w1.cell? ⟨w.heap.size+1+1+1,1,none⟩=some (.slice A k c):=j.cell 1
   (refine Aa (pks rfl) ?_;(repeat (go_big_quiet_step (fail)));refine oq ?_)
   refine Ac (pks rfl) ?_;intro K_ l;go_wp2;refine Ad ?_;go_wp2;rw[<-z,<-B]
   go_roundw
   case rel =>
    refine⟨k+1,A',c',by omega,by go_num,?_,?_,?_⟩
    ·exact(((d.alloc (by omega) _).drew).grown r (by simp;omega) (λg hg=>by have:=a.lt g hg;omega)).setCell (by simp) _
    ·exact j.set 1 _
    ·refine(show Own _ _ _ _ _ _ _ _ from ?_);have D:=h1.wlen;have E:=h2.wlen;rw[Gh _ _ (by omega),Gh _ _ (by omega),List.zipWith_append (by simp;omega),<-Ku];exact(G.far (by rcases C with e|e<;>rw[e];exact a.ne (by simp);simp;omega) _)
   case measure=>simp[intOf];omega
  ·obtain rfl:k=n:=by omega
   have r0:wr.cell? ⟨w.heap.size+1+1+1,0,none⟩=some (.int .u64 (g e1 e2)):=i.cell 0;have r1:wr.cell? ⟨w.heap.size+1+1+1,1,none⟩=some (.slice A k c):=i.cell 1;have h:=b6.below d (by omega);have r2:wr.cell? ⟨w.heap.size+1+1,0,none⟩=some (.int .u64 0):=h.cell 0;have r3:wr.cell? ⟨w.heap.size+1+1,1,none⟩=some (.slice none 0 0):=h.cell 1;have r4:=h.free 0;have r5:=h.free 1;have bb:=(h.set 0 (.int .u64 (g e1 e2))).set 1 (.slice A k c);have q0:((wr.setCell ⟨w.heap.size+1+1,0,none⟩ (.int .u64 (g e1 e2))).setCell ⟨w.heap.size+1+1,1,none⟩ (.slice A k c)).cell? ⟨w.heap.size+1+1,0,none⟩=some (.int .u64 (g e1 e2)):=bb.cell 0;have q1:((wr.setCell ⟨w.heap.size+1+1,0,none⟩ (.int .u64 (g e1 e2))).setCell ⟨w.heap.size+1+1,1,none⟩ (.slice A k c)).cell? ⟨w.heap.size+1+1,1,none⟩=some (.slice A k c):=bb.cell 1;go_wp2;refine bodyPost_ret (v:=.tuple #[.agg #[.int .u64 (g e1 e2),.slice A k c],.int .u16 0]) (by simp[results,Tryz.results227,go_sem,q0,q1]) rfl ?_;refine⟨A,c,rfl,?_,?_⟩
   ·have D:=h1.wlen;have E:=h2.wlen;rw[AW (by omega),AW (by omega)]at a;exact((a.mono (by omega)).far (a.ne (by simp)) _).far (a.ne (by simp)) _
   ·have e1:Ext w wr:=Below.trans x0 (d.mono (by omega));exact(e1.set (by simp;omega) _).set (by simp;omega) _
def zK(x y:Int)(w:World):C3 228 #[.int .u64 x,.int .u64 y] w λe w'=>e=.returned (.int .u64 (max x y))/\w=w':=by
 go_enter func228,ntmps228;go_wp2;all_goals go_ret
 all_goals exact⟨Bw (by omega),rfl⟩
def qF(e1 e2:Int)(A1 A2:Option Addr)(n c1 c2:Nat)(l1 l2:List Int)(w:World)(h1:Sl w 1 A1 n c1 (wds l1))(h2:Sl w 1 A2 n c2 (wds l2))(u1:U32 l1)(u2:U32 l2)(hn:n*4<=140737488355328) :
  C3 191 #[.agg #[.int .u64 e1,.slice A1 n c1],.agg #[.int .u64 e2,.slice A2 n c2]] w λe w' =>
   ∃A c,e=.returned (.tuple #[.agg #[.int .u64 (max e1 e2),.slice A n c],.int .u16 0])/\Own w' w.heap.size 180 1 A n c (wds (List.zipWith max l1 l2))/\Ext w w':=by
 go_enter func191,ntmps191;go_wp2_with (refine(qO max 228 (λ_ _=>by kernel_rfl) zK (by intros;omega) e1 e2 A1 A2 n c1 c2 l1 l2 _ (h1.ext ((((Ext.refl w).alloc _).alloc _).alloc _)) (h2.ext ((((Ext.refl w).alloc _).alloc _).alloc _)) u1 u2 hn).mono ?_;rintro e w1 ⟨A,c,rfl,ho,x1⟩;have b4:Bk w1 (w.heap.size+1+1) 26 #[.int .u64 0,.slice none 0 0]:=Bk.ext (Bk.at (by simp)) x1;have q0:=b4.cell 0;have q1:=b4.cell 1;have f0:=b4.free 0;have f1:=b4.free 1)
 have q:=b4.set2 (.int .u64 (max e1 e2)) (.slice A n c);refine bodyPost_ret (v:=.tuple #[.agg #[.int .u64 (max e1 e2),.slice A n c],.int .u16 0]) (by simp[results,Tryz.results191,go_sem,q.1,q.2]) rfl ⟨A,c,rfl,?_,?_⟩
 ·exact((ho.mono (by simp;omega)).far (ho.ne (by simp)) _).far (ho.ne (by simp)) _
 ·have x2:=((((Ext.refl w).alloc _).alloc _).alloc _).trans x1;exact(x2.set (by simp;omega) _).set (by simp;omega) _
def Rr(A:Option Addr)(n c:Nat)(xs:List Value)(w:World)(h:Sl w 1 A n c xs)(h1:∀u∈xs,u.oneCell'=true)(hn:n*4<=140737488355328) :
  C3 184 #[.slice A n c] w λe w'=>∃A' c',e=.returned (.slice A' n c')/\Own w' w.heap.size 180 1 A' n c' xs/\Ext w w':=by
 have i:=λ(W:World)=>FP (P:=prog) W 24 180 A n c 0 0 Tryz.underlying24;rcases A with _|a
 ·obtain rfl:c=0:=h.2.2.2.1 rfl;have f:n=0:=by have:=h.2.1;omega
  subst f;have hx:xs=[]:=AH (by simpa using h.1);subst hx;go_enter func184,ntmps184;go_wp2;go_ret;exact⟨none,0,rfl,Own.nil _ _ _ _,Ext.refl _⟩
 ·go_enter func184,ntmps184;go_wp2_with (at_builtin;refine Da _ Fl w.heap.size _ _ (by rfl) (by rfl) _ 0 0 [] (by rfl) (Own.empty _ _ _ _ _) (some a) n c xs (by rfl) (h.ext ((Ext.refl w).alloc _)) h1 (by omega) (by omega) (by simp) ?_;intro A' c' w1 g d j)
  go_ret;refine⟨A',c',by simp,by simpa using g,?_⟩;exact((Ext.refl w).alloc _).grown d (by simp[blk])
def Vt(A1 A2:Option Addr)(n1 n2 c1 c2:Nat)(w:World)(hne:((n1:Int) != (n2:Int))=true) :
  C3 166 #[.slice A1 n1 c1,.slice A2 n2 c2] w λe w'=>e=.returned (.bool false)/\Ext w w':=by
 go_enter func166,ntmps166;go_wp2;go_ret;exact⟨rfl,Ext.refl _⟩
def dM(hl:l1.length=l2.length):(∀k,k<l1.length->l1.getD k 0=l2.getD k 0)↔l1=l2:=by
 constructor
 ·intro h;refine List.ext_getElem hl λk h1 h2=>?_;have:=h k h1;simpa [AB,AC h1,AC h2] using this
 ·rintro rfl k _;rfl
def Vs(A1 A2:Option Addr)(n c1 c2:Nat)(l1 l2:List Int)(w:World)(h1:Sl w 1 A1 n c1 (wds l1))(h2:Sl w 1 A2 n c2 (wds l2)) :
  C3 166 #[.slice A1 n c1,.slice A2 n c2] w λe w'=>e=.returned (.bool (decide (l1=l2)))/\Ext w w':=by
 have hm:=h1.le;have c:=j6 h1.wlen;have d:=j6 h2.wlen;have he:((n:Int) != (n:Int))=false:=by simp
 go_enter func166,ntmps166;go_wp2
 go_loopw [5] (λv wr=>∃k:Nat,k<=n/\v=.int .i64 k/\(∀j,j<k->l1.getD j 0=l2.getD j 0)/\∃m,wr=w.drewN m) (λv _=>n-(intOf v).toNat)
 case atStart=>exact⟨0,AG _,rfl,λj hj=>absurd hj (by omega),0,rfl⟩
 case round =>
  obtain⟨k,hk,rfl,a,m,rfl⟩:=hrel;replace a:=j6 a;by_cases hlt:k<n
  ·have⟨a1,g,i,_⟩:=h1.word hlt;have⟨a2,h,l,_⟩:=h2.word hlt;have T:H0 (k<l1.length):=by show k<l1.length;rw[c.o];exact hlt
   by_cases hq:(l1[k]?.getD 0 != l2[k]?.getD 0)=true
   ·go_wp2;go_quiet (fail);go_wp2;go_ret;refine⟨Cm (Eq.symm (decide_eq_false λe=>?_)),((Ext.refl w).drewN _).drewN _⟩;rw[e]at hq;simp at hq
   ·have f:(l1[k]?.getD 0 != l2[k]?.getD 0)=false:=by simpa using hq
    replace hq:=j6 hq;go_wp2;go_quiet (fail);go_wp2
    go_roundw
    case rel =>
     refine⟨k+1,by omega,by go_num,λj hj=>?_,_,rfl⟩;by_cases hjk:j<k
     ·exact a.o j hjk
     ·obtain rfl:j=k:=by omega
      simpa [AB] using f
    case measure=>simp[intOf];omega
  ·go_wp2;go_ret;refine⟨Cm (Eq.symm (decide_eq_true ?_)),(Ext.refl w).drewN _⟩;exact(dM (by rw[c.o,d.o])).1 λj hj=>a.o j (by rw[c.o]at hj;omega)
def Nv(A1 A2:Option Addr)(n1 n2 c1 c2:Nat)(l1 l2:List Int)(w:World)(h1:Sl w 1 A1 n1 c1 (wds l1))(h2:Sl w 1 A2 n2 c2 (wds l2)) :
  C3 166 #[.slice A1 n1 c1,.slice A2 n2 c2] w λe w'=>e=.returned (.bool (decide (l1=l2)))/\Ext w w':=by
 by_cases hn:n1=n2
 ·subst hn;exact Vs A1 A2 n1 c1 c2 l1 l2 w h1 h2
 ·have hf:decide (l1=l2)=false:=decide_eq_false λe=>hn (by rw[<-h1.wlen,<-h2.wlen,e]);rw[hf];exact Vt A1 A2 n1 n2 c1 c2 w (by simp;omega)
def Jn(e1:Int)(l1:List Int)(e2:Int)(l2:List Int):Bool:=decide (l1.length=l2.length/\e1<=e2/\∀k,k<l1.length->l1.getD k 0<=l2.getD k 0)
def By(x y:Int):Int:=if x<y then -1 else if y<x then 1 else 0
def Sm(h:x<y):By x y = -1:=by unfold By;rw[if_pos h]
def So(h:y<x):By x y=1:=by unfold By;rw[if_neg (by omega),if_pos h]
def Eo(x:Int):By x x=0:=by unfold By;rw[if_neg (by omega),if_neg (by omega)]
def Zr(x:Int)(w:World):C3 235 #[.int .i64 x] w λe w'=>e=.returned (.bool false)/\w=w':=by
 have h:(x != x)=false:=by simp
 go_enter func235,ntmps235;go_wp2;go_ret;exact⟨rfl,rfl⟩
def Zp(x:Int)(w:World):C3 236 #[.int .u64 x] w λe w'=>e=.returned (.bool false)/\w=w':=by
 have h:(x != x)=false:=by simp
 go_enter func236,ntmps236;go_wp2;go_ret;exact⟨rfl,rfl⟩
def Zq(x:Int)(w:World):C3 272 #[.int .u32 x] w λe w'=>e=.returned (.bool false)/\w=w':=by
 have h:(x != x)=false:=by simp
 go_enter func272,ntmps272;go_wp2;go_ret;exact⟨rfl,rfl⟩
def Rq(x y:Int)(w:World):C3 205 #[.int .i64 x,.int .i64 y] w λe w'=>e=.returned (.int .i64 (By x y))/\w=w':=by
 rcases DN x y with h|h|h
 ·rw[Sm h];go_enter func205,ntmps205;go_wp2_with (refine(Zr _ _).mono ?_;rintro e w1 ⟨rfl,rfl⟩)
  go_ret;exact⟨rfl,rfl⟩
 ·subst h;rw[Eo];go_enter func205,ntmps205;go_wp2_with (refine(Zr _ _).mono ?_;rintro e w1 ⟨rfl,rfl⟩)
  go_ret;exact⟨rfl,rfl⟩
 ·rw[So h];go_enter func205,ntmps205;go_wp2_with (refine(Zr _ _).mono ?_;rintro e w1 ⟨rfl,rfl⟩)
  go_ret;exact⟨rfl,rfl⟩
def Ro(x y:Int)(w:World):C3 206 #[.int .u64 x,.int .u64 y] w λe w'=>e=.returned (.int .i64 (By x y))/\w=w':=by
 rcases DN x y with h|h|h
 ·rw[Sm h];go_enter func206,ntmps206;go_wp2_with (refine(Zp _ _).mono ?_;rintro e w1 ⟨rfl,rfl⟩)
  go_ret;exact⟨rfl,rfl⟩
 ·subst h;rw[Eo];go_enter func206,ntmps206;go_wp2_with (refine(Zp _ _).mono ?_;rintro e w1 ⟨rfl,rfl⟩)
  go_ret;exact⟨rfl,rfl⟩
 ·rw[So h];go_enter func206,ntmps206;go_wp2_with (refine(Zp _ _).mono ?_;rintro e w1 ⟨rfl,rfl⟩)
  go_ret;exact⟨rfl,rfl⟩
def Rp(x y:Int)(w:World):C3 237 #[.int .u32 x,.int .u32 y] w λe w'=>e=.returned (.int .i64 (By x y))/\w=w':=by
 rcases DN x y with h|h|h
 ·rw[Sm h];go_enter func237,ntmps237;go_wp2_with (refine(Zq _ _).mono ?_;rintro e w1 ⟨rfl,rfl⟩)
  go_ret;exact⟨rfl,rfl⟩
 ·subst h;rw[Eo];go_enter func237,ntmps237;go_wp2_with (refine(Zq _ _).mono ?_;rintro e w1 ⟨rfl,rfl⟩)
  go_ret;exact⟨rfl,rfl⟩
 ·rw[So h];go_enter func237,ntmps237;go_wp2_with (refine(Zq _ _).mono ?_;rintro e w1 ⟨rfl,rfl⟩)
  go_ret;exact⟨rfl,rfl⟩
def Dx:List Int->List Int->Int
 | [],[]=>0
 | [],_::_ => -1
 | _::_,[]=>1
 | x::l,y::m=>if By x y=0 then Dx l m else By x y
def Gx:By x y=0↔x=y:=by
 unfold By;by_cases h1:x<y
 ·rw[if_pos h1];omega
 ·rw[if_neg h1];by_cases h2:y<x
  ·rw[if_pos h2];omega
  ·rw[if_neg h2];omega
def Yc:∀(k:Nat) (l m:List Int),k<l.length->k<m.length->Dx (l.drop k) (m.drop k)=if By (l.getD k 0) (m.getD k 0)=0 then Dx (l.drop (k+1)) (m.drop (k+1)) else By (l.getD k 0) (m.getD k 0):=by
 intro k l m h1 h2;rw[BY h1,BY h2];simp[Dx,AB,AC h1,AC h2]
def mE(A1 A2:Option Addr)(n1 n2 c1 c2:Nat)(l1 l2:List Int)(w:World)(h1:Sl w 1 A1 n1 c1 (wds l1))(h2:Sl w 1 A2 n2 c2 (wds l2)) :
  C3 207 #[.slice A1 n1 c1,.slice A2 n2 c2] w λe w'=>e=.returned (.int .i64 (Dx l1 l2))/\w=w':=by
 have j:=h1.le;have l:=h2.le;have a:=j6 h1.wlen;have c:=j6 h2.wlen;have⟨r,hr⟩:=E9 (Dx l1 l2);rw[<-hr];replace hr:=j6 hr;go_enter func207,ntmps207;go_wp2
 go_loop [11] (λv=>∃k:Nat,k<=n1/\k<=n2/\v=.int .i64 k/\r=Dx (l1.drop k) (l2.drop k)) (λv=>n1-(intOf v).toNat)
 case atStart=>exact⟨0,AG _,AG _,rfl,by simpa using hr.o⟩
 case round =>
  obtain⟨k,h,i,rfl,d⟩:=hrel;replace d:=j6 d;by_cases q1:k<n1
  ·obtain⟨a1,rfl,f,_⟩:=h1.word q1;by_cases q2:k<n2
   ·obtain⟨a2,rfl,g,_⟩:=h2.word q2;have T:=Yc k l1 l2 (by rw[a.o];exact q1) (by rw[c.o];exact q2);by_cases q3:By (l1.getD k 0) (l2.getD k 0)=0
    ·rw[if_pos q3]at T;have HT:=j6 T;have q4:(By (l1[k]?.getD 0) (l2[k]?.getD 0) != 0)=false:=by rw[<-AB,<-AB,q3];rfl
     clear T q3;go_wp2_with (refine(Rp _ _ _).mono ?_;rintro e w1 ⟨rfl,rfl⟩)
     go_round
     case rel=>exact⟨k+1,by omega,by omega,by go_num,by rw[d.o,HT.o]⟩
     case measure=>simp[intOf];omega
    ·rw[if_neg q3]at T;have HT:=j6 T;have q4:(By (l1[k]?.getD 0) (l2[k]?.getD 0) != 0)=true:=by simpa [AB] using q3
     clear T q3;go_wp2_with (refine(Rp _ _ _).mono ?_;rintro e w1 ⟨rfl,rfl⟩)
     go_ret;exact⟨Bw (by rw[d.o,HT.o];simp[AB]),rfl⟩
   ·have e2:k=n2:=by omega
    have T:Dx (l1.drop k) (l2.drop k)=1:=by
     rw[BY (show k<l1.length by rw[a.o];exact q1),CV (show l2.length<=k by rw[c.o];omega)];rfl
    have HT:=j6 T;have E2:=j6 e2;clear T e2;go_wp2;go_ret;exact⟨Bw (by rw[d.o,HT.o]),rfl⟩
  ·have e1:k=n1:=by omega
   replace e1:=j6 e1;by_cases q2:n1<n2
   ·have T:Dx (l1.drop k) (l2.drop k) = -1:=by
     rw[CV (show l1.length<=k by rw[a.o];omega),BY (show k<l2.length by rw[c.o,e1.o];exact q2)];rfl
    have HT:=j6 T;clear T;go_wp2;go_ret;exact⟨Bw (by rw[d.o,HT.o]),rfl⟩
   ·have T:Dx (l1.drop k) (l2.drop k)=0:=by
     rw[CV (show l1.length<=k by rw[a.o];omega),CV (show l2.length<=k by rw[c.o];omega)];rfl
    have HT:=j6 T;clear T;go_wp2;go_ret;exact⟨Bw (by rw[d.o,HT.o]),rfl⟩
def orT(x y z:Int):Int:=if x=0 then (if y=0 then z else y) else x
def a2d(g:Nat)(t:TypeId)(x y z:Int)(w:World)(hb:Bk w g t #[.int .i64 x,.int .i64 y,.int .i64 z]) :
  C3 182 #[.slice (some ⟨g,0,none⟩) 3 3] w λe w'=>e=.returned (.int .i64 (orT x y z))/\Ext w w':=by
 have hx:w.cell? ⟨g,0,none⟩=some (.int .i64 x):=hb.cell 0;have hy:w.cell? ⟨g,1,none⟩=some (.int .i64 y):=hb.cell 1;have hz:w.cell? ⟨g,2,none⟩=some (.int .i64 z):=hb.cell 2;have⟨r,hr⟩:=E9 (orT x y z);rw[<-hr];replace hr:=j6 hr;go_enter func182,ntmps182;go_wp2
 go_loop [8] (λv=>∃k:Nat,k<=3/\v=.int .i64 k/\(0<k->x=0)/\(1<k->y=0)/\(2<k->z=0)) (λv=>3-(intOf v).toNat)
 case atStart=>exact⟨0,by omega,rfl,by omega,by omega,by omega⟩
 case round =>
  obtain⟨k,hk,rfl,k0,k1,k2⟩:=hrel;have K0:=j6 k0;have K1:=j6 k1;have K2:=j6 k2;clear k0 k1 k2
  match k,hk with
  | 0,_ =>
   by_cases q:x=0
   ·have q':(x != 0)=false:=by simpa using q
    have Q:=j6 q;clear q;go_wp2
    go_round
    case rel=>exact⟨1,by omega,rfl,λ_=>Q.o,by omega,by omega⟩
    case measure=>simp[intOf]
   ·have q':(x != 0)=true:=by simpa using q
    go_wp2;go_ret;exact⟨Bw (by rw[hr.o];simp[orT,q]),Ext.refl _⟩
  | 1,_ =>
   by_cases q:y=0
   ·have q':(y != 0)=false:=by simpa using q
    have Q:=j6 q;clear q;go_wp2
    go_round
    case rel=>exact⟨2,by omega,rfl,λ_=>K0.o (by omega),λ_=>Q.o,by omega⟩
    case measure=>simp[intOf]
   ·have q':(y != 0)=true:=by simpa using q
    go_wp2;go_ret;exact⟨Bw (by rw[hr.o];simp[orT,q,K0.o (by omega)]),Ext.refl _⟩
  | 2,_ =>
   by_cases q:z=0
   ·have q':(z != 0)=false:=by simpa using q
    have Q:=j6 q;clear q;go_wp2
    go_round
    case rel=>exact⟨3,by omega,rfl,λ_=>K0.o (by omega),λ_=>K1.o (by omega),λ_=>Q.o⟩
    case measure=>simp[intOf]
   ·have q':(z != 0)=true:=by simpa using q
    go_wp2;go_ret;exact⟨Bw (by rw[hr.o];simp[orT,K1.o (by omega),K0.o (by omega)]),Ext.refl _⟩
  | 3,_ =>
   go_wp2;go_ret;exact⟨Bw (by rw[hr.o];simp[orT,K1.o (by omega),K0.o (by omega),K2.o (by omega)]),Ext.refl _⟩
  | k+4,hk=>omega
def Gl(e1:Int)(l1:List Int)(e2:Int)(l2:List Int):Int:=orT (By l1.length l2.length) (By e1 e2) (Dx l1 l2)
def a0h(e1 e2:Int)(A1 A2:Option Addr)(n1 n2 c1 c2:Nat)(l1 l2:List Int)(w:World)(h1:Sl w 1 A1 n1 c1 (wds l1))(h2:Sl w 1 A2 n2 c2 (wds l2)) :
  C3 146 #[.agg #[.int .u64 e1,.slice A1 n1 c1],.agg #[.int .u64 e2,.slice A2 n2 c2]] w λe w'=>e=.returned (.int .i64 (Gl e1 l1 e2 l2))/\Ext w w':=by
 have hR:Gl e1 l1 e2 l2=orT (By n1 n2) (By e1 e2) (Dx l1 l2):=by unfold Gl;rw[h1.wlen,h2.wlen]
 rw[hR];clear hR;go_enter func146,ntmps146
 go_upto_region 1 with fail
 have⟨w0,a⟩:=E9 ((w.alloc (Obj.cells #[Value.int IntKind.u64 e1,Value.slice A1 n1 c1] 26)).alloc (Obj.cells #[Value.int IntKind.u64 e2,Value.slice A2 n2 c2] 26));have x0:Ext w w0:=a▸((Ext.refl w).alloc _).alloc _;have a0:Bk w0 w.heap.size 26 #[Value.int IntKind.u64 e1,Value.slice A1 n1 c1]:=by subst a;exact(Bk.new _ _ _).alloc _
 have b0:Bk w0 (w.heap.size+1) 26 #[Value.int IntKind.u64 e2,Value.slice A2 n2 c2]:=by subst a;exact Bk.at (by simp)
 rw[<-a];clear a;have X:Ext w0 w0.drew:=(Ext.refl w0).drew;have q1:∀y:Xt w0.drew,y.W.cell? ⟨w.heap.size,0,none⟩=some (.int .u64 e1):=λy=>(a0.ext (X.trans y.x)).cell 0;have q2:∀y:Xt w0.drew,y.W.cell? ⟨w.heap.size,1,none⟩=some (.slice A1 n1 c1):=λy=>(a0.ext (X.trans y.x)).cell 1;have q3:∀y:Xt w0.drew,y.W.cell? ⟨w.heap.size+1,0,none⟩=some (.int .u64 e2):=λy=>(b0.ext (X.trans y.x)).cell 0;have q4:∀y:Xt w0.drew,y.W.cell? ⟨w.heap.size+1,1,none⟩=some (.slice A2 n2 c2):=λy=>(b0.ext (X.trans y.x)).cell 1;refine wro [0,1,3,0,8,24,63,0,128,0,512,2047,0,4096,0,16384,65535,131071,262143,524287] (.flo [0,1,2,3,4,5,7,8,9,10,12,13,14,15] (.ext 6 (.ext 11 (.one 16 (.one 17 (.one 18 (.flo [19] (.fin)))))))) ?_
 (refine Aa (pks rfl) ?_;(repeat (go_big_quiet_step (fail)));refine oq ?_)
 refine Ar (pks rfl) ?_;intro K_ c;go_wp2_with (refine(Rq _ _ _).mono ?_;rintro e w1 ⟨rfl,rfl⟩)
 refine An.mk (Ext.refl _) ?_;refine Ar (pks rfl) ?_;intro K_ c;go_wp2_with (refine(Ro _ _ _).mono ?_;rintro e w1 ⟨rfl,rfl⟩)
 refine An.mk (Ext.refl _) ?_;refine Ac (pks rfl) ?_;intro K_ c;go_wp2_with (refine(mE _ _ _ _ _ _ _ _ _ (h1.ext (x0.trans X)) (h2.ext (x0.trans X))).mono ?_;rintro e w1 ⟨rfl,rfl⟩)
 refine Ac (pks rfl) ?_;intro K_ c;go_wp2;refine Ac (pks rfl) ?_;intro K_ c;go_wp2_with (refine(a2d _ _ _ _ _ _ (by exact(Bk.at (by simp)).drew)).mono ?_;rintro e w1 ⟨rfl,x1⟩)
 (refine Aa (pks rfl) ?_;(repeat (go_big_quiet_step (fail)));refine oq ?_)
 refine Ad ?_;go_wp2;go_ret;exact⟨rfl,((x0.trans X).alloc _).trans x1⟩
def Hi(e1:Int)(l1:List Int)(e2:Int)(l2:List Int):Jn e1 l1 e2 l2=true↔l1.length=l2.length/\e1<=e2/\∀k,k<l1.length->l1.getD k 0<=l2.getD k 0:=by
 unfold Jn;exact decide_eq_true_iff
def Ts(e:Int)(l:List Int):Jn e l e l=true:=(Hi _ _ _ _).2 ⟨rfl,DX _,λ_ _=>DX _⟩
def pW(h:Jn e1 l1 e2 l2=true)(k:Jn e2 l2 e3 l3=true):Jn e1 l1 e3 l3=true:=by
 rw[Hi]at *;obtain⟨a1,a2,a3⟩:=h;obtain⟨b1,b2,b3⟩:=k;exact⟨by omega,by omega,λi hi=>DJ (a3 i hi) (b3 i (by omega))⟩
def sP:∀(l m:List Int),l.length=m.length->(∀k,k<l.length->l.getD k 0<=m.getD k 0)->Dx l m<=0
 | [],[],_,_=>DX _
 | [],_::_,h,_=>by simp at h
 | _::_,[],h,_=>by simp at h
 | x::l,y::m,h,hh=>by
  have h0:x<=y:=by simpa using hh 0 (by simp)
  have hr:=sP l m (by simpa using h) (λk hk=>by simpa using hh (k+1) (by simpa using hk));unfold Dx;split
  ·exact hr
  ·unfold By;split
   ·omega
   ·split<;>omega
def dG:∀(l m:List Int),Dx l m=0->l=m
 | [],[],_=>rfl
 | [],_::_,h=>by simp[Dx]at h
 | _::_,[],h=>by simp[Dx]at h
 | x::l,y::m,h=>by
  unfold Dx at h;by_cases hc:By x y=0
  ·rw[if_pos hc]at h;rw[Gx.1 hc,dG l m h]
  ·rw[if_neg hc]at h;exact absurd h hc
def dH:∀l:List Int,Dx l l=0
 | []=>rfl
 | x::l=>by
  unfold Dx;rw[if_pos (Eo x)];exact dH l
def eB:Gl e1 l1 e2 l2=0↔e1=e2/\l1=l2:=by
 constructor
 ·intro h;unfold Gl orT at h;by_cases h1:By (l1.length:Int) l2.length=0
  ·rw[if_pos h1]at h;by_cases h2:By e1 e2=0
   ·rw[if_pos h2]at h;exact⟨Gx.1 h2,dG _ _ h⟩
   ·rw[if_neg h2]at h;exact absurd h h2
  ·rw[if_neg h1]at h;exact absurd h h1
 ·rintro⟨rfl,rfl⟩;simp[Gl,orT,Eo,dH]
def a2o(h:Jn e1 l1 e2 l2=true):Gl e1 l1 e2 l2<=0:=by
 have⟨a1,a2,a3⟩:=(Hi _ _ _ _).1 h;unfold Gl orT;rw[a1,Eo,if_pos rfl];split
 ·exact sP _ _ a1 a3
 ·unfold By;split
  ·omega
  ·split<;>omega
def qK(hl:l1.length=l2.length)(h:∀k,k<l1.length->l1.getD k 0=l2.getD k 0):l1=l2:=(dM hl).1 h
def xJ:(Jn e1 l1 e2 l2=true/\Jn e2 l2 e1 l1=true)↔Gl e1 l1 e2 l2=0:=by
 rw[eB];constructor
 ·rintro⟨h,k⟩;rw[Hi]at h k;obtain⟨a1,a2,a3⟩:=h;obtain⟨b1,b2,b3⟩:=k;exact⟨by omega,qK a1 λi hi=>Int.le_antisymm (a3 i hi) (b3 i (by omega))⟩
 ·rintro⟨rfl,rfl⟩;exact⟨Ts _ _,Ts _ _⟩
end Go.Proofs.YtdgbkpoickbidaaGreatDoor
