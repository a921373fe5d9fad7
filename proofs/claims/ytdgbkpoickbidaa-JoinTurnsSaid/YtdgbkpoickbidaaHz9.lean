/- What comes in at chapter 02: rows. What comes in at chapter 10: lists of updates. What comes in at chapter 14: lists of steps, of a bulk that is bounded. What the bound gives: the texts of the rows of updates that come in. What the bound gives at chapter 14: the texts of the rows of what comes in. penstocklaw14.many: how many updates there are, as far as is looked at. The value of a time in a list. penstocklaw14.much: are there more updates than are looked at? penstocklaw14.alike: have all rows of a side as many columns as its first one? The plain law of penstockref01.long and Runes: a text has no runes just if it is no UTF-8. penstockref01.long: what it answers. penstockref01.Runes: what it answers. penstockref01.Check: it answers what datum.Check answers. penstockref02.Check. Conditions: each theorem states its own. -/
import Derived.Test.YtdgbkpoickbidaaHz8
import Derived.Deep.Slices
import Derived.Test.YtdgbkpoickbidaaHz3
import Derived.Deep.Strs
import Derived.Test.YtdgbkpoickbidaaHz1
import Derived.Deep.LoopGhost
import Derived.Test.YtdgbkpoickbidaaHz2
import Derived.Lib.ValidLaws
namespace Go.Proofs.Ytdgbkpoickbidaa
open Go.ChangeShapes Go.WideShapes Go.ChangeAt Go.RowKit Go.WideElems

instance:Inhabited Dat:=⟨Dat.zero⟩
section
variable {H:Type} {enc:TypeId × Value→H} {W:World}
theorem list4 {α:Type} {l:List α} (h:l.length=4) : ∃ a b c d,l=[a,b,c,d]:=by
 match l,h with
 | [a,b,c,d],_=>exact ⟨a,b,c,d,rfl⟩
theorem one_kind:Try.prog.cellsOf 53=1:=by kernel_rfl
theorem one_bool:Try.prog.cellsOf 4=1:=by kernel_rfl
theorem one_i64:Try.prog.cellsOf 2=1:=by kernel_rfl
theorem one_str:Try.prog.cellsOf 9=1:=by kernel_rfl
theorem four_dat:Try.prog.cellsOf 55=4:=by kernel_rfl
/-- a datum's cells, read -/
theorem come_datC {sp:Nat→Bool} {held:Bool} {fuel:Nat} {cs:List Value} {y:DataW H × List MemPlace} (h:DataW.trod enc Try.prog W 0 sp held fuel 55 cs=some y) :
  ∃ d:Dat,cs=datC d∧InD d∧d.s.size≤9223372036854775807∧(0≤d.k∧d.k≤255):=by
 obtain ⟨y0,y1,y2,y3,n,_,hl,h0,h1,h2,h3⟩:=Go.Joins.trod_struct4 Try.underlying55 h
 rw [four_dat] at hl
 obtain ⟨c0,c1,c2,c3,rfl⟩:=list4 hl
 have g0:DataW.trod enc Try.prog W 0 sp held n 53 [c0]=some y0:=by
  have:DataW.trod enc Try.prog W 0 sp held n 53 (([c0,c1,c2,c3].drop 0).take (Try.prog.cellsOf 53))=some y0:=h0
  rw [one_kind] at this
  exact this
 have g1:DataW.trod enc Try.prog W 0 sp held n 4 [c1]=some y1:=by
  have:DataW.trod enc Try.prog W 0 sp held n 4 (([c0,c1,c2,c3].drop 1).take (Try.prog.cellsOf 4))=some y1:=h1
  rw [one_bool] at this
  exact this
 have g2:DataW.trod enc Try.prog W 0 sp held n 2 [c2]=some y2:=by
  have:DataW.trod enc Try.prog W 0 sp held n 2 (([c0,c1,c2,c3].drop 2).take (Try.prog.cellsOf 2))=some y2:=h2
  rw [one_i64] at this
  exact this
 have g3:DataW.trod enc Try.prog W 0 sp held n 9 [c3]=some y3:=by
  have:DataW.trod enc Try.prog W 0 sp held n 9 (([c0,c1,c2,c3].drop 3).take (Try.prog.cellsOf 9))=some y3:=h3
  rw [one_str] at this
  exact this
 obtain ⟨k,e0,_,w0⟩:=DataW.trod_int Try.underlying53 g0
 obtain ⟨b,e1,_⟩:=DataW.trod_bool Try.underlying4 g1
 obtain ⟨m,e2,_,w2⟩:=DataW.trod_int Try.underlying2 g2
 obtain ⟨s,e3,_,w3⟩:=DataW.trod_string Try.underlying9 g3
 obtain rfl:c0 = .int .u8 k:=by simpa using e0
 obtain rfl:c1 = .bool b:=by simpa using e1
 obtain rfl:c2 = .int .i64 m:=by simpa using e2
 obtain rfl:c3 = .string s:=by simpa using e3
 exact ⟨⟨k,b,m,s⟩,rfl,dwf_i64 w2,w3,wf_u8 w0⟩
/-- what is known of a row that comes in -/
structure RwIn (l:List Dat):Prop where
 txt:RwTxt l
 int:RwInt l
 kind : ∀ d∈l,0≤d.k∧d.k≤255
theorem come_rowC {fuel:Nat} {cs:List Value} {y:DataW H × List MemPlace} (h:DataW.trod enc Try.prog W 0 (fun _=>true) true fuel 49 cs=some y) :
  ∃ A c l,cs=[.slice A l.length c]∧Rw W A c l∧RwIn l:=by
 rcases Go.Deep.open_slice Try.underlying49 h with ⟨hcs,_⟩ | ⟨a,n,c,m,fu,D,Pl,hcs,_,hnc,hcm,hm,_,hx⟩
 ·exact ⟨none,0,[],hcs,Rw.nil W,⟨fun d hd=>(nomatch hd),fun d hd=>(nomatch hd),fun d hd=>(nomatch hd)⟩⟩
 ·rw [four_dat] at hx
  have hmn:n≤m:=by rw [hm];split<;>omega
  obtain ⟨F,hF⟩:=Go.Deep.choose_lt (α:=Dat) (n:=n) (p:=fun i d=>(∀ j,j<4→W.cell? (a.add (i * 4+j))=(datC d)[j]?)∧InD d∧d.s.size≤9223372036854775807∧(0≤d.k∧d.k≤255)) (fun i hi=>by
   obtain ⟨cs',h1,h2⟩:=hx i (by omega)
   obtain ⟨_,_,h3⟩:=World.cells?_some h1
   obtain ⟨d,rfl,h4⟩:=come_datC h2
   exact ⟨d,fun j hj=>by rw [← add_add'];exact h3 j hj,h4⟩)
  have hlen:((List.range n).map F).length=n:=by simp
  have hmem : ∀ d∈(List.range n).map F,InD d∧d.s.size≤9223372036854775807∧(0≤d.k∧d.k≤255):=fun d hd=>by
   obtain ⟨i,hi,rfl⟩:=List.mem_map.1 hd
   exact (hF i (List.mem_range.1 hi)).2
  refine ⟨some a,c,(List.range n).map F,by rw [hlen];exact hcs,⟨by rw [rowC_len],by rw [hlen];exact hnc,hcm,(fun h=>nomatch h),fun _=>⟨a,rfl,fun j u hu=>?_⟩⟩,⟨fun d hd=>(hmem d hd).2.1,fun d hd=>(hmem d hd).1,fun d hd=>(hmem d hd).2.2⟩⟩
  have hj:j<n * 4:=by
   rcases Nat.lt_or_ge j (n * 4) with q | q
   ·exact q
   ·rw [List.getElem?_eq_none (by rw [rowC_len,hlen];exact q)] at hu
    cases hu
  have e:j=j / 4 * 4+j % 4:=by omega
  rw [e,rowC_at _ _ _ (by rw [hlen];omega) (by omega)] at hu
  have e2:((List.range n).map F).getD (j / 4) Dat.zero=F (j / 4):=by
   rw [List.getD_eq_getElem?_getD,List.getElem?_map,List.getElem?_range (by omega)]
   rfl
  rw [e2] at hu
  rw [e,(hF (j / 4) (by omega)).1 (j % 4) (by omega)]
  exact hu
end
end Go.Proofs.Ytdgbkpoickbidaa
namespace Go.Proofs.Ytdgbkpoickbidaa
open Go.ChangeShapes Go.WideShapes Go.ChangeAt Go.RowKit Go.WideElems

section
variable {H:Type} {enc:TypeId × Value→H} {W:World}
theorem one_rowu:Try.prog.cellsOf 49=1:=by kernel_rfl
theorem four_ud:Try.prog.cellsOf 51=4:=by kernel_rfl
/-- what is known of an update that comes in -/
structure UdIn (x:Ud):Prop where
 r:RwIn x.l
 t:TmIn x.t
 d : -9223372036854775808≤x.d∧x.d≤9223372036854775807
theorem come_udC {fuel:Nat} {cs:List Value} {y:DataW H × List MemPlace} (h:DataW.trod enc Try.prog W 0 (fun _=>true) true fuel 51 cs=some y) :
  ∃ x:Ud,cs=udC x∧UdR W x∧UdIn x:=by
 obtain ⟨y0,y1,y2,n,_,hl,h0,h1,h2⟩:=Go.Deep.trod_struct3 Try.underlying51 h
 rw [four_ud] at hl
 obtain ⟨c0,c1,c2,c3,rfl⟩:=list4 hl
 have g0:DataW.trod enc Try.prog W 0 (fun _=>true) true n 49 [c0]=some y0:=by
  have:DataW.trod enc Try.prog W 0 (fun _=>true) true n 49 (([c0,c1,c2,c3].drop 0).take (Try.prog.cellsOf 49))=some y0:=h0
  rw [one_rowu] at this
  exact this
 have g1:DataW.trod enc Try.prog W 0 (fun _=>true) true n 47 [c1,c2]=some y1:=by
  have:DataW.trod enc Try.prog W 0 (fun _=>true) true n 47 (([c0,c1,c2,c3].drop 1).take (Try.prog.cellsOf 47))=some y1:=h1
  rw [two_tm] at this
  exact this
 have g2:DataW.trod enc Try.prog W 0 (fun _=>true) true n 2 [c3]=some y2:=by
  have:DataW.trod enc Try.prog W 0 (fun _=>true) true n 2 (([c0,c1,c2,c3].drop 3).take (Try.prog.cellsOf 2))=some y2:=h2
  rw [one_i64] at this
  exact this
 obtain ⟨A,c,l,e0,r0,i0⟩:=come_rowC g0
 obtain ⟨t,e1,s1,i1⟩:=come_timeC g1
 obtain ⟨k,e2,_,w2⟩:=DataW.trod_int Try.underlying2 g2
 obtain rfl:c0 = .slice A l.length c:=by simpa using e0
 obtain ⟨rfl,rfl⟩:c1 = .int .u64 t.e∧c2 = .slice t.A t.l.length t.c:=by simpa [tmC] using e1
 obtain rfl:c3 = .int .i64 k:=by simpa using e2
 exact ⟨⟨A,c,l,t,k⟩,rfl,⟨r0,s1⟩,⟨i0,i1,dwf_i64 w2⟩⟩
theorem come_udsC {fuel:Nat} {cs:List Value} {y:DataW H × List MemPlace} (h:DataW.trod enc Try.prog W 0 (fun _=>true) true fuel 33 cs=some y) :
  ∃ A c L,cs=[.slice A (List.length L) c]∧Uin W A c L ∧ ∀ x∈L,UdIn x:=by
 rcases Go.Deep.open_slice Try.underlying33 h with ⟨hcs,_⟩ | ⟨a,n,c,m,fu,D,Pl,hcs,_,hnc,hcm,hm,_,hx⟩
 ·exact ⟨none,0,[],hcs,Uin.nil W,fun x hx=>(nomatch hx)⟩
 ·rw [four_ud] at hx
  have hmn:n≤m:=by rw [hm];split<;>omega
  obtain ⟨F,hF⟩:=Go.Deep.choose_lt (α:=Ud) (n:=n) (p:=fun i d=>(∀ j,j<4→W.cell? (a.add (i * 4+j))=(udC d)[j]?)∧UdR W d∧UdIn d) (fun i hi=>by
   obtain ⟨cs',h1,h2⟩:=hx i (by omega)
   obtain ⟨_,_,h3⟩:=World.cells?_some h1
   obtain ⟨d,rfl,h4⟩:=come_udC h2
   exact ⟨d,fun j hj=>by rw [← add_add'];exact h3 j hj,h4⟩)
  have hlen:((List.range n).map F).length=n:=by simp
  have hmem : ∀ d∈(List.range n).map F,UdR W d∧UdIn d:=fun d hd=>by
   obtain ⟨i,hi,rfl⟩:=List.mem_map.1 hd
   exact (hF i (List.mem_range.1 hi)).2
  refine ⟨some a,c,(List.range n).map F,by rw [hlen];exact hcs,⟨⟨by rw [udsC_len],by rw [hlen];exact hnc,hcm,(fun h=>nomatch h),fun _=>⟨a,rfl,fun j u hu=>?_⟩⟩,fun d hd=>(hmem d hd).1⟩,fun d hd=>(hmem d hd).2⟩
  have hj:j<n * 4:=by
   rcases Nat.lt_or_ge j (n * 4) with q | q
   ·exact q
   ·rw [List.getElem?_eq_none (by rw [udsC_len,hlen];exact q)] at hu
    cases hu
  have e:j=j / 4 * 4+j % 4:=by omega
  rw [e,udsC_at _ _ _ (by rw [hlen];omega) (by omega)] at hu
  have e2:((List.range n).map F).getD (j / 4) Ud.zero=F (j / 4):=by
   rw [List.getD_eq_getElem?_getD,List.getElem?_map,List.getElem?_range (by omega)]
   rfl
  rw [e2] at hu
  rw [e,(hF (j / 4) (by omega)).1 (j % 4) (by omega)]
  exact hu
end
end Go.Proofs.Ytdgbkpoickbidaa
namespace Go.Proofs.Ytdgbkpoickbidaa
open Go.ChangeShapes Go.WideShapes Go.ChangeAt Go.RowKit Go.WideElems

/-- a step that lies in memory -/
structure Stp where
 k:Bool
 tA:Option Addr
 tc:Nat
 T:List Tm
 A:Option Addr
 c:Nat
 L:List Ud
 B:Option Addr
 b:Nat
 R:List Ud
def Stp.zero:Stp:=⟨false,none,0,[],none,0,[],none,0,[]⟩
instance:Inhabited Stp:=⟨Stp.zero⟩
def stpC (x:Stp):List Value:=[.bool x.k, .slice x.tA x.T.length x.tc, .slice x.A x.L.length x.c, .slice x.B x.R.length x.b]
def stpsC (M:List Stp):List Value:=M.flatMap stpC
theorem stpsC_len (M:List Stp):(stpsC M).length=M.length * 4:=by
 unfold stpsC
 induction M with
 | nil=>rfl
 | cons d l ih=>rw [List.flatMap_cons,List.length_append,ih,List.length_cons,show (stpC d).length=4 from rfl];omega
theorem stpsC_at : ∀ (M:List Stp) (i j:Nat),i<M.length→j<4→(stpsC M)[i * 4+j]?=(stpC (M.getD i Stp.zero))[j]?
 | [],i,j,h,_=>absurd h (Nat.not_lt_zero _)
 | d :: l,0,j,_,hj=>by
  unfold stpsC
  rw [List.flatMap_cons,Nat.zero_mul,Nat.zero_add,List.getElem?_append_left (by rw [show (stpC d).length=4 from rfl];exact hj)]
  rfl
 | d :: l,i+1,j,h,hj=>by
  unfold stpsC
  rw [List.flatMap_cons,List.getElem?_append_right (by rw [show (stpC d).length=4 from rfl];omega),show (i+1) * 4+j - (stpC d).length=i * 4+j by rw [show (stpC d).length=4 from rfl];omega]
  exact stpsC_at l i j (Nat.lt_of_succ_lt_succ h) hj
/-- what a step refers to lies in memory -/
structure StpR (w:World) (x:Stp):Prop where
 t:Tin w x.tA x.tc x.T
 u:Uin w x.A x.c x.L
 v:Uin w x.B x.b x.R
theorem StpR.ext {w w':World} {x:Stp} (h:StpR w x) (y:Ext w w'):StpR w' x:=⟨h.t.ext y,h.u.ext y,h.v.ext y⟩
/-- what is known of a step that comes in -/
structure StpIn (x:Stp):Prop where
 t : ∀ y∈x.T,TmIn y
 u : ∀ y∈x.L,UdIn y
 v : ∀ y∈x.R,UdIn y
/-- a list of steps as readings give it -/
structure Stin (w:World) (A:Option Addr) (c:Nat) (M:List Stp):Prop where
 sl:Sl w 4 A M.length c (stpsC M)
 ls : ∀ x∈M,StpR w x
theorem Stin.ext {w w':World} {A:Option Addr} {c:Nat} {M:List Stp} (h:Stin w A c M) (x:Ext w w'):Stin w' A c M:=⟨h.sl.ext x,fun y hy=>(h.ls y hy).ext x⟩
theorem getSt_mem {M:List Stp} {i:Nat} (h:i<M.length):M.getD i Stp.zero∈M:=by
 rw [List.getD_eq_getElem?_getD,List.getElem?_eq_getElem h]
 exact List.getElem_mem h
theorem takeSt {M:List Stp} {i:Nat} (h:i<M.length):M.take (i+1)=M.take i++[M.getD i Stp.zero]:=by
 rw [List.take_succ_eq_append_getElem h,List.getD_eq_getElem?_getD,List.getElem?_eq_getElem h];rfl
theorem Stin.at {w:World} {A:Option Addr} {c:Nat} {M:List Stp} (h:Stin w A c M) {i:Nat} (hi:i<M.length) {x:Stp} (hx:M.getD i Stp.zero=x) : ∃ ad,A=some ad∧w.cell? (ad.add (i * 4))=some (.bool x.k)∧w.cell? ⟨(ad.add (i * 4)).block,(ad.add (i * 4)).off+1,none⟩=some (.slice x.tA x.T.length x.tc) ∧
  w.cell? ⟨(ad.add (i * 4)).block,(ad.add (i * 4)).off+2,none⟩=some (.slice x.A x.L.length x.c)∧w.cell? ⟨(ad.add (i * 4)).block,(ad.add (i * 4)).off+3,none⟩=some (.slice x.B x.R.length x.b):=by
 obtain ⟨ad,e,hc⟩:=h.sl.2.2.2.2 (by omega)
 have q : ∀ j v,j<4→(stpC x)[j]?=some v→w.cell? (ad.add (i * 4+j))=some v:=fun j v hj hv=>hc _ v (by rw [stpsC_at M i j hi hj,hx,hv])
 exact ⟨ad,e,q 0 _ (by omega) rfl,by rw [← addr_off _ _ 1 (by omega)];exact q 1 _ (by omega) rfl,by rw [← addr_off _ _ 2 (by omega)];exact q 2 _ (by omega) rfl,by rw [← addr_off _ _ 3 (by omega)];exact q 3 _ (by omega) rfl⟩
section
variable {H:Type} {enc:TypeId × Value→H} {W:World}
theorem list4s {α:Type} {l:List α} (h:l.length=4) : ∃ a b c d,l=[a,b,c,d]:=by
 match l,h with
 | [a,b,c,d],_=>exact ⟨a,b,c,d,rfl⟩
theorem four_st:Try.prog.cellsOf 37=4:=by kernel_rfl
theorem one_bst:Try.prog.cellsOf 4=1:=by kernel_rfl
theorem one_udst:Try.prog.cellsOf 33=1:=by kernel_rfl
theorem one_tmst:Try.prog.cellsOf 35=1:=by kernel_rfl
theorem trod_struct4s {P:Program} {w:World} {base:Nat} {spare:Nat→Bool} {held:Bool} {t:TypeId} {f0 f1 f2 f3:Field} {fuel:Nat} {cs:List Value} {x:DataW H × List MemPlace} (ht:P.underlying t=some (.struct #[f0,f1,f2,f3])) (h:DataW.trod enc P w base spare held fuel t cs=some x) :
  ∃ y0 y1 y2 y3 n,x.1 = .agg [y0.1,y1.1,y2.1,y3.1]∧cs.length=P.cellsOf t∧DataW.trod enc P w base spare held n f0.type ((cs.drop f0.offset).take (P.cellsOf f0.type))=some y0 ∧
   DataW.trod enc P w base spare held n f1.type ((cs.drop f1.offset).take (P.cellsOf f1.type))=some y1∧DataW.trod enc P w base spare held n f2.type ((cs.drop f2.offset).take (P.cellsOf f2.type))=some y2 ∧
   DataW.trod enc P w base spare held n f3.type ((cs.drop f3.offset).take (P.cellsOf f3.type))=some y3:=by
 obtain ⟨xs,n,_,rfl,hl,hlen,hf⟩:=DataW.trod_struct ht h
 match xs,hlen with
 | [y0,y1,y2,y3],_=>exact ⟨y0,y1,y2,y3,n,by simp,hl,by simpa using hf 0 f0 rfl,by simpa using hf 1 f1 rfl,by simpa using hf 2 f2 rfl,by simpa using hf 3 f3 rfl⟩
/-- so much holds a step at the most -/
def stpB (x:Stp) (b:Nat):Prop:=x.T.length≤b∧x.L.length≤b∧x.R.length≤b
set_option maxRecDepth 100000 in
theorem come_stC {fuel:Nat} {cs:List Value} {y:DataW H × List MemPlace} (h:DataW.trod enc Try.prog W 0 (fun _=>true) true fuel 37 cs=some y) :
  ∃ x:Stp,cs=stpC x∧StpR W x∧StpIn x∧stpB x (Rows.uptoBulk y.1):=by
 obtain ⟨y0,y1,y2,y3,n,hy,hl,h0,h1,h2,h3⟩:=trod_struct4s Try.underlying37 h
 rw [four_st] at hl
 obtain ⟨c0,c1,c2,c3,rfl⟩:=list4s hl
 have g0:DataW.trod enc Try.prog W 0 (fun _=>true) true n 4 [c0]=some y0:=by
  have:DataW.trod enc Try.prog W 0 (fun _=>true) true n 4 (([c0,c1,c2,c3].drop 0).take (Try.prog.cellsOf 4))=some y0:=h0
  rw [one_bst] at this
  exact this
 have g1:DataW.trod enc Try.prog W 0 (fun _=>true) true n 35 [c1]=some y1:=by
  have:DataW.trod enc Try.prog W 0 (fun _=>true) true n 35 (([c0,c1,c2,c3].drop 1).take (Try.prog.cellsOf 35))=some y1:=h1
  rw [one_tmst] at this
  exact this
 have g2:DataW.trod enc Try.prog W 0 (fun _=>true) true n 33 [c2]=some y2:=by
  have:DataW.trod enc Try.prog W 0 (fun _=>true) true n 33 (([c0,c1,c2,c3].drop 2).take (Try.prog.cellsOf 33))=some y2:=h2
  rw [one_udst] at this
  exact this
 have g3:DataW.trod enc Try.prog W 0 (fun _=>true) true n 33 [c3]=some y3:=by
  have:DataW.trod enc Try.prog W 0 (fun _=>true) true n 33 (([c0,c1,c2,c3].drop 3).take (Try.prog.cellsOf 33))=some y3:=h3
  rw [one_udst] at this
  exact this
 obtain ⟨k,e0,_⟩:=DataW.trod_bool Try.underlying4 g0
 obtain ⟨tA,tc,T,e1,s1,i1⟩:=come_timesC g1
 obtain ⟨A,c,L,e2,s2,i2⟩:=come_udsC g2
 obtain ⟨B,b,R,e3,s3,i3⟩:=come_udsC g3
 obtain rfl:c0 = .bool k:=by simpa using e0
 obtain rfl:c1 = .slice tA T.length tc:=by simpa using e1
 obtain rfl:c2 = .slice A L.length c:=by simpa using e2
 obtain rfl:c3 = .slice B R.length b:=by simpa using e3
 have b1:=slice_bulk Try.underlying35 g1
 have b2:=slice_bulk Try.underlying33 g2
 have b3:=slice_bulk Try.underlying33 g3
 have p1:=bulk_part (d:=y1.1) (l:=[y0.1,y1.1,y2.1,y3.1]) (by simp)
 have p2:=bulk_part (d:=y2.1) (l:=[y0.1,y1.1,y2.1,y3.1]) (by simp)
 have p3:=bulk_part (d:=y3.1) (l:=[y0.1,y1.1,y2.1,y3.1]) (by simp)
 refine ⟨⟨k,tA,tc,T,A,c,L,B,b,R⟩,rfl,⟨s1,s2,s3⟩,⟨i1,i2,i3⟩,?_⟩
 rw [hy]
 unfold stpB
 simp only [Rows.uptoBulk]
 exact ⟨by omega,by omega,by omega⟩
set_option maxRecDepth 100000 in
theorem come_steps {base:Nat} {v:Value} {d:DataW H} {p:List MemPlace} (hv:Value.okWide Try.prog W .any base 23 v) (h:DataW.Trod enc Try.prog W 0 (fun _=>true) true 23 v d p) :
  ∃ A c M,v = .slice A (List.length M) c∧Stin W A c M∧(∀ x∈M,StpIn x∧stpB x (Rows.uptoBulk d))∧M.length≤Rows.uptoBulk d:=by
 obtain ⟨fuel,hf⟩:=h
 obtain ⟨A',n',c',rfl⟩:=okWide_slice Try.underlying23 hv
 have hbl:=slice_bulk Try.underlying23 hf
 rcases Go.Deep.open_slice Try.underlying23 hf with ⟨hcs,_⟩ | ⟨a,n,c,m,fu,D,Pl,hcs,_,hnc,hcm,hm,hy,hx⟩
 ·have e:(Value.slice A' n' c') = .slice none 0 0:=by injection hcs
  obtain ⟨rfl,rfl,rfl⟩:A'=none∧n'=0∧c'=0:=by simpa using e
  exact ⟨none,0,[],rfl,⟨Sl.nil W 4,fun x hx=>(nomatch hx)⟩,fun x hx=>(nomatch hx),Nat.zero_le _⟩
 ·have e:(Value.slice A' n' c') = .slice (some a) n c:=by injection hcs
  obtain ⟨rfl,rfl,rfl⟩:A'=some a∧n'=n∧c'=c:=by simpa using e
  rw [four_st] at hx
  have hmn:n'≤m:=by rw [hm];split<;>omega
  have e2:d=DataW.slice ((List.range n').map D) ((List.range (m - n')).map fun j=>D (n'+j)):=by injection hy
  obtain ⟨F,hF⟩:=Go.Deep.choose_lt (α:=Stp) (n:=n') (p:=fun i x=>(∀ j,j<4→W.cell? (a.add (i * 4+j))=(stpC x)[j]?)∧StpR W x∧StpIn x∧stpB x (Rows.uptoBulk (D i))) (fun i hi=>by
   obtain ⟨cs',h1,h2⟩:=hx i (by omega)
   obtain ⟨_,_,h3⟩:=World.cells?_some h1
   obtain ⟨x,rfl,h4⟩:=come_stC h2
   exact ⟨x,fun j hj=>by rw [← add_add'];exact h3 j hj,h4⟩)
  have hlen:((List.range n').map F).length=n':=by simp
  have hb : ∀ i,i<n'→Rows.uptoBulk (D i)≤Rows.uptoBulk d:=fun i hi=>by
   have:=bulk_part (d:=D i) (l:=(List.range n').map D) (List.mem_map.2 ⟨i,List.mem_range.2 hi,rfl⟩)
   rw [e2]
   simp only [Rows.uptoBulk]
   omega
  have hmem : ∀ x∈(List.range n').map F,StpR W x∧StpIn x∧stpB x (Rows.uptoBulk d):=fun x hx=>by
   obtain ⟨i,hi,rfl⟩:=List.mem_map.1 hx
   have h:=(hF i (List.mem_range.1 hi)).2
   have:=hb i (List.mem_range.1 hi)
   exact ⟨h.1,h.2.1,Nat.le_trans h.2.2.1 this,Nat.le_trans h.2.2.2.1 this,Nat.le_trans h.2.2.2.2 this⟩
  refine ⟨some a,c',(List.range n').map F,by rw [hlen],⟨⟨by rw [stpsC_len],by rw [hlen];exact hnc,hcm,(fun h=>nomatch h),fun _=>⟨a,rfl,fun j u hu=>?_⟩⟩,fun x hx=>(hmem x hx).1⟩,fun x hx=>(hmem x hx).2,by rw [hlen];exact hbl⟩
  have hj:j<n' * 4:=by
   rcases Nat.lt_or_ge j (n' * 4) with q | q
   ·exact q
   ·rw [List.getElem?_eq_none (by rw [stpsC_len,hlen];exact q)] at hu
    cases hu
  have e:j=j / 4 * 4+j % 4:=by omega
  rw [e,stpsC_at _ _ _ (by rw [hlen];omega) (by omega)] at hu
  have e2:((List.range n').map F).getD (j / 4) Stp.zero=F (j / 4):=by
   rw [List.getD_eq_getElem?_getD,List.getElem?_map,List.getElem?_range (by omega)]
   rfl
  rw [e2] at hu
  rw [e,(hF (j / 4) (by omega)).1 (j % 4) (by omega)]
  exact hu
end
end Go.Proofs.Ytdgbkpoickbidaa
namespace Go.Proofs.Ytdgbkpoickbidaa
open Go.ChangeShapes Go.WideShapes Go.ChangeAt Go.RowKit Go.WideElems

section
variable {H:Type} {enc:TypeId × Value→H} {W:World}
end
end Go.Proofs.Ytdgbkpoickbidaa
namespace Go.Proofs.Ytdgbkpoickbidaa
open Go.ChangeShapes Go.WideShapes Go.ChangeAt Go.RowKit Go.WideElems

section
variable {H:Type} {enc:TypeId × Value→H} {W:World}
/-- a step's texts -/
def stpX (x:Stp) (b:Nat):Prop:=(∀ u∈x.L, ∀ t∈u.l,t.s.size≤b) ∧ ∀ u∈x.R, ∀ t∈u.l,t.s.size≤b
end
open Go.RowKit
def ycost (y:Ud):Nat:=y.l.length / 16+y.t.l.length / 4
def lcost (L:List Ud) (k:Nat):Nat:=((L.take k).map ycost).sum
theorem lcost_succ {L:List Ud} {k:Nat} (h:k<L.length):lcost L (k+1)=lcost L k+ycost (L.getD k Ud.zero):=by
 unfold lcost
 rw [takeU h,List.map_append,List.sum_append]
 simp
/-- a number that, if it is small, is no less than a sum -/
def Most (E N:Nat):Prop:=N≤120→E≤N
set_option maxRecDepth 100000 in
set_option maxHeartbeats 16000000 in
theorem many_any (A:Option Addr) (c n k:Nat) (L:List Ud) (w:World) (hn:Hid (n=L.length)) (hL:Hid (Uin w A c L)) (h9:n≤140737488355328) (hk:k≤4611686018427387904) :
  Calls Try.prog 14 #[.slice A n c, .int .i64 k] w fun e w' => ∃ N:Nat,e = .returned (.int .i64 N)∧Most (k+n+lcost L n) N∧(N≤4611686018427387904∨N≤k+n)∧Ext w w':=by
 go_enter Try.func14,Try.ntmps14
 go_wp2
 go_loopg [1,5] n (fun z v1 v5 wr => ∃ (i N:Nat),z=n - i∧i≤n∧v5 = .int .i64 i∧v1 = .int .i64 N∧(N≤4611686018427387904∨N≤k+n)∧Hid (Most (k+n+lcost L i) N)∧Hid (Ext w wr))
 case atStart=>exact ⟨0,k+n,rfl,Nat.zero_le _,rfl,by go_num, .inr (Nat.le_refl _),Lib.hid (fun _=>by unfold lcost;simp),Lib.hid (Ext.refl _)⟩
 case round =>
  obtain ⟨i,N,rfl,hi,rfl,rfl,hN,HC,HE⟩:=hrel
  by_cases hlt:i<n
  ·by_cases h120:N≤120
   ·have hiL:i<L.length:=by rw [← hn.out];exact hlt
    have HIL:=Lib.hid hiL
    obtain ⟨ad,rfl,r0,_,r2,_⟩:=(hL.out.ext HE.out).at hiL
    have hc1:=(hL.out.ls _ (getU_mem hiL)).r.cap
    have hc2:=(hL.out.ls _ (getU_mem hiL)).t.cap
    obtain ⟨y,hy⟩ : ∃ y,L.getD i Ud.zero=y:=⟨_,rfl⟩
    rw [hy] at r0 r2 hc1 hc2
    have HY:=Lib.hid hy
    obtain ⟨yr,hyr⟩ : ∃ k,y.l.length=k:=⟨_,rfl⟩
    obtain ⟨yt,hyt⟩ : ∃ k,y.t.l.length=k:=⟨_,rfl⟩
    rw [hyr] at r0 hc1
    rw [hyt] at r2 hc2
    have HYR:=Lib.hid hyr
    have HYT:=Lib.hid hyt
    clear hy hyr hyt hiL
    have X:Ext wr wr.drew:=(Ext.refl wr).drew
    have R0 : ∀ z:Xt wr.drew,z.W.cell? (ad.add (i * 4))=some (.slice y.A yr y.c):=fun z=>(X.trans z.x).cell r0
    have R2 : ∀ z:Xt wr.drew,z.W.cell? ⟨(ad.add (i * 4)).block,(ad.add (i * 4)).off+2,none⟩=some (.slice y.t.A yt y.t.c):=fun z=>(X.trans z.x).cell r2
    go_upto_region 5 with fail
    refine wp_region_ord [0,0,0,6,14,30,62,126,0,0,768,1792,3840,7936,16128,32512,65534,131071,262143] (.flo [0,1,2,3,4,5,6,7,8,9,10,11,12,13,14,15,16,17,18] (.fin)) (by kernel_rfl) (by kernel_rfl) (by intro _ _ d _ _ h;cases d<;>exact h) ?_
    (refine ord_flo (pick_cons rfl (pick_cons rfl (pick_cons rfl (pick_cons rfl (pick_cons rfl (pick_cons rfl (pick_cons rfl (pick_cons rfl (pick_cons rfl (pick_cons rfl (pick_cons rfl (pick_cons rfl (pick_cons rfl (pick_cons rfl (pick_cons rfl (pick_cons rfl (pick_cons rfl (pick_cons rfl (pick_cons rfl pick_nil))))))))))))))))))) ?_;(repeat (go_big_quiet_step (fail)));refine wpQuiet_nil ?_;show ordWalk _ _ _ _ _ _ _)
    refine ord_fin ?_
    clear R0 R2 r0 r2
    go_wp2
    go_roundg (n - (i+1))
    case measure=>omega
    case rel=>exact ⟨i+1,N+(yr / 16+yt / 4),by omega,by omega,by go_num,by go_num, .inl (by omega),Lib.hid (fun h=>by have:=HC.out (by omega);rw [lcost_succ HIL.out,HY.out];unfold ycost;rw [HYR.out,HYT.out];omega),Lib.hid (HE.out.trans X)⟩
   ·have hgt:((N:Int)≤120)=False:=by simp;omega
    go_wp2
    go_ret
    exact ⟨N,rfl,fun h=>absurd h h120,hN,HE.out⟩
  ·obtain rfl:i=n:=by omega
   go_wp2
   go_ret
   exact ⟨N,rfl,HC.out,hN,HE.out⟩
open Go.RowKit
open Go.RowKit
theorem takeTmJ {T:List Tm} {i:Nat} (h:i<T.length):T.take (i+1)=T.take i++[T.getD i Tm.zero]:=by
 rw [List.take_succ_eq_append_getElem h,List.getD_eq_getElem?_getD,List.getElem?_eq_getElem h];rfl
def tcost (T:List Tm) (k:Nat):Nat:=((T.take k).map fun y=>y.l.length / 4).sum
theorem tcost_succ {T:List Tm} {k:Nat} (h:k<T.length):tcost T (k+1)=tcost T k+(T.getD k Tm.zero).l.length / 4:=by
 unfold tcost
 rw [takeTmJ h,List.map_append,List.sum_append]
 simp
def scost (x:Stp):Nat:=x.T.length+(x.L.length+lcost x.L x.L.length)+(x.R.length+lcost x.R x.R.length)+tcost x.T x.T.length
def scosts (M:List Stp) (i:Nat):Nat:=((M.take i).map scost).sum
theorem scosts_succ {M:List Stp} {k:Nat} (h:k<M.length):scosts M (k+1)=scosts M k+scost (M.getD k Stp.zero):=by
 unfold scosts
 rw [takeSt h,List.map_append,List.sum_append]
 simp
/-- few enough -/
def Few (M:List Stp):Prop:=M.length+scosts M M.length≤120
theorem scosts_le (M:List Stp) (i:Nat):scosts M i≤scosts M M.length:=by
 have h:scosts M M.length=scosts M i+((M.drop i).map scost).sum:=by
  unfold scosts
  rw [← List.sum_append, ← List.map_append,List.take_append_drop,List.take_length]
 omega
set_option maxRecDepth 100000 in
set_option maxHeartbeats 16000000 in
theorem much14_any (A:Option Addr) (c n:Nat) (M:List Stp) (w:World) (hn:Hid (n=M.length)) (hM:Hid (Stin w A c M)) (hb:Hid (∀ x∈M,stpB x 140737488355328)) (h9:n≤140737488355328) :
  Calls Try.prog 4 #[.slice A n c] w fun e w' => ∃ b,e = .returned (.bool b)∧(b=false→Few M)∧Ext w w':=by
 go_enter Try.func4,Try.ntmps4
 go_wp2
 go_loopg [3,4] n (fun z v3 v4 wr => ∃ (i N:Nat),z=n - i∧i≤n∧v4 = .int .i64 i∧v3 = .int .i64 N∧N≤4620000000000000000∧Hid (Most (n+scosts M i) N)∧Hid (Ext w wr))
 case atStart=>exact ⟨0,n,rfl,Nat.zero_le _,rfl,rfl,by omega,Lib.hid (fun _=>by unfold scosts;simp),Lib.hid (Ext.refl _)⟩
 case round =>
  obtain ⟨i,N,rfl,hi,rfl,rfl,hN,HC,HE⟩:=hrel
  by_cases hlt:i<n
  ·by_cases h120:N≤120
   ·have hiM:i<M.length:=by rw [← hn.out];exact hlt
    have HIM:=Lib.hid hiM
    obtain ⟨x,hx⟩ : ∃ x,M.getD i Stp.zero=x:=⟨_,rfl⟩
    have hxm:x∈M:=hx ▸ getSt_mem hiM
    obtain ⟨ad,rfl,_,q1,q2,q3⟩:=(hM.out.ext HE.out).at hiM hx
    have HXR:Hid (StpR wr x):=Lib.hid ((hM.out.ls x hxm).ext HE.out)
    obtain ⟨hl1,hl2,hl3⟩:=hb.out x hxm
    have HX:=Lib.hid hx
    obtain ⟨nT,hnT⟩ : ∃ k,x.T.length=k:=⟨_,rfl⟩
    obtain ⟨nL,hnL⟩ : ∃ k,x.L.length=k:=⟨_,rfl⟩
    obtain ⟨nR,hnR⟩ : ∃ k,x.R.length=k:=⟨_,rfl⟩
    rw [hnT] at q1 hl1
    rw [hnL] at q2 hl2
    rw [hnR] at q3 hl3
    have HNT:=Lib.hid hnT
    have HNL:=Lib.hid hnL.symm
    have HNR:=Lib.hid hnR.symm
    clear hnL hnT hnR hx hxm hiM
    have X:Ext wr wr.drew:=(Ext.refl wr).drew
    have Q1 : ∀ z:Xt wr.drew,z.W.cell? ⟨(ad.add (i * 4)).block,(ad.add (i * 4)).off+1,none⟩=some (.slice x.tA nT x.tc):=fun z=>(X.trans z.x).cell q1
    have Q2 : ∀ z:Xt wr.drew,z.W.cell? ⟨(ad.add (i * 4)).block,(ad.add (i * 4)).off+2,none⟩=some (.slice x.A nL x.c):=fun z=>(X.trans z.x).cell q2
    have Q3 : ∀ z:Xt wr.drew,z.W.cell? ⟨(ad.add (i * 4)).block,(ad.add (i * 4)).off+3,none⟩=some (.slice x.B nR x.b):=fun z=>(X.trans z.x).cell q3
    go_upto_region 5 with fail
    refine wp_region_ord [0,0,3,7,15,0,0,96,224,480,0,0,0,6144,14336,30720,63488,130048,262112,524287,1048575] (.flo [0,1,2,3,4,5,6,7,8,9,10,11,12,13,14,15,16,17] (.ext 18 (.one 19 (.flo [20] (.fin))))) (by kernel_rfl) (by kernel_rfl) (by intro _ _ d _ _ h;cases d<;>exact h) ?_
    (refine ord_flo (pick_cons rfl (pick_cons rfl (pick_cons rfl (pick_cons rfl (pick_cons rfl (pick_cons rfl (pick_cons rfl (pick_cons rfl (pick_cons rfl (pick_cons rfl (pick_cons rfl (pick_cons rfl (pick_cons rfl (pick_cons rfl (pick_cons rfl (pick_cons rfl (pick_cons rfl (pick_cons rfl pick_nil)))))))))))))))))) ?_;(repeat (go_big_quiet_step (fail)));refine wpQuiet_nil ?_;show ordWalk _ _ _ _ _ _ _)
    refine ord_ext (pick_cons rfl pick_nil) ?_;intro K_ hK_
    have hcast:((N+nT:Nat):Int)=(N:Int)+(nT:Int):=by omega
    go_wp2_with (go_at_call 14;rw [← hcast];refine (many_any x.A x.c nL (N+nT) x.L wr.drew HNL (Lib.hid (HXR.out.u.ext X)) hl2 (by omega)).mono ?_;rintro e w1 ⟨N1,rfl,m1,hN1,x1⟩;have HM1:=Lib.hid m1;have X1:=Lib.hid x1;clear m1 x1)
    refine ordNext.mk X1.out ?_
    refine ord_one (pick_cons rfl pick_nil) ?_;intro K_ hK_
    go_wp2_with (go_at_call 14;refine (many_any x.B x.b nR N1 x.R w1 HNR (Lib.hid (HXR.out.v.ext (X.trans X1.out))) hl3 (by omega)).mono ?_;rintro e w2 ⟨N2,rfl,m2,hN2,x2⟩;have HM2:=Lib.hid m2;have X2:=Lib.hid (X.trans (X1.out.trans x2));clear m2 x2)
    (refine ord_flo (pick_cons rfl pick_nil) ?_;(repeat (go_big_quiet_step (fail)));refine wpQuiet_nil ?_;show ordWalk _ _ _ _ _ _ _)
    refine ord_fin ?_
    clear Q1 Q2 Q3
    have HT:Hid (Tin w2 x.tA x.tc x.T):=Lib.hid (HXR.out.t.ext X2.out)
    have D1:Hid (∀ W,Ext w2 W→W.cell? ⟨(ad.add (i * 4)).block,(ad.add (i * 4)).off+1,none⟩=some (.slice x.tA nT x.tc)):=Lib.hid (fun W y=>(X2.out.trans y).cell q1)
    have HMM:Hid (Most (n+scosts M i+(nT+(nL+lcost x.L nL)+(nR+lcost x.R nR))) N2):=Lib.hid (fun h=>by
     have h2:=HM2.out h
     have h1:=HM1.out (by omega)
     have h0:=HC.out h120
     omega)
    have hN2':N2≤4620000000000000000:=by omega
    clear q1 q2 q3 X hN1 hN2 hcast
    go_wp2
    go_loopg [3,5] nT (fun z v3 v5 wp => ∃ (k N3:Nat),z=nT - k∧k≤nT∧v5 = .int .i64 k∧v3 = .int .i64 N3∧N3≤4620000000000000000∧Hid (Most (n+scosts M i+(nT+(nL+lcost x.L nL)+(nR+lcost x.R nR)+tcost x.T k)) N3)∧Hid (Ext w2 wp))
    case atStart=>exact ⟨0,N2,rfl,Nat.zero_le _,rfl,rfl,hN2',Lib.hid (fun h=>by have:=HMM.out h;unfold tcost;simp;omega),Lib.hid (Ext.refl _)⟩
    case round =>
     obtain ⟨k,N3,rfl,hk,rfl,rfl,hN3,HK,HP⟩:=hrel
     have q1:=D1.out _ HP.out
     by_cases hlk:k<nT
     ·by_cases h303:N3≤120
      ·have hkT:k<x.T.length:=by rw [HNT.out];exact hlk
       have HKT:=Lib.hid hkT
       obtain ⟨ad2,e2,_,r1⟩:=(HT.out.ext HP.out).at hkT
       have hc1:=(HT.out.ls _ (getT_mem hkT)).cap
       obtain ⟨y,hy⟩ : ∃ y,x.T.getD k Tm.zero=y:=⟨_,rfl⟩
       rw [hy] at r1 hc1
       have HY:=Lib.hid hy
       obtain ⟨yt,hyt⟩ : ∃ k,y.l.length=k:=⟨_,rfl⟩
       rw [hyt] at r1 hc1
       have HYT:=Lib.hid hyt
       rw [e2] at q1
       clear hy hyt hkT e2
       go_wp2
       go_roundg (nT - (k+1))
       case measure=>omega
       case rel=>exact ⟨k+1,N3+yt / 4,by omega,by omega,by go_num,by go_num,by omega,Lib.hid (fun h=>by have:=HK.out (by omega);rw [tcost_succ HKT.out,HY.out,HYT.out];omega),HP⟩
      ·have hgt:((N3:Int)≤120)=False:=by simp;omega
       go_wp2
       go_roundg (n - (i+1))
       case measure=>omega
       case rel=>exact ⟨i+1,N3,by omega,by omega,by go_num,rfl,hN3,Lib.hid (fun h=>absurd h h303),Lib.hid ((HE.out.trans X2.out).trans HP.out)⟩
     ·go_wp2
      go_roundg (n - (i+1))
      case measure=>omega
      case rel=>exact ⟨i+1,N3,by omega,by omega,by go_num,rfl,hN3,Lib.hid (fun h=>by
       have:=HK.out h
       rw [scosts_succ HIM.out,HX.out]
       unfold scost
       rw [← HNL.out, ← HNR.out,HNT.out]
       rw [show k=nT by omega] at this
       omega),Lib.hid ((HE.out.trans X2.out).trans HP.out)⟩
   ·have hgt:((N:Int)≤120)=False:=by simp;omega
    have h120':(120:Int)<(N:Int):=by omega
    go_wp2
    go_ret
    exact ⟨_,rfl,fun h=>by simp at h,HE.out⟩
  ·obtain rfl:i=n:=by omega
   go_wp2
   go_ret
   refine ⟨_,rfl,fun h=>?_,HE.out⟩
   have h2:=of_decide_eq_false h
   have:=HC.out (by omega)
   unfold Few
   rw [← hn.out]
   omega
open Go.RowKit
/-- a number that is the length of all rows so far, or -1 -/
def Alk (a:Int) (S:List Ud):Prop:=(∀ u∈S,(u.l.length:Int)=a)∧(a = -1 ∨ ∃ u∈S,(u.l.length:Int)=a)
/-- the length of all rows, 0 where there is none -/
def AlkF (a:Int) (S:List Ud):Prop:=(∀ u∈S,(u.l.length:Int)=a)∧(a=0 ∨ ∃ u∈S,(u.l.length:Int)=a)
def lefts (M:List Stp):List Ud:=M.flatMap Stp.L
def rights (M:List Stp):List Ud:=M.flatMap Stp.R
theorem Alk.snoc {a:Int} {S:List Ud} {y:Ud} (h:Alk a S) (ha:0≤a→a=y.l.length):Alk y.l.length (S++[y]):=⟨fun u hu=>by
 rcases List.mem_append.1 hu with q | q
 ·have:=h.1 u q
  have:=ha (by omega)
  omega
 ·rw [List.mem_singleton.1 q], .inr ⟨y,by simp,rfl⟩⟩
theorem Alk.fin {a b:Int} {S:List Ud} (h:Alk a S) (hb:(0≤a∧b=a)∨(a<0∧b=0)):AlkF b S:=by
 rcases hb with ⟨h0,rfl⟩ | ⟨h0,rfl⟩
 ·exact ⟨h.1,h.2.imp (fun e=>by omega) id⟩
 ·exact ⟨fun u hu=>by have:=h.1 u hu;omega, .inl rfl⟩
theorem lefts_succ {M:List Stp} {k:Nat} (h:k<M.length):lefts (M.take (k+1))=lefts (M.take k)++(M.getD k Stp.zero).L:=by
 unfold lefts
 rw [takeSt h,List.flatMap_append]
 simp
theorem rights_succ {M:List Stp} {k:Nat} (h:k<M.length):rights (M.take (k+1))=rights (M.take k)++(M.getD k Stp.zero).R:=by
 unfold rights
 rw [takeSt h,List.flatMap_append]
 simp
/-- what alike tells -/
def AlkOut (M:List Stp) (e:Ending):Prop := ∃ (n m:Int) (is:Bool),e = .returned (.tuple #[.int .i64 n, .int .i64 m, .bool is])∧(is=true→(0≤n∧n≤9223372036854775807)∧(0≤m∧m≤9223372036854775807)∧AlkF n (lefts M)∧AlkF m (rights M))
set_option maxRecDepth 100000 in
set_option maxHeartbeats 16000000 in
theorem alike_any (A:Option Addr) (c n:Nat) (M:List Stp) (w:World) (hn:Hid (n=M.length)) (hM:Hid (Stin w A c M)) (hb:Hid (∀ x∈M,stpB x 140737488355328)) (h9:n≤140737488355328) :
  Calls Try.prog 7 #[.slice A n c] w fun e w'=>AlkOut M e∧Ext w w':=by
 go_enter Try.func7,Try.ntmps7
 go_wp2
 go_loopg [5,6,7] n (fun z v5 v6 v7 wr => ∃ (i:Nat) (a b:Int),z=n - i∧i≤n∧v7 = .int .i64 i∧v5 = .int .i64 a∧v6 = .int .i64 b∧(-1≤a∧a≤9223372036854775807)∧(-1≤b∧b≤9223372036854775807)∧Hid (Alk a (lefts (M.take i))∧Alk b (rights (M.take i)))∧Hid (Ext w wr))
 case atStart=>exact ⟨0, -1, -1,rfl,Nat.zero_le _,rfl,rfl,rfl,by omega,by omega,Lib.hid ⟨⟨fun u hu=>(nomatch hu), .inl rfl⟩,⟨fun u hu=>(nomatch hu), .inl rfl⟩⟩,Lib.hid (Ext.refl _)⟩
 case round =>
  obtain ⟨i,a,b,rfl,hi,rfl,rfl,rfl,ha,hb0,HC,HE⟩:=hrel
  by_cases hlt:i<n
  ·have hiM:i<M.length:=by rw [← hn.out];exact hlt
   have HIM:=Lib.hid hiM
   obtain ⟨x,hx⟩ : ∃ x,M.getD i Stp.zero=x:=⟨_,rfl⟩
   have hxm:x∈M:=hx ▸ getSt_mem hiM
   obtain ⟨ad,hA,_,_,q2,q3⟩:=(hM.out.ext HE.out).at hiM hx
   have HXR:Hid (StpR wr x):=Lib.hid ((hM.out.ls x hxm).ext HE.out)
   obtain ⟨_,hl2,hl3⟩:=hb.out x hxm
   have HX:=Lib.hid hx
   obtain ⟨nL,hnL⟩ : ∃ k,x.L.length=k:=⟨_,rfl⟩
   obtain ⟨nR,hnR⟩ : ∃ k,x.R.length=k:=⟨_,rfl⟩
   rw [hnL] at q2 hl2
   rw [hnR] at q3 hl3
   have HNL:=Lib.hid hnL
   have HNR:=Lib.hid hnR
   obtain ⟨xA,hxA⟩ : ∃ k,x.A=k:=⟨_,rfl⟩
   obtain ⟨xc,hxc⟩ : ∃ k,x.c=k:=⟨_,rfl⟩
   obtain ⟨xB,hxB⟩ : ∃ k,x.B=k:=⟨_,rfl⟩
   obtain ⟨xb,hxb⟩ : ∃ k,x.b=k:=⟨_,rfl⟩
   rw [hxA,hxc] at q2
   rw [hxB,hxb] at q3
   have HU:Hid (Uin wr xA xc x.L):=Lib.hid (by rw [← hxA, ← hxc];exact HXR.out.u)
   have HV:Hid (Uin wr xB xb x.R):=Lib.hid (by rw [← hxB, ← hxb];exact HXR.out.v)
   clear hxA hxc hxB hxb
   have D2:Hid (∀ W,Ext wr W→W.cell? ⟨(ad.add (i * 4)).block,(ad.add (i * 4)).off+2,none⟩=some (.slice xA nL xc)):=Lib.hid (fun W y=>y.cell q2)
   have D3:Hid (∀ W,Ext wr W→W.cell? ⟨(ad.add (i * 4)).block,(ad.add (i * 4)).off+3,none⟩=some (.slice xB nR xb)):=Lib.hid (fun W y=>y.cell q3)
   rw [hA]
   clear hnL hnR hx hxm hiM q2 q3
   obtain ⟨wo,rfl⟩ : ∃ x,x=wr:=⟨_,rfl⟩
   go_wp2
   go_loopg [5,8] nL (fun z v5 v8 wq => ∃ (k:Nat) (a2:Int),z=nL - k∧k≤nL∧v8 = .int .i64 k∧v5 = .int .i64 a2∧(-1≤a2∧a2≤9223372036854775807)∧Hid (Alk a2 (lefts (M.take i)++x.L.take k))∧Hid (Ext wo wq))
   case atStart=>exact ⟨0,a,rfl,Nat.zero_le _,rfl,rfl,ha,Lib.hid (by rw [List.take_zero,List.append_nil];exact HC.out.1),Lib.hid (Ext.refl _)⟩
   case round =>
    obtain ⟨k,a2,rfl,hk,rfl,rfl,ha2,HJ,HQ⟩:=hrel
    have q2:=D2.out _ HQ.out
    by_cases hlk:k<nL
    ·have hkL:k<x.L.length:=by rw [HNL.out];exact hlk
     have HKL:=Lib.hid hkL
     obtain ⟨ad2,e2,r0,_⟩:=(HU.out.ext HQ.out).at hkL
     have hc1:=(HU.out.ls _ (getU_mem hkL)).r.cap
     obtain ⟨y,hy⟩ : ∃ y,x.L.getD k Ud.zero=y:=⟨_,rfl⟩
     rw [hy] at r0 hc1
     have HY:=Lib.hid hy
     obtain ⟨yr,hyr⟩ : ∃ k,y.l.length=k:=⟨_,rfl⟩
     rw [hyr] at r0 hc1
     have HYR:=Lib.hid hyr
     rw [e2] at q2
     clear hy hyr hkL e2
     by_cases h0:0≤a2
     ·by_cases h1:a2=yr
      ·have hne:((a2:Int) != (yr:Int))=false:=by simpa using h1
       go_wp2
       go_roundg (nL - (k+1))
       case measure=>omega
       case rel=>exact ⟨k+1,yr,by omega,by omega,by go_num,rfl,by omega,Lib.hid (by rw [takeU HKL.out, ← List.append_assoc,HY.out, ← HYR.out];exact HJ.out.snoc (fun _=>by rw [HYR.out];exact h1)),HQ⟩
      ·have hne:((a2:Int) != (yr:Int))=true:=by simpa using h1
       go_wp2
       go_returns
       exact ⟨⟨_,_,_,rfl,fun h=>(nomatch h)⟩,HE.out.trans HQ.out⟩
     ·have h0':a2<0:=by omega
      go_wp2
      go_roundg (nL - (k+1))
      case measure=>omega
      case rel=>exact ⟨k+1,yr,by omega,by omega,by go_num,rfl,by omega,Lib.hid (by rw [takeU HKL.out, ← List.append_assoc,HY.out, ← HYR.out];exact HJ.out.snoc (fun h=>by omega)),HQ⟩
    ·have HJ2:Hid (Alk a2 (lefts (M.take (i+1)))):=Lib.hid (by rw [lefts_succ HIM.out,HX.out];have:=HJ.out;rw [show k=x.L.length by rw [HNL.out];omega,List.take_length] at this;exact this)
     obtain ⟨wq,rfl⟩ : ∃ x,x=wr:=⟨_,rfl⟩
     go_wp2
     go_loopg [6,10] nR (fun z v6 v10 wp => ∃ (k:Nat) (b2:Int),z=nR - k∧k≤nR∧v10 = .int .i64 k∧v6 = .int .i64 b2∧(-1≤b2∧b2≤9223372036854775807)∧Hid (Alk b2 (rights (M.take i)++x.R.take k))∧Hid (Ext wo wp))
     case atStart=>exact ⟨0,b,rfl,Nat.zero_le _,rfl,rfl,hb0,Lib.hid (by rw [List.take_zero,List.append_nil];exact HC.out.2),HQ⟩
     case round =>
      obtain ⟨k,b2,rfl,hk,rfl,rfl,hb2,HK,HP⟩:=hrel
      have q3:=D3.out _ HP.out
      by_cases hlk:k<nR
      ·have hkL:k<x.R.length:=by rw [HNR.out];exact hlk
       have HKL:=Lib.hid hkL
       obtain ⟨ad2,e2,r0,_⟩:=(HV.out.ext HP.out).at hkL
       have hc1:=(HV.out.ls _ (getU_mem hkL)).r.cap
       obtain ⟨y,hy⟩ : ∃ y,x.R.getD k Ud.zero=y:=⟨_,rfl⟩
       rw [hy] at r0 hc1
       have HY:=Lib.hid hy
       obtain ⟨yr,hyr⟩ : ∃ k,y.l.length=k:=⟨_,rfl⟩
       rw [hyr] at r0 hc1
       have HYR:=Lib.hid hyr
       rw [e2] at q3
       clear hy hyr hkL e2
       by_cases h0:0≤b2
       ·by_cases h1:b2=yr
        ·have hne:((b2:Int) != (yr:Int))=false:=by simpa using h1
         go_wp2
         go_roundg (nR - (k+1))
         case measure=>omega
         case rel=>exact ⟨k+1,yr,by omega,by omega,by go_num,rfl,by omega,Lib.hid (by rw [takeU HKL.out, ← List.append_assoc,HY.out, ← HYR.out];exact HK.out.snoc (fun _=>by rw [HYR.out];exact h1)),HP⟩
        ·have hne:((b2:Int) != (yr:Int))=true:=by simpa using h1
         go_wp2
         go_returns
         exact ⟨⟨_,_,_,rfl,fun h=>(nomatch h)⟩,HE.out.trans HP.out⟩
       ·have h0':b2<0:=by omega
        go_wp2
        go_roundg (nR - (k+1))
        case measure=>omega
        case rel=>exact ⟨k+1,yr,by omega,by omega,by go_num,rfl,by omega,Lib.hid (by rw [takeU HKL.out, ← List.append_assoc,HY.out, ← HYR.out];exact HK.out.snoc (fun h=>by omega)),HP⟩
      ·go_wp2
       rw [← hA]
       go_roundg (n - (i+1))
       case measure=>omega
       case rel=>exact ⟨i+1,a2,b2,by omega,by omega,by go_num,rfl,rfl,ha2,hb2,Lib.hid ⟨HJ2.out,by rw [rights_succ HIM.out,HX.out];have:=HK.out;rw [show k=x.R.length by rw [HNR.out];omega,List.take_length] at this;exact this⟩,Lib.hid (HE.out.trans HP.out)⟩
  ·obtain rfl:i=n:=by omega
   have HL:Hid (Alk a (lefts M)):=Lib.hid (by
    have:=HC.out.1
    rwa [hn.out,List.take_length] at this)
   have HR:Hid (Alk b (rights M)):=Lib.hid (by
    have:=HC.out.2
    rwa [hn.out,List.take_length] at this)
   go_wp2
   all_goals
    go_returns
    exact ⟨⟨_,_,_,rfl,fun _=>⟨by omega,by omega,HL.out.fin (by omega),HR.out.fin (by omega)⟩⟩,HE.out⟩
end Go.Proofs.Ytdgbkpoickbidaa
namespace Go.Proofs.Ytdgbkpoickbidaa

/-- what 'long' answers at bytes b0 b1 b2 b3, of which m are left -/
def longT (m b0 b1 b2 b3:Nat):Nat :=
 if b0<128 then 1
 else if b0<194 then 0
 else if b0<224 then (if m<2∨b1<128∨192≤b1 then 0 else 2)
 else if b0<240 then (if m<3∨b1<128∨192≤b1∨b2<128∨192≤b2 then 0 else
  if (b0 - 224) * 4096+(b1 - 128) * 64+(b2 - 128)<2048∨55296≤(b0 - 224) * 4096+(b1 - 128) * 64+(b2 - 128)∧(b0 - 224) * 4096+(b1 - 128) * 64+(b2 - 128)<57344 then 0 else 3)
 else if b0<245 then (if m<4∨b1<128∨192≤b1∨b2<128∨192≤b2∨b3<128∨192≤b3 then 0 else
  if (b0 - 240) * 262144+(b1 - 128) * 4096+(b2 - 128) * 64+(b3 - 128)<65536∨1114111<(b0 - 240) * 262144+(b1 - 128) * 4096+(b2 - 128) * 64+(b3 - 128) then 0 else 4)
 else 0
/-- the same of a list's head -/
def longL (l:List UInt8):Nat:=longT l.length (l.getD 0 0).toNat (l.getD 1 0).toNat (l.getD 2 0).toNat (l.getD 3 0).toNat
def Agree (k:Nat) (d:Nat × Nat):Prop:=(k=0∧d=(65533,1))∨(k≠0∧d.2=k ∧ ¬ (d.1=65533∧d.2=1))

set_option maxHeartbeats 1000000 in
theorem agree1 (n b0 b1 b2 b3:Nat) (h:b0<128):Agree (longT n b0 b1 b2 b3) (Lib.decodeN n b0 b1 b2 b3):=by
 unfold longT Lib.decodeN
 rw [if_pos h,if_pos h]
 right
 refine ⟨by omega,rfl,?_⟩
 simp only
 omega
set_option maxHeartbeats 1000000 in
theorem agree0 (n b0 b1 b2 b3:Nat) (h:(128≤b0∧b0<194)∨(245≤b0∧b0<256)):Agree (longT n b0 b1 b2 b3) (Lib.decodeN n b0 b1 b2 b3):=by
 rw [Lib.decodeN_bad n b0 b1 b2 b3 h]
 left
 refine ⟨?_,rfl⟩
 unfold longT
 repeat' split
 all_goals omega
theorem long2 (n b0 b1 b2 b3:Nat) (h:194≤b0) (h':b0<224):longT n b0 b1 b2 b3=if n<2∨b1<128∨192≤b1 then 0 else 2:=by
 unfold longT
 rw [if_neg (show ¬ b0<128 by omega),if_neg (show ¬ b0<194 by omega),if_pos h']
theorem dec2 (n b0 b1 b2 b3:Nat) (h:194≤b0) (h':b0<224):Lib.decodeN n b0 b1 b2 b3=if 1<n∧b1 / 64=2 then (if b0 % 32 * 64+b1 % 64 ≥ 128 then (b0 % 32 * 64+b1 % 64,2) else (65533,1)) else (65533,1):=by
 unfold Lib.decodeN
 rw [if_neg (show ¬ b0<128 by omega),if_neg (show ¬ (b0 / 16=14∧(1<n∧b1 / 64=2)∧2<n∧b2 / 64=2) by omega),if_neg (show ¬ (b0 / 8=30∧(1<n∧b1 / 64=2)∧(2<n∧b2 / 64=2)∧3<n∧b3 / 64=2) by omega)]
 by_cases hh:1<n∧b1 / 64=2
 ·rw [if_pos ⟨by omega,hh⟩,if_pos hh]
 ·rw [if_neg (fun x=>hh x.2),if_neg hh]
theorem agree2 (n b0 b1 b2 b3:Nat) (h:194≤b0) (h':b0<224) (h1:b1<256):Agree (longT n b0 b1 b2 b3) (Lib.decodeN n b0 b1 b2 b3):=by
 rw [long2 n b0 b1 b2 b3 h h',dec2 n b0 b1 b2 b3 h h']
 by_cases hh:1<n∧b1 / 64=2
 ·rw [if_neg (show ¬ (n<2∨b1<128∨192≤b1) by omega),if_pos hh,if_pos (show b0 % 32 * 64+b1 % 64 ≥ 128 by omega)]
  exact .inr ⟨by omega,rfl,by simp⟩
 ·rw [if_pos (show n<2∨b1<128∨192≤b1 by omega),if_neg hh];exact .inl ⟨rfl,rfl⟩
theorem long3 (n b0 b1 b2 b3:Nat) (h:224≤b0) (h':b0<240):longT n b0 b1 b2 b3=if n<3∨b1<128∨192≤b1∨b2<128∨192≤b2 then 0 else
  if (b0 - 224) * 4096+(b1 - 128) * 64+(b2 - 128)<2048∨55296≤(b0 - 224) * 4096+(b1 - 128) * 64+(b2 - 128)∧(b0 - 224) * 4096+(b1 - 128) * 64+(b2 - 128)<57344 then 0 else 3:=by
 unfold longT
 rw [if_neg (show ¬ b0<128 by omega),if_neg (show ¬ b0<194 by omega),if_neg (show ¬ b0<224 by omega),if_pos h']
theorem dec3 (n b0 b1 b2 b3:Nat) (h:224≤b0) (h':b0<240):Lib.decodeN n b0 b1 b2 b3=if (1<n∧b1 / 64=2)∧(2<n∧b2 / 64=2) then
  (if b0 % 16 * 4096+b1 % 64 * 64+b2 % 64 ≥ 2048∧(b0 % 16 * 4096+b1 % 64 * 64+b2 % 64<55296∨(57344≤b0 % 16 * 4096+b1 % 64 * 64+b2 % 64∧b0 % 16 * 4096+b1 % 64 * 64+b2 % 64≤1114111))
   then (b0 % 16 * 4096+b1 % 64 * 64+b2 % 64,3) else (65533,1)) else (65533,1):=by
 unfold Lib.decodeN
 rw [if_neg (show ¬ b0<128 by omega),if_neg (show ¬ (b0 / 32=6∧(1<n∧b1 / 64=2)) by omega),if_neg (show ¬ (b0 / 8=30∧(1<n∧b1 / 64=2)∧(2<n∧b2 / 64=2)∧3<n∧b3 / 64=2) by omega)]
 by_cases hh:(1<n∧b1 / 64=2)∧(2<n∧b2 / 64=2)
 ·rw [if_pos (show b0 / 16=14∧(1<n∧b1 / 64=2)∧2<n∧b2 / 64=2 from ⟨by omega,hh⟩),if_pos hh]
 ·rw [if_neg (show ¬ (b0 / 16=14∧(1<n∧b1 / 64=2)∧2<n∧b2 / 64=2) from fun x=>hh x.2),if_neg hh]
theorem agree3 (n b0 b1 b2 b3:Nat) (h:224≤b0) (h':b0<240) (h1:b1<256) (h2:b2<256):Agree (longT n b0 b1 b2 b3) (Lib.decodeN n b0 b1 b2 b3):=by
 rw [long3 n b0 b1 b2 b3 h h',dec3 n b0 b1 b2 b3 h h']
 by_cases hh:(1<n∧b1 / 64=2)∧(2<n∧b2 / 64=2)
 ·rw [if_neg (show ¬ (n<3∨b1<128∨192≤b1∨b2<128∨192≤b2) by omega),if_pos hh]
  have e:b0 % 16 * 4096+b1 % 64 * 64+b2 % 64=(b0 - 224) * 4096+(b1 - 128) * 64+(b2 - 128):=by omega
  rw [e]
  have hv:(b0 - 224) * 4096+(b1 - 128) * 64+(b2 - 128)<65536:=by omega
  obtain ⟨v,e2⟩ : ∃ v,(b0 - 224) * 4096+(b1 - 128) * 64+(b2 - 128)=v:=⟨_,rfl⟩
  rw [e2] at hv ⊢
  clear e e2
  by_cases hg:v<2048∨55296≤v∧v<57344
  ·rw [if_pos hg,if_neg (by omega)];exact .inl ⟨rfl,rfl⟩
  ·rw [if_neg hg,if_pos (by omega)];exact .inr ⟨by omega,rfl,by simp⟩
 ·rw [if_pos (show n<3∨b1<128∨192≤b1∨b2<128∨192≤b2 by omega),if_neg hh];exact .inl ⟨rfl,rfl⟩
theorem long4 (n b0 b1 b2 b3:Nat) (h:240≤b0) (h':b0<245):longT n b0 b1 b2 b3=if n<4∨b1<128∨192≤b1∨b2<128∨192≤b2∨b3<128∨192≤b3 then 0 else
  if (b0 - 240) * 262144+(b1 - 128) * 4096+(b2 - 128) * 64+(b3 - 128)<65536∨1114111<(b0 - 240) * 262144+(b1 - 128) * 4096+(b2 - 128) * 64+(b3 - 128) then 0 else 4:=by
 unfold longT
 rw [if_neg (show ¬ b0<128 by omega),if_neg (show ¬ b0<194 by omega),if_neg (show ¬ b0<224 by omega),if_neg (show ¬ b0<240 by omega),if_pos h']
theorem dec4 (n b0 b1 b2 b3:Nat) (h:240≤b0) (h':b0<248):Lib.decodeN n b0 b1 b2 b3=if (1<n∧b1 / 64=2)∧(2<n∧b2 / 64=2)∧(3<n∧b3 / 64=2) then
  (if b0 % 8 * 262144+b1 % 64 * 4096+b2 % 64 * 64+b3 % 64 ≥ 65536∧(b0 % 8 * 262144+b1 % 64 * 4096+b2 % 64 * 64+b3 % 64<55296∨(57344≤b0 % 8 * 262144+b1 % 64 * 4096+b2 % 64 * 64+b3 % 64∧b0 % 8 * 262144+b1 % 64 * 4096+b2 % 64 * 64+b3 % 64≤1114111))
   then (b0 % 8 * 262144+b1 % 64 * 4096+b2 % 64 * 64+b3 % 64,4) else (65533,1)) else (65533,1):=by
 unfold Lib.decodeN
 rw [if_neg (show ¬ b0<128 by omega),if_neg (show ¬ (b0 / 32=6∧(1<n∧b1 / 64=2)) by omega),if_neg (show ¬ (b0 / 16=14∧(1<n∧b1 / 64=2)∧2<n∧b2 / 64=2) by omega)]
 by_cases hh:(1<n∧b1 / 64=2)∧(2<n∧b2 / 64=2)∧(3<n∧b3 / 64=2)
 ·rw [if_pos (show b0 / 8=30∧(1<n∧b1 / 64=2)∧(2<n∧b2 / 64=2)∧3<n∧b3 / 64=2 from ⟨by omega,hh⟩),if_pos hh]
 ·rw [if_neg (show ¬ (b0 / 8=30∧(1<n∧b1 / 64=2)∧(2<n∧b2 / 64=2)∧3<n∧b3 / 64=2) from fun x=>hh x.2),if_neg hh]
theorem agree4 (n b0 b1 b2 b3:Nat) (h:240≤b0) (h':b0<245) (h1:b1<256) (h2:b2<256) (h3:b3<256):Agree (longT n b0 b1 b2 b3) (Lib.decodeN n b0 b1 b2 b3):=by
 rw [long4 n b0 b1 b2 b3 h h',dec4 n b0 b1 b2 b3 h (by omega)]
 by_cases hh:(1<n∧b1 / 64=2)∧(2<n∧b2 / 64=2)∧(3<n∧b3 / 64=2)
 ·rw [if_neg (show ¬ (n<4∨b1<128∨192≤b1∨b2<128∨192≤b2∨b3<128∨192≤b3) by omega),if_pos hh]
  have e:b0 % 8 * 262144+b1 % 64 * 4096+b2 % 64 * 64+b3 % 64=(b0 - 240) * 262144+(b1 - 128) * 4096+(b2 - 128) * 64+(b3 - 128):=by omega
  rw [e]
  obtain ⟨v,e2⟩ : ∃ v,(b0 - 240) * 262144+(b1 - 128) * 4096+(b2 - 128) * 64+(b3 - 128)=v:=⟨_,rfl⟩
  rw [e2]
  clear e e2
  by_cases hg:v<65536∨1114111<v
  ·rw [if_pos hg,if_neg (by omega)];exact .inl ⟨rfl,rfl⟩
  ·rw [if_neg hg,if_pos (by omega)];exact .inr ⟨by omega,rfl,by simp⟩
 ·rw [if_pos (show n<4∨b1<128∨192≤b1∨b2<128∨192≤b2∨b3<128∨192≤b3 by omega),if_neg hh];exact .inl ⟨rfl,rfl⟩
theorem agree_any (n b0 b1 b2 b3:Nat) (h0:b0<256) (h1:b1<256) (h2:b2<256) (h3:b3<256):Agree (longT n b0 b1 b2 b3) (Lib.decodeN n b0 b1 b2 b3):=by
 by_cases c1:b0<128
 ·exact agree1 n b0 b1 b2 b3 c1
 by_cases c2:b0<194
 ·exact agree0 n b0 b1 b2 b3 (.inl ⟨by omega,c2⟩)
 by_cases c3:b0<224
 ·exact agree2 n b0 b1 b2 b3 (by omega) c3 h1
 by_cases c4:b0<240
 ·exact agree3 n b0 b1 b2 b3 (by omega) c4 h1 h2
 by_cases c5:b0<245
 ·exact agree4 n b0 b1 b2 b3 (by omega) c5 h1 h2 h3
 ·exact agree0 n b0 b1 b2 b3 (.inr ⟨by omega,h0⟩)
theorem agree_list (l:List UInt8):Agree (longL l) (Lib.decodeL l):=by
 rw [Lib.decodeL_N]
 exact agree_any _ _ _ _ _ (l.getD 0 0).toNat_lt (l.getD 1 0).toNat_lt (l.getD 2 0).toNat_lt (l.getD 3 0).toNat_lt

/-- how many runes; none: it is no UTF-8 -/
def runesG:Nat→List UInt8→Option Nat
 | 0,_=>some 0
 | f+1,l=>if l=[] then some 0 else if longL l=0 then none else (runesG f (l.drop (longL l))).map (· + 1)
def runesO (l:List UInt8):Option Nat:=runesG l.length l
theorem longL_le (l:List UInt8) (h:l≠[]):longL l≤l.length:=by
 have hl:0<l.length:=List.length_pos_iff.2 h
 unfold longL longT
 repeat' split
 all_goals omega
theorem runesG_nil : ∀ f,runesG f []=some 0
 | 0=>rfl
 | _+1=>by simp [runesG]
theorem runesG_fuel : ∀ (n m:Nat) (l:List UInt8),l.length≤n→l.length≤m→runesG n l=runesG m l
 | 0,m,l,hn,_=>by
  have:l=[]:=List.eq_nil_of_length_eq_zero (by omega)
  subst this
  rw [runesG_nil,runesG_nil]
 | n+1,0,l,_,hm=>by
  have:l=[]:=List.eq_nil_of_length_eq_zero (by omega)
  subst this
  rw [runesG_nil,runesG_nil]
 | n+1,m+1,l,hn,hm=>by
  unfold runesG
  by_cases hne:l=[]
  ·simp [hne]
  ·have hl:0<l.length:=List.length_pos_iff.2 hne
   by_cases h0:longL l=0
   ·simp [hne,h0]
   ·rw [if_neg hne,if_neg hne,if_neg h0,if_neg h0,runesG_fuel n m (l.drop (longL l)) (by rw [List.length_drop];omega) (by rw [List.length_drop];omega)]
theorem runesO_nil:runesO []=some 0:=rfl
theorem runesO_bad {l:List UInt8} (hne:l≠[]) (h:longL l=0):runesO l=none:=by
 obtain ⟨n,hn⟩ : ∃ n,l.length=n+1:=⟨l.length - 1,by have:=List.length_pos_iff.2 hne;omega⟩
 unfold runesO
 rw [hn]
 unfold runesG
 rw [if_neg hne,if_pos h]
theorem runesO_step {l:List UInt8} (hne:l≠[]) (h:longL l≠0):runesO l=(runesO (l.drop (longL l))).map (· + 1):=by
 have hl:0<l.length:=List.length_pos_iff.2 hne
 obtain ⟨n,hn⟩ : ∃ n,l.length=n+1:=⟨l.length - 1,by omega⟩
 have e:runesG n (l.drop (longL l))=runesG (l.drop (longL l)).length (l.drop (longL l)):=runesG_fuel n _ _ (by rw [List.length_drop];omega) (Nat.le_refl _)
 unfold runesO
 rw [hn, ← e]
 show (if l=[] then some 0 else if longL l=0 then none else (runesG n (l.drop (longL l))).map (· + 1))=_
 rw [if_neg hne,if_neg h]
theorem runes_valid_aux : ∀ (f:Nat) (l:List UInt8),l.length≤f→(runesO l).isSome=Lib.validD l
 | 0,l,h=>by
  have:l=[]:=List.eq_nil_of_length_eq_zero (by omega)
  subst this
  rfl
 | f+1,l,h=>by
  by_cases hne:l=[]
  ·subst hne;rfl
  ·have hl:0<l.length:=List.length_pos_iff.2 hne
   rw [Lib.validD_step l hne]
   rcases agree_list l with ⟨h0,hd⟩ | ⟨h0,hd,hn⟩
   ·rw [runesO_bad hne h0,hd];rfl
   ·rw [runesO_step hne h0,if_neg hn,hd,Option.isSome_map,runes_valid_aux f _ (by rw [List.length_drop];omega)]
theorem runes_valid (l:List UInt8):(runesO l).isSome=Lib.validD l:=runes_valid_aux _ l (Nat.le_refl _)
/-- what Runes answers -/
def runesT (s:ByteArray):Int:=match runesO s.data.toList with | some n=>n | none => -1
theorem runesT_neg (s:ByteArray):(runesT s<0)↔validB s=false:=by
 unfold runesT validB
 rw [← runes_valid]
 cases runesO s.data.toList with
 | none=>simp
 | some n=>simp
open Go.RowKit
section
variable (s:ByteArray) (k:Nat) (w:World) (hk:k<s.size)
set_option maxRecDepth 100000 in
set_option maxHeartbeats 600000 in
theorem long_one (h:s[k].toNat<128):Calls Try.prog 75 #[.string s, .int .i64 k] w fun e w'=>e = .returned (.int .i64 1)∧w=w':=by
 go_enter Try.func75,Try.ntmps75
 go_wp2
 go_ret
 exact ⟨rfl,rfl⟩
set_option maxRecDepth 100000 in
set_option maxHeartbeats 600000 in
theorem long_bad1 (h:128≤s[k].toNat) (h':s[k].toNat<194):Calls Try.prog 75 #[.string s, .int .i64 k] w fun e w'=>e = .returned (.int .i64 0)∧w=w':=by
 go_enter Try.func75,Try.ntmps75
 go_wp2
 go_ret
 exact ⟨rfl,rfl⟩
set_option maxRecDepth 100000 in
set_option maxHeartbeats 600000 in
theorem long_bad2 (h:245≤s[k].toNat):Calls Try.prog 75 #[.string s, .int .i64 k] w fun e w'=>e = .returned (.int .i64 0)∧w=w':=by
 go_enter Try.func75,Try.ntmps75
 go_wp2
 go_ret
 exact ⟨rfl,rfl⟩
set_option maxRecDepth 100000 in
set_option maxHeartbeats 600000 in
theorem long2_short (hs:s.size≤140737488355328) (h:194≤s[k].toNat) (h':s[k].toNat<224) (hl:s.size<k+2):Calls Try.prog 75 #[.string s, .int .i64 k] w fun e w'=>e = .returned (.int .i64 0)∧w=w':=by
 go_enter Try.func75,Try.ntmps75
 go_wp2
 go_ret
 exact ⟨rfl,rfl⟩
set_option maxRecDepth 100000 in
set_option maxHeartbeats 600000 in
theorem long2_lo1 (hs:s.size≤140737488355328) (h:194≤s[k].toNat) (h':s[k].toNat<224) (hl:k+2≤s.size)  (c:s[k+1].toNat<128):Calls Try.prog 75 #[.string s, .int .i64 k] w fun e w'=>e = .returned (.int .i64 0)∧w=w':=by
 go_enter Try.func75,Try.ntmps75
 go_wp2
 go_rounds 2
 go_ret
 exact ⟨rfl,rfl⟩
set_option maxRecDepth 100000 in
set_option maxHeartbeats 600000 in
theorem long2_hi1 (hs:s.size≤140737488355328) (h:194≤s[k].toNat) (h':s[k].toNat<224) (hl:k+2≤s.size)  (c:192≤s[k+1].toNat):Calls Try.prog 75 #[.string s, .int .i64 k] w fun e w'=>e = .returned (.int .i64 0)∧w=w':=by
 go_enter Try.func75,Try.ntmps75
 go_wp2
 go_rounds 2
 go_ret
 exact ⟨rfl,rfl⟩
set_option maxRecDepth 100000 in
set_option maxHeartbeats 600000 in
theorem long2_ok (hs:s.size≤140737488355328) (h:194≤s[k].toNat) (h':s[k].toNat<224) (hl:k+2≤s.size) (c1:128≤s[k+1].toNat) (d1:s[k+1].toNat<192):Calls Try.prog 75 #[.string s, .int .i64 k] w fun e w'=>e = .returned (.int .i64 2)∧w=w':=by
 go_enter Try.func75,Try.ntmps75
 go_wp2
 go_rounds 2
 go_ret
 exact ⟨rfl,rfl⟩
set_option maxRecDepth 100000 in
set_option maxHeartbeats 600000 in
theorem long3_short (hs:s.size≤140737488355328) (h:224≤s[k].toNat) (h':s[k].toNat<240) (hl:s.size<k+3):Calls Try.prog 75 #[.string s, .int .i64 k] w fun e w'=>e = .returned (.int .i64 0)∧w=w':=by
 go_enter Try.func75,Try.ntmps75
 go_wp2
 go_ret
 exact ⟨rfl,rfl⟩
set_option maxRecDepth 100000 in
set_option maxHeartbeats 600000 in
theorem long3_lo1 (hs:s.size≤140737488355328) (h:224≤s[k].toNat) (h':s[k].toNat<240) (hl:k+3≤s.size)  (c:s[k+1].toNat<128):Calls Try.prog 75 #[.string s, .int .i64 k] w fun e w'=>e = .returned (.int .i64 0)∧w=w':=by
 go_enter Try.func75,Try.ntmps75
 go_wp2
 go_rounds 3
 go_ret
 exact ⟨rfl,rfl⟩
set_option maxRecDepth 100000 in
set_option maxHeartbeats 600000 in
theorem long3_hi1 (hs:s.size≤140737488355328) (h:224≤s[k].toNat) (h':s[k].toNat<240) (hl:k+3≤s.size)  (c:192≤s[k+1].toNat):Calls Try.prog 75 #[.string s, .int .i64 k] w fun e w'=>e = .returned (.int .i64 0)∧w=w':=by
 go_enter Try.func75,Try.ntmps75
 go_wp2
 go_rounds 3
 go_ret
 exact ⟨rfl,rfl⟩
set_option maxRecDepth 100000 in
set_option maxHeartbeats 600000 in
theorem long3_lo2 (hs:s.size≤140737488355328) (h:224≤s[k].toNat) (h':s[k].toNat<240) (hl:k+3≤s.size) (c1:128≤s[k+1].toNat) (d1:s[k+1].toNat<192) (c:s[k+2].toNat<128):Calls Try.prog 75 #[.string s, .int .i64 k] w fun e w'=>e = .returned (.int .i64 0)∧w=w':=by
 go_enter Try.func75,Try.ntmps75
 go_wp2
 go_rounds 3
 go_ret
 exact ⟨rfl,rfl⟩
set_option maxRecDepth 100000 in
set_option maxHeartbeats 600000 in
theorem long3_hi2 (hs:s.size≤140737488355328) (h:224≤s[k].toNat) (h':s[k].toNat<240) (hl:k+3≤s.size) (c1:128≤s[k+1].toNat) (d1:s[k+1].toNat<192) (c:192≤s[k+2].toNat):Calls Try.prog 75 #[.string s, .int .i64 k] w fun e w'=>e = .returned (.int .i64 0)∧w=w':=by
 go_enter Try.func75,Try.ntmps75
 go_wp2
 go_rounds 3
 go_ret
 exact ⟨rfl,rfl⟩
set_option maxRecDepth 100000 in
set_option maxHeartbeats 600000 in
theorem long3_small (hs:s.size≤140737488355328) (h:224≤s[k].toNat) (h':s[k].toNat<240) (hl:k+3≤s.size) (c1:128≤s[k+1].toNat) (d1:s[k+1].toNat<192) (c2:128≤s[k+2].toNat) (d2:s[k+2].toNat<192) (v:64 * (64 * ((s[k].toNat:Int) - 224)+(s[k+1].toNat:Int) - 128)+(s[k+2].toNat:Int) - 128<2048):Calls Try.prog 75 #[.string s, .int .i64 k] w fun e w'=>e = .returned (.int .i64 0)∧w=w':=by
 go_enter Try.func75,Try.ntmps75
 go_wp2
 go_rounds 3
 go_ret
 exact ⟨rfl,rfl⟩
set_option maxRecDepth 100000 in
set_option maxHeartbeats 600000 in
theorem long3_half (hs:s.size≤140737488355328) (h:224≤s[k].toNat) (h':s[k].toNat<240) (hl:k+3≤s.size) (c1:128≤s[k+1].toNat) (d1:s[k+1].toNat<192) (c2:128≤s[k+2].toNat) (d2:s[k+2].toNat<192) (v:55296≤64 * (64 * ((s[k].toNat:Int) - 224)+(s[k+1].toNat:Int) - 128)+(s[k+2].toNat:Int) - 128) (v':64 * (64 * ((s[k].toNat:Int) - 224)+(s[k+1].toNat:Int) - 128)+(s[k+2].toNat:Int) - 128<57344):Calls Try.prog 75 #[.string s, .int .i64 k] w fun e w'=>e = .returned (.int .i64 0)∧w=w':=by
 go_enter Try.func75,Try.ntmps75
 go_wp2
 go_rounds 3
 go_ret
 exact ⟨rfl,rfl⟩
set_option maxRecDepth 100000 in
set_option maxHeartbeats 600000 in
theorem long3_ok1 (hs:s.size≤140737488355328) (h:224≤s[k].toNat) (h':s[k].toNat<240) (hl:k+3≤s.size) (c1:128≤s[k+1].toNat) (d1:s[k+1].toNat<192) (c2:128≤s[k+2].toNat) (d2:s[k+2].toNat<192) (v:2048≤64 * (64 * ((s[k].toNat:Int) - 224)+(s[k+1].toNat:Int) - 128)+(s[k+2].toNat:Int) - 128) (v':64 * (64 * ((s[k].toNat:Int) - 224)+(s[k+1].toNat:Int) - 128)+(s[k+2].toNat:Int) - 128<55296):Calls Try.prog 75 #[.string s, .int .i64 k] w fun e w'=>e = .returned (.int .i64 3)∧w=w':=by
 go_enter Try.func75,Try.ntmps75
 go_wp2
 go_rounds 3
 go_ret
 exact ⟨rfl,rfl⟩
set_option maxRecDepth 100000 in
set_option maxHeartbeats 600000 in
theorem long3_ok2 (hs:s.size≤140737488355328) (h:224≤s[k].toNat) (h':s[k].toNat<240) (hl:k+3≤s.size) (c1:128≤s[k+1].toNat) (d1:s[k+1].toNat<192) (c2:128≤s[k+2].toNat) (d2:s[k+2].toNat<192) (v:57344≤64 * (64 * ((s[k].toNat:Int) - 224)+(s[k+1].toNat:Int) - 128)+(s[k+2].toNat:Int) - 128):Calls Try.prog 75 #[.string s, .int .i64 k] w fun e w'=>e = .returned (.int .i64 3)∧w=w':=by
 go_enter Try.func75,Try.ntmps75
 go_wp2
 go_rounds 3
 go_ret
 exact ⟨rfl,rfl⟩
set_option maxRecDepth 100000 in
set_option maxHeartbeats 600000 in
theorem long4_short (hs:s.size≤140737488355328) (h:240≤s[k].toNat) (h':s[k].toNat<245) (hl:s.size<k+4):Calls Try.prog 75 #[.string s, .int .i64 k] w fun e w'=>e = .returned (.int .i64 0)∧w=w':=by
 go_enter Try.func75,Try.ntmps75
 go_wp2
 go_ret
 exact ⟨rfl,rfl⟩
set_option maxRecDepth 100000 in
set_option maxHeartbeats 600000 in
theorem long4_lo1 (hs:s.size≤140737488355328) (h:240≤s[k].toNat) (h':s[k].toNat<245) (hl:k+4≤s.size)  (c:s[k+1].toNat<128):Calls Try.prog 75 #[.string s, .int .i64 k] w fun e w'=>e = .returned (.int .i64 0)∧w=w':=by
 go_enter Try.func75,Try.ntmps75
 go_wp2
 go_rounds 4
 go_ret
 exact ⟨rfl,rfl⟩
set_option maxRecDepth 100000 in
set_option maxHeartbeats 600000 in
theorem long4_hi1 (hs:s.size≤140737488355328) (h:240≤s[k].toNat) (h':s[k].toNat<245) (hl:k+4≤s.size)  (c:192≤s[k+1].toNat):Calls Try.prog 75 #[.string s, .int .i64 k] w fun e w'=>e = .returned (.int .i64 0)∧w=w':=by
 go_enter Try.func75,Try.ntmps75
 go_wp2
 go_rounds 4
 go_ret
 exact ⟨rfl,rfl⟩
set_option maxRecDepth 100000 in
set_option maxHeartbeats 600000 in
theorem long4_lo2 (hs:s.size≤140737488355328) (h:240≤s[k].toNat) (h':s[k].toNat<245) (hl:k+4≤s.size) (c1:128≤s[k+1].toNat) (d1:s[k+1].toNat<192) (c:s[k+2].toNat<128):Calls Try.prog 75 #[.string s, .int .i64 k] w fun e w'=>e = .returned (.int .i64 0)∧w=w':=by
 go_enter Try.func75,Try.ntmps75
 go_wp2
 go_rounds 4
 go_ret
 exact ⟨rfl,rfl⟩
set_option maxRecDepth 100000 in
set_option maxHeartbeats 600000 in
theorem long4_hi2 (hs:s.size≤140737488355328) (h:240≤s[k].toNat) (h':s[k].toNat<245) (hl:k+4≤s.size) (c1:128≤s[k+1].toNat) (d1:s[k+1].toNat<192) (c:192≤s[k+2].toNat):Calls Try.prog 75 #[.string s, .int .i64 k] w fun e w'=>e = .returned (.int .i64 0)∧w=w':=by
 go_enter Try.func75,Try.ntmps75
 go_wp2
 go_rounds 4
 go_ret
 exact ⟨rfl,rfl⟩
set_option maxRecDepth 100000 in
set_option maxHeartbeats 600000 in
theorem long4_lo3 (hs:s.size≤140737488355328) (h:240≤s[k].toNat) (h':s[k].toNat<245) (hl:k+4≤s.size) (c1:128≤s[k+1].toNat) (d1:s[k+1].toNat<192) (c2:128≤s[k+2].toNat) (d2:s[k+2].toNat<192) (c:s[k+3].toNat<128):Calls Try.prog 75 #[.string s, .int .i64 k] w fun e w'=>e = .returned (.int .i64 0)∧w=w':=by
 go_enter Try.func75,Try.ntmps75
 go_wp2
 go_rounds 4
 go_ret
 exact ⟨rfl,rfl⟩
set_option maxRecDepth 100000 in
set_option maxHeartbeats 600000 in
theorem long4_hi3 (hs:s.size≤140737488355328) (h:240≤s[k].toNat) (h':s[k].toNat<245) (hl:k+4≤s.size) (c1:128≤s[k+1].toNat) (d1:s[k+1].toNat<192) (c2:128≤s[k+2].toNat) (d2:s[k+2].toNat<192) (c:192≤s[k+3].toNat):Calls Try.prog 75 #[.string s, .int .i64 k] w fun e w'=>e = .returned (.int .i64 0)∧w=w':=by
 go_enter Try.func75,Try.ntmps75
 go_wp2
 go_rounds 4
 go_ret
 exact ⟨rfl,rfl⟩
set_option maxRecDepth 100000 in
set_option maxHeartbeats 600000 in
theorem long4_small (hs:s.size≤140737488355328) (h:240≤s[k].toNat) (h':s[k].toNat<245) (hl:k+4≤s.size) (c1:128≤s[k+1].toNat) (d1:s[k+1].toNat<192) (c2:128≤s[k+2].toNat) (d2:s[k+2].toNat<192) (c3:128≤s[k+3].toNat) (d3:s[k+3].toNat<192) (v:64 * (64 * (64 * ((s[k].toNat:Int) - 240)+(s[k+1].toNat:Int) - 128)+(s[k+2].toNat:Int) - 128)+(s[k+3].toNat:Int) - 128<65536):Calls Try.prog 75 #[.string s, .int .i64 k] w fun e w'=>e = .returned (.int .i64 0)∧w=w':=by
 go_enter Try.func75,Try.ntmps75
 go_wp2
 go_rounds 4
 go_ret
 exact ⟨rfl,rfl⟩
set_option maxRecDepth 100000 in
set_option maxHeartbeats 600000 in
theorem long4_great (hs:s.size≤140737488355328) (h:240≤s[k].toNat) (h':s[k].toNat<245) (hl:k+4≤s.size) (c1:128≤s[k+1].toNat) (d1:s[k+1].toNat<192) (c2:128≤s[k+2].toNat) (d2:s[k+2].toNat<192) (c3:128≤s[k+3].toNat) (d3:s[k+3].toNat<192) (v:1114111<64 * (64 * (64 * ((s[k].toNat:Int) - 240)+(s[k+1].toNat:Int) - 128)+(s[k+2].toNat:Int) - 128)+(s[k+3].toNat:Int) - 128):Calls Try.prog 75 #[.string s, .int .i64 k] w fun e w'=>e = .returned (.int .i64 0)∧w=w':=by
 go_enter Try.func75,Try.ntmps75
 go_wp2
 go_rounds 4
 go_ret
 exact ⟨rfl,rfl⟩
set_option maxRecDepth 100000 in
set_option maxHeartbeats 600000 in
theorem long4_ok (hs:s.size≤140737488355328) (h:240≤s[k].toNat) (h':s[k].toNat<245) (hl:k+4≤s.size) (c1:128≤s[k+1].toNat) (d1:s[k+1].toNat<192) (c2:128≤s[k+2].toNat) (d2:s[k+2].toNat<192) (c3:128≤s[k+3].toNat) (d3:s[k+3].toNat<192) (v:65536≤64 * (64 * (64 * ((s[k].toNat:Int) - 240)+(s[k+1].toNat:Int) - 128)+(s[k+2].toNat:Int) - 128)+(s[k+3].toNat:Int) - 128) (v':64 * (64 * (64 * ((s[k].toNat:Int) - 240)+(s[k+1].toNat:Int) - 128)+(s[k+2].toNat:Int) - 128)+(s[k+3].toNat:Int) - 128≤1114111):Calls Try.prog 75 #[.string s, .int .i64 k] w fun e w'=>e = .returned (.int .i64 4)∧w=w':=by
 go_enter Try.func75,Try.ntmps75
 go_wp2
 go_rounds 4
 go_ret
 exact ⟨rfl,rfl⟩
end
theorem at_drop (s:ByteArray) (k i:Nat) (h:k+i<s.size):(s.data.toList.drop k).getD i 0=s[k+i]:=by
 have h':k+i<s.data.toList.length:=by simpa using h
 rw [List.getD_eq_getElem?_getD,List.getElem?_drop,List.getElem?_eq_getElem h']
 rfl
theorem len_drop (s:ByteArray) (k:Nat):(s.data.toList.drop k).length=s.size - k:=by simp
theorem long_any (s:ByteArray) (k:Nat) (w:World) (hs:s.size≤140737488355328) (hk:k<s.size) :
  Calls Try.prog 75 #[.string s, .int .i64 k] w fun e w'=>e = .returned (.int .i64 (longL (s.data.toList.drop k):Nat))∧w=w':=by
 have e0:(s.data.toList.drop k).getD 0 0=s[k]:=at_drop s k 0 hk
 unfold longL
 rw [e0,len_drop]
 generalize hb1:(s.data.toList.drop k).getD 1 0=b1
 generalize hb2:(s.data.toList.drop k).getD 2 0=b2
 generalize hb3:(s.data.toList.drop k).getD 3 0=b3
 by_cases a1:s[k].toNat<128
 ·rw [show longT (s.size - k) s[k].toNat b1.toNat b2.toNat b3.toNat=1 by unfold longT;rw [if_pos a1]];exact long_one s k w hk a1
 by_cases a2:s[k].toNat<194
 ·rw [show longT (s.size - k) s[k].toNat b1.toNat b2.toNat b3.toNat=0 by unfold longT;rw [if_neg a1,if_pos a2]];exact long_bad1 s k w hk (by omega) a2
 by_cases a3:s[k].toNat<224
 ·rw [long2 _ _ _ _ _ (by omega) a3]
  by_cases l:k+2≤s.size
  ·rw [at_drop s k 1 (by omega)] at hb1
   subst hb1
   by_cases c1:s[k+1].toNat<128
   ·rw [if_pos (by omega)];exact long2_lo1 s k w hk hs (by omega) a3 l c1
   by_cases d1:192≤s[k+1].toNat
   ·rw [if_pos (by omega)];exact long2_hi1 s k w hk hs (by omega) a3 l d1
   rw [if_neg (by omega)];exact long2_ok s k w hk hs (by omega) a3 l (by omega) (by omega)
  ·rw [if_pos (by omega)];exact long2_short s k w hk hs (by omega) a3 (by omega)
 by_cases a4:s[k].toNat<240
 ·rw [long3 _ _ _ _ _ (by omega) a4]
  by_cases l:k+3≤s.size
  ·rw [at_drop s k 1 (by omega)] at hb1
   rw [at_drop s k 2 (by omega)] at hb2
   subst hb1 hb2
   by_cases c1:s[k+1].toNat<128
   ·rw [if_pos (by omega)];exact long3_lo1 s k w hk hs (by omega) a4 l c1
   by_cases d1:192≤s[k+1].toNat
   ·rw [if_pos (by omega)];exact long3_hi1 s k w hk hs (by omega) a4 l d1
   by_cases c2:s[k+2].toNat<128
   ·rw [if_pos (by omega)];exact long3_lo2 s k w hk hs (by omega) a4 l (by omega) (by omega) c2
   by_cases d2:192≤s[k+2].toNat
   ·rw [if_pos (by omega)];exact long3_hi2 s k w hk hs (by omega) a4 l (by omega) (by omega) d2
   rw [if_neg (show ¬ (s.size - k<3∨s[k+1].toNat<128∨192≤s[k+1].toNat∨s[k+2].toNat<128∨192≤s[k+2].toNat) by omega)]
   by_cases v1:64 * (64 * ((s[k].toNat:Int) - 224)+(s[k+1].toNat:Int) - 128)+(s[k+2].toNat:Int) - 128<2048
   ·rw [if_pos (by omega)];exact long3_small s k w hk hs (by omega) a4 l (by omega) (by omega) (by omega) (by omega) v1
   by_cases v2:64 * (64 * ((s[k].toNat:Int) - 224)+(s[k+1].toNat:Int) - 128)+(s[k+2].toNat:Int) - 128<55296
   ·rw [if_neg (by omega)];exact long3_ok1 s k w hk hs (by omega) a4 l (by omega) (by omega) (by omega) (by omega) (by omega) v2
   by_cases v3:64 * (64 * ((s[k].toNat:Int) - 224)+(s[k+1].toNat:Int) - 128)+(s[k+2].toNat:Int) - 128<57344
   ·rw [if_pos (by omega)];exact long3_half s k w hk hs (by omega) a4 l (by omega) (by omega) (by omega) (by omega) (by omega) v3
   ·rw [if_neg (by omega)];exact long3_ok2 s k w hk hs (by omega) a4 l (by omega) (by omega) (by omega) (by omega) (by omega)
  ·rw [if_pos (by omega)];exact long3_short s k w hk hs (by omega) a4 (by omega)
 by_cases a5:s[k].toNat<245
 ·rw [long4 _ _ _ _ _ (by omega) a5]
  by_cases l:k+4≤s.size
  ·rw [at_drop s k 1 (by omega)] at hb1
   rw [at_drop s k 2 (by omega)] at hb2
   rw [at_drop s k 3 (by omega)] at hb3
   subst hb1 hb2 hb3
   by_cases c1:s[k+1].toNat<128
   ·rw [if_pos (by omega)];exact long4_lo1 s k w hk hs (by omega) a5 l c1
   by_cases d1:192≤s[k+1].toNat
   ·rw [if_pos (by omega)];exact long4_hi1 s k w hk hs (by omega) a5 l d1
   by_cases c2:s[k+2].toNat<128
   ·rw [if_pos (by omega)];exact long4_lo2 s k w hk hs (by omega) a5 l (by omega) (by omega) c2
   by_cases d2:192≤s[k+2].toNat
   ·rw [if_pos (by omega)];exact long4_hi2 s k w hk hs (by omega) a5 l (by omega) (by omega) d2
   by_cases c3:s[k+3].toNat<128
   ·rw [if_pos (by omega)];exact long4_lo3 s k w hk hs (by omega) a5 l (by omega) (by omega) (by omega) (by omega) c3
   by_cases d3:192≤s[k+3].toNat
   ·rw [if_pos (by omega)];exact long4_hi3 s k w hk hs (by omega) a5 l (by omega) (by omega) (by omega) (by omega) d3
   rw [if_neg (show ¬ (s.size - k<4∨s[k+1].toNat<128∨192≤s[k+1].toNat∨s[k+2].toNat<128∨192≤s[k+2].toNat∨s[k+3].toNat<128∨192≤s[k+3].toNat) by omega)]
   by_cases v1:64 * (64 * (64 * ((s[k].toNat:Int) - 240)+(s[k+1].toNat:Int) - 128)+(s[k+2].toNat:Int) - 128)+(s[k+3].toNat:Int) - 128<65536
   ·rw [if_pos (by omega)];exact long4_small s k w hk hs (by omega) a5 l (by omega) (by omega) (by omega) (by omega) (by omega) (by omega) v1
   by_cases v2:1114111<64 * (64 * (64 * ((s[k].toNat:Int) - 240)+(s[k+1].toNat:Int) - 128)+(s[k+2].toNat:Int) - 128)+(s[k+3].toNat:Int) - 128
   ·rw [if_pos (by omega)];exact long4_great s k w hk hs (by omega) a5 l (by omega) (by omega) (by omega) (by omega) (by omega) (by omega) v2
   ·rw [if_neg (by omega)];exact long4_ok s k w hk hs (by omega) a5 l (by omega) (by omega) (by omega) (by omega) (by omega) (by omega) (by omega) (by omega)
  ·rw [if_pos (by omega)];exact long4_short s k w hk hs (by omega) a5 (by omega)
 ·rw [show longT (s.size - k) s[k].toNat b1.toNat b2.toNat b3.toNat=0 by unfold longT;rw [if_neg a1,if_neg a2,if_neg a3,if_neg a4,if_neg a5]];exact long_bad2 s k w hk (by omega)
open Go.RowKit
theorem map_map_add (o:Option Nat) (n:Nat):(o.map (· + 1)).map (· + n)=o.map (· + (n+1)):=by
 cases o with
 | none=>rfl
 | some m=>simp;omega
theorem drop_ne {s:ByteArray} {k:Nat} (h:k<s.size):s.data.toList.drop k≠[]:=by
 intro e
 have:=congrArg List.length e
 rw [len_drop] at this
 simp at this
 omega
theorem runesT_none {s:ByteArray} (h:runesO s.data.toList=none):runesT s = -1:=by unfold runesT;rw [h]
theorem runesT_some {s:ByteArray} {n:Nat} (h:runesO s.data.toList=some n):runesT s=n:=by unfold runesT;rw [h]

set_option maxRecDepth 100000 in
set_option maxHeartbeats 800000 in
theorem runes_any (s:ByteArray) (w:World) (hs:s.size≤140737488355328):Calls Try.prog 65 #[.string s] w fun e w'=>e = .returned (.int .i64 (runesT s))∧w=w':=by
 go_enter Try.func65,Try.ntmps65
 go_wp2
 go_loop [3,4] (fun u v => ∃ k n:Nat,k≤s.size∧n≤k∧u = .int .i64 n∧v = .int .i64 k∧Hid (runesO s.data.toList=(runesO (s.data.toList.drop k)).map (· + n))) (fun _ v=>s.size - (intOf v).toNat)
 case atStart=>exact ⟨0,0,Nat.zero_le _,Nat.le_refl _,rfl,rfl,Lib.hid (by simp)⟩
 case round =>
  obtain ⟨k,n,hk,hn,rfl,rfl,hr⟩:=hrel
  by_cases hlt:k<s.size
  ·obtain ⟨q,hq⟩ : ∃ q,longL (s.data.toList.drop k)=q:=⟨_,rfl⟩
   have hle:=longL_le (s.data.toList.drop k) (drop_ne hlt)
   rw [hq,len_drop] at hle
   have hL:=long_any s k w hs hlt
   rw [hq] at hL
   have HL:=Lib.hid hL
   clear hL
   by_cases h0:q=0
   ·subst h0
    have hT:runesT s = -1:=runesT_none (by rw [hr.out,runesO_bad (drop_ne hlt) hq];rfl)
    have HT:=Lib.hid hT
    clear hT hq hle hr
    go_wp2_with (go_at_call 75;refine HL.out.mono ?_;rintro e w' ⟨rfl,rfl⟩)
    go_ret
    exact ⟨ret_int HT.out.symm,rfl⟩
   ·have hT:runesO s.data.toList=(runesO (s.data.toList.drop (k+q))).map (· + (n+1)):=by
     rw [hr.out,runesO_step (drop_ne hlt) (by rw [hq];exact h0),hq,List.drop_drop,map_map_add]
    have HT:=Lib.hid hT
    have z0:((q:Int)==0)=false:=by simpa using h0
    clear hT hq hr h0
    go_wp2_with (go_at_call 75;refine HL.out.mono ?_;rintro e w' ⟨rfl,rfl⟩)
    go_round
    case rel=>exact ⟨k+q,n+1,by omega,by simp at z0;omega,by go_num,by go_num,HT⟩
    case measure=>simp [intOf];simp at z0;omega
  ·have e1:k=s.size:=by omega
   have hT:runesT s=n:=runesT_some (by
    have h:=hr.out
    rw [e1,List.drop_of_length_le (by simp),runesO_nil] at h
    rw [h];simp)
   have HT:=Lib.hid hT
   clear hT e1 hr
   go_wp2
   go_ret
   exact ⟨ret_int HT.out.symm,rfl⟩
theorem runes_at {r:Int} (s:ByteArray) (w:World) (h:Hid (runesT s=r)) (hs:s.size≤140737488355328):Calls Try.prog 65 #[.string s] w fun e w'=>e = .returned (.int .i64 r)∧w=w':=h.out ▸ runes_any s w hs
theorem runes_empty:runesT ⟨#[]⟩=0:=rfl
open Go.RowKit
set_option maxRecDepth 100000 in
set_option maxHeartbeats 600000 in
theorem rcheck_lo (k n:Int) (b:Bool) (s:ByteArray) (w:World) (h:k<1):Calls Try.prog 49 #[.agg #[.int .u8 k, .bool b, .int .i64 n, .string s]] w fun e w'=>e = .returned (.int .i64 13)∧Ext w w':=by
 go_enter Try.func49,Try.ntmps49
 go_wp2
 go_ret
 exact ⟨rfl,(Ext.refl w).alloc _⟩
set_option maxRecDepth 100000 in
set_option maxHeartbeats 600000 in
theorem rcheck_hi (k n:Int) (b:Bool) (s:ByteArray) (w:World) (h:4<k):Calls Try.prog 49 #[.agg #[.int .u8 k, .bool b, .int .i64 n, .string s]] w fun e w'=>e = .returned (.int .i64 13)∧Ext w w':=by
 go_enter Try.func49,Try.ntmps49
 go_wp2
 go_ret
 exact ⟨rfl,(Ext.refl w).alloc _⟩
set_option maxRecDepth 100000 in
set_option maxHeartbeats 600000 in
theorem rcheck_1_b (n:Int) (s:ByteArray) (w:World)  : Calls Try.prog 49 #[.agg #[.int .u8 1, .bool true, .int .i64 n, .string s]] w fun e w'=>e = .returned (.int .i64 13)∧Ext w w':=by
 go_enter Try.func49,Try.ntmps49
 go_wp2
 go_ret
 exact ⟨rfl,(Ext.refl w).alloc _⟩
set_option maxRecDepth 100000 in
set_option maxHeartbeats 600000 in
theorem rcheck_1_n (n:Int) (s:ByteArray) (w:World) (hn:(n != 0)=true):Calls Try.prog 49 #[.agg #[.int .u8 1, .bool false, .int .i64 n, .string s]] w fun e w'=>e = .returned (.int .i64 13)∧Ext w w':=by
 go_enter Try.func49,Try.ntmps49
 go_wp2
 go_ret
 exact ⟨rfl,(Ext.refl w).alloc _⟩
set_option maxRecDepth 100000 in
set_option maxHeartbeats 600000 in
theorem rcheck_1_s (s:ByteArray) (w:World) (hz : ¬ s=⟨#[]⟩):Calls Try.prog 49 #[.agg #[.int .u8 1, .bool false, .int .i64 0, .string s]] w fun e w'=>e = .returned (.int .i64 13)∧Ext w w':=by
 have hz2 : ¬ s.toList=[]:=fun h=>hz (empty_iff.1 h)
 have hz3:s.toList.isEmpty=false:=by simpa using hz2
 clear hz
 go_enter Try.func49,Try.ntmps49
 go_wp2
 go_ret
 exact ⟨rfl,(Ext.refl w).alloc _⟩
set_option maxRecDepth 100000 in
set_option maxHeartbeats 600000 in
theorem rcheck_1_on  (w:World)  : Calls Try.prog 49 #[.agg #[.int .u8 1, .bool false, .int .i64 0, .string ⟨#[]⟩]] w fun e w'=>e = .returned (.int .i64 0)∧Ext w w':=by
 have HR:Hid (runesT ⟨#[]⟩=0):=Lib.hid runes_empty
 go_enter Try.func49,Try.ntmps49
 go_wp2_with (go_at_call 65;refine (runes_at _ _ HR (by simp [ByteArray.size])).mono ?_;rintro e w1 ⟨rfl,rfl⟩)
 go_ret
 exact ⟨rfl,(Ext.refl w).alloc _⟩
set_option maxRecDepth 100000 in
set_option maxHeartbeats 600000 in
theorem rcheck_2_n (b:Bool) (n:Int) (s:ByteArray) (w:World) (hn:(n != 0)=true):Calls Try.prog 49 #[.agg #[.int .u8 2, .bool b, .int .i64 n, .string s]] w fun e w'=>e = .returned (.int .i64 13)∧Ext w w':=by
 go_enter Try.func49,Try.ntmps49
 go_wp2
 go_ret
 exact ⟨rfl,(Ext.refl w).alloc _⟩
set_option maxRecDepth 100000 in
set_option maxHeartbeats 600000 in
theorem rcheck_2_s (b:Bool) (s:ByteArray) (w:World) (hz : ¬ s=⟨#[]⟩):Calls Try.prog 49 #[.agg #[.int .u8 2, .bool b, .int .i64 0, .string s]] w fun e w'=>e = .returned (.int .i64 13)∧Ext w w':=by
 have hz2 : ¬ s.toList=[]:=fun h=>hz (empty_iff.1 h)
 have hz3:s.toList.isEmpty=false:=by simpa using hz2
 clear hz
 go_enter Try.func49,Try.ntmps49
 go_wp2
 go_ret
 exact ⟨rfl,(Ext.refl w).alloc _⟩
set_option maxRecDepth 100000 in
set_option maxHeartbeats 600000 in
theorem rcheck_2_on (b:Bool)  (w:World)  : Calls Try.prog 49 #[.agg #[.int .u8 2, .bool b, .int .i64 0, .string ⟨#[]⟩]] w fun e w'=>e = .returned (.int .i64 0)∧Ext w w':=by
 have HR:Hid (runesT ⟨#[]⟩=0):=Lib.hid runes_empty
 go_enter Try.func49,Try.ntmps49
 go_wp2_with (go_at_call 65;refine (runes_at _ _ HR (by simp [ByteArray.size])).mono ?_;rintro e w1 ⟨rfl,rfl⟩)
 go_ret
 exact ⟨rfl,(Ext.refl w).alloc _⟩
set_option maxRecDepth 100000 in
set_option maxHeartbeats 600000 in
theorem rcheck_3_b (n:Int) (s:ByteArray) (w:World)  : Calls Try.prog 49 #[.agg #[.int .u8 3, .bool true, .int .i64 n, .string s]] w fun e w'=>e = .returned (.int .i64 13)∧Ext w w':=by
 go_enter Try.func49,Try.ntmps49
 go_wp2
 go_ret
 exact ⟨rfl,(Ext.refl w).alloc _⟩
set_option maxRecDepth 100000 in
set_option maxHeartbeats 600000 in
theorem rcheck_3_s (n:Int) (s:ByteArray) (w:World) (hz : ¬ s=⟨#[]⟩):Calls Try.prog 49 #[.agg #[.int .u8 3, .bool false, .int .i64 n, .string s]] w fun e w'=>e = .returned (.int .i64 13)∧Ext w w':=by
 have hz2 : ¬ s.toList=[]:=fun h=>hz (empty_iff.1 h)
 have hz3:s.toList.isEmpty=false:=by simpa using hz2
 clear hz
 go_enter Try.func49,Try.ntmps49
 go_wp2
 go_ret
 exact ⟨rfl,(Ext.refl w).alloc _⟩
set_option maxRecDepth 100000 in
set_option maxHeartbeats 600000 in
theorem rcheck_3_on (n:Int)  (w:World)  : Calls Try.prog 49 #[.agg #[.int .u8 3, .bool false, .int .i64 n, .string ⟨#[]⟩]] w fun e w'=>e = .returned (.int .i64 0)∧Ext w w':=by
 have HR:Hid (runesT ⟨#[]⟩=0):=Lib.hid runes_empty
 go_enter Try.func49,Try.ntmps49
 go_wp2_with (go_at_call 65;refine (runes_at _ _ HR (by simp [ByteArray.size])).mono ?_;rintro e w1 ⟨rfl,rfl⟩)
 go_ret
 exact ⟨rfl,(Ext.refl w).alloc _⟩
set_option maxRecDepth 100000 in
set_option maxHeartbeats 600000 in
theorem rcheck_4_b (n:Int) (s:ByteArray) (w:World)  : Calls Try.prog 49 #[.agg #[.int .u8 4, .bool true, .int .i64 n, .string s]] w fun e w'=>e = .returned (.int .i64 13)∧Ext w w':=by
 go_enter Try.func49,Try.ntmps49
 go_wp2
 go_ret
 exact ⟨rfl,(Ext.refl w).alloc _⟩
set_option maxRecDepth 100000 in
set_option maxHeartbeats 600000 in
theorem rcheck_4_n (n:Int) (s:ByteArray) (w:World) (hn:(n != 0)=true):Calls Try.prog 49 #[.agg #[.int .u8 4, .bool false, .int .i64 n, .string s]] w fun e w'=>e = .returned (.int .i64 13)∧Ext w w':=by
 go_enter Try.func49,Try.ntmps49
 go_wp2
 go_ret
 exact ⟨rfl,(Ext.refl w).alloc _⟩
set_option maxRecDepth 100000 in
set_option maxHeartbeats 600000 in
theorem rcheck_4_bad (r:Int) (s:ByteArray) (w:World) (hr:runesT s=r) (hs:s.size≤140737488355328) (h:r<0):Calls Try.prog 49 #[.agg #[.int .u8 4, .bool false, .int .i64 0, .string s]] w fun e w'=>e = .returned (.int .i64 13)∧Ext w w':=by
 have HR:=Lib.hid hr
 clear hr
 go_enter Try.func49,Try.ntmps49
 go_wp2_with (go_at_call 65;refine (runes_at _ _ HR hs).mono ?_;rintro e w1 ⟨rfl,rfl⟩)
 go_ret
 exact ⟨rfl,(Ext.refl w).alloc _⟩
set_option maxRecDepth 100000 in
set_option maxHeartbeats 600000 in
theorem rcheck_4_long (r:Int) (s:ByteArray) (w:World) (hr:runesT s=r) (hs:s.size≤140737488355328) (h:0≤r) (hl:1000<s.size):Calls Try.prog 49 #[.agg #[.int .u8 4, .bool false, .int .i64 0, .string s]] w fun e w'=>e = .returned (.int .i64 12)∧Ext w w':=by
 have HR:=Lib.hid hr
 clear hr
 go_enter Try.func49,Try.ntmps49
 go_wp2_with (go_at_call 65;refine (runes_at _ _ HR hs).mono ?_;rintro e w1 ⟨rfl,rfl⟩)
 go_ret
 exact ⟨rfl,(Ext.refl w).alloc _⟩
set_option maxRecDepth 100000 in
set_option maxHeartbeats 600000 in
theorem rcheck_4_on (r:Int) (s:ByteArray) (w:World) (hr:runesT s=r) (hs:s.size≤140737488355328) (h:0≤r) (hl:s.size≤1000):Calls Try.prog 49 #[.agg #[.int .u8 4, .bool false, .int .i64 0, .string s]] w fun e w'=>e = .returned (.int .i64 0)∧Ext w w':=by
 have HR:=Lib.hid hr
 clear hr
 go_enter Try.func49,Try.ntmps49
 go_wp2_with (go_at_call 65;refine (runes_at _ _ HR hs).mono ?_;rintro e w1 ⟨rfl,rfl⟩)
 go_ret
 exact ⟨rfl,(Ext.refl w).alloc _⟩
theorem rcheck_any (k:Int) (b:Bool) (n:Int) (s:ByteArray) (w:World) (hs:s.size≤140737488355328) :
  Calls Try.prog 49 #[.agg #[.int .u8 k, .bool b, .int .i64 n, .string s]] w fun e w'=>e = .returned (.int .i64 (checkT k b n s))∧Ext w w':=by
 by_cases h2:k=2
 ·subst h2
  by_cases hn:n=0
  ·subst hn
   by_cases hz:s=⟨#[]⟩
   ·subst hz
    rw [checkT_on (by simp),valid_empty]
    exact rcheck_2_on b w
   ·rw [checkT_off (by simp [hz])];exact rcheck_2_s b s w hz
  ·rw [checkT_off (by simp [hn])];exact rcheck_2_n b n s w (by simpa using hn)
 by_cases h3:k=3
 ·subst h3
  cases b
  ·by_cases hz:s=⟨#[]⟩
   ·subst hz
    rw [checkT_on (by simp),valid_empty]
    exact rcheck_3_on n w
   ·rw [checkT_off (by simp [hz])];exact rcheck_3_s n s w hz
  ·rw [checkT_off (by simp)];exact rcheck_3_b n s w
 by_cases h4:k=4
 ·subst h4
  cases b
  ·by_cases hn:n=0
   ·subst hn
    rw [checkT_on (by simp)]
    by_cases hr:runesT s<0
    ·rw [(runesT_neg s).1 hr];exact rcheck_4_bad _ s w rfl hs hr
    ·have hv:validB s=true:=by
      cases hv:validB s
      ·exact absurd ((runesT_neg s).2 hv) hr
      ·rfl
     rw [hv,if_pos rfl]
     by_cases hl:1000<s.size
     ·rw [if_pos hl];exact rcheck_4_long _ s w rfl hs (by omega) hl
     ·rw [if_neg hl];exact rcheck_4_on _ s w rfl hs (by omega) (by omega)
   ·rw [checkT_off (by simp [hn])];exact rcheck_4_n n s w (by simpa using hn)
  ·rw [checkT_off (by simp)];exact rcheck_4_b n s w
 by_cases h1:k=1
 ·subst h1
  cases b
  ·by_cases hn:n=0
   ·subst hn
    by_cases hz:s=⟨#[]⟩
    ·subst hz
     rw [checkT_on (by simp),valid_empty]
     exact rcheck_1_on w
    ·rw [checkT_off (by simp [hz])];exact rcheck_1_s s w hz
   ·rw [checkT_off (by simp [hn])];exact rcheck_1_n n s w (by simpa using hn)
  ·rw [checkT_off (by simp)];exact rcheck_1_b n s w
 ·rw [checkT_off (by simp [h1,h2,h3,h4])]
  rcases Int.lt_or_le k 1 with h | h
  ·exact rcheck_lo k n b s w h
  ·exact rcheck_hi k n b s w (by omega)
theorem rcheck_at {c:Int} (k:Int) (b:Bool) (n:Int) (s:ByteArray) (w:World) (h:Hid (checkT k b n s=c)) (hs:s.size≤140737488355328) :
  Calls Try.prog 49 #[.agg #[.int .u8 k, .bool b, .int .i64 n, .string s]] w fun e w'=>e = .returned (.int .i64 c)∧Ext w w':=h.out ▸ rcheck_any k b n s w hs
open Go.RowKit
set_option maxRecDepth 100000 in
set_option maxHeartbeats 2000000 in
theorem refCheckZ_any (A:Option Addr) (c n:Nat) (l:List Dat) (w:World) (e1:n=l.length) (h1:Rw w A c l) (ht : ∀ d∈l,d.s.size≤140737488355328) :
  Calls Try.prog 31 #[.slice A n c] w fun e w'=>e = .returned (.int .i64 (checkR l))∧Ext w w':=by
 have E1:=Lib.hid e1
 have hl1:=h1.le
 rw [← e1] at hl1
 have H1:=Lib.hid h1
 have HT:=Lib.hid ht
 clear e1 h1 ht
 by_cases h32:32<n
 ·have HR:Hid (checkR l=20):=Lib.hid (by unfold checkR;rw [if_pos (by rw [← E1.out];exact h32)])
  go_enter Try.func31,Try.ntmps31
  go_wp2
  go_ret
  exact ⟨(by rw [HR.out];rfl),Ext.refl w⟩
 have HR:Hid (checkR l=checkL l):=Lib.hid (by unfold checkR;rw [if_neg (by rw [← E1.out];exact h32)])
 go_enter Try.func31,Try.ntmps31
 go_wp2
 go_loopw [3] (fun v wr => ∃ i:Nat,i≤n∧v = .int .i64 i∧Hid (checkL (l.drop i)=checkL l)∧Ext w wr) (fun v _=>n - (intOf v).toNat)
 case atStart=>exact ⟨0,Nat.zero_le _,rfl,Lib.hid rfl,Ext.refl _⟩
 case round =>
  obtain ⟨i,hi,rfl,hr,er⟩:=hrel
  have hsz:=er.size
  by_cases hlt:i<n
  ·have hil:i<l.length:=by rw [← E1.out];exact hlt
   obtain ⟨a1,rfl,p0,p1,p2,p3⟩:=(H1.out.ext er).at hil
   have hts:(l.getD i Dat.zero).s.size≤140737488355328:=HT.out _ (by rw [List.getD_eq_getElem?_getD,List.getElem?_eq_getElem hil];exact List.getElem_mem hil)
   have HS0:=Lib.hid (checkL_drop hil)
   obtain ⟨d,hd⟩ : ∃ d,l.getD i Dat.zero=d:=⟨_,rfl⟩
   rw [hd] at p0 p1 p2 p3 hts HS0
   clear hil hd
   obtain ⟨v,hv⟩ : ∃ v,d.check=v:=⟨_,rfl⟩
   have HS:Hid (checkL l=if v=0 then checkL (l.drop (i+1)) else v):=Lib.hid (by rw [← hr.out,HS0.out,hv])
   clear HS0 hr
   obtain ⟨ka,ba,na,sa⟩:=d
   simp only at p0 p1 p2 p3 hts
   have HV:=Lib.hid hv
   clear hv
   by_cases hv0:v=0
   ·subst hv0
    go_wp2_with (go_at_call 49;refine (rcheck_at ka ba na sa _ HV (Nat.le_trans hts (by decide))).mono ?_;rintro e w1 ⟨rfl,x1⟩)
    go_roundw
    case rel=>exact ⟨i+1,by omega,by go_num,Lib.hid (by rw [HS.out];simp),er.trans x1⟩
    case measure=>simp [intOf];omega
   ·have z:(v != 0)=true:=by simpa using hv0
    have HZ:=Lib.hid hv0
    clear hv0
    go_wp2_with (go_at_call 49;refine (rcheck_at ka ba na sa _ HV (Nat.le_trans hts (by decide))).mono ?_;rintro e w1 ⟨rfl,x1⟩)
    go_ret
    exact ⟨(by rw [HR.out,HS.out,if_neg HZ.out];rfl),er.trans x1⟩
  ·obtain rfl:i=n:=by omega
   have HT2:Hid (checkL l=0):=Lib.hid (by rw [← hr.out,List.drop_eq_nil_of_le (by rw [← E1.out];exact Nat.le_refl _)];rfl)
   clear hr
   go_wp2
   go_ret
   exact ⟨(by rw [HR.out,HT2.out];rfl),er⟩
end Go.Proofs.Ytdgbkpoickbidaa
