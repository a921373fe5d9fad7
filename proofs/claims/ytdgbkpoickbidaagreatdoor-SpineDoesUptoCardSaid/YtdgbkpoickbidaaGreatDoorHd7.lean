/- Parts of the proof, put together. Conditions: each theorem states its own. -/
import Derived.Test.YtdgbkpoickbidaaGreatDoorHd6
import Derived.Deep.Strs
import Derived.Shelf.Abstract
import Derived.Shelf.SlSortCmp.WholeK
import Derived.Shelf.SlGeneric
import Derived.Ground.SlsfProg
set_option maxRecDepth 100000
set_option maxHeartbeats 8000000
open Go.RowKit
namespace Go.Proofs.YtdgbkpoickbidaaGreatDoor.UdS
abbrev V:=UK×Int
def cmpV(x y:V):Int:=Hp x.1 y.1
theorem cmpV_tot:Bs cmpV:=⟨fun x y=>Jo.neg x.1 y.1,fun x y z=>Jo.trans x.1 y.1 z.1⟩
def InN(x:V):Prop := -9223372036854775808<=x.2/\x.2<=9223372036854775807
def cnt(l:List V):Int:=w64 (l.foldr (fun x a=>x.2+a) 0)
theorem cnt_snoc(l:List V)(x:V):cnt (l++[x])=w64 (cnt l+x.2):=by
 unfold cnt;rw[Of]
 congr 1
 induction l with
 | nil=>simp
 | cons y l ih=>simp only[CD,List.foldr_cons];rw[ih];omega
theorem cnt_one{x:V}(h:InN x):cnt [x]=x.2:=by
 show w64 (x.2+0)=x.2;rw[GJ];exact Xv h
def sumClass:List V->List V
 | []=>[]
 | x::xs=>[(x.1,cnt (x::xs))]
theorem sumClass_one{x:V}(h:InN x):sumClass [x]=[x]:=by
 show [(x.1,cnt [x])]=[x];rw[cnt_one h]
theorem sumClass_nil{l:List V}(h:sumClass l=[]):l=[]:=by
 cases l with
 | nil=>rfl
 | cons x l=>exact nomatch h
theorem sumClass_snoc{l:List V}{y x:V}(h:[y]=sumClass l):sumClass (l++[x])=[(y.1,w64 (y.2+x.2))]:=by
 cases l with
 | nil=>exact nomatch h
 | cons z l =>
  injection h with h _;subst h;show [(z.1,cnt ((z::l)++[x]))]=_;rw[cnt_snoc]
theorem sumClass_twice(l:List V):sumClass (sumClass l)=sumClass l:=by
 cases l with
 | nil=>rfl
 | cons x l =>
  show [(x.1,w64 (cnt (x::l)+0))]=[(x.1,cnt (x::l))];rw[GJ,show w64 (cnt (x::l))=cnt (x::l)from Xv (Sf _)]
theorem sumClass_mem{l:List V}{y:V}(h:y∈sumClass l):sumClass l=[y]:=by
 cases l with
 | nil=>cases h
 | cons x l =>
  have:y=(x.1,cnt (x::l)):=by simpa [sumClass] using h
  rw[this];rfl
structure Summed (D R:List V):Prop where
 sorted:R.Pairwise fun x y=>cmpV x y<0
 same:∀c,Af cmpV c R=sumClass (Af cmpV c D)
theorem Summed.unique{D R S:List V}(h:Summed D R)(k:Summed D S):R=S :=
 Ae.unique cmpV_tot (l:=R) ⟨h.sorted.imp fun q=>EB q,fun _=>rfl⟩ ⟨k.sorted.imp fun q=>EB q,fun c=>by rw[h.same,k.same]⟩
theorem alike_one(c x:V):Af cmpV c [x]=if cmpV c x=0 then [x] else []:=by
 unfold Af;by_cases h:cmpV c x=0
 ·rw[if_pos h,CY (by simpa using h)];rfl
 ·rw[if_neg h,DC (by simpa using h)];rfl
theorem alike_none{c:V}{l:List V}(h:∀y∈l,¬cmpV c y=0):Af cmpV c l=[]:=GC.2 fun y hy q=>h y hy (by simpa using q)
def mergeStep(M:List V)(x:V):List V:=match M.getLast? with
 | some y=>if cmpV y x=0 then M.dropLast++[(y.1,w64 (y.2+x.2))] else M++[x]
 | none=>[x]
def mergeV(S:List V):List V:=S.foldl mergeStep []
theorem mergeStep_nil(x:V):mergeStep [] x=[x]:=rfl
theorem mergeStep_snoc(M:List V)(y x:V):mergeStep (M++[y]) x=if cmpV y x=0 then M++[(y.1,w64 (y.2+x.2))] else M++[y]++[x]:=by
 unfold mergeStep;rw[EG,DX];simp
theorem mergeV_snoc(S:List V)(x:V):mergeV (S++[x])=mergeStep (mergeV S) x:=by
 unfold mergeV;rw[DT];rfl
theorem merge_sum(S:List V):S.Pairwise (fun x y=>cmpV x y<=0)->(∀x∈S,InN x)->Summed S (mergeV S)/\((S=[]/\mergeV S=[])\/∃S0 s M0 y,S=S0++[s]/\mergeV S=M0++[y]/\cmpV y s=0):=by
 refine Jm (p:=fun S=>S.Pairwise (fun x y=>cmpV x y<=0)->(∀x∈S,InN x)->Summed S (mergeV S)/\((S=[]/\mergeV S=[])\/∃S0 s M0 y,S=S0++[s]/\mergeV S=M0++[y]/\cmpV y s=0)) ?_ ?_ S
 ·exact fun _ _=>⟨⟨List.Pairwise.nil,fun _=>rfl⟩,.inl ⟨rfl,rfl⟩⟩
 ·intro S x ih hs hin;have hs':=BG.1 hs;have hx:=hin x (by simp);obtain⟨⟨i1,i2⟩,i3⟩:=ih hs'.1 (fun y hy=>hin y (BH _ hy));rw[mergeV_snoc];rcases i3 with ⟨rfl,i4⟩|⟨S0,s,M0,y,e1,e2,e3⟩
  ·rw[i4,mergeStep_nil];refine⟨⟨BL _ _,fun c=>?_⟩,.inr ⟨[],x,[],x,rfl,rfl,cmpV_tot.refl x⟩⟩;rw[BC,alike_one];split
   ·rw[sumClass_one hx]
   ·rfl
  ·rw[e2]at i1 i2 ⊢;rw[mergeStep_snoc];have p1:=BG.1 i1;have hlast:∀m∈M0,cmpV m y<0:=fun m hm=>p1.2.2 m hm y (by simp);have hsx:cmpV s x<=0:=hs'.2.2 s (by rw[e1];simp) x (by simp);have hyx:cmpV y x<=0:=cmpV_tot.trans y s x (by omega) hsx;by_cases h0:cmpV y x=0
   ·rw[if_pos h0];refine⟨⟨BG.2 ⟨p1.1,BL _ _,fun m hm z hz=>?_⟩,fun c=>?_⟩,.inr ⟨S,x,M0,_,rfl,rfl,h0⟩⟩
    ·rw[AH.1 hz];exact hlast m hm
    ·have q:=i2 c;rw[Ag,alike_one]at q;rw[Ag,Ag,alike_one,alike_one];by_cases hc:cmpV c y=0
     ·have hcx:cmpV c x=0:=cmpV_tot.eq_trans hc h0;have hM:Af cmpV c M0=[]:=alike_none fun m hm e=>by
       have:=hlast m hm;have:=(cmpV_tot.eq_left (z:=y) (show cmpV m c=0 by rw[cmpV_tot.neg,e];rfl)).2 hc;omega
      rw[if_pos hc,hM,BC]at q;rw[if_pos (show cmpV c (y.1,w64 (y.2+x.2))=0 from hc),if_pos hcx,hM,BC];exact(sumClass_snoc q).symm
     ·have hcx:¬cmpV c x=0:=fun e=>hc (cmpV_tot.eq_trans e (by rw[cmpV_tot.neg,h0];rfl));rw[if_neg hc]at q;rw[if_neg (show ¬cmpV c (y.1,w64 (y.2+x.2))=0 from hc),if_neg hcx,AP (Af cmpV c S)];exact q
   ·rw[if_neg h0];have hlt:∀m∈M0++[y],cmpV m x<0:=fun m hm=>by
     rcases AR.1 hm with h|h
     ·exact cmpV_tot.lt_of_lt_le (hlast m h) hyx
     ·rw[AH.1 h];omega
    refine⟨⟨BG.2 ⟨i1,BL _ _,fun m hm z hz=>?_⟩,fun c=>?_⟩,.inr ⟨S,x,M0++[y],x,rfl,rfl,cmpV_tot.refl x⟩⟩
    ·rw[AH.1 hz];exact hlt m hm
    ·have q:=i2 c;have e4:Af cmpV c (M0++[y]++[x])=Af cmpV c (M0++[y])++Af cmpV c [x]:=Ag _ _ _;have e5:Af cmpV c (S++[x])=Af cmpV c S++Af cmpV c [x]:=Ag _ _ _;rw[e4,e5,q,alike_one];by_cases hc:cmpV c x=0
     ·have hM:Af cmpV c (M0++[y])=[]:=alike_none fun m hm e=>by
       have:=hlt m hm;have:=(cmpV_tot.eq_left (z:=x) (show cmpV m c=0 by rw[cmpV_tot.neg,e];rfl)).2 hc;omega
      rw[hM]at q;rw[sumClass_nil q.symm,if_pos hc];show []++[x]=sumClass ([]++[x]);rw[BC,sumClass_one hx]
     ·rw[if_neg hc,AP,AP]
theorem Summed.of_stable{D S:List V}(h:Ae cmpV D S)(hin:∀x∈D,InN x):Summed D (mergeV S):=by
 have k:=(merge_sum S h.sorted (fun x hx=>hin x ((h.mem cmpV_tot x).1 hx))).1;exact⟨k.sorted,fun c=>by rw[k.same,h.same]⟩
def addV:List V->V->List V
 | [],x=>[x]
 | y::R,x=>if cmpV y x<0 then y::addV R x else if cmpV y x=0 then (y.1,w64 (y.2+x.2))::R else x::y::R
theorem alike_cons(c y:V)(R:List V):Af cmpV c (y::R)=(if cmpV c y=0 then [y] else [])++Af cmpV c R:=by
 have:=Ag (cmp:=cmpV) c [y] R;rw[alike_one]at this;exact this
theorem addV_mem(x:V):∀(R:List V) (z:V),(∀y∈R,cmpV z y<0)->cmpV z x<0->∀y∈addV R x,cmpV z y<0
 | [],z,_,hx,y,hy=>by rw[AH.1 hy];exact hx
 | a::R,z,h,hx,y,hy=>by
  unfold addV at hy;split at hy
  ·rcases AZ.1 hy with rfl|q
   ·exact h _ (BE ..)
   ·exact addV_mem x R z (fun b hb=>h b (BN _ hb)) hx y q
  ·split at hy
   ·rcases AZ.1 hy with rfl|q
    ·exact h a (BE ..)
    ·exact h y (BN _ q)
   ·rcases AZ.1 hy with rfl|q
    ·exact hx
    ·exact h y q
theorem addV_same(x:V)(hx:InN x)(c:V):∀(R:List V) (l:List V),R.Pairwise (fun x y=>cmpV x y<0)->Af cmpV c R=sumClass l->Af cmpV c (addV R x)=sumClass (l++if cmpV c x=0 then [x] else [])
 | [],l,_,h=>by
  have:=sumClass_nil (show sumClass l=[]from h.symm);subst this;show Af cmpV c [x]=_;rw[alike_one];split
  ·rw[BC,sumClass_one hx]
  ·rfl
 | y::R,l,hp,h=>by
  have hp':=BS.1 hp;unfold addV;by_cases h1:cmpV y x<0
  ·rw[if_pos h1,alike_cons];rw[alike_cons]at h;by_cases hc:cmpV c y=0
   ·have hcx:¬cmpV c x=0:=fun e=>by have:=(cmpV_tot.eq_left (z:=x) hc).1 e;omega
    rw[if_pos hc]at h ⊢;have hR:Af cmpV c R=[]:=alike_none fun z hz e=>by
     have:=hp'.1 z hz;have:=(cmpV_tot.eq_left (z:=z) hc).1 e;omega
    rw[hR]at h;have:=addV_same x hx c R [] hp'.2 hR;rw[this,if_neg hcx,AP,AP];exact h
   ·rw[if_neg hc]at h ⊢;exact addV_same x hx c R l hp'.2 h
  ·rw[if_neg h1];by_cases h2:cmpV y x=0
   ·rw[if_pos h2,alike_cons];rw[alike_cons]at h;by_cases hc:cmpV c y=0
    ·have hcx:cmpV c x=0:=cmpV_tot.eq_trans hc h2;have hR:Af cmpV c R=[]:=alike_none fun z hz e=>by
      have:=hp'.1 z hz;have:=(cmpV_tot.eq_left (z:=z) hc).1 e;omega
     rw[if_pos hc,hR]at h;rw[if_pos (show cmpV c (y.1,w64 (y.2+x.2))=0 from hc),hR,if_pos hcx];exact(sumClass_snoc h).symm
    ·have hcx:¬cmpV c x=0:=fun e=>hc (cmpV_tot.eq_trans e (by rw[cmpV_tot.neg,h2];rfl));rw[if_neg hc]at h;rw[if_neg (show ¬cmpV c (y.1,w64 (y.2+x.2))=0 from hc),if_neg hcx,AP];exact h
   ·rw[if_neg h2,alike_cons];by_cases hc:cmpV c x=0
    ·have hyx:cmpV x y<0:=by rw[cmpV_tot.neg];omega
     have hR:Af cmpV c (y::R)=[]:=alike_none fun z hz e=>by
      have hxz:cmpV x z<0:=by
       rcases AZ.1 hz with rfl|q
       ·exact hyx
       ·exact cmpV_tot.lt_of_lt_le hyx (EB (hp'.1 z q))
      have:=(cmpV_tot.eq_left (z:=z) hc).1 e;omega
     rw[hR]at h ⊢;rw[if_pos hc,sumClass_nil h.symm];show [x]++[]=sumClass ([]++[x]);rw[BC,sumClass_one hx];rfl
    ·rw[if_neg hc,BC,AP];exact h
theorem addV_sorted(x:V):∀R:List V,R.Pairwise (fun x y=>cmpV x y<0)->(addV R x).Pairwise (fun x y=>cmpV x y<0)
 | [],_=>BL _ _
 | y::R,h=>by
  have h':=BS.1 h;unfold addV;split
  ·rename_i h1;exact BS.2 ⟨addV_mem x R y h'.1 h1,addV_sorted x R h'.2⟩
  ·split
   ·exact BS.2 ⟨fun z hz=>h'.1 z hz,h'.2⟩
   ·rename_i h1 h2;have hyx:cmpV x y<0:=by rw[cmpV_tot.neg];omega
    exact BS.2 ⟨fun z hz=>(AZ.1 hz).elim (fun e=>e▸hyx) (fun q=>cmpV_tot.lt_of_lt_le hyx (EB (h'.1 z q))),h⟩
theorem Summed.add{D R:List V}{x:V}(h:Summed D R)(hx:InN x):Summed (D++[x]) (addV R x):=⟨addV_sorted x R h.sorted,fun c=>by rw[addV_same x hx c R _ h.sorted (h.same c),Ag,alike_one]⟩
def sumAll(L:List V):List V:=L.foldl addV []
theorem Summed.all(L:List V):(∀x∈L,InN x)->Summed L (sumAll L):=by
 refine Jm (p:=fun L=>(∀x∈L,InN x)->Summed L (sumAll L)) (fun _=>⟨List.Pairwise.nil,fun _=>rfl⟩) (fun L x ih h=>?_) L;unfold sumAll;rw[DT];exact(ih (fun y hy=>h y (BH _ hy))).add (h x (by simp))
def sumV(L:List V):List V:=(sumAll L).filter fun x=>!(x.2==0)
theorem dedup_new{L O:List V}{x:V}(h:∀c,Af cmpV c O=sumClass (Af cmpV c L))(hx:InN x)(hn:∀y∈O,¬cmpV y x=0)(c:V):Af cmpV c (O++[x])=sumClass (Af cmpV c (L++[x])):=by
 rw[Ag,Ag,h,alike_one];by_cases hc:cmpV c x=0
 ·have hO:Af cmpV c O=[]:=alike_none fun y hy e=>hn y hy (cmpV_tot.eq_trans (by rw[cmpV_tot.neg,e];rfl) hc);have:=h c;rw[hO]at this;rw[sumClass_nil this.symm,if_pos hc];show []++[x]=sumClass ([]++[x]);rw[BC,sumClass_one hx]
 ·rw[if_neg hc,AP,AP]
theorem dedup_old{L P Q:List V}{y x:V}(h:∀c,Af cmpV c (P++y::Q)=sumClass (Af cmpV c L))(hy:cmpV y x=0)(c:V):Af cmpV c (P++(y.1,w64 (y.2+x.2))::Q)=sumClass (Af cmpV c (L++[x])):=by
 have q:=h c;rw[Ag,alike_cons]at q;rw[Ag,alike_cons,Ag,alike_one];by_cases hc:cmpV c y=0
 ·have hcx:cmpV c x=0:=cmpV_tot.eq_trans hc hy;rw[if_pos hc]at q;have hm:=sumClass_mem (l:=Af cmpV c L) (y:=y) (by rw[<-q];simp);have hl:=congrArg List.length (q.trans hm);simp only[AA,AI,CB]at hl;have hP:Af cmpV c P=[]:=AG (by omega);have hQ:Af cmpV c Q=[]:=AG (by omega);rw[if_pos (show cmpV c (y.1,w64 (y.2+x.2))=0 from hc),if_pos hcx,hP,hQ];exact(sumClass_snoc hm.symm).symm
 ·have hcx:¬cmpV c x=0:=fun e=>hc (cmpV_tot.eq_trans e (by rw[cmpV_tot.neg,hy];rfl));rw[if_neg hc]at q;rw[if_neg (show ¬cmpV c (y.1,w64 (y.2+x.2))=0 from hc),if_neg hcx,AP (Af cmpV c L)];exact q
end Go.Proofs.YtdgbkpoickbidaaGreatDoor.UdS
namespace Go.Proofs.YtdgbkpoickbidaaGreatDoor
def atV(U:List UV)(t:TV):List V:=(U.filter fun v=>Gp v.1.2 t).map fun v=>(v.1.1,v.2)
def atU(L:List Ud)(t:TV):List Ct:=(L.filter fun x=>Gp x.t.v t).map fun x=>⟨x.A,x.c,x.l,x.d⟩
theorem kG(L:List Ud)(t:TV):(atU L t).map Am=atV (L.map Ud.uv) t:=by
 unfold atU atV;rw[DD,EH,DD];rfl
theorem dB{L:List Ud}{i:Nat}{x:Ud}(hi:i<L.length)(hx:L.getD i Ud.zero=x)(t:TV):atU (L.take (i+1)) t=atU (L.take i) t++if Gp x.t.v t=true then [⟨x.A,x.c,x.l,x.d⟩] else []:=by
 unfold atU;rw[Ig hi,hx,DR,AO]
 congr 1
 split
 ·rename_i h;simp[h]
 ·rename_i h;simp[h]
structure InU (x:Ud):Prop where
 row:InC ⟨x.A,x.c,x.l,x.d⟩
 tu:U32 x.t.l
 tn:x.t.l.length<=100000
 te:0<=x.t.e/\x.t.e<=18446744073709551615
theorem InU.num{x:Ud}(h:InU x):UdS.InN x.uv:=h.row.num
theorem InU.lens{x:Ud}(h:InU x):x.l.length<=1000000000/\x.t.l.length<=1000000000:=⟨AQ h.row.len (by decide),AQ h.tn (by decide)⟩
def Lh(w:World)(U:List V)(e:Ending)(w':World):Prop:=∃A m c R,e=.returned (.slice A m c)/\m=R.length/\Own w' w.heap.size 154 2 A m c (Bg R) /\
 (∀x∈R,RwO w' x.A x.c x.l/\∀ad,x.A=some ad->w.heap.size<=ad.block/\blk A c≠some ad.block)/\Iu R/\R.map Am=U/\Ext w w'
theorem Lf.late{w w0 w':World}{L:List Ct}{e:Ending}{U:List V}(h:Lf w0 L e w')(x:Ext w w0)(hv:sumV (L.map Am)=U):Lh w U e w':=by
 obtain⟨A,m,c,R,e1,e2,o,r,a,v,x2⟩:=h;exact⟨A,m,c,R,e1,e2,o.mono x.size,fun y hy=>⟨(r y hy).1,fun ad q=>⟨AQ x.size ((r y hy).2 ad q).1,((r y hy).2 ad q).2⟩⟩,a,by rw[v,hv],x.trans x2⟩
theorem jG{b:Bool}(e1 e2:Int)(A1 A2:Option Addr)(n1 n2 c1 c2:Nat)(l1 l2:List Int)(w:World)(hb:Hid (Iq e1 l1 e2 l2=b))(h1:Sl w 1 A1 n1 c1 (wds l1))(h2:Sl w 1 A2 n2 c2 (wds l2)) :
  Calls Tryz.prog 108 #[.agg #[.int .u64 e1,.slice A1 n1 c1],.agg #[.int .u64 e2,.slice A2 n2 c2]] w fun e w'=>e=.returned (.bool b)/\Ext w w':=hb.out▸jT e1 e2 A1 A2 n1 n2 c1 c2 l1 l2 w h1 h2
structure Nv (w wr:World) (L:List Ud) (t:TV) (i:Nat) (A:Option Addr) (m c:Nat):Prop where
 len:m=(atU (L.take i) t).length
 own:Own wr w.heap.size 154 2 A m c (Bg (atU (L.take i) t))
 ext:Ext w wr
theorem Nv.skip{w wr w2:World}{L:List Ud}{t:TV}{i m c:Nat}{A:Option Addr}{x:Ud}(h:Nv w wr L t i A m c)(hi:i<L.length)(hx:L.getD i Ud.zero=x)(hb:Gp x.t.v t=false)(q:Ext wr w2):Nv w w2 L t (i+1) A m c:=by
 have e:atU (L.take (i+1)) t=atU (L.take i) t:=by rw[dB hi hx,if_neg (by rw[hb];decide),AP]
 exact⟨by rw[e];exact h.len,by rw[e];exact h.own.ext q,h.ext.trans q⟩
theorem Nv.more{w wr w2:World}{L:List Ud}{t:TV}{i m c:Nat}{A A2:Option Addr}{c2 m2:Nat}{x:Ud}(h:Nv w wr L t i A m c)(hi:i<L.length)(hx:L.getD i Ud.zero=x)(hb:Gp x.t.v t=true)(hm:m2=m+1)
  (o:Own w2 w.heap.size 154 2 A2 m2 c2 (Bg (atU (L.take i) t)++[.slice x.A x.l.length x.c,.int .i64 x.d])) (q:Ext w w2):Nv w w2 L t (i+1) A2 m2 c2:=by
 have e:atU (L.take (i+1)) t=atU (L.take i) t++[⟨x.A,x.c,x.l,x.d⟩]:=by rw[dB hi hx,if_pos hb]
 refine⟨by rw[e,AA,hm,h.len];rfl,?_,q⟩;rw[e,Fp];exact o
theorem wD(A:Option Addr)(c n:Nat)(L:List Ud)(e:Int)(At:Option Addr)(nt ct:Nat)(lt:List Int)(w:World)(hn:Hid (n=L.length))(h:Hid (Uin w A c L))(h9:n<=1000000)(hin:Hid (∀x∈L,InU x))(ht:Hid (Sl w 1 At nt ct (wds lt)))(G:Good w) :
  Calls Tryz.prog 17 #[.slice A n c,.agg #[.int .u64 e,.slice At nt ct]] w (Lh w (sumV (atV (L.map Ud.uv) (e,lt)))):=by
 go_enter Tryz.func17,Tryz.ntmps17;go_wp2;obtain⟨wb,hwb⟩:∃wb,wb=w.alloc (.cells #[.int .u64 e,.slice At nt ct] 26):=⟨_,rfl⟩;have XB:Hid (Ext w wb):=hid (by rw[hwb];exact(Ext.refl _).alloc _);have BT:Hid (Bk wb w.heap.size 26 #[.int .u64 e,.slice At nt ct]):=hid (by rw[hwb];exact Bk.new _ _ _);rw[<-hwb];clear hwb;obtain⟨gt,hgt⟩:∃k,k=w.heap.size:=⟨_,rfl⟩;rw[<-hgt]at BT ⊢;clear hgt;have HP0:Hid (Nv wb wb L (e,lt) 0 none 0 0):=hid ⟨rfl,Own.nil _ _ _ _,Ext.refl _⟩
 go_loopg [5,10] n (fun z u v wr=>∃(i m c3:Nat) (A3:Option Addr),z=n-i/\i<=n/\m<=i/\u=.slice A3 m c3/\v=.int .i64 i/\Hid (Nv wb wr L (e,lt) i A3 m c3))
 case atStart=>exact⟨0,0,0,none,rfl,AE _,AD _,rfl,rfl,HP0⟩
 case round =>
  clear HP0;obtain⟨i,m,c3,A3,rfl,hi,hmi,rfl,rfl,HP⟩:=hrel;by_cases hlt:i<n
  ·have hil:i<L.length:=by rw[<-hn.out];exact hlt
   have XW:=XB.out.trans HP.out.ext;obtain⟨ad,rfl,p0,p1,p2,p3⟩:=(h.out.ext XW).at hil;have hm:=Ar hil;obtain⟨x,hx⟩:∃x,L.getD i Ud.zero=x:=⟨_,rfl⟩;rw[hx]at p0 p1 p2 p3 hm;obtain⟨nx,hnx⟩:∃nx,nx=x.l.length:=⟨_,rfl⟩;obtain⟨tx,htx⟩:∃tx,tx=x.t.l.length:=⟨_,rfl⟩;rw[<-hnx]at p0;rw[<-htx]at p2;have HNX:=hid hnx;have HX:=hid hx;have HIL:=hid hil;have HTX:Hid (∀W,Ext wr W->Sl W 1 x.t.A tx x.t.c (wds x.t.l)):=hid (fun W q=>by rw[htx];exact((h.out.ls x hm).t.ext XW).ext q);have HT:Hid (∀W,Ext wr W->Sl W 1 At nt ct (wds lt)):=hid (fun W q=>(ht.out.ext XW).ext q);have XA:Ext wr (wr.alloc (.cells #[.slice x.A nx x.c,.int .u64 x.t.e,.slice x.t.A tx x.t.c,.int .i64 x.d] 95)):=(Ext.refl wr).alloc _;have BX:Hid (Bk (wr.alloc (.cells #[.slice x.A nx x.c,.int .u64 x.t.e,.slice x.t.A tx x.t.c,.int .i64 x.d] 95)) wr.heap.size 95 #[.slice x.A nx x.c,.int .u64 x.t.e,.slice x.t.A tx x.t.c,.int .i64 x.d]):=hid (Bk.new _ _ _);have t0:=(BT.out.ext (HP.out.ext.trans XA)).cell 0;have t1:=(BT.out.ext (HP.out.ext.trans XA)).cell 1;obtain⟨b,hb⟩:∃b,Iq x.t.e x.t.l e lt=b:=⟨_,rfl⟩;have HB:=hid hb;clear hil hm hx hnx htx hb XW;have m1:True:=trivial;cases b with
   | true =>
    go_wp2_with (first
     | (go_at_call 108;have mk:=m1;clear m1 mk;refine(jG x.t.e e x.t.A At tx nt x.t.c ct x.t.l lt _ HB (HTX.out _ XA) (HT.out _ XA)).mono ?_;rintro r w1 ⟨rfl,x1⟩;have q0:=(BX.out.ext x1).cell 0;have q3:=(BX.out.ext x1).cell 3;have X1:=hid (XA.trans x1);have hw1:wb.heap.size<=w1.heap.size:=(HP.out.ext.trans X1.out).size;clear x1;have m2:True:=trivial)
     | (at_builtin;have mk:=m2;clear m2 mk;refine Ab _ Br wb.heap.size _ _ rfl rfl A3 m c3 (Bg (atU (L.take i) (e,lt))) rfl ((HP.out.own.ext X1.out).alloc _) (some ⟨w1.heap.size,0,none⟩) 1 1 [.slice x.A nx x.c,.int .i64 x.d] rfl (Mt _ _ _ _) (by intro u hu;simp at hu;rcases hu with rfl|rfl<;>rfl) (by omega) (by decide) (by simp;omega) ?_;intro A6 c6 w6 o6 g6 h6;clear h6;have HQ6:Hid (Nv wb w6 L (e,lt) (i+1) A6 (m+1) c6):=hid (HP.out.more HIL.out HX.out HB.out rfl (by have:=o6;rwa [HNX.out]at this) (((HP.out.ext.trans X1.out).alloc _).grown g6 (fun k e=>(HP.out.own.lt k e).1)));clear o6 g6)
     | fail)
    go_roundg (n-(i+1))
    case measure=>omega
    case rel=>exact⟨i+1,m+1,c6,A6,rfl,by omega,by omega,rfl,by go_num,HQ6⟩
   | false =>
    go_wp2_with (first
     | (go_at_call 108;have mk:=m1;clear m1 mk;refine(jG x.t.e e x.t.A At tx nt x.t.c ct x.t.l lt _ HB (HTX.out _ XA) (HT.out _ XA)).mono ?_;rintro r w1 ⟨rfl,x1⟩;have HQ6:Hid (Nv wb w1 L (e,lt) (i+1) A3 m c3):=hid (HP.out.skip HIL.out HX.out HB.out (XA.trans x1));clear x1)
     | fail)
    go_roundg (n-(i+1))
    case measure=>omega
    case rel=>exact⟨i+1,m,c3,A3,rfl,by omega,by omega,rfl,by go_num,HQ6⟩
  ·obtain rfl:i=n:=by omega
   have XW:=XB.out.trans HP.out.ext;have ea:atU (L.take i) (e,lt)=atU L (e,lt):=by rw[AT (by rw[<-hn.out];exact AD _)]
   have HC:Hid (Er wr A3 c3 (atU L (e,lt))):=hid ⟨by have:=HP.out.own.sl;have q:=HP.out.len;rw[ea]at this q;rwa [q]at this,fun y hy=>by
    obtain⟨x,hx,rfl⟩:=AW.1 hy;exact(h.out.ls x (BV.1 hx).1).r.ext XW⟩
   have HI:Hid (∀y∈atU L (e,lt),InC y):=hid (fun y hy=>by
    obtain⟨x,hx,rfl⟩:=AW.1 hy;exact(hin.out x (BV.1 hx).1).row)
   have HM:Hid (m=(atU L (e,lt)).length):=hid (by rw[<-ea];exact HP.out.len);have HV:Hid (sumV ((atU L (e,lt)).map Am)=sumV (atV (L.map Ud.uv) (e,lt))):=hid (by rw[kG]);have GW:=hid (G.ext XW);have HXW:=hid XW;clear ea XW;go_wp2_with (first
    | (go_at_call 109;refine(uM A3 c3 m (atU L (e,lt)) _ HM.out (by omega) HC.out HI.out GW.out).mono ?_;rintro r w2 hr;have HR:=hid (Lf.late hr HXW.out HV.out);obtain⟨A2,m2,c2,R2,rfl,hr2⟩:=hr;clear hr2)
    | fail)
   go_ret;exact HR.out
open Go.ChangeShapes Go.WideShapes Go.ChangeAt Go.RowKit Go.WideElems
section
variable{H:Type}{enc:TypeId×Value->H}{W:World}
theorem Ss:Tryz.prog.cellsOf 79=1:=by kernel_rfl
theorem Yr:Tryz.prog.cellsOf 95=4:=by kernel_rfl
structure fO (x:Ud):Prop where
 r:xX x.l
 t:aT x.t
 d : -9223372036854775808<=x.d/\x.d<=9223372036854775807
theorem fO.inU{x:Ud}(h:fO x)(h1:x.l.length<=1000000)(h2:x.t.l.length<=100000):InU x:=⟨⟨h.r.txt,h.r.int,h.d,h1⟩,h.t.u,h2,h.t.e⟩
theorem tH{fuel:Nat}{cs:List Value}{y:DataW H×List MemPlace}(h:DataW.trod enc Tryz.prog W 0 (fun _=>true) true fuel 95 cs=some y) :
  ∃x:Ud,cs=udC x/\UdR W x/\fO x:=by
 obtain⟨y0,y1,y2,n,_,hl,h0,h1,h2⟩:=Go.Deep.trod_struct3 Tryz.underlying95 h;rw[Yr]at hl;obtain⟨c0,c1,c2,c3,rfl⟩:=xQ hl;have g0:DataW.trod enc Tryz.prog W 0 (fun _=>true) true n 79 [c0]=some y0:=by
  have:DataW.trod enc Tryz.prog W 0 (fun _=>true) true n 79 (([c0,c1,c2,c3].drop 0).take (Tryz.prog.cellsOf 79))=some y0:=h0;rw[Ss]at this;exact this
 have g1:DataW.trod enc Tryz.prog W 0 (fun _=>true) true n 26 [c1,c2]=some y1:=by
  have:DataW.trod enc Tryz.prog W 0 (fun _=>true) true n 26 (([c0,c1,c2,c3].drop 1).take (Tryz.prog.cellsOf 26))=some y1:=h1;rw[Xw]at this;exact this
 have g2:DataW.trod enc Tryz.prog W 0 (fun _=>true) true n 2 [c3]=some y2:=by
  have:DataW.trod enc Tryz.prog W 0 (fun _=>true) true n 2 (([c0,c1,c2,c3].drop 3).take (Tryz.prog.cellsOf 2))=some y2:=h2;rw[jP]at this;exact this
 obtain⟨A,c,l,e0,r0,i0⟩:=Xe g0;obtain⟨t,e1,s1,i1⟩:=Nr g1;obtain⟨k,e2,_,w2⟩:=DataW.trod_int Tryz.underlying2 g2;obtain rfl:c0=.slice A l.length c:=by simpa using e0
 obtain⟨rfl,rfl⟩:c1=.int .u64 t.e/\c2=.slice t.A t.l.length t.c:=by simpa [tmC] using e1
 obtain rfl:c3=.int .i64 k:=by simpa using e2
 exact⟨⟨A,c,l,t,k⟩,rfl,⟨r0,s1⟩,⟨i0,i1,Yv w2⟩⟩
theorem nQ{fuel:Nat}{cs:List Value}{y:DataW H×List MemPlace}(h:DataW.trod enc Tryz.prog W 0 (fun _=>true) true fuel 22 cs=some y) :
  ∃A c L,cs=[.slice A (List.length L) c]/\Uin W A c L/\∀x∈L,fO x:=by
 rcases EN Tryz.underlying22 h with ⟨hcs,_⟩|⟨a,n,c,m,fu,D,Pl,hcs,_,hnc,hcm,hm,_,hx⟩
 ·exact⟨none,0,[],hcs,Uin.nil W,fun x hx=>(nomatch hx)⟩
 ·rw[Yr]at hx;have hmn:n<=m:=by rw[hm];split<;>omega
  obtain⟨F,hF⟩:=FY (α:=Ud) (n:=n) (p:=fun i d=>(∀j,j<4->W.cell? (a.add (i*4+j))=(udC d)[j]?)/\UdR W d/\fO d) (fun i hi=>by
   obtain⟨cs',h1,h2⟩:=hx i (by omega);obtain⟨_,_,h3⟩:=FG h1;obtain⟨d,rfl,h4⟩:=tH h2;exact⟨d,fun j hj=>by rw[<-Hn];exact h3 j hj,h4⟩)
  have hlen:((List.range n).map F).length=n:=by simp
  have hmem:∀d∈(List.range n).map F,UdR W d/\fO d:=fun d hd=>by
   obtain⟨i,hi,rfl⟩:=AW.1 hd;exact(hF i (DM.1 hi)).2
  refine⟨some a,c,(List.range n).map F,by rw[hlen];exact hcs,⟨⟨by rw[Cw],by rw[hlen];exact hnc,hcm,(fun h=>nomatch h),fun _=>⟨a,rfl,fun j u hu=>?_⟩⟩,fun d hd=>(hmem d hd).1⟩,fun d hd=>(hmem d hd).2⟩;have hj:j<n*4:=by
   rcases DP j (n*4)with q|q
   ·exact q
   ·rw[DJ (by rw[Cw,hlen];exact q)]at hu;cases hu
  have e:j=j / 4*4+j % 4:=by omega
  rw[e,Eg _ _ _ (by rw[hlen];omega) (by omega)]at hu;have e2:((List.range n).map F).getD (j / 4) Ud.zero=F (j / 4):=by
   rw[AB,CI,FR (by omega)];rfl
  rw[e2]at hu;rw[e,(hF (j / 4) (by omega)).1 (j % 4) (by omega)];exact hu
end
open Go.ChangeShapes Go.WideShapes Go.ChangeAt Go.RowKit Go.WideElems
structure Sop where
 k:Int
 A:Option Addr
 c:Nat
 L:List Ud
 tA:Option Addr
 tc:Nat
 T:List Tm
 n:Int
 t:Tm
 rA:Option Addr
 rc:Nat
 r:List Dat
def Sop.zero:Sop:=⟨0,none,0,[],none,0,[],0,Tm.zero,none,0,[]⟩
instance:Inhabited Sop:=⟨Sop.zero⟩
def Pf(x:Sop):List Value:=[.int .u8 x.k,.slice x.A x.L.length x.c,.slice x.tA x.T.length x.tc,.int .i64 x.n,.int .u64 x.t.e,.slice x.t.A x.t.l.length x.t.c,.slice x.rA x.r.length x.rc]
def Wc(M:List Sop):List Value:=M.flatMap Pf
theorem Wn(M:List Sop):(Wc M).length=M.length*7:=by
 unfold Wc;induction M with
 | nil=>rfl
 | cons d l ih=>rw[BM,AA,ih,AI,show(Pf d).length=7 from rfl];omega
theorem Oj:∀(M:List Sop) (i j:Nat),i<M.length->j<7->(Wc M)[i*7+j]?=(Pf (M.getD i Sop.zero))[j]?
 | [],i,j,h,_=>absurd h (DQ _)
 | d::l,0,j,_,hj=>by
  unfold Wc;rw[BM,FL,BR,BI (by rw[show(Pf d).length=7 from rfl];exact hj)];rfl
 | d::l,i+1,j,h,hj=>by
  unfold Wc;rw[BM,BD (by rw[show(Pf d).length=7 from rfl];omega),show(i+1)*7+j-(Pf d).length=i*7+j by rw[show(Pf d).length=7 from rfl];omega];exact Oj l i j (EC h) hj
structure Vi (w:World) (x:Sop):Prop where
 u:Uin w x.A x.c x.L
 t:Tin w x.tA x.tc x.T
 e:Sl w 1 x.t.A x.t.l.length x.t.c (wds x.t.l)
 r:Rw w x.rA x.rc x.r
theorem Vi.ext{w w':World}{x:Sop}(h:Vi w x)(y:Ext w w'):Vi w' x:=⟨h.u.ext y,h.t.ext y,h.e.ext y,h.r.ext y⟩
structure Oc (x:Sop):Prop where
 k:0<=x.k/\x.k<=255
 u:∀y∈x.L,fO y
 t:∀y∈x.T,aT y
 n : -9223372036854775808<=x.n/\x.n<=9223372036854775807
 e:aT x.t
 r:xX x.r
structure Oin (w:World) (A:Option Addr) (c:Nat) (M:List Sop):Prop where
 sl:Sl w 7 A M.length c (Wc M)
 ls:∀x∈M,Vi w x
theorem Oin.ext{w w':World}{A:Option Addr}{c:Nat}{M:List Sop}(h:Oin w A c M)(x:Ext w w'):Oin w' A c M:=⟨h.sl.ext x,fun y hy=>(h.ls y hy).ext x⟩
theorem cD{M:List Sop}{i:Nat}(h:i<M.length):M.getD i Sop.zero∈M:=by
 rw[AB,AC h];exact BP h
theorem xJ{M:List Sop}{i:Nat}(h:i<M.length):M.take (i+1)=M.take i++[M.getD i Sop.zero]:=by
 rw[BQ h,AB,AC h];rfl
theorem Oin.at{w:World}{A:Option Addr}{c:Nat}{M:List Sop}(h:Oin w A c M){i:Nat}(hi:i<M.length){x:Sop}(hx:M.getD i Sop.zero=x):∃ad,A=some ad/\w.cell? (ad.add (i*7))=some (.int .u8 x.k)/\w.cell? ⟨(ad.add (i*7)).block,(ad.add (i*7)).off+1,none⟩=some (.slice x.A x.L.length x.c) /\
  w.cell? ⟨(ad.add (i*7)).block,(ad.add (i*7)).off+2,none⟩=some (.slice x.tA x.T.length x.tc)/\w.cell? ⟨(ad.add (i*7)).block,(ad.add (i*7)).off+3,none⟩=some (.int .i64 x.n)/\w.cell? ⟨(ad.add (i*7)).block,(ad.add (i*7)).off+4,none⟩=some (.int .u64 x.t.e) /\
  w.cell? ⟨(ad.add (i*7)).block,(ad.add (i*7)).off+5,none⟩=some (.slice x.t.A x.t.l.length x.t.c)/\w.cell? ⟨(ad.add (i*7)).block,(ad.add (i*7)).off+6,none⟩=some (.slice x.rA x.r.length x.rc):=by
 obtain⟨ad,e,hc⟩:=h.sl.2.2.2.2 (by omega);have q:∀j v,j<7->(Pf x)[j]?=some v->w.cell? (ad.add (i*7+j))=some v:=fun j v hj hv=>hc _ v (by rw[Oj M i j hi hj,hx,hv]);exact⟨ad,e,q 0 _ (by omega) rfl,by rw[<-Ds _ _ 1 (by omega)];exact q 1 _ (by omega) rfl,by rw[<-Ds _ _ 2 (by omega)];exact q 2 _ (by omega) rfl,by rw[<-Ds _ _ 3 (by omega)];exact q 3 _ (by omega) rfl,
  by rw[<-Ds _ _ 4 (by omega)];exact q 4 _ (by omega) rfl,by rw[<-Ds _ _ 5 (by omega)];exact q 5 _ (by omega) rfl,by rw[<-Ds _ _ 6 (by omega)];exact q 6 _ (by omega) rfl⟩
section
variable{H:Type}{enc:TypeId×Value->H}{W:World}
theorem zU{α:Type}{l:List α}(h:l.length=7):∃a b c d e f g,l=[a,b,c,d,e,f,g]:=by
 match l,h with
 | [a,b,c,d,e,f,g],_=>exact⟨a,b,c,d,e,f,g,rfl⟩
theorem So:Tryz.prog.cellsOf 81=7:=by kernel_rfl
theorem vH:Tryz.prog.cellsOf 5=1:=by kernel_rfl
theorem bS:Tryz.prog.cellsOf 22=1:=by kernel_rfl
theorem rN:Tryz.prog.cellsOf 27=1:=by kernel_rfl
theorem rP:Tryz.prog.cellsOf 3=1:=by kernel_rfl
theorem Ot{P:Program}{w:World}{base:Nat}{spare:Nat->Bool}{held:Bool}{t:TypeId}{f0 f1 f2 f3 f4 f5:Field}{fuel:Nat}{cs:List Value}{x:DataW H×List MemPlace}(ht:P.underlying t=some (.struct #[f0,f1,f2,f3,f4,f5]))(h:DataW.trod enc P w base spare held fuel t cs=some x) :
  ∃y0 y1 y2 y3 y4 y5 n,x.1=.agg [y0.1,y1.1,y2.1,y3.1,y4.1,y5.1]/\cs.length=P.cellsOf t/\DataW.trod enc P w base spare held n f0.type ((cs.drop f0.offset).take (P.cellsOf f0.type))=some y0 /\
   DataW.trod enc P w base spare held n f1.type ((cs.drop f1.offset).take (P.cellsOf f1.type))=some y1/\DataW.trod enc P w base spare held n f2.type ((cs.drop f2.offset).take (P.cellsOf f2.type))=some y2 /\
   DataW.trod enc P w base spare held n f3.type ((cs.drop f3.offset).take (P.cellsOf f3.type))=some y3/\DataW.trod enc P w base spare held n f4.type ((cs.drop f4.offset).take (P.cellsOf f4.type))=some y4/\DataW.trod enc P w base spare held n f5.type ((cs.drop f5.offset).take (P.cellsOf f5.type))=some y5:=by
 obtain⟨xs,n,_,rfl,hl,hlen,hf⟩:=DataW.trod_struct ht h
 match xs,hlen with
 | [y0,y1,y2,y3,y4,y5],_=>exact⟨y0,y1,y2,y3,y4,y5,n,by simp,hl,by simpa using hf 0 f0 rfl,by simpa using hf 1 f1 rfl,by simpa using hf 2 f2 rfl,by simpa using hf 3 f3 rfl,by simpa using hf 4 f4 rfl,by simpa using hf 5 f5 rfl⟩
theorem tJ{fuel:Nat}{cs:List Value}{y:DataW H×List MemPlace}(h:DataW.trod enc Tryz.prog W 0 (fun _=>true) true fuel 81 cs=some y) :
  ∃x:Sop,cs=Pf x/\Vi W x/\Oc x/\x.L.length<=Rows.uptoBulk y.1/\x.T.length<=Rows.uptoBulk y.1:=by
 obtain⟨y0,y1,y2,y3,y4,y5,n,hy,hl,h0,h1,h2,h3,h4,h5⟩:=Ot Tryz.underlying81 h;rw[So]at hl;obtain⟨c0,c1,c2,c3,c4,c5,c6,rfl⟩:=zU hl;have g0:DataW.trod enc Tryz.prog W 0 (fun _=>true) true n 5 [c0]=some y0:=by
  have:DataW.trod enc Tryz.prog W 0 (fun _=>true) true n 5 (([c0,c1,c2,c3,c4,c5,c6].drop 0).take (Tryz.prog.cellsOf 5))=some y0:=h0;rw[vH]at this;exact this
 have g1:DataW.trod enc Tryz.prog W 0 (fun _=>true) true n 22 [c1]=some y1:=by
  have:DataW.trod enc Tryz.prog W 0 (fun _=>true) true n 22 (([c0,c1,c2,c3,c4,c5,c6].drop 1).take (Tryz.prog.cellsOf 22))=some y1:=h1;rw[bS]at this;exact this
 have g2:DataW.trod enc Tryz.prog W 0 (fun _=>true) true n 27 [c2]=some y2:=by
  have:DataW.trod enc Tryz.prog W 0 (fun _=>true) true n 27 (([c0,c1,c2,c3,c4,c5,c6].drop 2).take (Tryz.prog.cellsOf 27))=some y2:=h2;rw[rN]at this;exact this
 have g3:DataW.trod enc Tryz.prog W 0 (fun _=>true) true n 3 [c3]=some y3:=by
  have:DataW.trod enc Tryz.prog W 0 (fun _=>true) true n 3 (([c0,c1,c2,c3,c4,c5,c6].drop 3).take (Tryz.prog.cellsOf 3))=some y3:=h3;rw[rP]at this;exact this
 have g4:DataW.trod enc Tryz.prog W 0 (fun _=>true) true n 26 [c4,c5]=some y4:=by
  have:DataW.trod enc Tryz.prog W 0 (fun _=>true) true n 26 (([c0,c1,c2,c3,c4,c5,c6].drop 4).take (Tryz.prog.cellsOf 26))=some y4:=h4;rw[Xw]at this;exact this
 have g5:DataW.trod enc Tryz.prog W 0 (fun _=>true) true n 79 [c6]=some y5:=by
  have:DataW.trod enc Tryz.prog W 0 (fun _=>true) true n 79 (([c0,c1,c2,c3,c4,c5,c6].drop 6).take (Tryz.prog.cellsOf 79))=some y5:=h5;rw[Ss]at this;exact this
 obtain⟨k,e0,_,w0⟩:=DataW.trod_int Tryz.underlying5 g0;obtain⟨A,c,L,e1,s1,i1⟩:=nQ g1;obtain⟨tA,tc,T,e2,s2,i2⟩:=fB g2;obtain⟨m,e3,_,w3⟩:=DataW.trod_int Tryz.underlying3 g3;obtain⟨t,e4,s4,i4⟩:=Nr g4;obtain⟨rA,rc,r,e5,s5,i5⟩:=Xe g5;obtain rfl:c0=.int .u8 k:=by simpa using e0
 obtain rfl:c1=.slice A L.length c:=by simpa using e1
 obtain rfl:c2=.slice tA T.length tc:=by simpa using e2
 obtain rfl:c3=.int .i64 m:=by simpa using e3
 obtain⟨rfl,rfl⟩:c4=.int .u64 t.e/\c5=.slice t.A t.l.length t.c:=by simpa [tmC] using e4
 obtain rfl:c6=.slice rA r.length rc:=by simpa using e5
 have b1:=Tx Tryz.underlying22 g1;have b2:=Tx Tryz.underlying27 g2;have p1:=Gx (d:=y1.1) (l:=[y0.1,y1.1,y2.1,y3.1,y4.1,y5.1]) (by simp);have p2:=Gx (d:=y2.1) (l:=[y0.1,y1.1,y2.1,y3.1,y4.1,y5.1]) (by simp);refine⟨⟨k,A,c,L,tA,tc,T,m,t,rA,rc,r⟩,rfl,⟨s1,s2,s4,s5⟩,⟨xI w0,i1,i2,Yv w3,i4,i5⟩,?_,?_⟩
 ·show L.length<=_;rw[hy];simp only[Rows.uptoBulk];omega
 ·show T.length<=_;rw[hy];simp only[Rows.uptoBulk];omega
theorem tI{base:Nat}{v:Value}{d:DataW H}{p:List MemPlace}(hv:Value.okWide Tryz.prog W .any base 73 v)(h:DataW.Trod enc Tryz.prog W 0 (fun _=>true) true 73 v d p) :
  ∃A c M,v=.slice A (List.length M) c/\Oin W A c M/\(∀x∈M,Oc x/\x.L.length<=Rows.uptoBulk d/\x.T.length<=Rows.uptoBulk d):=by
 obtain⟨fuel,hf⟩:=h;obtain⟨A',n',c',rfl⟩:=okWide_slice Tryz.underlying73 hv;rcases EN Tryz.underlying73 hf with ⟨hcs,_⟩|⟨a,n,c,m,fu,D,Pl,hcs,_,hnc,hcm,hm,hy,hx⟩
 ·have e:(Value.slice A' n' c')=.slice none 0 0:=by injection hcs
  obtain⟨rfl,rfl,rfl⟩:A'=none/\n'=0/\c'=0:=by simpa using e
  exact⟨none,0,[],rfl,⟨Sl.nil W 7,fun x hx=>(nomatch hx)⟩,fun x hx=>(nomatch hx)⟩
 ·have e:(Value.slice A' n' c')=.slice (some a) n c:=by injection hcs
  obtain⟨rfl,rfl,rfl⟩:A'=some a/\n'=n/\c'=c:=by simpa using e
  rw[So]at hx;have hmn:n'<=m:=by rw[hm];split<;>omega
  have e2:d=DataW.slice ((List.range n').map D) ((List.range (m-n')).map fun j=>D (n'+j)):=by injection hy
  obtain⟨F,hF⟩:=FY (α:=Sop) (n:=n') (p:=fun i x=>(∀j,j<7->W.cell? (a.add (i*7+j))=(Pf x)[j]?)/\Vi W x/\Oc x/\x.L.length<=Rows.uptoBulk (D i)/\x.T.length<=Rows.uptoBulk (D i)) (fun i hi=>by
   obtain⟨cs',h1,h2⟩:=hx i (by omega);obtain⟨_,_,h3⟩:=FG h1;obtain⟨x,rfl,h4⟩:=tJ h2;exact⟨x,fun j hj=>by rw[<-Hn];exact h3 j hj,h4⟩)
  have hlen:((List.range n').map F).length=n':=by simp
  have hb:∀i,i<n'->Rows.uptoBulk (D i)<=Rows.uptoBulk d:=fun i hi=>by
   have:=Gx (d:=D i) (l:=(List.range n').map D) (AW.2 ⟨i,DM.2 hi,rfl⟩);rw[e2];simp only[Rows.uptoBulk];omega
  have hmem:∀x∈(List.range n').map F,Vi W x/\Oc x/\x.L.length<=Rows.uptoBulk d/\x.T.length<=Rows.uptoBulk d:=fun x hx=>by
   obtain⟨i,hi,rfl⟩:=AW.1 hx;have h:=(hF i (DM.1 hi)).2;have:=hb i (DM.1 hi);exact⟨h.1,h.2.1,AQ h.2.2.1 this,AQ h.2.2.2 this⟩
  refine⟨some a,c',(List.range n').map F,by rw[hlen],⟨⟨by rw[Wn],by rw[hlen];exact hnc,hcm,(fun h=>nomatch h),fun _=>⟨a,rfl,fun j u hu=>?_⟩⟩,fun x hx=>(hmem x hx).1⟩,fun x hx=>(hmem x hx).2⟩;have hj:j<n'*7:=by
   rcases DP j (n'*7)with q|q
   ·exact q
   ·rw[DJ (by rw[Wn,hlen];exact q)]at hu;cases hu
  have e:j=j / 7*7+j % 7:=by omega
  rw[e,Oj _ _ _ (by rw[hlen];omega) (by omega)]at hu;have e2:((List.range n').map F).getD (j / 7) Sop.zero=F (j / 7):=by
   rw[AB,CI,FR (by omega)];rfl
  rw[e2]at hu;rw[e,(hF (j / 7) (by omega)).1 (j % 7) (by omega)];exact hu
end
open Go.ChangeShapes Go.WideShapes Go.ChangeAt Go.RowKit Go.WideElems
section
variable{H:Type}{enc:TypeId×Value->H}{W:World}
theorem Py{α:Type}{T E:TypeId}(ht:Tryz.prog.underlying T=some (.slice E)){size:Nat}(hs:Tryz.prog.cellsOf E=size)(C:α->List Value)(hC:∀x,(C x).length=size){L:List α}{Cs:List Value}(hat:∀i (hi:i<L.length) j,j<size->Cs[i*size+j]?=(C (L[i]'hi))[j]?){A:Option Addr}{c:Nat}(sl:Sl W size A L.length c Cs)
  {fuel:Nat} {y:DataW H×List MemPlace} (h:DataW.trod enc Tryz.prog W 0 (fun _=>true) true fuel T [.slice A L.length c]=some y):∀i (hi:i<L.length),∃fu z,DataW.trod enc Tryz.prog W 0 (fun _=>true) true fu E (C (L[i]'hi))=some z/\Rows.uptoBulk z.1<=Rows.uptoBulk y.1:=by
 intro i hi;rcases EN ht h with ⟨hcs,_⟩|⟨a,n,k,m,fu,D,Pl,hcs,_,hnc,hcm,hm,rfl,hx⟩
 ·have e:L.length=0:=by injection hcs with q;injection q
  omega
 ·rw[hs]at hx;have hn:L.length=n:=by injection hcs with q;injection q
  have hA:A=some a:=by injection hcs with q;injection q
  subst hA;have hmn:n<=m:=by rw[hm];split<;>omega
  have hb:Rows.uptoBulkAll ((List.range n).map D)<=Rows.uptoBulk (DataW.slice ((List.range n).map D) ((List.range (m-n)).map fun j=>D (n+j))):=by
   simp only[Rows.uptoBulk];omega
  obtain⟨cs',h1,h2⟩:=hx i (by omega);obtain⟨_,h4,h3⟩:=FG h1;have e:cs'=C (L[i]'hi):=by
   refine GT fun j=>?_;rcases DP j size with q|q
   ·rw[<-h3 j q,Hn];obtain⟨ad,e1,hc⟩:=sl.2.2.2.2 (by omega);injection e1 with e1;subst e1;have q2:j<(C (L[i]'hi)).length:=by rw[hC];exact q
    have e3:(C (L[i]'hi))[j]?=some ((C (L[i]'hi))[j]'q2):=AC q2;rw[e3];exact hc _ _ (by rw[hat i hi j q];exact e3)
   ·rw[DJ (by omega),DJ (by rw[hC];exact q)]
  subst e;exact⟨fu,_,h2,AQ (Gx (d:=D i) (l:=(List.range n).map D) (AW.2 ⟨i,DM.2 (by omega),rfl⟩)) hb⟩
theorem wC{fuel:Nat}{d:Dat}{y:DataW H×List MemPlace}(h:DataW.trod enc Tryz.prog W 0 (fun _=>true) true fuel 204 (Mq d)=some y):d.s.size<=Rows.uptoBulk y.1:=by
 obtain⟨y0,y1,y2,y3,n,rfl,hl,h0,h1,h2,h3⟩:=Go.Joins.trod_struct4 Tryz.underlying204 h;have g3:DataW.trod enc Tryz.prog W 0 (fun _=>true) true n 9 [.string d.s]=some y3:=by
  have:DataW.trod enc Tryz.prog W 0 (fun _=>true) true n 9 (((Mq d).drop 3).take (Tryz.prog.cellsOf 9))=some y3:=h3;rw[jO]at this;exact this
 obtain⟨s,e3,ey,_⟩:=DataW.trod_string Tryz.underlying9 g3;have e:d.s=s:=by simpa using e3
 subst ey;show d.s.size<=Rows.uptoBulk (DataW.agg [y0.1,y1.1,y2.1,DataW.lit (.string s.data.toList)]);simp only[Rows.uptoBulk,Rows.uptoBulkAll];rw[e];have:s.data.toList.length=s.size:=by simp
 omega
theorem uV{fuel:Nat}{A:Option Addr}{c:Nat}{l:List Dat}{y:DataW H×List MemPlace}(h:DataW.trod enc Tryz.prog W 0 (fun _=>true) true fuel 79 [.slice A l.length c]=some y)(hr:Rw W A c l):∀d∈l,d.s.size<=Rows.uptoBulk y.1:=fun d hd=>by
 obtain⟨i,hi,rfl⟩:=DI hd;obtain⟨fu,z,h2,h3⟩:=Py Tryz.underlying79 Tc Mq (fun _=>rfl) (fun i hi j hj=>by
  have e2:=Kb l i j hi hj
  rwa [AB,AC hi]at e2) hr h i hi
 exact AQ (wC h2) h3
theorem yE{fuel:Nat}{x:Ud}{y:DataW H×List MemPlace}(h:DataW.trod enc Tryz.prog W 0 (fun _=>true) true fuel 95 (udC x)=some y)(hr:Rw W x.A x.c x.l):∀d∈x.l,d.s.size<=Rows.uptoBulk y.1:=fun d hd=>by
 obtain⟨y0,y1,y2,n,hy,hl,h0,h1,h2⟩:=Go.Deep.trod_struct3 Tryz.underlying95 h;have g0:DataW.trod enc Tryz.prog W 0 (fun _=>true) true n 79 [.slice x.A x.l.length x.c]=some y0:=by
  have:DataW.trod enc Tryz.prog W 0 (fun _=>true) true n 79 (((udC x).drop 0).take (Tryz.prog.cellsOf 79))=some y0:=h0;rw[Ss]at this;exact this
 have k:=uV g0 hr d hd;have p:=Gx (d:=y0.1) (l:=[y0.1,y1.1,y2.1]) (by simp);rw[hy];simp only[Rows.uptoBulk];omega
theorem uJ{fuel:Nat}{A:Option Addr}{c:Nat}{L:List Ud}{y:DataW H×List MemPlace}(h:DataW.trod enc Tryz.prog W 0 (fun _=>true) true fuel 22 [.slice A L.length c]=some y)(hu:Uin W A c L):∀x∈L,∀d∈x.l,d.s.size<=Rows.uptoBulk y.1:=fun x hx d hd=>by
 obtain⟨i,hi,rfl⟩:=DI hx;obtain⟨fu,z,h2,h3⟩:=Py Tryz.underlying22 Yr udC (fun _=>rfl) (fun i hi j hj=>by
  have e2:=Eg L i j hi hj
  rwa [AB,AC hi]at e2) hu.sl h i hi
 exact AQ (yE h2 (hu.ls _ hx).r d hd) h3
theorem yO{fuel:Nat}{x:Sop}{y:DataW H×List MemPlace}(h:DataW.trod enc Tryz.prog W 0 (fun _=>true) true fuel 81 (Pf x)=some y)(hr:Vi W x):∀u∈x.L,∀d∈u.l,d.s.size<=Rows.uptoBulk y.1:=fun u hu d hd=>by
 obtain⟨y0,y1,y2,y3,y4,y5,n,hy,hl,h0,h1,h2,h3,h4,h5⟩:=Ot Tryz.underlying81 h;have g1:DataW.trod enc Tryz.prog W 0 (fun _=>true) true n 22 [.slice x.A x.L.length x.c]=some y1:=by
  have:DataW.trod enc Tryz.prog W 0 (fun _=>true) true n 22 (((Pf x).drop 1).take (Tryz.prog.cellsOf 22))=some y1:=h1;rw[bS]at this;exact this
 have k:=uJ g1 hr.u u hu d hd;have p:=Gx (d:=y1.1) (l:=[y0.1,y1.1,y2.1,y3.1,y4.1,y5.1]) (by simp);rw[hy];simp only[Rows.uptoBulk];omega
theorem come_opst{base:Nat}{v:Value}{d:DataW H}{p:List MemPlace}(hv:Value.okWide Tryz.prog W .any base 73 v)(h:DataW.Trod enc Tryz.prog W 0 (fun _=>true) true 73 v d p) :
  ∃A c M,v=.slice A (List.length M) c/\Oin W A c M/\(∀x∈M,(Oc x/\x.L.length<=Rows.uptoBulk d/\x.T.length<=Rows.uptoBulk d)/\∀u∈x.L,∀t∈u.l,t.s.size<=Rows.uptoBulk d):=by
 obtain⟨A,c,M,rfl,h1,h2⟩:=tI hv h;obtain⟨fuel,hf⟩:=h;refine⟨A,c,M,rfl,h1,fun x hx=>⟨h2 x hx,fun u hu t ht=>?_⟩⟩;obtain⟨i,hi,rfl⟩:=DI hx;obtain⟨fu,z,h3,h4⟩:=Py Tryz.underlying73 So Pf (fun _=>rfl) (fun i hi j hj=>by
  have e2:=Oj M i j hi hj
  rwa [AB,AC hi]at e2) h1.sl hf i hi
 exact AQ (yO h3 (h1.ls _ hx) u hu t ht) h4
end
def uF(g:Nat)(lb:Array Value)(p:Tm->Bool)(L:List Tm)(w:World):Prop:=∀(W:World) (x:Tm),x∈L->Ext w W->Calls Tryz.prog g #[tmV x,lb[0]!] W fun e w'=>e=.returned (.bool (p x))/\Ext W w'
def zH(p:Tm->Bool)(L:List Tm)(w:World)(e:Ending)(w':World):Prop:=∃r:Int,e=.returned (.int .i64 r)/\decide (0<=r)=L.any p/\Ext w w'
theorem pT{L:List Tm}{p:Tm->Bool}{k:Nat}(h:k<L.length)(hp:p (L.getD k Tm.zero)=true):L.any p=true:=ED.2 ⟨_,Bj h,hp⟩
theorem dD{L:List Tm}{p:Tm->Bool}(h:∀j,j<L.length->p (L.getD j Tm.zero)=false):L.any p=false:=by
 rw[GA];intro x hx;obtain⟨j,hj,rfl⟩:=DI hx;have:=h j hj;rw[AB,AC hj]at this;simpa using this
theorem eV(p:Tm->Bool)(g:Nat)(v:Value)(eg:∀args w,(callFunc g args).run Tryz.prog w=.ok (.enter g args) w)(AL:Option Addr)(cL m:Nat)(L:List Tm)(w:World)(hm:Hid (m=L.length))(hL:Hid (Tin w AL cL L))(hp:Hid (uF g #[v] p L w)) :
  Calls Tryz.prog 204 #[.slice AL m cL,.func (.func g) #[] #[v]] w (zH p L w):=by
 have hbig:m<=9223372036854775807:=by rw[hm.out];exact hL.out.sl.le
 go_enter Tryz.func204,Tryz.ntmps204;go_wp2
 go_loopg [5,8] m (fun gg _ s8 wr=>∃kk:Nat,kk<=m/\m-kk<=gg/\s8=.int .i64 kk/\Hid (Ext w wr)/\Hid (∀j,j<kk->p (L.getD j Tm.zero)=false))
 case atStart=>exact⟨0,AE _,by omega,rfl,hid (Ext.refl w),hid (fun j hj=>absurd hj (DQ _))⟩
 case round =>
  obtain⟨kk,hkk,hg,rfl,BW,AF⟩:=hrel;by_cases hlt:kk<m
  ·have hltz:(kk:Int)<(m:Int):=by omega
   obtain⟨ad,rfl,q0,q1⟩:=(hL.out.ext BW.out).at (i:=kk) (by rw[<-hm.out];exact hlt);have hcall:=hp.out wr (L.getD kk Tm.zero) (Bj (by rw[<-hm.out];exact hlt)) BW.out;obtain⟨x,hx⟩:∃x,L.getD kk Tm.zero=x:=⟨_,rfl⟩;rw[hx]at q0 q1 hcall;have HX:=hid hx;clear hx;unfold tmV at hcall;cases hq:p x with
   | true =>
    rw[hq]at hcall;have HQ:=hid hq;clear hq;go_wp2_with (go_at_fn g;refine hcall.mono ?_;rintro e w' ⟨rfl,hb'⟩)
    go_ret;exact⟨_,rfl,by rw[pT (by rw[<-hm.out];exact hlt) (by rw[HX.out];exact HQ.out)];simp,BW.out.trans hb'⟩
   | false =>
    rw[hq]at hcall;have HQ:=hid hq;clear hq;go_wp2_with (go_at_fn g;refine hcall.mono ?_;rintro e w' ⟨rfl,hb'⟩)
    go_roundg (m-(kk+1))
    case measure=>omega
    case rel =>
     refine⟨kk+1,by omega,by omega,by go_num,hid (BW.out.trans hb'),hid (fun j hj=>?_)⟩;by_cases hjk:j<kk
     ·exact AF.out j hjk
     ·obtain rfl:j=kk:=by omega
      rw[HX.out];exact HQ.out
  ·obtain rfl:kk=m:=by omega
   go_wp2;go_ret;exact⟨_,rfl,by rw[dD (fun j hj=>AF.out j (by rw[hm.out];exact hj))];rfl,BW.out⟩
theorem Mc(p:Tm->Bool)(g:Nat)(v:Value)(eg:∀args w,(callFunc g args).run Tryz.prog w=.ok (.enter g args) w)(AL:Option Addr)(cL m:Nat)(L:List Tm)(w:World)(hm:Hid (m=L.length))(hL:Hid (Tin w AL cL L))(hp:Hid (uF g #[v] p L w)) :
  Calls Tryz.prog 144 #[.slice AL m cL,.func (.func g) #[] #[v]] w fun e w'=>e=.returned (.bool (L.any p))/\Ext w w':=by
 go_enter Tryz.func144,Tryz.ntmps144;go_wp2_with (go_at_call 204;refine(eV p g v eg AL cL m L _ hm hL hp).mono ?_;rintro e w1 ⟨r,rfl,hr,x1⟩;have HR:=hid hr;clear hr)
 go_ret;exact⟨by rw[<-HR.out];rfl,x1⟩
def same(x y:TV):Bool:=decide (x.2.length=y.2.length)
def Rz(x y:TV):TV:=(max x.1 y.1,List.zipWith max x.2 y.2)
def aR(x y:TV):TV:=(min x.1 y.1,List.zipWith min x.2 y.2)
theorem bT{x y:TV}(h:same x y=true):(Rz x y).2.length=x.2.length:=by
 have:=of_decide_eq_true h;show(List.zipWith max x.2 y.2).length=_;rw[FT];omega
theorem rS{x y:TV}(h:same x y=true):(aR x y).2.length=x.2.length:=by
 have:=of_decide_eq_true h;show(List.zipWith min x.2 y.2).length=_;rw[FT];omega
theorem Wb(a:List TV)(s t:TV):Aj (a++[s]) t=(Aj a t||Gp s t):=by unfold Aj;simp
def Ho(a b:List TV):Bool:=b.all fun t=>Aj a t
theorem On{a b:List TV}:Ho a b=true ↔ ∀t∈b,Aj a t=true:=EK
def Cv(t:TV)(acc:Option TV)(x:TV):Option TV:=if same t x then some (match acc with|none=>Rz t x|some o=>aR o (Rz t x)) else acc
def oN(a:List TV)(t:TV):Option TV:=a.foldl (Cv t) none
def Fg(a:List TV)(t:TV):TV:=(oN a t).getD t
theorem fM{t x:TV}{acc:Option TV}(h:∀o,acc=some o->o.2.length=t.2.length):∀o,Cv t acc x=some o->o.2.length=t.2.length:=by
 intro o ho;unfold Cv at ho;split at ho
 ·rename_i hs;cases acc with
  | none =>
   injection ho with ho;rw[<-ho,bT hs]
  | some q =>
   injection ho with ho;have hq:=h q rfl;rw[<-ho,rS (decide_eq_true (by rw[bT hs];exact hq)),hq]
 ·exact h o ho
theorem dE{t:TV}:∀(a:List TV) (acc:Option TV),(∀o,acc=some o->o.2.length=t.2.length)->∀o,a.foldl (Cv t) acc=some o->o.2.length=t.2.length
 | [],acc,h,o,ho=>h o ho
 | x::a,acc,h,o,ho=>dE a _ (fM h) o ho
theorem Ln(a:List TV)(t:TV):(Fg a t).2.length=t.2.length:=by
 unfold Fg;cases h:oN a t with
 | none=>rfl
 | some o=>exact dE a none (fun _ h=>nomatch h) o h
theorem fI(x:Tm)(B:Nat)(e:Int)(A:Option Addr)(n c:Nat)(l:List Int)(w:World)(hx:Hid (Sl w 1 x.A x.l.length x.c (wds x.l)))(hb:Hid (Bk w B 26 #[.int .u64 e,.slice A n c]))(ht:Hid (Sl w 1 A n c (wds l))) :
  Calls Tryz.prog 201 #[tmV x,.pointer (some ⟨B,0,none⟩)] w fun r w'=>r=.returned (.bool (Gp x.v (e,l)))/\Ext w w':=by
 have c0:w.cell? ⟨B,0,none⟩=some (.int .u64 e):=hb.out.cell 0;have c1:w.cell? ⟨B,1,none⟩=some (.slice A n c):=hb.out.cell 1;have hlt:=hb.out.lt;unfold tmV;obtain⟨xe,xA,xc,xl⟩:=x;go_enter Tryz.func201,Tryz.ntmps201;go_wp2_with (go_at_call 108;refine(jT _ _ _ _ _ _ _ _ _ _ _ (hx.out.ext ((Ext.refl w).alloc _)) (ht.out.ext ((Ext.refl w).alloc _))).mono ?_;rintro r w1 ⟨rfl,x1⟩)
 go_ret;exact⟨rfl,((Ext.refl w).alloc _).trans x1⟩
theorem Vg:∀args w,(callFunc 201 args).run Tryz.prog w=.ok (.enter 201 args) w:=enters_of Tryz.func201 (by kernel_rfl) rfl
theorem any_map{L:List Tm}(t:TV):(L.any fun x=>Gp x.v t)=Aj (L.map Tm.v) t:=by unfold Aj;rw[List.any_map];rfl
theorem iY(AL:Option Addr)(cL m:Nat)(L:List Tm)(e:Int)(A:Option Addr)(n c:Nat)(l:List Int)(w:World)(hm:Hid (m=L.length))(hL:Hid (Tin w AL cL L))(ht:Hid (Sl w 1 A n c (wds l))) :
  Calls Tryz.prog 140 #[.slice AL m cL,.agg #[.int .u64 e,.slice A n c]] w fun r w'=>r=.returned (.bool (Aj (L.map Tm.v) (e,l)))/\Ext w w':=by
 rw[<-any_map];have X:Ext w (w.alloc (.cells #[.int .u64 e,.slice A n c] 26)):=(Ext.refl w).alloc _;have HP:Hid (uF 201 #[.pointer (some ⟨w.heap.size,0,none⟩)] (fun x=>Gp x.v (e,l)) L (w.alloc (.cells #[.int .u64 e,.slice A n c] 26))):=hid (fun W x hx y =>
  fI x w.heap.size e A n c l W (hid (((hL.out.ls x hx).ext X).ext y)) (hid ((Bk.new w _ _).ext y)) (hid ((ht.out.ext X).ext y)))
 obtain⟨q,hq⟩:∃q,(L.any fun x=>Gp x.v (e,l))=q:=⟨_,rfl⟩;have HQ:=hid hq;rw[hq];clear hq;go_enter Tryz.func140,Tryz.ntmps140;go_wp2_with (go_at_call 144;refine(Mc _ 201 _ Vg AL cL m L _ hm (hid (hL.out.ext X)) HP).mono ?_;rintro r w1 ⟨rfl,x1⟩)
 go_ret;exact⟨by rw[<-HQ.out];rfl,X.trans x1⟩
theorem Ek{v:Bool}(AL:Option Addr)(cL m:Nat)(L:List Tm)(e:Int)(A:Option Addr)(n c:Nat)(l:List Int)(w:World)(hv:Hid (Aj (L.map Tm.v) (e,l)=v))(hm:Hid (m=L.length))(hL:Hid (Tin w AL cL L))(ht:Hid (Sl w 1 A n c (wds l))) :
  Calls Tryz.prog 140 #[.slice AL m cL,.agg #[.int .u64 e,.slice A n c]] w fun r w'=>r=.returned (.bool v)/\Ext w w':=hv.out▸iY AL cL m L e A n c l w hm hL ht
theorem sH(x:Tm)(B:Nat)(AL:Option Addr)(cL m:Nat)(L:List Tm)(w:World)(hx:Hid (Sl w 1 x.A x.l.length x.c (wds x.l)))(hb:Hid (Bk w B 27 #[.slice AL m cL]))(hm:Hid (m=L.length))(hL:Hid (Tin w AL cL L)) :
  Calls Tryz.prog 213 #[tmV x,.pointer (some ⟨B,0,none⟩)] w fun r w'=>r=.returned (.bool (!Aj (L.map Tm.v) x.v))/\Ext w w':=by
 have c0:w.cell? ⟨B,0,none⟩=some (.slice AL m cL):=hb.out.cell 0;have hlt:=hb.out.lt;unfold tmV;obtain⟨xe,xA,xc,xl⟩:=x;obtain⟨q,hq⟩:∃q,Aj (L.map Tm.v) (xe,xl)=q:=⟨_,rfl⟩;have HQ:=hid hq;show Calls _ _ _ _ fun r w'=>r=.returned (.bool (!Aj (L.map Tm.v) (xe,xl)))/\Ext w w';rw[hq];clear hq;go_enter Tryz.func213,Tryz.ntmps213;go_wp2_with (go_at_call 140;refine(Ek AL cL m L xe xA xl.length xc xl _ HQ hm (hid (hL.out.ext ((Ext.refl w).alloc _))) (hid (hx.out.ext ((Ext.refl w).alloc _)))).mono ?_;rintro r w1 ⟨rfl,x1⟩)
 go_ret;exact⟨rfl,((Ext.refl w).alloc _).trans x1⟩
theorem eX:∀args w,(callFunc 213 args).run Tryz.prog w=.ok (.enter 213 args) w:=enters_of Tryz.func213 (by kernel_rfl) rfl
theorem vJ{L M:List Tm}:(!M.any fun x=>!Aj (L.map Tm.v) x.v)=Ho (L.map Tm.v) (M.map Tm.v):=by
 unfold Ho;rw[List.all_map,List.not_any_eq_all_not];simp only[Bool.not_not];rfl
theorem Js(AL AM:Option Addr)(cL cM m n:Nat)(L M:List Tm)(w:World)(hm:Hid (m=L.length))(hn:Hid (n=M.length))(hL:Hid (Tin w AL cL L))(hM:Hid (Tin w AM cM M)) :
  Calls Tryz.prog 158 #[.slice AL m cL,.slice AM n cM] w fun r w'=>r=.returned (.bool (Ho (L.map Tm.v) (M.map Tm.v)))/\Ext w w':=by
 rw[<-vJ];have X:Ext w (w.alloc (.cells #[.slice AL m cL] 27)):=(Ext.refl w).alloc _;have HP:Hid (uF 213 #[.pointer (some ⟨w.heap.size,0,none⟩)] (fun x=>!Aj (L.map Tm.v) x.v) M (w.alloc (.cells #[.slice AL m cL] 27))):=hid (fun W x hx y =>
  sH x w.heap.size AL cL m L W (hid (((hM.out.ls x hx).ext X).ext y)) (hid ((Bk.new w _ _).ext y)) hm (hid ((hL.out.ext X).ext y)))
 obtain⟨q,hq⟩:∃q,(M.any fun x=>!Aj (L.map Tm.v) x.v)=q:=⟨_,rfl⟩;have HQ:=hid hq;rw[hq];clear hq;go_enter Tryz.func158,Tryz.ntmps158;go_wp2_with (go_at_call 144;refine(Mc _ 213 _ eX AM cM n M _ hn (hid (hM.out.ext X)) HP).mono ?_;rintro r w1 ⟨rfl,x1⟩)
 go_ret;exact⟨by rw[<-HQ.out];rfl,X.trans x1⟩
def xH(e:Int)(n:Nat)(l:List Int)(w:World)(r:Ending)(w':World):Prop:=∃A' c',r=.returned (.agg #[.int .u64 e,.slice A' n c'])/\Own w' w.heap.size 180 1 A' n c' (wds l)/\Ext w w'
theorem Un(e:Int)(A:Option Addr)(n c:Nat)(l:List Int)(w:World)(h:Hid (Sl w 1 A n c (wds l)))(hn:n<=1000000) :
  Calls Tryz.prog 142 #[.agg #[.int .u64 e,.slice A n c]] w (xH e n l w):=by
 go_enter Tryz.func142,Tryz.ntmps142;go_wp2_with (go_at_call 184;refine(Qz _ _ _ _ _ (h.out.ext (((Ext.refl w).alloc _).alloc _)) (Rn l) (by omega)).mono ?_;rintro r w1 ⟨A',c',rfl,ho,x1⟩;have ba:Bk w1 w.heap.size 26 #[.int .u64 e,.slice A n c]:=((Bk.new w _ _).alloc _).ext x1;have bb:Bk w1 (w.heap.size+1) 26 #[.int .u64 0,.slice none 0 0]:=(Bk.at (by simp)).ext x1;have q0:w1.cell? ⟨w.heap.size,0,none⟩=some (.int .u64 e):=ba.cell 0;have q1:w1.cell? ⟨w.heap.size,1,none⟩=some (.slice A n c):=ba.cell 1;have f0:=ba.free 0;have f1:=ba.free 1;have q2:=bb.cell 0;have q3:=bb.cell 1;have f2:=bb.free 0;have f3:=bb.free 1;have HO:=hid ho;clear ho;have BA:=hid ba;clear ba;have BB:=hid bb;clear bb)
 have bb2:=(BB.out.far (p:=⟨w.heap.size,1,none⟩) (by simp) (.slice A' n c')).set2 (.int .u64 e) (.slice A' n c');refine bodyPost_ret (v:=.agg #[.int .u64 e,.slice A' n c']) (by simp[results,Tryz.results142,go_sem,bb2.1,bb2.2]) rfl ⟨A',c',rfl,?_,?_⟩
 ·exact(((HO.out.mono (by simp;omega)).far (HO.out.ne (by simp;omega)) _).far (HO.out.ne (by simp)) _).far (HO.out.ne (by simp)) _
 ·have x2:=(((Ext.refl w).alloc _).alloc _).trans x1;exact((x2.set (by simp) _).set (by simp) _).set (by simp) _
theorem fC(A:Option Addr)(n c:Nat)(L:List Tm)(w:World)(hm:Hid (n=L.length))(h:Hid (Tin w A c L))(hn:n<=1000000) :
  Calls Tryz.prog 199 #[.slice A n c] w fun e w'=>∃A' c',e=.returned (.slice A' n c')/\Own w' w.heap.size 26 2 A' n c' (Db L)/\Ext w w':=by
 have hs:Hid (Sl w 2 A n c (Db L)):=hid (by rw[hm.out];exact h.out.sl);have hnil:=fun (W:World)=>FI (P:=Tryz.prog) W 27 26 A n c 0 0 Tryz.underlying27;rcases A with _|a
 ·obtain rfl:c=0:=hs.out.2.2.2.1 rfl;have hn0:n=0:=by have:=hs.out.2.1;omega
  subst hn0;have hx:Db L=[]:=AG (by simpa using hs.out.1);rw[hx];go_enter Tryz.func199,Tryz.ntmps199;go_wp2;go_ret;exact⟨none,0,rfl,Own.nil _ _ _ _,Ext.refl _⟩
 ·go_enter Tryz.func199,Tryz.ntmps199;go_wp2_with (at_builtin;refine Ck _ Gv w.heap.size _ _ (by rfl) (by rfl) _ 0 0 [] (by rfl) (Own.empty _ _ _ _ _) (some a) n c (Db L) (by rfl) (hs.out.ext ((Ext.refl w).alloc _)) (bD L) (by omega) (by omega) (by simp) ?_;intro A' c' w1 ho1 hg1 hk1)
  go_ret;refine⟨A',c',by simp,by simpa using ho1,?_⟩;exact((Ext.refl w).alloc _).grown hg1 (by simp[blk])
theorem Ev.push{w w2 w3:World}{B:Nat}{A A3:Option Addr}{c c3:Nat}{M:List Tm}(h:Ev w B A c M)(e2:Ext w w2){x:Tm}(ox:Own w2 w.heap.size 180 1 x.A x.l.length x.c (wds x.l))(hB:B<=w.heap.size)(ob:Obj)
  (o3:Own w3 B 26 2 A3 (M.length+1) c3 (Db M++tmC x)) (g3:(w2.alloc ob).grownBy w3 (blk A c)) (x3:(A3=A/\c3=c)\/(blk A3 c3=some (w2.alloc ob).heap.size/\Ext (w2.alloc ob) w3)):Ev w3 B A3 c3 (M++[x]):=by
 have hsz:=((Ext.refl w2).alloc ob).size;have hw:=e2.size;have kept:∀{k0:Nat} {A':Option Addr} {n' c':Nat} {xs:List Value},Own w2 k0 180 1 A' n' c' xs->(∀k,blk A' c'=some k->blk A c≠some k)->Own w3 k0 180 1 A' n' c' xs:=fun o hne=>(o.alloc ob).kept g3 (by
  rename_i A' n' c' xs;cases hb:blk A' c' with
  | none=>exact .inl rfl
  | some k=>exact .inr (fun e=>hne k hb e.symm))
 have new3:∀k,blk A3 c3=some k->blk A c=some k\/w2.heap.size<=k:=fun k hk=>by
  rcases x3 with ⟨rfl,rfl⟩|⟨h1,_⟩
  ·exact .inl hk
  ·rw[h1]at hk;injection hk with hk;exact .inr (by omega)
 have xne:∀k,blk x.A x.c=some k->blk A c≠some k:=fun k hk e=>by have:=(ox.lt k hk).1;have:=(h.own.lt k e).2;omega
 refine⟨by rw[Jb,AA];show Own w3 B _ 2 A3 (M.length+1) c3 (Db M++Db [x]);rw[show Db [x]=tmC x by simp[Db]];exact o3,fun y hy=>?_,?_⟩
 ·rcases AR.1 hy with hy|hy
  ·obtain⟨h1,h2⟩:=h.ls y hy;refine⟨kept (h1.ext e2) h2,fun k hk e=>?_⟩;rcases new3 k e with q|q
   ·exact h2 k hk q
   ·have:=(h1.lt k hk).2;omega
  ·rw[AH]at hy;subst hy;refine⟨(kept ox xne).mono hB,fun k hk e=>?_⟩;rcases new3 k e with q|q
   ·exact xne k hk q
   ·have:=(ox.lt k hk).2;omega
 ·refine BG.2 ⟨h.apart,BL _ _,fun y hy z hz k h1 h2=>?_⟩;rw[AH]at hz;subst hz;have:=((h.ls y hy).1.lt k h1).2;have:=(ox.lt k h2).1;omega
section
variable{α:Type}[Inhabited α](enc:α->List Value)(k:Nat)(hk:∀x,(enc x).length=k)(k0:0<k)
include hk
omit [Inhabited α] in
theorem Td:∀l:List α,(l.flatMap enc).length=l.length*k
 | []=>by simp
 | x::l=>by rw[BM,AA,hk,Td l,AI,DE];omega
include k0
theorem kB:∀(l:List α) (t:Nat),t<l.length*k->(l.flatMap enc)[t]?=(enc (l.getD (t / k) default))[t % k]?
 | [],t,h=>absurd h (by simp)
 | x::l,t,h=>by
  rw[BM];by_cases q:t<k
  ·rw[BI (by rw[hk];exact q),Nat.div_eq_of_lt q,Nat.mod_eq_of_lt q];rfl
  ·rw[AI,DE]at h;rw[BD (by rw[hk];omega),hk,kB l (t-k) (by omega)];have e1:t / k=(t-k) / k+1:=Nat.div_eq_sub_div k0 (by omega);have e2:t % k=(t-k) % k:=Nat.mod_eq_sub_mod (by omega);rw[e1,e2];rfl
theorem cI(d:Array α){t:Nat}(h:t<d.size*k):(d.toList.flatMap enc)[t]?=some ((Go.Sort.flatK enc k d)[t]!):=by
 rw[kB enc k hk k0 _ t (by simpa using h),Go.Sort.get_flatK enc k d t h];have h1:t / k<d.size:=(Nat.div_lt_iff_lt_mul k0).2 h;have h2:t % k<k:=Nat.mod_lt _ k0;have e:d.toList.getD (t / k) default=d[t / k]!:=by
  rw[AB,FM,Array.getElem!_eq_getD,Array.getD_eq_getD_getElem?]
 rw[e];have h3:t % k<(enc d[t / k]!).length:=by rw[hk];exact h2
 rw[AC h3,getElem!_pos (enc d[t / k]!) _ h3]
theorem lZ{w:World}{B blk c:Nat}{T:TypeId}{d:Array α}(h:Own w B T k (some ⟨blk,0,none⟩) d.size c (d.toList.flatMap enc))(hd:0<d.size):Go.Sort.HoldsK enc k w blk 0 d:=by
 obtain⟨g,e,_,_,_,hc,hf⟩:=h.form hd;injection e with e;injection e with e;subst e;intro j hj;rw[Go.Sort.size_flatK]at hj;refine⟨?_,hf _⟩;rw[BR];exact hc j _ (cI enc k hk k0 d hj)
theorem Tw{w:World}{B blk c n:Nat}{T:TypeId}{d d':Array α}{os:Array Obj}(h:Own w B T k (some ⟨blk,0,none⟩) d.size c (d.toList.flatMap enc))(hd:0<d.size)(hs:d'.size=d.size) :
  Own (sortWorldK enc k w blk 0 n d' os) B T k (some ⟨blk,0,none⟩) d.size c (d'.toList.flatMap enc)/\Upd (fun q=>q=blk) w (sortWorldK enc k w blk 0 n d' os):=by
 obtain⟨h1,h2⟩:=h;rcases h2 with h2|⟨g,cur,e,hb,hg,hnc,hcm,hcs,htake⟩
 ·omega
 ·injection e with e;injection e with e;subst e;have hlt:blk<w.heap.size:=(BJ.1 hg).1;have hheap:(sortWorldK enc k w blk 0 n d' os).heap[blk]?=some (.cells (Go.Sort.putCells id 0 (Go.Sort.flatK enc k d') cur) T (0,0)):=by
   show(w.heap.modify blk _++os)[blk]?=_;rw[Array.getElem?_append_left (by simpa using hlt),FH,if_pos rfl,hg];rfl
  refine⟨⟨by rw[Td enc k hk,DZ,hs],.inr ⟨blk,_,rfl,hb,hheap,hnc,hcm,by simpa [Go.Sort.putCells] using hcs,?_⟩⟩,?_⟩
  ·refine GT fun t=>?_;rw[EE];by_cases ht:t<d.size*k
   ·rw[if_pos ht,cI enc k hk k0 d' (by rw[hs];exact ht),FM];have hcz:t<cur.size:=BF (BF ht (CT _ hnc)) hcs;simp only[Go.Sort.putCells,Array.getElem?_mapIdx,ET hcz,FC];rw[if_pos ⟨AE _,by rw[Go.Sort.size_flatK,hs];omega⟩];rfl
   ·rw[if_neg ht,DJ (by rw[Td enc k hk,DZ,hs];omega)]
  ·refine⟨rfl,rfl,rfl,?_,fun q hq hn=>?_⟩
   ·show w.heap.size<=(w.heap.modify blk _++os).size;simp
   ·show(w.heap.modify blk _++os)[q]?=_;rw[Array.getElem?_append_left (by simpa using hq),FH,if_neg (fun e=>hn e.symm)]
end
theorem dO{α:Type}[Inhabited α]{lt:α->α->Bool}{d d':Array α}(hp:Go.Sort.PermIn 0 d.size d d')(hs:Go.Sort.SortedIn lt 0 d.size d'):d'.size=d.size/\d'.toList.Perm d.toList/\d'.toList.Pairwise fun x y=>lt y x=false:=by
 obtain⟨h1,_,h3⟩:=hp;refine⟨h1,?_,CZ.2 fun i j hi hj hij=>?_⟩
 ·have e1:d.extract 0 d.size=d:=by simp
  have e2:d'.extract 0 d.size=d':=by rw[<-h1];simp
  rwa [e1,e2]at h3
 ·have hi':i<d'.size:=by simpa using hi
  have hj':j<d'.size:=by simpa using hj
  have:=hs i j (AE _) hij (by omega);rw[getElem!_pos d' j hj',getElem!_pos d' i hi']at this;simpa using this
end Go.Proofs.YtdgbkpoickbidaaGreatDoor
namespace Go.Proofs
open Go.Shelf
def Tryz.sortTimes_ren:Go.Shelf.Ren:=⟨fun|6=>200|15=>209|14=>230|28=>246|29=>247|20=>258|21=>259|22=>260|23=>261|24=>262|25=>263|26=>264|27=>265|46=>285|47=>274|48=>275|49=>286|50=>287|57=>296|n=>n,fun|22=>27|24=>26|25=>184|3=>3|39=>267|0=>0|53=>180|55=>23|4=>4|46=>300|45=>299|50=>200|5=>5|9=>9|66=>326|70=>329|76=>347|77=>348|n=>n,fun|n=>n⟩
theorem Tryz.sortTimes:Go.Proofs.SlLaysF0.n6 Tryz.prog Tryz.sortTimes_ren:={
 mixed:=by kernel_rfl
 f6:=⟨Tryz.f200.name,by decide,Tryz.func200.trans (congrArg some (by kernel_rfl))⟩
 f14:=⟨Tryz.f230.name,by decide,Tryz.func230.trans (congrArg some (by kernel_rfl))⟩
 f15:=Tryz.func209.trans (congrArg some (by kernel_rfl))
 f20:=⟨Tryz.f258.name,by decide,Tryz.func258.trans (congrArg some (by kernel_rfl))⟩
 f21:=⟨Tryz.f259.name,by decide,Tryz.func259.trans (congrArg some (by kernel_rfl))⟩
 f22:=⟨Tryz.f260.name,by decide,Tryz.func260.trans (congrArg some (by kernel_rfl))⟩
 f23:=⟨Tryz.f261.name,by decide,Tryz.func261.trans (congrArg some (by kernel_rfl))⟩
 f24:=⟨Tryz.f262.name,by decide,Tryz.func262.trans (congrArg some (by kernel_rfl))⟩
 f25:=⟨Tryz.f263.name,by decide,Tryz.func263.trans (congrArg some (by kernel_rfl))⟩
 f26:=⟨Tryz.f264.name,by decide,Tryz.func264.trans (congrArg some (by kernel_rfl))⟩
 f27:=⟨Tryz.f265.name,by decide,Tryz.func265.trans (congrArg some (by kernel_rfl))⟩
 f28:=Tryz.func246.trans (congrArg some (by kernel_rfl))
 f29:=Tryz.func247.trans (congrArg some (by kernel_rfl))
 f46:=⟨Tryz.f285.name,by decide,Tryz.func285.trans (congrArg some (by kernel_rfl))⟩
 f47:=Tryz.func274.trans (congrArg some (by kernel_rfl))
 f48:=Tryz.func275.trans (congrArg some (by kernel_rfl))
 f49:=⟨Tryz.f286.name,by decide,Tryz.func286.trans (congrArg some (by kernel_rfl))⟩
 f50:=⟨Tryz.f287.name,by decide,Tryz.func287.trans (congrArg some (by kernel_rfl))⟩
 f57:=⟨Tryz.f296.name,by decide,Tryz.func296.trans (congrArg some (by kernel_rfl))⟩
 t0:=Tryz.underlying0
 a0:=Tryz.isAgg0
 z0:=Tryz.sizeOf0
 v0:=Tryz.zeroValue0
 t3:=Tryz.underlying3
 a3:=Tryz.isAgg3
 z3:=Tryz.sizeOf3
 v3:=Tryz.zeroValue3
 t4:=Tryz.underlying4
 a4:=Tryz.isAgg4
 z4:=Tryz.sizeOf4
 v4:=Tryz.zeroValue4
 t5:=Tryz.underlying5
 a5:=Tryz.isAgg5
 z5:=Tryz.sizeOf5
 v5:=Tryz.zeroValue5
 t9:=Tryz.underlying9
 a9:=Tryz.isAgg9
 z9:=Tryz.sizeOf9
 v9:=Tryz.zeroValue9
 t22:=Tryz.underlying27
 a22:=Tryz.isAgg27
 z22:=Tryz.sizeOf27
 v22:=Tryz.zeroValue27
 t25:=Tryz.underlying184
 a25:=Tryz.isAgg184
 z25:=Tryz.sizeOf184
 v25:=Tryz.zeroValue184
 t39:=Tryz.underlying267
 a39:=Tryz.isAgg267
 z39:=Tryz.sizeOf267
 v39:=Tryz.zeroValue267
 t45:=Tryz.underlying299
 a45:=Tryz.isAgg299
 z45:=Tryz.sizeOf299
 v45:=Tryz.zeroValue299
 t46:=Tryz.underlying300
 a46:=Tryz.isAgg300
 z46:=Tryz.sizeOf300
 v46:=Tryz.zeroValue300
 t50:=Tryz.underlying200
 a50:=Tryz.isAgg200
 z50:=Tryz.sizeOf200
 v50:=Tryz.zeroValue200
 t53:=Tryz.underlying180
 a53:=Tryz.isAgg180
 z53:=Tryz.sizeOf180
 v53:=Tryz.zeroValue180
 t55:=Tryz.underlying23
 a55:=Tryz.isAgg23
 z55:=Tryz.sizeOf23
 v55:=Tryz.zeroValue23
 t66:=Tryz.underlying326
 a66:=Tryz.isAgg326
 z66:=Tryz.sizeOf326
 v66:=Tryz.zeroValue326
 t70:=Tryz.underlying329
 a70:=Tryz.isAgg329
 z70:=Tryz.sizeOf329
 v70:=Tryz.zeroValue329
 t76:=Tryz.underlying347
 a76:=Tryz.isAgg347
 z76:=Tryz.sizeOf347
 v76:=Tryz.zeroValue347
 t77:=Tryz.underlying348
 a77:=Tryz.isAgg348
 z77:=Tryz.sizeOf348
 v77:=Tryz.zeroValue348 }
end Go.Proofs
namespace Go.Proofs.YtdgbkpoickbidaaGreatDoor
theorem tR(w:World):Calls Tryz.prog 209 #[.int .u64 0] w fun e w'=>e=.returned (.int .i64 0)/\w=w':=by
 have h:=Any.bits_Len (SlLaysF0.n15.bits (P:=Tryz.prog) (ρ:=Tryz.sortTimes_ren) { Tryz.sortTimes with }) 0 w (by omega) (by omega);change Calls Tryz.prog 209 _ _ _ at h;exact h.mono fun _ _ ⟨he,hw⟩=>⟨he,hw.symm⟩
theorem sM(A:Option Addr)(c:Nat)(fv:Value)(w:World):Calls Tryz.prog 258 #[.slice A 0 c,.int .i64 0,.int .i64 0,fv] w fun e w'=>e=.returned (.tuple #[])/\w=w':=by
 go_enter Tryz.func258,Tryz.ntmps258;go_wp2;refine wp_loop_rounds 1 ?_;rw[rounds_succ];go_wp2
 go_end0
 exact⟨rfl,rfl⟩
theorem rK(A:Option Addr)(c:Nat)(z:Int)(fv:Value)(w:World):Calls Tryz.prog 230 #[.slice A 0 c,.int .i64 0,.int .i64 0,.int .i64 z,fv] w fun e w'=>e=.returned (.tuple #[])/\w=w':=by
 go_enter Tryz.func230,Tryz.ntmps230;go_wp2;refine wp_loop_rounds 1 ?_;rw[rounds_succ];go_wp2_with (go_at_call 258;refine(sM _ _ _ _).mono ?_;rintro e w' ⟨rfl,rfl⟩)
 (try simp only[Exit.inBlock,Exit.then]);refine bodyPost_ret (results_none rfl _ _ _) rfl ?_
 exact⟨rfl,rfl⟩
theorem lD(A:Option Addr)(c:Nat)(fv:Value)(w:World):Calls Tryz.prog 200 #[.slice A 0 c,fv] w fun e w'=>e=.returned (.tuple #[])/\w=w':=by
 go_enter Tryz.func200,Tryz.ntmps200;go_wp2_with (first
  | (go_at_call 209;refine(tR _).mono ?_;rintro e w' ⟨rfl,rfl⟩)
  | (go_at_call 230;refine(rK _ _ _ _ _).mono ?_;rintro e w' ⟨rfl,rfl⟩))
 go_end0
 exact⟨rfl,rfl⟩
theorem iQ:∀args w,(callFunc 146 args).run Tryz.prog w=.ok (.enter 146 args) w:=enters_of Tryz.func146 (by kernel_rfl) rfl
theorem yH{α:Type}(v:α->TV):Go.Sort.SWO (ltOf fun x y:α=>Cp (v x) (v y)) where
 irrefl x:=by show decide (Cp (v x) (v x)<0)=false;rw[Co.2 rfl];rfl
 trans x y z h1 h2:=by
  replace h1:decide (Cp (v x) (v y)<0)=true:=h1;replace h2:decide (Cp (v y) (v z)<0)=true:=h2;show decide (Cp (v x) (v z)<0)=true;rw[decide_eq_true_iff]at *;exact Jj h1 (by omega)
 ntrans x y z h1 h2:=by
  replace h1:decide (Cp (v x) (v y)<0)=false:=h1;replace h2:decide (Cp (v y) (v z)<0)=false:=h2;show decide (Cp (v x) (v z)<0)=false;rw[decide_eq_false_iff_not]at *;have a:=Gd (v x) (v y);have b:=Gd (v y) (v z);have c:=Gd (v x) (v z);have d:=Nn (v z) (v y) (v x) (by omega) (by omega);omega
theorem fJ{α β:Type}(L:List α)(f:α->List β):(L.attach.flatMap fun x=>f x.1)=L.flatMap f:=by
 have h:L.attach.flatMap (fun x=>f x.1)=(L.attach.map Subtype.val).flatMap f:=by rw[List.flatMap_map]
 rw[h,List.attach_map_subtype_val]
def xB(L:List Tm)(B g c m:Nat)(w:World)(e:Ending)(w':World):Prop :=
 e=.returned (.tuple #[])/\∃L':List Tm,L'.Perm L/\(L'.Pairwise fun x y=>Cp x.v y.v<=0)/\Own w' B 26 2 (some ⟨g,0,none⟩) m c (Db L')/\Upd (fun k=>k=g) w w'
theorem gK(L:List Tm)(B g c m:Nat)(w0 w:World)(hm:m=L.length)(h0:0<m)(o:Own w B 26 2 (some ⟨g,0,none⟩) m c (Db L))(ls:∀x∈L,Sl w0 1 x.A x.l.length x.c (wds x.l))(x0:Ext w0 w)(hb:w0.heap.size<=g)(h9:m<=1000000) :
  Calls Tryz.prog 200 #[.slice (some ⟨g,0,none⟩) m c,.func (.func 146) #[] #[]] w (xB L B g c m w):=by
 haveI:Inhabited {x:Tm // x∈L}:=⟨⟨L.head (by intro e;subst e;simp at hm;omega),List.head_mem _⟩⟩
 obtain⟨d,hd⟩:∃d:Array {x:Tm // x∈L},d=L.attach.toArray:=⟨_,rfl⟩;have ds:d.size=m:=by rw[hd,hm];simp
 have hflat:(d.toList.flatMap fun x=>tmC x.1)=Db L:=by rw[hd];exact fJ L tmC
 have hk:∀x:{x:Tm // x∈L},(tmC x.1).length=2:=fun _=>rfl;have o':Own w B 26 2 (some ⟨g,0,none⟩) d.size c (d.toList.flatMap fun x=>tmC x.1):=by rw[hflat,ds];exact o
 have hcmp:CmpLays Tryz.prog 146 #[] (fun x:{x:Tm // x∈L}=>tmC x.1) 2 (fun x y=>Cp x.1.v y.1.v) g 0 d.size w:=fun q os dk hdk x y=>by
  have u:=(Tw (fun x:{x:Tm // x∈L}=>tmC x.1) 2 hk (by decide) (n:=q) (os:=os) o' (by omega) hdk).2;have e:Ext w0 (sortWorldK (fun x:{x:Tm // x∈L}=>tmC x.1) 2 w g 0 q dk os):=Ix x0 u (fun k hk=>by omega);exact tM x.1.e y.1.e x.1.A y.1.A x.1.l.length y.1.l.length x.1.c y.1.c x.1.l y.1.l _ ((ls _ x.2).ext e) ((ls _ y.2).ext e)
 have hcon:=AnyQ.slices_SortFunc Tryz.sortTimes 2 Tryz.isAgg26 Tryz.sizeOf26 (fun x:{x:Tm // x∈L}=>tmC x.1) hk (fun x v hv=>by simp[tmC]at hv;rcases hv with rfl|rfl<;>rfl) (fun x y=>Cp x.1.v y.1.v) (yH fun x:{x:Tm // x∈L}=>x.1.v) 146 #[] g 0 c d w iQ hcmp
  (lZ _ 2 hk (by decide) o' (by omega)) (by have:=(o.lt g (by unfold blk;obtain⟨_,h2⟩:=o.le;cases c with|zero=>have:=o.le.1;omega|succ c=>rfl)).2;exact this) (by omega)
 change Calls Tryz.prog 200 _ _ _ at hcon;rw[ds]at hcon;refine hcon.mono ?_;rintro e w' ⟨rfl,d',n,os,hp,hs,rfl⟩;rw[<-ds]at hp hs;obtain⟨h1,h2,h3⟩:=dO hp hs;have q:=Tw (fun x:{x:Tm // x∈L}=>tmC x.1) 2 hk (by decide) (n:=n) (os:=os) o' (by omega) h1;refine⟨rfl,d'.toList.map Subtype.val,?_,?_,?_,q.2⟩
 ·have:=h2.map Subtype.val;rw[hd,List.attach_map_subtype_val]at this;exact this
 ·rw[DL];refine h3.imp fun {x y} h=>?_;replace h:decide (Cp y.1.v x.1.v<0)=false:=h;rw[decide_eq_false_iff_not]at h;have:=Gd x.1.v y.1.v;omega
 ·have:=q.1;rw[ds]at this;unfold Db;rw[List.flatMap_map];exact this
theorem Xy{S:List Tm}{k:Nat}(h:k<S.length):∃h2:k<(S.map Tm.v).length,(S.map Tm.v)[k]=(S.getD k Tm.zero).v:=⟨by rw[AN];exact h,Nk h⟩
def xC(L:List Tm)(B:Nat)(A:Option Addr)(c m:Nat)(w:World)(e:Ending)(w':World):Prop :=
 e=.returned (.tuple #[])/\∃L':List Tm,L'.Perm L/\(L'.Pairwise fun x y=>Cp x.v y.v<=0)/\Own w' B 26 2 A m c (Db L')/\Upd (fun k=>B<=k) w w'
theorem qN(L:List Tm)(B:Nat)(A:Option Addr)(c m:Nat)(w0 w:World)(hm:Hid (m=L.length))(o:Hid (Own w B 26 2 A m c (Db L)))(ls:Hid (∀x∈L,Sl w0 1 x.A x.l.length x.c (wds x.l)))(x0:Hid (Ext w0 w))(hb:Hid (w0.heap.size<=B))(h9:m<=1000000) :
  Calls Tryz.prog 200 #[.slice A m c,.func (.func 146) #[] #[]] w (xC L B A c m w):=by
 rcases CL m with h|h
 ·subst h;have hl:L=[]:=AG hm.out.symm;subst hl;refine(lD A c _ w).mono ?_;rintro e w' ⟨rfl,rfl⟩;exact⟨rfl,[],List.Perm.nil,List.Pairwise.nil,o.out,Upd.refl _ _⟩
 ·obtain⟨g,rfl,hg,hB,_⟩:=o.out.form h;refine(gK L B g c m w0 w hm.out h o.out ls.out x0.out (AQ hb.out hB) h9).mono ?_;rintro e w' ⟨rfl,L',h1,h2,h3,h4⟩;exact⟨rfl,L',h1,h2,h3,h4.mono (fun k _ hk=>by omega)⟩
def oV(V:List TV)(w:World)(e:Ending)(w':World):Prop:=∃A c n M,e=.returned (.slice A n c)/\n=List.length M/\Ev w' w.heap.size A c M/\M.map Tm.v=V/\Ext w w'
theorem Sg(AL:Option Addr)(cL m:Nat)(L:List Tm)(w:World)(hm:Hid (m=L.length))(hL:Hid (Tin w AL cL L))(hi:Hid (∀x∈L,x.l.length<=1000000))(h9:m<=1000000) :
  Calls Tryz.prog 137 #[.slice AL m cL] w (oV (ofV (L.map Tm.v)) w):=by
 go_enter Tryz.func137,Tryz.ntmps137;go_wp2_with (first
  | (go_at_call 199;refine(fC AL m cL L _ hm hL h9).mono ?_;rintro r w1 ⟨A',c',rfl,o1,x1⟩;have HO:=hid o1;have HX1:=hid x1;clear o1 x1)
  | (go_at_call 200;refine(qN L w.heap.size A' c' m w _ hm HO (hid hL.out.ls) HX1 (hid (AD _)) h9).mono ?_;rintro r w2 ⟨rfl,S,hp,hs,o2,u2⟩;have HP:=hid hp;have HS:=hid hs;have HO2:=hid o2;have X2:Hid (Ext w w2):=hid (Ix HX1.out u2 (fun k hk=>hk));clear hp hs o2 u2))
 have HM:Hid (m=S.length):=hid (by rw[HP.out.length_eq];exact hm.out);have HTi:Hid (Tin w2 A' c' S):=hid ⟨by rw[<-HM.out];exact HO2.out.sl,fun x hx=>(hL.out.ls x (HP.out.mem_iff.1 hx)).ext X2.out⟩;have HMem:Hid (∀v,v∈S.map Tm.v↔v∈L.map Tm.v):=hid (fun v=>(HP.out.map Tm.v).mem_iff);have HSo:Hid ((S.map Tm.v).Pairwise fun x y=>Cp x y<=0):=hid (by rw[DL];exact HS.out)
 go_loopg [4,13] m (fun z v4 v13 wr=>∃(k:Nat) (A:Option Addr) (c n:Nat) (M:List Tm),z=m-k/\k<=m/\v13=.int .i64 k/\v4=.slice A n c/\Hid (n=M.length)/\Hid (Ev wr w2.heap.size A c M)/\Hid (Ht (L.map Tm.v) (S.map Tm.v) k (M.map Tm.v))/\Hid (Ext w2 wr)/\n<=k)
 case atStart=>exact⟨0,none,0,0,[],rfl,AE _,rfl,rfl,hid rfl,hid (Ev.nil _ _),hid (Ht.zero _ _),hid (Ext.refl _),AD _⟩
 case round =>
  obtain⟨k,A,c,n,M,rfl,hk,rfl,rfl,HN,HT,HU,HE,hnk⟩:=hrel;by_cases hlt:k<m
  ·have hkS:k<S.length:=by rw[<-HM.out];exact hlt
   obtain⟨ad,rfl,q0,q1⟩:=(HTi.out.ext HE.out).at (i:=k) hkS;have HXS:Hid (Sl wr 1 (S.getD k Tm.zero).A (S.getD k Tm.zero).l.length (S.getD k Tm.zero).c (wds (S.getD k Tm.zero).l)):=hid ((HTi.out.ext HE.out).ls _ (Bj hkS));have hlen:(S.getD k Tm.zero).l.length<=1000000:=hi.out _ (HP.out.mem_iff.1 (Bj hkS));have hkv:=Xy hkS;obtain⟨x,hx⟩:∃x,S.getD k Tm.zero=x:=⟨_,rfl⟩;rw[hx]at q0 q1 HXS hlen hkv;have HKV:=hid hkv;clear hx hkv hkS;obtain⟨e,Ax,cx,l⟩:=x;obtain⟨nx,hnx⟩:∃nx,l.length=nx:=⟨_,rfl⟩;have HNX:=hid hnx;replace q0:wr.cell? (ad.add (k*2))=some (.int .u64 e):=q0;replace q1:wr.cell? ⟨(ad.add (k*2)).block,(ad.add (k*2)).off+1,none⟩=some (.slice Ax l.length cx):=q1;replace HXS:Hid (Sl wr 1 Ax l.length cx (wds l)):=HXS;replace hlen:l.length<=1000000:=hlen;rw[hnx]at q1 HXS hlen;clear hnx;have X0:Hid (Ext wr (wr.alloc (.cells #[.int .u64 e,.slice Ax nx cx] 26))):=hid ((Ext.refl _).alloc _);cases hq:Aj (M.map Tm.v) (e,l)with
   | true =>
    have HQ:=hid hq;clear hq;go_wp2_with (first
     | (go_at_call 140;refine(Ek A c n M e Ax nx cx l _ HQ HN (hid (HT.out.ext X0.out).tin) (hid (HXS.out.ext X0.out))).mono ?_;rintro r w3 ⟨rfl,x3⟩))
    go_roundg (m-(k+1))
    case measure=>omega
    case rel =>
     obtain⟨hk2,hkv⟩:=HKV.out;exact⟨k+1,A,c,n,M,by omega,by omega,by go_num,rfl,HN,hid ((HT.out.ext X0.out).ext x3),hid (HU.out.skip hk2 (by rw[hkv];exact HQ.out)),hid ((HE.out.trans X0.out).trans x3),by omega⟩
   | false =>
    have HQ:=hid hq;clear hq;have hb0:=HE.out.size;go_wp2_with (first
     | (go_at_call 140;refine(Ek A c n M e Ax nx cx l _ HQ HN (hid (HT.out.ext X0.out).tin) (hid (HXS.out.ext X0.out))).mono ?_;rintro r w3 ⟨rfl,x3⟩;have X3:Hid (Ext wr w3):=hid (X0.out.trans x3);have B3:Bk w3 wr.heap.size 26 #[.int .u64 e,.slice Ax nx cx]:=(Bk.new wr _ _).ext x3;have q30:w3.cell? ⟨wr.heap.size,0,none⟩=some (.int .u64 e):=B3.cell 0;have q31:w3.cell? ⟨wr.heap.size,1,none⟩=some (.slice Ax nx cx):=B3.cell 1;clear x3 B3)
     | (go_at_call 142;refine(Un e Ax nx cx l _ (hid (HXS.out.ext X3.out)) hlen).mono ?_;rintro r w4 ⟨A4,c4,rfl,o4,x4⟩;have HO4:=hid o4;have X4:=hid x4;clear o4 x4)
     | (at_builtin;refine Ab _ Gv w2.heap.size _ _ rfl rfl A n c (Db M) rfl (by rw[HN.out];exact((HT.out.ext X3.out).ext X4.out).own.alloc _) (some ⟨w4.heap.size,0,none⟩) 1 1 (tmC ⟨e,A4,c4,l⟩) rfl (by rw[show tmC ⟨e,A4,c4,l⟩=[.int .u64 e,.slice A4 nx c4]by rw[<-HNX.out];rfl];exact Sl.one w4 #[.int .u64 e,.slice A4 nx c4] 26 2 rfl) (bD [⟨e,A4,c4,l⟩] |> fun h=>by simpa [Db] using h) (by omega) (by decide) (by have:=X3.out.size;have:=X4.out.size;simp;omega) ?_;intro A5 c5 w5 o5 g5 x5;have HO5:=hid o5;have HG5:=hid g5;have HX5:=hid x5;clear o5 g5 x5))
    go_roundg (m-(k+1))
    case measure=>omega
    case rel =>
     obtain⟨hk2,hkv⟩:=HKV.out;have hT3:=HT.out.ext X3.out;have hnx:=HNX.out;have hpush:=Ev.push hT3 X4.out (x:=⟨e,A4,c4,l⟩) (by show Own w4 w3.heap.size _ 1 A4 l.length c4 (wds l);rw[hnx];exact HO4.out) (by have:=X3.out.size;omega) _ (by rw[<-HN.out];exact HO5.out) HG5.out HX5.out;have e5:Ext w2 w5:=by
      have e4:=(((HE.out.trans X3.out).trans X4.out).alloc (.cells #[.int .u64 e,.slice A4 nx c4] 26));exact e4.grown HG5.out (fun k hk=>(hT3.own.lt k hk).1)
     refine⟨k+1,A5,c5,n+1,M++[⟨e,A4,c4,l⟩],by omega,by omega,by go_num,rfl,hid (by rw[AA,HN.out];rfl),hid hpush,hid ?_,hid e5,by omega⟩;rw[AO];have:=HU.out.put hk2 HSo.out HMem.out (by rw[hkv];exact HQ.out);rw[hkv]at this;exact this
  ·obtain rfl:k=m:=by omega
   go_wp2;go_ret;refine⟨A,c,n,M,rfl,HN.out,(HT.out.mono X2.out.size),?_,X2.out.trans HE.out⟩;have hU:=HU.out;rw[show k=(S.map Tm.v).length by rw[AN];exact HM.out]at hU;exact(hU.done HMem.out).eq
end Go.Proofs.YtdgbkpoickbidaaGreatDoor
