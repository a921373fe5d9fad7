/- Parts of the proof. Conditions: as stated. -/
import Derived.Test.YtdgbkpoickbidaaGreatDoorHx5
import Derived.Maps.OwnSet
import Derived.Maps.OwnOps
import Derived.Laws.MakeOwn
import Derived.Sort.Grow
set_option maxRecDepth 100000
set_option maxHeartbeats 16000000
open Go.RowKit Go.Proofs.Tryz
set_option linter.defProp false
namespace Go.Proofs.YtdgbkpoickbidaaGreatDoor
variable{B c c' g gm i j m n nx q:Nat}{A:Option Addr}{w w' w0 w1 w2 w3 w4 wr wx wz:World}
open Go.RowKit Go.Maps
def Bo:Gr prog 31 154 2 32 (.agg #[.slice none 0 0,.int .i64 0]):=⟨by kernel_rfl,by kernel_rfl,rfl,by decide⟩
def Ij(n:Nat):Obj:=.cells (madeCells #[.slice none 0 0,.int .i64 0] (n*2)) 154
def Tq(n:Nat)(hn:n<=1000000000)(W:World):(Instr.makeSlice 31 (.int .i64 0) (.int .i64 (n:Int))).run prog W=.ok (.slice (some ⟨W.heap.size,0,none⟩) 0 n) (W.alloc (Ij n)):=by
 have⟨i,hi,hz,hs,hb⟩:=info_parts Bo.info;have:=run_make (P:=prog) (w:=W) 31 154 i _ Bo.under hi hz .i64 .i64 0 (n:Int) (DX _) (by omega) (by rw[hb];omega) (by omega);rw[hs]at this;exact this
def Tp(n:Int)(W:World):(Instr.makeMap 225 (some (.int .i64 n))).run prog W=.ok (.map (some W.heap.size)) (W.alloc (.map #[] 0)):=by
 simp[Instr.makeMap,run_underlying Tryz.underlying225];rfl
def eM(W:World)(n:Nat)(h:0<n)(hn:n<=1000000000):Arr (W.alloc (Ij n)) W.heap.size W.heap.size n []:=
 ⟨⟨rfl,.inr ⟨W.heap.size,_,rfl,AD _,heap_alloc_new W _,AG _,by unfold maxLen;omega,ET (size_madeCells _ _).symm,rfl⟩⟩,h⟩
def Jm{P:Program}(w:World){ops:Array Oper}{rest:List Oper}{o:Oper}{a:Act}{Q:Exit->Act->World->Prop}{t e size bytes:Nat}{z:Value}(E:Gr P t e size bytes z)(base:Nat)(s x:Operand)
  (ho:o.op=.call { callee:=.builtin .append,args:=#[s,x],argTypes:=#[t,t] }) (hgd:o.guard=none)
  (g n c0:Nat) (xs:List Value) (hs:a.eval s=.slice (some ⟨g,0,none⟩) n c0) (hown:Own w base e size (some ⟨g,0,none⟩) n c0 xs) (hc:0<c0)
  (ad:Addr) (m c:Nat) (news:List Value) (hx:a.eval x=.slice (some ad) m c) (hr:Sl w size (some ad) m c news) (hm:0<m) (h1:∀u∈news,u.oneCell'=true) (hroom:n+m<=c0)
  (h:∀w',Own w' base e size (some ⟨g,0,none⟩) (n+m) c0 (xs++news)->w.grownBy w' (some g)->wpList P ops Q rest (a.put o.dst (.slice (some ⟨g,0,none⟩) (n+m) c0)) w'):wpList P ops Q (o::rest) a w :=
 wpList_plain hgd λ_ hK=>by
  have⟨w',hrun,h2,h3⟩:=Lg (P:=P) (ty:=o.type) w E base g n c0 xs hown hc ad m c news hr hm h1 hroom;unfold Oper.wp execOp;simp only[ho,resolve,invoke,builtin,Sem.run_bind,Sem.run_pure,Result.andThen_ok,FT,CJ,FO,hs,hx,hrun];exact hK _ _ (h w' h2 h3)
def dZ{l:List UInt8}(h:Ho w B A n c l) :
  Sem.run prog (convert 226 9 (.slice A n c)) w=.ok (.string ⟨l.toArray⟩) w:=by
 have hl:=h.len;rw[run_convert_bytes_string _ _ _ _ _ _ _ Mm Tryz.underlying5 La];rcases h.1.2 with ⟨hc,h0⟩|⟨g,cur,e,hb,hg,hnc,hcm,hcs,htake⟩
 ·have:l=[]:=AH (by omega);subst this;subst h0;cases A<;>rfl
 ·cases e;have a:Bk w g 5 cur:=hg;have e:Lib.byteCells l=(l.map λb=>(b.toNat:Int)).map (Value.int .u8):=by simp[Lib.byteCells]
  have:=a0f a 0 n c (l.map λb=>(b.toNat:Int)) (by rw[List.drop_zero,<-e];simpa using htake) (by simp;omega);rw[<-run_convert_bytes_string _ _ _ _ _ _ _ Mm Tryz.underlying5 La,this,CO,Vl]
def Zt:Keyed prog 9:=string_keyed Tryz.underlying9
def cD(w:World):(zeroValue 3).run prog w=.ok (.int .i64 0) w:=by kernel_rfl
def iC{l:List UInt8}(h:l.length<=100000000):keyOf prog 9 (.string ⟨l.toArray⟩)=some (.string l):=by
 rw[Go.WideMaps.keyOf_string_mk Tryz.underlying9 (by unfold maxLen;simp[ByteArray.size];omega)]
abbrev MD:=DataW Unit
def Rv(n:Int):MD:=.lit (.int .i64 n)
structure Ln (D:MD) (O:List Ct):Prop where
 is:IsMap D
 has:∀s,Maps.has D (.string s)=true ↔ ∃x∈O,Ch x.l=s
 at_:∀j,j<O.length->D.atKey (.string (Ch (O.getD j Ct.zero).l)) (Rv 0)=Rv j
def Ln.nil:Ln (.map []) []:=⟨isMap_empty,λs=>⟨λh=>(nomatch h),λ⟨x,h,_⟩=>(nomatch h)⟩,λj h=>absurd h (DR _)⟩
def Ln.new{D:MD}{O:List Ct}{x:Ct}(h:Ln D O)(hn:n=O.length)(hk:Maps.has D (.string (Ch x.l))=false):Ln (D.put (.string (Ch x.l)) (Rv n)) (O++[x]):=by
 subst hn;refine⟨?_,λs=>?_,λj hj=>?_⟩
 ·obtain⟨es,rfl⟩:=h.is;exact⟨_,rfl⟩
 ·by_cases e:s=Ch x.l
  ·subst e;rw[has_put_same h.is (show WideAt.IsKeyLit (.string _)from trivial)];exact⟨λ_=>⟨x,by simp,rfl⟩,λ_=>rfl⟩
  ·rw[has_put_other (λq=>e (by injection q)),h.has];exact⟨λ⟨y,hy,q⟩=>⟨y,BE _ hy,q⟩,λ⟨y,hy,q⟩=>by
    rcases AQ.1 hy with hy|hy
    ·exact⟨y,hy,q⟩
    ·rw[AE.1 hy]at q;exact absurd q.symm e⟩
 ·rw[AA,AO]at hj;by_cases hj2:j<O.length
  ·have e:(O++[x]).getD j Ct.zero=O.getD j Ct.zero:=by rw[AB,BS hj2,AB]
   rw[e,atKey_put_other ?_,h.at_ j hj2];intro q;injection q with q;have hm:∃y∈O,Ch y.l=Ch x.l:=⟨O.getD j Ct.zero,by rw[AB,AC hj2];exact BR hj2,q⟩;rw[(h.has _).2 hm]at hk;cases hk
  ·obtain rfl:j=O.length:=by omega
   rw[getD_mid O x [],atKey_put_same h.is (show WideAt.IsKeyLit (.string _)from trivial)]
def Ln.old{D:MD}{P Q:List Ct}{y z:Ct}(h:Ln D (P++y::Q))(hz:z.l=y.l):Ln D (P++z::Q):=by
 refine⟨h.is,λs=>?_,λj hj=>?_⟩
 ·rw[h.has];constructor
  ·rintro⟨x,hx,q⟩;rcases AQ.1 hx with hx|hx
   ·exact⟨x,BE _ hx,q⟩
   ·rcases AY.1 hx with rfl|hx
    ·exact⟨z,by simp,by rw[hz];exact q⟩
    ·exact⟨x,by simp[hx],q⟩
  ·rintro⟨x,hx,q⟩;rcases AQ.1 hx with hx|hx
   ·exact⟨x,BE _ hx,q⟩
   ·rcases AY.1 hx with rfl|hx
    ·exact⟨y,by simp,by rw[<-hz];exact q⟩
    ·exact⟨x,by simp[hx],q⟩
 ·have e:((P++z::Q).getD j Ct.zero).l=((P++y::Q).getD j Ct.zero).l:=by
   rw[AB,AB];rcases GH j P.length with q|q|q
   ·rw[BS q,BS q]
   ·subst q;rw[BF (AD _),BF (AD _),DQ];exact hz
   ·rw[BF (by omega),BF (by omega)];obtain⟨k,hk⟩:∃k,j-P.length=k+1:=⟨j-P.length-1,by omega⟩;rw[hk,FF,FF]
  rw[e];exact h.at_ j (by simpa using hj)
open Go.RowKit Go.Maps
structure Ev (w:World) (A:Option Addr) (c:Nat) (L:List Ct):Prop where
 sl:Sl w 2 A L.length c (Az L)
 rows:∀x∈L,Rw w x.A x.c x.l
def Ev.ext{L:List Ct}(h:Ev w A c L)(x:Ext w w'):Ev w' A c L:=⟨h.sl.ext x,λy hy=>(h.rows y hy).ext x⟩
def Dp{L:List Ct}(h:i<L.length):L.getD i Ct.zero∈L:=by
 rw[AB,AC h];exact BR h
def Ev.at{L:List Ct}(h:Ev w A c L){i:Nat}(hi:i<L.length):∃ad,A=some ad/\w.cell? (ad.add (i*2))=some (.slice (L.getD i Ct.zero).A (L.getD i Ct.zero).l.length (L.getD i Ct.zero).c) /\
  w.cell? ⟨(ad.add (i*2)).block,(ad.add (i*2)).off+1,none⟩=some (.int .i64 (L.getD i Ct.zero).k):=by
 have⟨ad,e,hc⟩:=h.sl.2.2.2.2 (by omega);refine⟨ad,e,hc _ _ (by rw[<-EH (i*2),Hk L i 0 hi (by omega)];rfl),?_⟩;rw[<-Sq ad _ 1 (by decide)];exact hc _ _ (by rw[Hk L i 1 hi (by omega)];rfl)
def Ef{L:List Ct}(h:i<L.length):L.take (i+1)=L.take i++[L.getD i Ct.zero]:=by
 rw[CC h,AB,AC h];rfl
def RwO(w:World)(A:Option Addr)(c:Nat)(l:List Dat):Prop:=Own w 0 204 4 A l.length c (Dd l)
def RwO.rw{l:List Dat}(h:RwO w A c l):Rw w A c l:=Own.sl h
def RwO.ext{l:List Dat}(h:RwO w A c l)(x:Ext w w'):RwO w' A c l:=Own.ext h x
def RwO.upd{l:List Dat}(h:RwO w A c l)(hx:w.grownBy w' (some g))(ha:∀ad,A=some ad->ad.block≠g):RwO w' A c l:=Own.kept h hx (by
 cases hb:blk A c with
 | none=>exact .inl rfl
 | some k =>
  right;intro e;injection e with e;have⟨ad,e1,e2⟩:=Gd hb;exact ha ad e1 (by omega))
def Iz(L:List Ct):Prop:=(L.map Ct.A).Pairwise λx y=>∀a b,x=some a->y=some b->a.block≠b.block
def Iz.sub{K L:List Ct}(h:Iz K)(hs:(L.map Ct.A).Sublist (K.map Ct.A)):Iz L:=List.Pairwise.sublist hs h
def Iz.perm{K L:List Ct}(h:Iz K)(hp:K.Perm L):Iz L:=(List.Perm.pairwise_iff (λ{_ _} q a b e1 e2 e3=>q b a e2 e1 e3.symm) (hp.map Ct.A)).1 h
structure Fu (w:World) (g gm n:Nat) (wr:World) (O:List Ct):Prop where
 arr:Arr wr w.heap.size g n O
 rows:∀x∈O,RwO wr x.A x.c x.l/\∀ad,x.A=some ad->gm<ad.block/\ad.block<wr.heap.size
 apart:Iz O
 ext:Ext w wr
 gg:w.heap.size<=g/\g<gm/\gm<wr.heap.size
def Fu.mono{O:List Ct}(h:Fu w g gm n wr O)(x:Ext wr wz):Fu w g gm n wz O :=
 ⟨h.arr.ext x,λy hy=>⟨(h.rows y hy).1.ext x,λad e=>by have:=(h.rows y hy).2 ad e;have:=x.size;omega⟩,h.apart,h.ext.trans x,by have:=h.gg;have:=x.size;omega⟩
def Fu.off{O:List Ct}(h:Fu w g gm n wr O):Rws wr g O:=λx hx=>⟨(h.rows x hx).1.rw,λad e=>by have:=(h.rows x hx).2 ad e;have:=h.gg;omega⟩
def Fu.map{O:List Ct}(h:Fu w g gm n wr O)(hx:wr.grownBy wz (some gm)):Fu w g gm n wz O:=by
 have hg:=h.gg;have hs:=hx.size;refine⟨⟨h.arr.1.kept hx (.inr λe=>?_),h.arr.2⟩,λy hy=>⟨(h.rows y hy).1.upd hx λad e=>by have:=(h.rows y hy).2 ad e;omega,λad e=>by have:=(h.rows y hy).2 ad e;omega⟩,h.apart,h.ext.grown hx (λk e=>by cases e;omega),by omega⟩;have⟨ad,e1,e2⟩:=Gd e;cases e1;simp only at e2;omega
def cQ{α:Type}{l:List α}{a:α}(h:l[i]?=some a):l.set i a=l:=by
 refine GY λj=>?_;rw[List.getElem?_set];split
 ·rename_i e;subst e;have hl:i<l.length:=by
   rcases DO i l.length with q|q
   ·exact q
   ·rw[DL q]at h;cases h
  rw[if_pos hl,h]
 ·rfl
def Fu.set{P Q:List Ct}{y:Ct}(h:Fu w g gm n wr (P++y::Q))(hj:j=P.length)(k:Int):Fu w g gm n (wr.setCell ⟨g,j*2+1,none⟩ (.int .i64 k)) (P++⟨y.A,y.c,y.l,k⟩::Q):=by
 subst hj;have hg:=h.gg;have hu:=Cn wr g (P.length*2+1) (.int .i64 k);have h1:=h.arr.1.put (P.length*2+1) (.int .i64 k);have e:(Az (P++y::Q)).set (P.length*2+1) (.int .i64 k)=Az (P++⟨y.A,y.c,y.l,k⟩::Q):=by
  have:=Po (P++y::Q) P.length ⟨y.A,y.c,y.l,k⟩;rw[set_mid]at this;rw[<-this]
  congr 1
  refine(cQ ?_).symm;have q:=Hk (P++y::Q) P.length 0 (by simp) (by decide);rw[getD_mid,EH]at q;exact q
 rw[e]at h1;refine⟨⟨by simpa using h1,h.arr.2⟩,λx hx=>?_,h.apart.sub (by simp),h.ext.set (p:=⟨g,_,none⟩) hg.1 _,by rw[EA];exact hg⟩;have hm:∀x∈P++y::Q,RwO (wr.setCell ⟨g,P.length*2+1,none⟩ (.int .i64 k)) x.A x.c x.l/\∀ad,x.A=some ad->gm<ad.block/\ad.block<(wr.setCell ⟨g,P.length*2+1,none⟩ (.int .i64 k)).heap.size:=λx hx =>
  ⟨(h.rows x hx).1.upd hu λad e=>by have:=(h.rows x hx).2 ad e;omega,λad e=>by rw[EA];exact(h.rows x hx).2 ad e⟩
 rcases AQ.1 hx with hx|hx
 ·exact hm x (BE _ hx)
 ·rcases AY.1 hx with rfl|hx
  ·exact hm y (by simp)
  ·exact hm x (by simp[hx])
def Fu.push{O:List Ct}{x:Ct}(h:Fu w g gm n wr O)(hr:RwO wr x.A x.c x.l)(hb:∀ad,x.A=some ad->gm<ad.block/\ad.block<wr.heap.size)(hn:∀y∈O,∀a b,y.A=some a->x.A=some b->a.block≠b.block)
  (ho:Own wz w.heap.size 154 2 (some ⟨g,0,none⟩) (O.length+1) n (Az O++ctC x)) (hx:wr.grownBy wz (some g)):Fu w g gm n wz (O++[x]):=by
 have hg:=h.gg;have hs:=hx.size;refine⟨⟨by rw[Fo,AA,show Az [x]=ctC x from AV _];exact ho,h.arr.2⟩,λy hy=>?_,?_,h.ext.grown hx (λk e=>by cases e;exact hg.1),by omega⟩
 ·rcases AQ.1 hy with hy|hy
  ·exact⟨(h.rows y hy).1.upd hx λad e=>by have:=(h.rows y hy).2 ad e;omega,λad e=>by have:=(h.rows y hy).2 ad e;omega⟩
  ·rw[AE.1 hy];exact⟨hr.upd hx λad e=>by have:=hb ad e;omega,λad e=>by have:=hb ad e;omega⟩
 ·unfold Iz;rw[AI];refine BL.2 ⟨h.apart,BN _ _,λa ha b hb'=>?_⟩;obtain⟨y,hy,rfl⟩:=AP.1 ha;rw[CA,AE]at hb';subst hb';exact hn y hy
structure Rx (L:List Ct) (i:Nat) (O:List Ct):Prop where
 same:∀c,Ae cmpV c (O.map Al)=sumClass (Ae cmpV c ((L.take i).map Al))
 sub:∀x∈O,∃y∈L,x.l=y.l
 inv:∀x∈O,InN (Al x)
 len:O.length<=i
def Rx.zero(L:List Ct):Rx L 0 []:=⟨λ_=>rfl,λx h=>(nomatch h),λx h=>(nomatch h),AD _⟩
def Rx.new{L O:List Ct}{x z:Ct}(h:Rx L i O)(hi:i<L.length)(hx:L.getD i Ct.zero=x)(hin:InN (Al x))(hz:Al z=Al x)(hn:∀y∈O,¬cmpV (Al y) (Al x)=0):Rx L (i+1) (O++[z]):=by
 have hm:x∈L:=hx▸Dp hi;refine⟨λc=>?_,λy hy=>?_,λy hy=>?_,by rw[AA,AO];have:=h.len;omega⟩
 ·rw[Ef hi,hx,AI,AI,CA,CA,hz];exact dedup_new h.same hin (λy hy=>by obtain⟨u,hu,rfl⟩:=AP.1 hy;exact hn u hu) c
 ·rcases AQ.1 hy with hy|hy
  ·exact h.sub y hy
  ·rw[AE.1 hy];exact⟨x,hm,congrArg Prod.fst hz⟩
 ·rcases AQ.1 hy with hy|hy
  ·exact h.inv y hy
  ·rw[AE.1 hy,hz];exact hin
def Rx.old{L P Q:List Ct}{x y:Ct}(h:Rx L i (P++y::Q))(hi:i<L.length)(hx:L.getD i Ct.zero=x)(hy:y.l=x.l):Rx L (i+1) (P++⟨y.A,y.c,y.l,w64 (y.k+x.k)⟩::Q):=by
 refine⟨λc=>?_,λz hz=>?_,λz hz=>?_,by have:=h.len;simp only[AA,AJ]at this ⊢;omega⟩
 ·rw[Ef hi,hx,AI,AI,CA,CJ];have q:=h.same;rw[AI,CJ]at q;exact dedup_old q (show cmpV (Al y) (Al x)=0 from(show Ba y.l x.l=0 by rw[hy];exact cmpC_tot.refl x)) c
 ·rcases AQ.1 hz with hz|hz
  ·exact h.sub z (BE _ hz)
  ·rcases AY.1 hz with rfl|hz
   ·exact h.sub y (by simp)
   ·exact h.sub z (by simp[hz])
 ·rcases AQ.1 hz with hz|hz
  ·exact h.inv z (BE _ hz)
  ·rcases AY.1 hz with rfl|hz
   ·exact Sw _
   ·exact h.inv z (by simp[hz])
def Qq(A:Option Addr)(c n:Nat)(l:List Dat)(w:World)(e1:H0 (n=l.length))(h1:H0 (Rw w A c l))(hs:n<=1000000000) :
  C3 183 #[.slice A n c] w λe w'=>tH w.heap.size n l e w'/\Ext w w':=bK A c n l w e1.o h1.o hs
open Go.RowKit Go.Maps
def Gf{v:Int}(A:Option Addr)(c n:Nat)(l:List Dat)(w:World)(hv:H0 (Bh l=v))(e1:H0 (n=l.length))(h1:H0 (Rw w A c l))(ht:H0 (Nr l))(G:Good w) :
  C3 154 #[.slice A n c] w λe w'=>e=.returned (.int .u16 v)/\Ext w w':=hv.o▸aO A c n l w e1.o h1.o ht.o G
def mI(A:Option Addr)(c n:Nat)(l:List Dat)(w:World)(e1:H0 (n=l.length))(h1:H0 (Rw w A c l))(hi:H0 (Ns l))(hk:H0 (Bh l=0)) :
  C3 186 #[.slice A n c] w (Kr w w.heap.size (Ch l)):=zN A c n l w e1.o h1.o hi.o hk.o
structure InC (x:Ct):Prop where
 txt:Nr x.l
 int:Ns x.l
 num:InN (Al x)
 len:x.l.length<=1000000
structure Qe (w:World) (g gm n:Nat) (L O:List Ct) (wx:World):Prop where
 at_:Fu w g gm n wx O
 same:∀c,sumClass (Ae cmpV c (O.map Al))=sumClass (Ae cmpV c (L.map Al))
 inv:∀x∈O,InN (Al x)
def Rx.o{L O:List Ct}(h:Rx L n O)(hn:n=L.length)(hs:Fu w g gm n wx O):Qe w g gm n L O wx :=
 ⟨hs,λc=>by rw[h.same,sumClass_twice,AW (by omega)],h.inv⟩
structure Dc (w:World) (g gm n:Nat) (S:List Ct) (wr:World) (i:Nat) (T M X R:List Ct):Prop where
 arr:Arr wr w.heap.size g n (M++(X++R))
 len:i=M.length+X.length
 spl:S=T++R
 tl:T.length=i
 mv:M.map Al=mergeV (T.map Al)
 rows:∀x∈M++R,RwO wr x.A x.c x.l/\∀ad,x.A=some ad->gm<ad.block/\ad.block<wr.heap.size
 apart:Iz (M++R)
 ext:Ext w wr
 gg:w.heap.size<=g/\g<gm/\gm<wr.heap.size
def Mb{K L:List Ct}(h:∀x∈K,RwO w x.A x.c x.l/\∀ad,x.A=some ad->gm<ad.block/\ad.block<w.heap.size)(hx:w.grownBy w' (some g))(hg:g<=gm)(hs:∀x∈L,∃y∈K,x.A=y.A/\x.c=y.c/\x.l=y.l) :
  ∀x∈L,RwO w' x.A x.c x.l/\∀ad,x.A=some ad->gm<ad.block/\ad.block<w'.heap.size:=λx hxL=>by
 have⟨y,hy,e1,e2,e3⟩:=hs x hxL;have hs:=hx.size;rw[e1,e2,e3];exact⟨(h y hy).1.upd hx λad e=>by have:=(h y hy).2 ad e;omega,λad e=>by have:=(h y hy).2 ad e;omega⟩
def eV{L M:List Ct}(h:Af cmpC L M):L.Perm M:=by
 have key:∀(n:Nat) (L M:List Ct),L.length<=n->Af cmpC L M->L.Perm M:=by
  intro n;induction n with
  | zero =>
   intro L M hn h;have:L=[]:=AH (by omega);subst this;rw[h.nil_of cmpC_tot]
  | succ n ih =>
   intro L M hn h;cases M with
   | nil =>
    cases L with
    | nil=>exact .nil
    | cons y L=>exact absurd ((h.mem cmpC_tot y).2 (BC ..)) DA
   | cons y M =>
    have hy:=(h.mem cmpC_tot y).1 (BC ..);have p1:∀K:List Ct,(Ae cmpC y K++(K.filter λz=>!(cmpC y z==0))).Perm K:=λK=>GF (λz=>cmpC y z==0) K;have h1:=(p1 L).length_eq;rw[AA]at h1;have h4:0<(Ae cmpC y L).length:=GL (BI.2 ⟨hy,by rw[beq_iff_eq];exact cmpC_tot.refl y⟩);have h5:=ih (L.filter λz=>!(cmpC y z==0)) ((y::M).filter λz=>!(cmpC y z==0)) (by omega) ⟨h.sorted.filter _,λz=>by
     have q:=h.same z;unfold Ae at q ⊢;rw[DD,DD];have e:∀K:List Ct,K.filter (λa=>(cmpC z a==0) && !(cmpC y a==0))=(K.filter (λa=>cmpC z a==0)).filter (λa=>!(cmpC y a==0)):=λK=>by
      rw[DD]
      congr 1
      funext a;rw[Bool.and_comm]
     rw[e,e,q]⟩
    have h6:(Ae cmpC y L).Perm (Ae cmpC y (y::M)):=by rw[h.same y]
    exact(p1 L).symm.trans ((h6.append h5).trans (p1 (y::M)))
 exact key L.length L M (AD _) h
def Dc.start{L O S:List Ct}(h:Qe w g gm n L O wx)(st:Af cmpC O S)(ar:Arr w1 w.heap.size g n S)(up:wx.grownBy w1 (some g)):Dc w g gm n S w1 0 [] [] [] S:=by
 have hg:=h.at_.gg;have hs:=up.size;exact⟨ar,rfl,rfl,rfl,rfl,Mb (K:=O) h.at_.rows up (by omega) (λx hx=>⟨x,(st.mem cmpC_tot x).1 hx,rfl,rfl,rfl⟩),h.at_.apart.perm (eV st),h.at_.ext.grown up (λk e=>by cases e;exact hg.1),by omega⟩
def Dc.mono{S T M X R:List Ct}(h:Dc w g gm n S wr i T M X R)(x:Ext wr wz):Dc w g gm n S wz i T M X R :=
 ⟨h.arr.ext x,h.len,h.spl,h.tl,h.mv,Mb (K:=M++R) h.rows (Aq x g) (by have:=h.gg;omega) (λx hx=>⟨x,hx,rfl,rfl,rfl⟩),h.apart,h.ext.trans x,by have:=h.gg;have:=x.size;omega⟩
def Dc.join{S T M X R:List Ct}{x y:Ct}{s:Int}(h:Dc w g gm n S wr i T (M++[y]) X (x::R))(hc:Ba y.l x.l=0)(hq:q=M.length)(hs:w64 (y.k+x.k)=s) :
  Dc w g gm n S (wr.setCell ⟨g,q*2+1,none⟩ (.int .i64 s)) (i+1) (T++[x]) (M++[⟨y.A,y.c,y.l,s⟩]) (X++[x]) R:=by
 subst hq hs;have hg:=h.gg;have hu:=Cn wr g (M.length*2+1) (.int .i64 (w64 (y.k+x.k)));have e0:M++[y]++(X++x::R)=M++y::(X++x::R):=by simp
 have a:=h.arr;rw[e0]at a;have h1:=a.1.put (M.length*2+1) (.int .i64 (w64 (y.k+x.k)));have e:(Az (M++y::(X++x::R))).set (M.length*2+1) (.int .i64 (w64 (y.k+x.k)))=Az (M++⟨y.A,y.c,y.l,w64 (y.k+x.k)⟩::(X++x::R)):=by
  have:=Po (M++y::(X++x::R)) M.length ⟨y.A,y.c,y.l,w64 (y.k+x.k)⟩;rw[set_mid]at this;rw[<-this]
  congr 1
  refine(cQ ?_).symm;have q:=Hk (M++y::(X++x::R)) M.length 0 (by simp) (by decide);rw[getD_mid,EH]at q;exact q
 rw[e]at h1;refine⟨⟨?_,a.2⟩,by have:=h.len;simp only[AA,AJ,CB]at this ⊢;omega,by rw[h.spl];simp,by rw[AA,h.tl];rfl,?_,Mb (K:=M++[y]++x::R) h.rows hu (by omega) (λz hz=>?_),h.apart.sub (by simp),h.ext.set (p:=⟨g,_,none⟩) hg.1 _,by rw[EA];exact hg⟩
 ·have e2:M++[⟨y.A,y.c,y.l,w64 (y.k+x.k)⟩]++(X++[x]++R)=M++⟨y.A,y.c,y.l,w64 (y.k+x.k)⟩::(X++x::R):=by simp
  rw[e2];have e3:(M++(⟨y.A,y.c,y.l,w64 (y.k+x.k)⟩:Ct)::(X++x::R)).length=(M++y::(X++x::R)).length:=by simp
  rw[e3];exact h1
 ·rw[AI,AI,CA,CA,mergeV_snoc,<-h.mv,AI,CA,mergeStep_snoc,if_pos (show cmpV (Al y) (Al x)=0 from hc)];rfl
 ·rcases AQ.1 hz with hz|hz
  ·rcases AQ.1 hz with hz|hz
   ·exact⟨z,by simp[hz],rfl,rfl,rfl⟩
   ·rw[AE.1 hz];exact⟨y,by simp,rfl,rfl,rfl⟩
  ·exact⟨z,by simp[hz],rfl,rfl,rfl⟩
def Dc.keep{S T M X R:List Ct}{x:Ct}(h:Dc w g gm n S wr i T M X (x::R))(hc:mergeStep (M.map Al) (Al x)=M.map Al++[Al x])(hq:q=M.length)(hnx:nx=x.l.length) :
  Dc w g gm n S ((wr.setCell ⟨g,q*2,none⟩ (.slice x.A nx x.c)).setCell ⟨g,q*2+1,none⟩ (.int .i64 x.k)) (i+1) (T++[x]) (M++[x]) (X++[x]).tail R:=by
 subst hq hnx;have hg:=h.gg;have hu:=(Cn wr g (M.length*2) (.slice x.A x.l.length x.c)).trans (Cn _ g (M.length*2+1) (.int .i64 x.k));have h1:=h.arr.set M.length x;have e:(M++(X++x::R)).set M.length x=M++[x]++((X++[x]).tail++R):=by
  cases X with
  | nil=>rw[BD,set_mid];simp
  | cons z X=>rw[CI,set_mid];simp
 rw[e]at h1;refine⟨h1,by have:=h.len;simp only[AA,AJ,CB,List.length_tail]at this ⊢;omega,by rw[h.spl];simp,by rw[AA,h.tl];rfl,?_,Mb (K:=M++x::R) h.rows hu (by omega) (λz hz=>⟨z,?_,rfl,rfl,rfl⟩),h.apart.sub (by simp),(h.ext.set (p:=⟨g,_,none⟩) hg.1 _).set (p:=⟨g,_,none⟩) hg.1 _,by rw[EA,EA];exact hg⟩
 ·rw[AI,AI,CA,mergeV_snoc,<-h.mv,hc]
 ·rcases AQ.1 hz with hz|hz
  ·rcases AQ.1 hz with hz|hz
   ·simp[hz]
   ·rw[AE.1 hz];simp
  ·simp[hz]
def iW{O S:List Ct}(h:Af cmpC O S):Af cmpV (O.map Al) (S.map Al):=by
 refine⟨DV.2 (h.sorted.imp λq=>q),λc=>?_⟩;have e:∀K:List Ct,Ae cmpV c (K.map Al)=(Ae cmpC ⟨none,0,c.1,c.2⟩ K).map Al:=λK=>by
  unfold Ae;rw[EE];rfl
 rw[e,e,h.same]
def Summed.of_sum{L D R:List V}(h:∀c,sumClass (Ae cmpV c D)=sumClass (Ae cmpV c L))(k:Summed D R):Summed L R:=⟨k.sorted,λc=>by rw[k.same,h]⟩
def Ls(w:World)(L:List Ct)(e:Ending)(w':World):Prop:=∃A m c R,e=.returned (.slice A m c)/\m=R.length/\Own w' w.heap.size 154 2 A m c (Az R) /\
 (∀x∈R,RwO w' x.A x.c x.l/\∀ad,x.A=some ad->w.heap.size<=ad.block/\blk A c≠some ad.block)/\Iz R/\R.map Al=sumV (L.map Al)/\Ext w w'
def lO{L O S T M X:List Ct}(he:Qe w g gm n L O wx)(hin:∀x∈L,InN (Al x))(st:Af cmpC O S)(h:Dc w g gm n S wr i T M X [])(ar:Arr w2 w.heap.size g n (M.filter nzC))(up:wr.grownBy w2 (some g))(hm:m=(M.filter nzC).length)(hc:c'=n) :
  Ls w L (.returned (.slice (some ⟨g,0,none⟩) m c')) w2:=by
 subst hc hm;have hg:=h.gg;have hT:S=T:=by have:=h.spl;rwa [AV]at this
 have c:=Mb (K:=M++[]) (L:=M.filter nzC) h.rows up (by omega) (λx hx=>⟨x,by rw[AV];exact(BI.1 hx).1,rfl,rfl,rfl⟩);refine⟨_,_,_,M.filter nzC,rfl,rfl,ar.1,λx hx=>⟨(c x hx).1,λad e=>⟨by have:=(c x hx).2 ad e;omega,λq=>?_⟩⟩,h.apart.sub (by rw[AV];exact FW.map _),?_,h.ext.grown up (λk e=>by cases e;exact hg.1)⟩
 ·have⟨a,e1,e2⟩:=Gd q;cases e1;have:=(c x hx).2 ad e;simp only at e2;omega
 ·have h1:Summed (L.map Al) (M.map Al):=by
   rw[h.mv,<-hT];exact(Summed.of_stable (iW st) (λy hy=>by obtain⟨x,hx,rfl⟩:=AP.1 hy;exact he.inv x hx)).of_sum he.same
  have h2:=Summed.all (L.map Al) (λy hy=>by obtain⟨x,hx,rfl⟩:=AP.1 hy;exact hin x hx);unfold sumV;rw[h2.unique h1,EE];rfl
structure Kl (w:World) (g gm n:Nat) (L:List Ct) (wr:World) (i:Nat) (O:List Ct) (D:MD):Prop where
 at_:Fu w g gm n wr O
 vals:Rx L i O
 map:wr.ownsMap prog 9 (plainElem prog 3) gm i D
 is:Ln D O
def Kl.mono{L O:List Ct}{D:MD}(h:Kl w g gm n L wr i O D)(x:Ext wr wz):Kl w g gm n L wz i O D :=
 ⟨h.at_.mono x,h.vals,h.map.kept (Aq x g) (λe=>by have:=h.at_.gg;cases e;omega),h.is⟩
def mV{L:List Ct}(h:Arr w B g c L):L.length<=c:=h.1.le.1
def a2p{D:MD}{k:Lit}{a j:Int}(h:D.atKey k (.lit (.int .i64 0))=.lit (.int .i64 a))(h2:D.atKey k (Rv 0)=Rv j):a=j:=by
 have:=h.symm.trans h2;unfold Rv at this;injection this with this;injection this
def No(w:World)(t:TypeId)(u v:Value):Sl (w.alloc (.cells #[u,v] t)) 2 (some ⟨w.heap.size,0,none⟩) 1 1 [u,v]:=
 ⟨rfl,AD _,by unfold maxLen;omega,(λh=>nomatch h),λ_=>⟨_,rfl,λj x hx=>Uj w t _ j x hx⟩⟩
def Sh{x:Ct}(h:Bh x.l=0)(hi:Ns x.l):∀d∈x.l,d.check=0/\InD d:=λd hd=>⟨((Nj x.l).1 h).2 d hd,hi d hd⟩
def pZ{x:Ct}(h:Bh x.l=0):(Ch x.l).length<=100000000:=by
 have⟨h1,h2⟩:=(Nj x.l).1 h;have:=Tu x.l (λd hd=>Mq (h2 d hd));omega
def Kl.there{L O:List Ct}{D:MD}(h:Kl w g gm n L wr i O D)(hok:∀x∈L,Bh x.l=0)(hin:∀x∈L,InC x){x:Ct}(hx:x∈L)(hh:Maps.has D (.string (Ch x.l))=true) :
  ∃P y Q,O=P++y::Q/\y.l=x.l/\D.atKey (.string (Ch x.l)) (Rv 0)=Rv P.length:=by
 have⟨y,hy,e⟩:=(h.is.has _).1 hh;have⟨u,hu,e2⟩:=h.vals.sub y hy;have e3:y.l=x.l:=zM (by rw[e2];exact Sh (hok u hu) (hin u hu).int) (Sh (hok x hx) (hin x hx).int) e;obtain⟨P,Q,rfl⟩:=List.append_of_mem hy;have:=h.is.at_ P.length (by simp);rw[getD_mid,e]at this;exact⟨P,y,Q,rfl,e3,this⟩
def Kl.away{L O:List Ct}{D:MD}(h:Kl w g gm n L wr i O D)(hok:∀x∈L,Bh x.l=0)(hin:∀x∈L,InC x){x:Ct}(hx:x∈L)(hh:Maps.has D (.string (Ch x.l))=false) :
  ∀y∈O,¬cmpV (Al y) (Al x)=0:=λy hy e=>by
 have⟨u,hu,e2⟩:=h.vals.sub y hy;have e3:y.l=x.l:=Pj _ _ (by rw[e2];exact Sh (hok u hu) (hin u hu).int) (Sh (hok x hx) (hin x hx).int) e;have:=(h.is.has (Ch x.l)).2 ⟨y,hy,by rw[e3]⟩;rw[hh]at this;cases this
def Kl.old{L P Q:List Ct}{D:MD}{x y:Ct}{s:Int}(h:Kl w g gm n L wr i (P++y::Q) D)(hi:i<L.length)(hx:L.getD i Ct.zero=x)(hy:y.l=x.l)(hj:j=P.length)(hs:w64 (y.k+x.k)=s) :
  Kl w g gm n L (wr.setCell ⟨g,j*2+1,none⟩ (.int .i64 s)) (i+1) (P++⟨y.A,y.c,y.l,s⟩::Q) D:=by
 subst hs;exact⟨h.at_.set hj _,h.vals.old hi hx hy,(h.map.kept (Cn wr g _ _) (λe=>by have:=h.at_.gg;cases e;omega)).mono (Nat.le_succ i),h.is.old rfl⟩
def Kl.new{L O:List Ct}{D:MD}{x:Ct}(h:Kl w g gm n L w1 i O D)(hi:i<L.length)(hx:L.getD i Ct.zero=x)(hin:InN (Al x))(hn:∀y∈O,¬cmpV (Al y) (Al x)=0)(hh:Maps.has D (.string (Ch x.l))=false)
  (hm:m=O.length) (hnx:nx=x.l.length) (h2:w2.ownsMap prog 9 (plainElem prog 3) gm (i+1) (D.put (.string (Ch x.l)) (Rv m))) (g2:w1.grownBy w2 (some gm)) (x3:Ext w2 w3)
  (o3:Own w3 w2.heap.size 204 4 A nx c (Dd x.l)) (b3:∀ad,A=some ad->w2.heap.size<=ad.block/\ad.block<w3.heap.size)
  (o4:Own w4 w.heap.size 154 2 (some ⟨g,0,none⟩) (m+1) n (Az O++[.slice A nx c,.int .i64 x.k])) (g4:w3.grownBy w4 (some g)):Kl w g gm n L w4 (i+1) (O++[⟨A,c,x.l,x.k⟩]) (D.put (.string (Ch x.l)) (Rv m)):=by
 subst hnx hm;have s2:=h.at_.map g2;have s3:=s2.mono x3;have hg:=s2.gg;refine⟨s3.push (x:=⟨A,c,x.l,x.k⟩) (Own.mono o3 (AG _)) (λad e=>by have:=b3 ad e;omega) (λy hy a b e1 e2=>by have:=(s2.rows y hy).2 a e1;have:=b3 b e2;omega) o4 g4,h.vals.new hi hx hin rfl hn,(h2.kept (Aq x3 g) (λe=>by cases e;omega)).kept g4 (λe=>by cases e;omega),Ln.new (x:=⟨A,c,x.l,x.k⟩) h.is rfl hh⟩
def Kl.start(L:List Ct)(h0:0<n)(hn:n<=1000000000)(hw:w0=(w.alloc (Ij n)).alloc (.map #[] 0)):Kl w w.heap.size (w.heap.size+1) n L w0 0 [] (.map []):=by
 subst hw;refine⟨⟨(eM w n h0 hn).ext ((Ext.refl _).alloc _),λx h=>(nomatch h),List.Pairwise.nil,((Ext.refl w).alloc _).alloc _,by simp⟩,Rx.zero L,?_,Ln.nil⟩;have:=World.ownsMap_made (H:=Unit) (w.alloc (Ij n)) prog 9 (plainElem prog 3);simpa using this
open Go.RowKit Go.Maps
def nP(A:Option Addr)(c n:Nat)(L:List Ct)(w:World)(h0:0<n)(hn:n=L.length)(h20:n<=100000000)(h:Ev w A c L)(hin:∀x∈L,InC x)(hok:∀x∈L,Bh x.l=0)(G:Good w) :
  C3 109 #[.slice A n c] w (Ls w L):=by
 have HN:=j6 hn;have H:=j6 h;have r:=j6 hin;have K:=j6 hok;have e4:=Tq n (by omega);have e5:=Tp (n:Int);clear hn h hin hok;go_enter func109,ntmps109
 go_upto_region 4 with fail
 have⟨w0,Z⟩:=E9 ((w.alloc (Ij n)).alloc (.map #[] 0));have X0:Ext w w0:=Z▸((Ext.refl w).alloc _).alloc _;have b5:H0 (Kl w w.heap.size (w.heap.size+1) n L w0 0 [] (.map [])):=j6 (Kl.start L h0 (by omega) Z);rw[<-Z];clear Z e4 e5;go_wp2
 go_loopw [5,24] (λu v wr=>∃i:Nat,i<=n/\u=.bool true/\v=.int .i64 i/\Ext w0 wr) (λ_ v _=>n-(intOf v).toNat)
 case atStart=>exact⟨0,AG _,rfl,rfl,Ext.refl _⟩
 case round =>
  obtain⟨i,hi,rfl,rfl,N⟩:=hrel;by_cases hlt:i<n
  ·have t:i<L.length:=by rw[<-HN.o];exact hlt
   have er:=X0.trans N;obtain⟨ad,rfl,p0,p1⟩:=(H.o.ext er).at t;have hm:=Dp t;have⟨x,hx⟩:=tz (L.getD i Ct.zero);rw[hx]at p0 p1 hm;have⟨nx,d⟩:=E9 x.l.length;rw[<-d]at p0;have a6:nx<=1000000000:=by have:=(r.o x hm).len;omega
   have HT:=j6 (r.o x hm).txt;have HI:=j6 (r.o x hm).int;have HR:=j6 ((H.o.rows x hm).ext (er.alloc (.cells #[.slice x.A nx x.c,.int .i64 x.k] 154)));have GW:=j6 (G.ext (er.alloc (.cells #[.slice x.A nx x.c,.int .i64 x.k] 154)));have f:=j6 d;have HX:=j6 hx;have a1:=j6 t;have HM:=j6 hm;have HC:=j6 (K.o x hm);clear t hm hx d;go_wp2_with (go_at_call 154;refine(Gf x.A x.c nx x.l _ HC f HR HT GW.o).mono ?_;rintro e w1 ⟨rfl,x1⟩)
   go_roundw
   case rel=>exact⟨i+1,by omega,rfl,by go_num,(N.alloc _).trans x1⟩
   case measure=>simp[intOf];omega
  ·go_wp2
   go_loopg [3,38] n (λz u v wr=>∃(i:Nat) (O:List Ct) (D:MD),z=n-i/\i<=n/\u=.slice (some ⟨w.heap.size,0,none⟩) O.length n/\v=.int .i64 i/\H0 (Kl w w.heap.size (w.heap.size+1) n L wr i O D))
   case atStart=>exact⟨0,[],.map [],rfl,AG _,rfl,rfl,j6 (b5.o.mono N)⟩
   case round =>
    clear hi hlt N b5 X0;obtain⟨i,O,D,rfl,hi,rfl,rfl,HP⟩:=hrel;by_cases hlt:i<n
    ·have t:i<L.length:=by rw[<-HN.o];exact hlt
     have er:=HP.o.at_.ext;obtain⟨ad,rfl,p0,p1⟩:=(H.o.ext er).at t;have hm:=Dp t;have⟨x,hx⟩:=tz (L.getD i Ct.zero);rw[hx]at p0 p1 hm;have⟨nx,d⟩:=E9 x.l.length;rw[<-d]at p0;have a6:nx<=1000000000:=by have:=(r.o x hm).len;omega
     have HT:=j6 (r.o x hm).txt;have HI:=j6 (r.o x hm).int;have HR:=j6 ((H.o.rows x hm).ext (er.alloc (.cells #[.slice x.A nx x.c,.int .i64 x.k] 154)));have GW:=j6 (G.ext (er.alloc (.cells #[.slice x.A nx x.c,.int .i64 x.k] 154)));have f:=j6 d;have HX:=j6 hx;have a1:=j6 t;have HM:=j6 hm;have HC:=j6 (K.o x hm);have a2:=j6 (pZ HC.o);have e2:w.heap.size+1<wr.heap.size:=HP.o.at_.gg.2.2;have⟨m,g⟩:=E9 O.length;have f8:m<=i:=by rw[g];exact HP.o.vals.len
     rw[<-g];cases hth:Maps.has D (.string (Ch x.l))
     ·have d3:=j6 (HP.o.away K.o r.o hm hth);have d8:=j6 hth;have E:=j6 g;clear t hm hx d g
      go_upto_region 19 with (first
       | (go_at_call 186;refine(mI x.A x.c nx x.l _ f HR HI HC).mono ?_;rintro e w1 ⟨A1,n1,c1,rfl,o1,b1⟩;have O1:=j6 o1;have X1:Ext (wr.alloc (.cells #[.slice x.A nx x.c,.int .i64 x.k] 154)) w1:=b1;have e3:=dZ o1;have BX:=(Bk.new wr 154 #[.slice x.A nx x.c,.int .i64 x.k]).ext X1;have d9:=BX.cell 0;have c5:=BX.cell 1;have XX:=((Ext.refl wr).alloc (.cells #[.slice x.A nx x.c,.int .i64 x.k] 154)).trans X1;have F:=j6 (HP.o.mono XX);clear o1 b1)
       | (at_lookup;refine wpList_lookup_own_ok_int _ rfl _ _ 225 rfl 9 3 .i64 Zt Tryz.underlying225 Tryz.underlying3 (cD _) (w.heap.size+1) i D rfl F.o.map _ (.string (Ch x.l)) rfl (iC a2.o) ?_;intro cc U a9;clear U a9)
       | (at_mapUpdate;refine wpList_mapUpdate_own _ rfl _ _ _ 225 rfl 9 3 Zt Tryz.underlying225 (plainElem prog 3) (w.heap.size+1) i D rfl F.o.map (by unfold maxLen;omega) _ _ (.string (Ch x.l)) rfl rfl (iC a2.o) (Rv m) [] (plainElem_int Tryz.underlying3 (WalkArith.wf_i64 (by omega))) ?_;intro w2 Y B;have d5:=j6 Y;have C:=j6 B;have b9:=j6 (F.o.at_.map B);have a0:=BX.grown B (by intro e;injection e with e;omega);clear Y B))
      have X2:Ext w2 w2.drew:=(Ext.refl w2).drew;have a3:=j6 ((H.o.rows x HM.o).ext (b9.o.ext.trans X2));have B0:∀z:Xt w2.drew,z.W.cell? ⟨wr.heap.size,0,none⟩=some (.slice x.A nx x.c):=λz=>(X2.trans z.x).cell (a0.cell 0);have B1:∀z:Xt w2.drew,z.W.cell? ⟨wr.heap.size,1,none⟩=some (.int .i64 x.k):=λz=>(X2.trans z.x).cell (a0.cell 1);go_simp;refine wro [0,0,2,6,0,16,62,126,255,511] (.pur [0] (.flo [1,2,4,5] (.ext 3 (.flo [6] (.one 7 (.one 8 (.flo [9] (.fin)))))))) ?_
      (refine Bi (pks rfl) ?_;(repeat (go_big_quiet_step (fail)));refine oq ?_)
      (refine Aa (pks rfl) ?_;(repeat (go_big_quiet_step (fail)));refine oq ?_)
      refine Ar (pks rfl) ?_;intro K_ I;go_wp2_with (go_at_call 183;refine(Qq x.A x.c nx x.l _ f a3 a6).mono ?_;rintro e w3 ⟨⟨A3,c3,rfl,o3,b3⟩,x3⟩)
      refine An.mk x3 ?_;have O3:=j6 o3;have d4:=j6 b3;have X3:=j6 (X2.trans x3);clear o3 b3
      (refine Aa (pks rfl) ?_;(repeat (go_big_quiet_step (fail)));refine oq ?_)
      refine Ac (pks rfl) ?_;intro K_ I;go_wp2;refine Ac (pks rfl) ?_;intro K_ I;have d6:=j6 (b9.o.mono X3.o);go_wp2_with (at_builtin;refine Jm _ Bo w.heap.size _ _ rfl rfl w.heap.size m n (Az O) rfl (by rw[E.o];exact(d6.o.arr.ext ((Ext.refl _).alloc _)).1) h0 ⟨w3.heap.size,0,none⟩ 1 1 [.slice A3 nx c3,.int .i64 x.k] rfl (No _ _ _ _) (by decide) (by intro u hu;simp at hu;rcases hu with rfl|rfl<;>rfl) (by omega) ?_;intro w4 o4 g4)
      have O4:=j6 o4;have G4:=j6 ((Aq ((Ext.refl w3).alloc (.cells #[.slice A3 nx c3,.int .i64 x.k] 154)) w.heap.size).trans g4);clear o4 g4;go_simp
      (refine Aa (pks rfl) ?_;(repeat (go_big_quiet_step (fail)));refine oq ?_)
      refine Ad ?_;go_wp2
      go_roundg (n-(i+1))
      case measure=>omega
      case rel=>exact⟨i+1,O++[⟨A3,c3,x.l,x.k⟩],D.put (.string (Ch x.l)) (Rv m),rfl,by omega,by rw[E.o];simp,by go_num,j6 (Kl.new F.o a1.o HX.o (r.o x HM.o).num d3.o d8.o E.o f.o d5.o C.o X3.o (by have:=O3.o;exact this) (λad e=>by have:=d4.o ad e;have:=X2.size;omega) O4.o G4.o)⟩
     ·obtain⟨P,y,Q,rfl,hy,J⟩:=HP.o.there K.o r.o hm hth;have⟨j,hj⟩:=E9 P.length;rw[<-hj]at J;have f7:j<m:=by rw[g,hj];simp
      have⟨s,hs⟩:=tz (w64 (y.k+x.k));have f2:IntKind.i64.wrap (y.k+x.k)=s:=hs;have d2:=j6 J;have HJ:=j6 hj;have E:=j6 g;have HY:=j6 hy;have HS:=j6 hs;clear t hm hx d g hy J hj hs
      go_upto_region 17 with (first
       | (go_at_call 186;refine(mI x.A x.c nx x.l _ f HR HI HC).mono ?_;rintro e w1 ⟨A1,n1,c1,rfl,o1,b1⟩;have O1:=j6 o1;have X1:Ext (wr.alloc (.cells #[.slice x.A nx x.c,.int .i64 x.k] 154)) w1:=b1;have e3:=dZ o1;have BX:=(Bk.new wr 154 #[.slice x.A nx x.c,.int .i64 x.k]).ext X1;have d9:=BX.cell 0;have c5:=BX.cell 1;have XX:=((Ext.refl wr).alloc (.cells #[.slice x.A nx x.c,.int .i64 x.k] 154)).trans X1;have F:=j6 (HP.o.mono XX);clear o1 b1)
       | (at_lookup;refine wpList_lookup_own_ok_int _ rfl _ _ 225 rfl 9 3 .i64 Zt Tryz.underlying225 Tryz.underlying3 (cD _) (w.heap.size+1) i D rfl F.o.map _ (.string (Ch x.l)) rfl (iC a2.o) ?_;intro cc U a9;obtain rfl:cc=(j:Int):=a2p U d2.o;clear U a9))
      have a4:=F.o.at_.arr;have hq:=a4.at (i:=j) (by rw[HJ.o];simp);rw[HJ.o,getD_mid,<-HJ.o]at hq;have q1:=hq.2;have f1:=a4.free (j*2+1);have X2:Ext w1 w1.drew:=(Ext.refl w1).drew;have Q1:∀z:Xt w1.drew,z.W.cell? ⟨w.heap.size,j*2+1,none⟩=some (.int .i64 y.k):=λz=>(X2.trans z.x).cell q1;have B1:∀z:Xt w1.drew,z.W.cell? ⟨wr.heap.size,1,none⟩=some (.int .i64 x.k):=λz=>(X2.trans z.x).cell c5;clear a4 hq;refine wro [0,0,3,7,15,0,32,127,255,511,1023] (.flo [0,1,2,3,4,5,6,7,8,9] (.one 10 (.fin))) ?_
      (refine Aa (pks rfl) ?_;(repeat (go_big_quiet_step (fail)));refine oq ?_)
      refine Ac (pks rfl) ?_;intro K_ I;go_wp2;refine Ad ?_;go_wp2
      go_roundg (n-(i+1))
      case measure=>omega
      case rel=>exact⟨i+1,P++⟨y.A,y.c,y.l,s⟩::Q,D,rfl,by omega,by rw[E.o];simp,by go_num,j6 ((F.o.mono X2).old a1.o HX.o HY.o HJ.o HS.o)⟩
    ·have a5:i=n:=by omega
     have HE:H0 (Qe w w.heap.size (w.heap.size+1) n L O wr):=j6 (by have:=HP.o;rw[a5]at this;exact this.vals.o HN.o this.at_);have e6:O.length<=n:=mV HE.o.at_.arr;have⟨m,g⟩:=E9 O.length;rw[<-g]at e6 ⊢;have E:=j6 g;have c9:H0 (∀x∈L,InN (Al x)):=j6 λx hx=>(r.o x hx).num;have f5:w.heap.size+1<wr.heap.size:=HE.o.at_.gg.2.2;clear g a5 HP;go_wp2_with (go_at_call 187;refine(sortStable_any w.heap.size w.heap.size n m O _ E.o (by omega) HE.o.at_.arr HE.o.at_.off).mono ?_;rintro e w1 ⟨rfl,S,st,ar,up⟩;have b2:=j6 (Dc.start HE.o st ar up);have d7:=j6 st;have c0:H0 (m=S.length):=j6 (by rw[stable_len st];exact E.o);clear st ar up)
     go_loopg [13,82] m (λz u v wr=>∃(i q:Nat) (T M X R:List Ct),z=m-i/\i<=m/\q<=i/\u=.int .i64 q/\v=.int .i64 i/\H0 (q=M.length)/\H0 (Dc w w.heap.size (w.heap.size+1) n S wr i T M X R))
     case atStart=>exact⟨0,0,[],[],[],S,rfl,AG _,AD _,rfl,rfl,j6 rfl,b2⟩
     case round =>
      clear b2;obtain⟨i,q,T,M,X,R,rfl,hi,f9,rfl,rfl,HQ,HG⟩:=hrel;have e2:w.heap.size+1<wr.heap.size:=HG.o.gg.2.2;by_cases hlt:i<m
      ·obtain⟨x,R,rfl⟩:∃x R',R=x::R':=by
        cases R with
        | nil =>
         have h1:=HG.o.spl;have h2:=HG.o.tl;have h3:=c0.o;rw[h1,AV,h2]at h3;omega
        | cons x R=>exact⟨x,R,rfl⟩
       have hA:=HG.o.arr;have c7:i<(M++(X++x::R)).length:=by have:=HG.o.len;simp only[AA,AJ]at this ⊢;omega
       have⟨p0,p1⟩:=hA.at c7;have e:(M++(X++x::R)).getD i Ct.zero=x:=by
        rw[<-AK,show i=(M++X).length by rw[AA];exact HG.o.len];exact getD_mid _ x R
       rw[e]at p0 p1;have⟨nx,d⟩:=E9 x.l.length;rw[<-d]at p0;have f:=j6 d;have g2:q<m:=by omega
       have XB:Ext wr (wr.alloc (.cells #[.slice x.A nx x.c,.int .i64 x.k] 154)):=(Ext.refl wr).alloc _;have a:=j6 (HG.o.mono XB);have BX:=Bk.new wr 154 #[.slice x.A nx x.c,.int .i64 x.k];have f0:=a.o.arr.free (q*2);have f1:=a.o.arr.free (q*2+1);have e8:q<n:=by omega
       have⟨u0,d0⟩:=CQ.1 (a.o.arr.cells_past (j:=q*2) (by omega));have⟨u1,d1⟩:=CQ.1 (a.o.arr.cells_past (j:=q*2+1) (by omega));clear hA c7 e d;rcases snoc_cases M with rfl|⟨M,y,rfl⟩
       ·have e7:q=0:=HQ.o;subst e7;have HK:H0 (mergeStep (([]:List Ct).map Al) (Al x)=([]:List Ct).map Al++[Al x]):=j6 rfl
        go_upto_region 26 with fail
        have X2:Ext (wr.alloc (.cells #[.slice x.A nx x.c,.int .i64 x.k] 154)) (wr.alloc (.cells #[.slice x.A nx x.c,.int .i64 x.k] 154)).drew:=(Ext.refl _).drew;refine wro [0,1,3,7,7,23,63,127,255,7,519,2047,4095,8191] (.flo [0,1,2,3,4,5,6,7,8,9,10] (.one 11 (.flo [12,13] (.fin)))) ?_
        (refine Aa (pks rfl) ?_;(repeat (go_big_quiet_step (fail)));refine oq ?_)
        refine Ac (pks rfl) ?_;intro K_ I;go_wp2
        (refine Aa (pks rfl) ?_;(repeat (go_big_quiet_step (fail)));refine oq ?_)
        refine Ad ?_;have a0:=BX.drew;go_wp2
        go_roundg (m-(i+1))
        case measure=>omega
        case rel=>exact⟨i+1,1,T++[x],[x],(X++[x]).tail,R,rfl,by omega,by omega,rfl,by go_num,j6 rfl,j6 ((a.o.mono X2).keep HK.o rfl f.o)⟩
       ·have⟨p,hp⟩:=E9 M.length;have e9:q=p+1:=by have:=HQ.o;rw[AA,AO]at this;omega
        subst e9;have hy:=a.o.arr.at (i:=p) (by rw[hp];simp);have ey:(M++[y]++(X++x::R)).getD p Ct.zero=y:=by rw[hp,AK];exact getD_mid M y _
        rw[ey]at hy;obtain⟨y0,y1⟩:=hy;have⟨ny,a7⟩:=E9 y.l.length;rw[<-a7]at y0;have b4:=j6 a7;have b6:=j6 hp;have f3:=a.o.arr.free (p*2+1);have⟨v,hv⟩:=tz (Ba y.l x.l);have HV:=j6 hv;have za:decide ((0:Int)<(p:Int)+1)=true:=decide_eq_true (by omega);have⟨wb,a8⟩:=E9 (wr.alloc (.cells #[.slice x.A nx x.c,.int .i64 x.k] 154));have f6:w.heap.size+1<wb.heap.size:=by rw[a8];exact a.o.gg.2.2
        go_upto_region 26 with fail
        rw[<-a8]at XB a BX f0 f1 d0 d1 y0 y1 f3 ⊢;clear ey a7 hp hv a8;have X2:Ext wb wb.drew:=(Ext.refl wb).drew;have b8:=j6 ((a.o.rows y (by simp)).1.rw.ext X2);have b7:=j6 ((a.o.rows x (by simp)).1.rw.ext X2);have Y0:∀z:Xt wb.drew,z.W.cell? ⟨w.heap.size,p*2,none⟩=some (.slice y.A ny y.c):=λz=>(X2.trans z.x).cell y0;have B0:∀z:Xt wb.drew,z.W.cell? ⟨wr.heap.size,0,none⟩=some (.slice x.A nx x.c):=λz=>(X2.trans z.x).cell (BX.cell 0);by_cases hv0:v=0
        ·subst hv0;refine wro [0,1,3,7,7,23,63,127,255,7,519,2047,4095,8191] (.flo [0,1,2,3,4,5,6,7,8,9,10] (.one 11 (.flo [12,13] (.fin)))) ?_
         (refine Aa (pks rfl) ?_;(repeat (go_big_quiet_step (fail)));refine oq ?_)
         refine Ac (pks rfl) ?_;intro K_ I;go_wp2_with (go_at_call 164;refine(Gz y.A x.A y.c x.c ny nx y.l x.l _ b4.o f.o b8.o b7.o).mono ?_;rintro e w1 ⟨rfl,x1⟩;rw[HV.o])
         (refine Aa (pks rfl) ?_;(repeat (go_big_quiet_step (fail)));refine oq ?_)
         refine Ad ?_;have X3:=X2.trans x1;have C:=j6 (a.o.mono X3);have yk:=X3.cell y1;have bk:=X3.cell (BX.cell 1);have f4:=C.o.arr.free (p*2+1);have⟨s,hs⟩:=tz (w64 (y.k+x.k));have f2:IntKind.i64.wrap (y.k+x.k)=s:=hs;have HS:=j6 hs;have X4:Ext w1 w1.drew:=(Ext.refl w1).drew;have Y1:∀z:Xt w1.drew,z.W.cell? ⟨w.heap.size,p*2+1,none⟩=some (.int .i64 y.k):=λz=>(X4.trans z.x).cell yk;have B1:∀z:Xt w1.drew,z.W.cell? ⟨wr.heap.size,1,none⟩=some (.int .i64 x.k):=λz=>(X4.trans z.x).cell bk;clear hs
         go_upto_region 27 with fail
         refine wro [0,0,2,7,15,31,0,64,255,511,1023,2047] (.flo [0,1,2,3,4,5,6,7,8,9,10] (.one 11 (.fin))) ?_
         (refine Aa (pks rfl) ?_;(repeat (go_big_quiet_step (fail)));refine oq ?_)
         refine Ac (pks rfl) ?_;intro K_ I;go_wp2;refine Ad ?_;go_wp2
         go_roundg (m-(i+1))
         case measure=>omega
         case rel=>exact⟨i+1,p+1,T++[x],M++[(⟨y.A,y.c,y.l,s⟩:Ct)],X++[x],R,rfl,by omega,by omega,by go_num,by go_num,j6 (by rw[AA,AO,<-b6.o]),j6 ((C.o.mono X4).join HV.o b6.o HS.o)⟩
        ·have zv:(v==0)=false:=by simpa using hv0
         have HK:H0 (mergeStep ((M++[y]).map Al) (Al x)=(M++[y]).map Al++[Al x]):=j6 (by
          rw[AI,CA,mergeStep_snoc,if_neg (show ¬cmpV (Al y) (Al x)=0 from λq=>hv0 (HV.o.symm.trans q))])
         clear hv0;refine wro [0,1,3,7,7,23,63,127,255,7,519,2047,4095,8191] (.flo [0,1,2,3,4,5,6,7,8,9,10] (.one 11 (.flo [12,13] (.fin)))) ?_
         (refine Aa (pks rfl) ?_;(repeat (go_big_quiet_step (fail)));refine oq ?_)
         refine Ac (pks rfl) ?_;intro K_ I;go_wp2_with (go_at_call 164;refine(Gz y.A x.A y.c x.c ny nx y.l x.l _ b4.o f.o b8.o b7.o).mono ?_;rintro e w1 ⟨rfl,x1⟩;rw[HV.o])
         (refine Aa (pks rfl) ?_;(repeat (go_big_quiet_step (fail)));refine oq ?_)
         refine Ad ?_;have X3:=X2.trans x1;have C:=j6 (a.o.mono X3);have b0:=X3.cell (BX.cell 0);have b1:=X3.cell (BX.cell 1);have g0:=C.o.arr.free ((p+1)*2);have g1:=C.o.arr.free ((p+1)*2+1);have e0:=X3.cell d0;have e1:=X3.cell d1;go_wp2
         go_roundg (m-(i+1))
         case measure=>omega
         case rel=>exact⟨i+1,p+1+1,T++[x],M++[y]++[x],(X++[x]).tail,R,rfl,by omega,by omega,by go_num,by go_num,j6 (by rw[AA,AO,<-HQ.o]),j6 (C.o.keep HK.o HQ.o f.o)⟩
      ·have hR:R=[]:=AH (by
        have h1:=HG.o.spl;have h2:=HG.o.tl;have h3:=c0.o;rw[h1,AA,h2]at h3;omega)
       subst hR;have e8:q<=n:=by omega
       go_wp2_with (go_at_call 189;refine(deleteFunc_any w.heap.size w.heap.size n q M _ HQ.o HG.o.arr.prefix_).mono ?_;rintro e w2 ⟨mf,rfl,c6,c4,c8⟩;have a3:=j6 (λc' hc=>lO (c':=c') HE.o c9.o d7.o HG.o c4 c8 c6 hc);clear c6 c4 c8)
       go_ret;exact a3.o n rfl
open Go.RowKit Go.Maps
structure Oo (w:World) (g gm n:Nat) (L:List Ct) (wr:World) (i:Nat) (O:List Ct):Prop where
 at_:Fu w g gm n wr O
 vals:O.map Al=(L.take i).map Al
 len:O.length=i
def Oo.mono{L O:List Ct}(h:Oo w g gm n L wr i O)(x:Ext wr wz):Oo w g gm n L wz i O:=⟨h.at_.mono x,h.vals,h.len⟩
def Oo.start(L:List Ct)(h0:0<n)(hn:n<=1000000000)(hw:w0=(w.alloc (Ij n)).alloc (.map #[] 0)):Oo w w.heap.size (w.heap.size+1) n L w0 0 []:=by
 subst hw;exact⟨⟨(eM w n h0 hn).ext ((Ext.refl _).alloc _),λx h=>(nomatch h),List.Pairwise.nil,((Ext.refl w).alloc _).alloc _,by simp⟩,rfl,rfl⟩
def Oo.new{L O:List Ct}{x:Ct}(h:Oo w g gm n L w1 i O)(hi:i<L.length)(hx:L.getD i Ct.zero=x)(hm:m=O.length)(hnx:nx=x.l.length)(x3:Ext w1 w3)
  (o3:Own w3 w1.heap.size 204 4 A nx c (Dd x.l)) (b3:∀ad,A=some ad->w1.heap.size<=ad.block/\ad.block<w3.heap.size)
  (o4:Own w4 w.heap.size 154 2 (some ⟨g,0,none⟩) (m+1) n (Az O++[.slice A nx c,.int .i64 x.k])) (g4:w3.grownBy w4 (some g)):Oo w g gm n L w4 (i+1) (O++[⟨A,c,x.l,x.k⟩]):=by
 subst hnx hm;have s3:=h.at_.mono x3;have hg:=h.at_.gg;refine⟨s3.push (x:=⟨A,c,x.l,x.k⟩) (Own.mono o3 (AG _)) (λad e=>by have:=b3 ad e;omega) (λy hy a b e1 e2=>by have:=(h.at_.rows y hy).2 a e1;have:=b3 b e2;omega) o4 g4,?_,by rw[AA,h.len];rfl⟩;rw[Ef hi,hx,AI,AI,h.vals];rfl
def Oo.o{L O:List Ct}(h:Oo w g gm n L wx n O)(hn:n=L.length)(hin:∀x∈L,InN (Al x)):Qe w g gm n L O wx:=by
 have e:O.map Al=L.map Al:=by rw[h.vals,AW (by omega)]
 refine⟨h.at_,λc=>by rw[e],λx hx=>?_⟩;have:Al x∈O.map Al:=AP.2 ⟨x,hx,rfl⟩;rw[e]at this;have⟨y,hy,e2⟩:=AP.1 this;rw[<-e2];exact hin y hy
def bW(L:List Ct)(i:Nat):Prop:=∀x∈L.take i,Bh x.l=0
def bW.step{L:List Ct}{i:Nat}{x:Ct}(hi:i<L.length)(hx:L.getD i Ct.zero=x):bW L (i+1)↔bW L i/\Bh x.l=0:=by
 unfold bW;rw[Ef hi,hx];exact⟨λh=>⟨λy hy=>h y (BE _ hy),h x (by simp)⟩,λh y hy=>by
  rcases AQ.1 hy with q|q
  ·exact h.1 y q
  ·rw[AE.1 q];exact h.2⟩
def lF(L:List Ct)(i:Nat)(b:Bool):Prop:=b=true↔bW L i
def nQ(A:Option Addr)(c n:Nat)(L:List Ct)(w:World)(h0:0<n)(hn:n=L.length)(h20:n<=100000000)(h:Ev w A c L)(hin:∀x∈L,InC x)(hbad:∃x∈L,Bh x.l≠0)(G:Good w) :
  C3 109 #[.slice A n c] w (Ls w L):=by
 have HN:=j6 hn;have H:=j6 h;have t:=j6 hin;have b4:=j6 hbad;have c6:=Tq n (by omega);have c7:=Tp (n:Int);clear hn h hin hbad;go_enter func109,ntmps109
 go_upto_region 4 with fail
 have⟨w0,K⟩:=E9 ((w.alloc (Ij n)).alloc (.map #[] 0));have X0:Ext w w0:=K▸((Ext.refl w).alloc _).alloc _;have a1:H0 (Oo w w.heap.size (w.heap.size+1) n L w0 0 []):=j6 (Oo.start L h0 (by omega) K);rw[<-K];clear K c6 c7;go_wp2
 go_loopw [5,24] (λu v wr=>∃(i:Nat) (b:Bool),i<=n/\u=.bool b/\v=.int .i64 i/\H0 (lF L i b)/\Ext w0 wr) (λ_ v _=>n-(intOf v).toNat)
 case atStart=>exact⟨0,true,AG _,rfl,rfl,j6 ⟨λ_ x hx=>by simp at hx,λ_=>rfl⟩,Ext.refl _⟩
 case round =>
  obtain⟨i,b,hi,rfl,rfl,HB,E⟩:=hrel;by_cases hlt:i<n
  ·have g:i<L.length:=by rw[<-HN.o];exact hlt
   have er:=X0.trans E;obtain⟨ad,rfl,p0,p1⟩:=(H.o.ext er).at g;have hm:=Dp g;have⟨x,hx⟩:=tz (L.getD i Ct.zero);rw[hx]at p0 p1 hm;have⟨nx,d⟩:=E9 x.l.length;rw[<-d]at p0;have U:nx<=1000000000:=by have:=(t.o x hm).len;omega
   have HT:=j6 (t.o x hm).txt;have HI:=j6 (t.o x hm).int;have HR:=j6 ((H.o.rows x hm).ext (er.alloc (.cells #[.slice x.A nx x.c,.int .i64 x.k] 154)));have GW:=j6 (G.ext (er.alloc (.cells #[.slice x.A nx x.c,.int .i64 x.k] 154)));have f:=j6 d;have HX:=j6 hx;have J:=j6 g;have HM:=j6 hm;clear g hm hx d;cases b
   ·have I:H0 (lF L (i+1) false):=j6 ⟨λq=>(nomatch q),λq=>absurd (HB.o.2 ((bW.step J.o HX.o).1 q).1) (by decide)⟩;clear HB;go_wp2
    go_roundw
    case rel=>exact⟨i+1,false,by omega,rfl,by go_num,I,E.alloc _⟩
    case measure=>simp[intOf];omega
   ·have⟨v,hv⟩:=tz (Bh x.l);have HV:=j6 hv;by_cases hv0:v=0
    ·subst hv0;have I:H0 (lF L (i+1) true):=j6 ⟨λ_=>(bW.step J.o HX.o).2 ⟨HB.o.1 rfl,HV.o⟩,λ_=>rfl⟩;clear hv HB;go_wp2_with (go_at_call 154;refine(Gf x.A x.c nx x.l _ HV f HR HT GW.o).mono ?_;rintro e w1 ⟨rfl,x1⟩)
     go_roundw
     case rel=>exact⟨i+1,true,by omega,rfl,by go_num,I,(E.alloc _).trans x1⟩
     case measure=>simp[intOf];omega
    ·have zv:(v==0)=false:=by simpa using hv0
     have c0:=j6 hv0;have I:H0 (lF L (i+1) false):=j6 ⟨λq=>(nomatch q),λq=>absurd (HV.o.symm.trans ((bW.step J.o HX.o).1 q).2) c0.o⟩;clear hv HB hv0;go_wp2_with (go_at_call 154;refine(Gf x.A x.c nx x.l _ HV f HR HT GW.o).mono ?_;rintro e w1 ⟨rfl,x1⟩)
     go_roundw
     case rel=>exact⟨i+1,false,by omega,rfl,by go_num,I,(E.alloc _).trans x1⟩
     case measure=>simp[intOf];omega
  ·have c4:b=false:=by
    cases b with
    | false=>rfl
    | true =>
     have⟨x,hx,q⟩:=b4.o;exact absurd (HB.o.1 rfl x (by rw[AW (by rw[<-HN.o];omega)];exact hx)) q
   subst c4;clear HB;go_wp2
   go_loopg [3,38] n (λz u v wr=>∃(i:Nat) (O:List Ct),z=n-i/\i<=n/\u=.slice (some ⟨w.heap.size,0,none⟩) O.length n/\v=.int .i64 i/\H0 (Oo w w.heap.size (w.heap.size+1) n L wr i O))
   case atStart=>exact⟨0,[],rfl,AG _,rfl,rfl,j6 (a1.o.mono E)⟩
   case round =>
    clear hi hlt E a1 X0;obtain⟨i,O,rfl,hi,rfl,rfl,HP⟩:=hrel;by_cases hlt:i<n
    ·have g:i<L.length:=by rw[<-HN.o];exact hlt
     have er:=HP.o.at_.ext;obtain⟨ad,rfl,p0,p1⟩:=(H.o.ext er).at g;have hm:=Dp g;have⟨x,hx⟩:=tz (L.getD i Ct.zero);rw[hx]at p0 p1 hm;have⟨nx,d⟩:=E9 x.l.length;rw[<-d]at p0;have U:nx<=1000000000:=by have:=(t.o x hm).len;omega
     have HT:=j6 (t.o x hm).txt;have HI:=j6 (t.o x hm).int;have HR:=j6 ((H.o.rows x hm).ext (er.alloc (.cells #[.slice x.A nx x.c,.int .i64 x.k] 154)));have GW:=j6 (G.ext (er.alloc (.cells #[.slice x.A nx x.c,.int .i64 x.k] 154)));have f:=j6 d;have HX:=j6 hx;have J:=j6 g;have HM:=j6 hm;have c5:w.heap.size+1<wr.heap.size:=HP.o.at_.gg.2.2;have⟨m,B⟩:=E9 O.length;have d8:m<=i:=by rw[B,HP.o.len];exact AD _
     rw[<-B];have D:=j6 B;clear g hm hx d B;have d4:=((Ext.refl wr).alloc (.cells #[.slice x.A nx x.c,.int .i64 x.k] 154)).cell p0;have d5:=((Ext.refl wr).alloc (.cells #[.slice x.A nx x.c,.int .i64 x.k] 154)).cell p1;have⟨wb,r⟩:=E9 (wr.alloc (.cells #[.slice x.A nx x.c,.int .i64 x.k] 154));have N:Bk wb wr.heap.size 154 #[.slice x.A nx x.c,.int .i64 x.k]:=by rw[r];exact Bk.new _ _ _
     have a5:H0 (Fu w w.heap.size (w.heap.size+1) n wb O):=j6 (by rw[r];exact HP.o.at_.mono ((Ext.refl wr).alloc _));have b7:H0 (Oo w w.heap.size (w.heap.size+1) n L wb i O):=j6 (by rw[r];exact HP.o.mono ((Ext.refl wr).alloc _))
     go_upto_region 19 with fail
     rw[<-r]at ⊢;clear r d4 d5;have X2:Ext wb wb.drew:=(Ext.refl wb).drew;have P:=j6 ((H.o.rows x HM.o).ext (a5.o.ext.trans X2));have B0:∀z:Xt wb.drew,z.W.cell? ⟨wr.heap.size,0,none⟩=some (.slice x.A nx x.c):=λz=>(X2.trans z.x).cell (N.cell 0);have B1:∀z:Xt wb.drew,z.W.cell? ⟨wr.heap.size,1,none⟩=some (.int .i64 x.k):=λz=>(X2.trans z.x).cell (N.cell 1);go_simp;refine wro [0,0,2,6,0,16,62,126,255,511] (.pur [0] (.flo [1,2,4,5] (.ext 3 (.flo [6] (.one 7 (.one 8 (.flo [9] (.fin)))))))) ?_
     (refine Bi (pks rfl) ?_;(repeat (go_big_quiet_step (fail)));refine oq ?_)
     (refine Aa (pks rfl) ?_;(repeat (go_big_quiet_step (fail)));refine oq ?_)
     refine Ar (pks rfl) ?_;intro K_ F;go_wp2_with (go_at_call 183;refine(Qq x.A x.c nx x.l _ f P U).mono ?_;rintro e w3 ⟨⟨A3,c3,rfl,o3,b3⟩,x3⟩)
     refine An.mk x3 ?_;have O3:=j6 o3;have b6:=j6 b3;have X3:=j6 (X2.trans x3);clear o3 b3
     (refine Aa (pks rfl) ?_;(repeat (go_big_quiet_step (fail)));refine oq ?_)
     refine Ac (pks rfl) ?_;intro K_ F;go_wp2;refine Ac (pks rfl) ?_;intro K_ F;have b8:=j6 (a5.o.mono X3.o);go_wp2_with (at_builtin;refine Jm _ Bo w.heap.size _ _ rfl rfl w.heap.size m n (Az O) rfl (by rw[D.o];exact(b8.o.arr.ext ((Ext.refl _).alloc _)).1) h0 ⟨w3.heap.size,0,none⟩ 1 1 [.slice A3 nx c3,.int .i64 x.k] rfl (No _ _ _ _) (by decide) (by intro u hu;simp at hu;rcases hu with rfl|rfl<;>rfl) (by omega) ?_;intro w4 o4 g4)
     have O4:=j6 o4;have G4:=j6 ((Aq ((Ext.refl w3).alloc (.cells #[.slice A3 nx c3,.int .i64 x.k] 154)) w.heap.size).trans g4);clear o4 g4;go_simp
     (refine Aa (pks rfl) ?_;(repeat (go_big_quiet_step (fail)));refine oq ?_)
     refine Ad ?_;go_wp2
     go_roundg (n-(i+1))
     case measure=>omega
     case rel=>exact⟨i+1,O++[⟨A3,c3,x.l,x.k⟩],rfl,by omega,by rw[D.o];simp,by go_num,j6 (b7.o.new J.o HX.o D.o f.o X3.o (by have:=O3.o;exact this) (λad e=>by have:=b6.o ad e;have:=X2.size;omega) O4.o G4.o)⟩
    ·have Q:i=n:=by omega
     have HE:H0 (Qe w w.heap.size (w.heap.size+1) n L O wr):=j6 (by have:=HP.o;rw[Q]at this;exact this.o HN.o (λx hx=>(t.o x hx).num));have c8:O.length<=n:=mV HE.o.at_.arr;have⟨m,B⟩:=E9 O.length;rw[<-B]at c8 ⊢;have D:=j6 B;have b5:H0 (∀x∈L,InN (Al x)):=j6 λx hx=>(t.o x hx).num;have d6:w.heap.size+1<wr.heap.size:=HE.o.at_.gg.2.2;clear B Q HP;go_wp2_with (go_at_call 187;refine(sortStable_any w.heap.size w.heap.size n m O _ D.o (by omega) HE.o.at_.arr HE.o.at_.off).mono ?_;rintro e w1 ⟨rfl,S,st,ar,up⟩;have Z:=j6 (Dc.start HE.o st ar up);have b9:=j6 st;have a6:H0 (m=S.length):=j6 (by rw[stable_len st];exact D.o);clear st ar up)
     go_loopg [13,82] m (λz u v wr=>∃(i q:Nat) (T M X R:List Ct),z=m-i/\i<=m/\q<=i/\u=.int .i64 q/\v=.int .i64 i/\H0 (q=M.length)/\H0 (Dc w w.heap.size (w.heap.size+1) n S wr i T M X R))
     case atStart=>exact⟨0,0,[],[],[],S,rfl,AG _,AD _,rfl,rfl,j6 rfl,Z⟩
     case round =>
      clear Z;obtain⟨i,q,T,M,X,R,rfl,hi,d9,rfl,rfl,HQ,HG⟩:=hrel;have c5:w.heap.size+1<wr.heap.size:=HG.o.gg.2.2;by_cases hlt:i<m
      ·obtain⟨x,R,rfl⟩:∃x R',R=x::R':=by
        cases R with
        | nil =>
         have h1:=HG.o.spl;have h2:=HG.o.tl;have h3:=a6.o;rw[h1,AV,h2]at h3;omega
        | cons x R=>exact⟨x,R,rfl⟩
       have hA:=HG.o.arr;have a9:i<(M++(X++x::R)).length:=by have:=HG.o.len;simp only[AA,AJ]at this ⊢;omega
       have⟨p0,p1⟩:=hA.at a9;have e:(M++(X++x::R)).getD i Ct.zero=x:=by
        rw[<-AK,show i=(M++X).length by rw[AA];exact HG.o.len];exact getD_mid _ x R
       rw[e]at p0 p1;have⟨nx,d⟩:=E9 x.l.length;rw[<-d]at p0;have f:=j6 d;have e2:q<m:=by omega
       have XB:Ext wr (wr.alloc (.cells #[.slice x.A nx x.c,.int .i64 x.k] 154)):=(Ext.refl wr).alloc _;have a:=j6 (HG.o.mono XB);have BX:=Bk.new wr 154 #[.slice x.A nx x.c,.int .i64 x.k];have f0:=a.o.arr.free (q*2);have f1:=a.o.arr.free (q*2+1);have d2:q<n:=by omega
       have⟨u0,d0⟩:=CQ.1 (a.o.arr.cells_past (j:=q*2) (by omega));have⟨u1,d1⟩:=CQ.1 (a.o.arr.cells_past (j:=q*2+1) (by omega));clear hA a9 e d;rcases snoc_cases M with rfl|⟨M,y,rfl⟩
       ·have c9:q=0:=HQ.o;subst c9;have HK:H0 (mergeStep (([]:List Ct).map Al) (Al x)=([]:List Ct).map Al++[Al x]):=j6 rfl
        go_upto_region 26 with fail
        have X2:Ext (wr.alloc (.cells #[.slice x.A nx x.c,.int .i64 x.k] 154)) (wr.alloc (.cells #[.slice x.A nx x.c,.int .i64 x.k] 154)).drew:=(Ext.refl _).drew;refine wro [0,1,3,7,7,23,63,127,255,7,519,2047,4095,8191] (.flo [0,1,2,3,4,5,6,7,8,9,10] (.one 11 (.flo [12,13] (.fin)))) ?_
        (refine Aa (pks rfl) ?_;(repeat (go_big_quiet_step (fail)));refine oq ?_)
        refine Ac (pks rfl) ?_;intro K_ F;go_wp2
        (refine Aa (pks rfl) ?_;(repeat (go_big_quiet_step (fail)));refine oq ?_)
        refine Ad ?_;have N:=BX.drew;go_wp2
        go_roundg (m-(i+1))
        case measure=>omega
        case rel=>exact⟨i+1,1,T++[x],[x],(X++[x]).tail,R,rfl,by omega,by omega,rfl,by go_num,j6 rfl,j6 ((a.o.mono X2).keep HK.o rfl f.o)⟩
       ·have⟨p,hp⟩:=E9 M.length;have d3:q=p+1:=by have:=HQ.o;rw[AA,AO]at this;omega
        subst d3;have hy:=a.o.arr.at (i:=p) (by rw[hp];simp);have ey:(M++[y]++(X++x::R)).getD p Ct.zero=y:=by rw[hp,AK];exact getD_mid M y _
        rw[ey]at hy;obtain⟨y0,y1⟩:=hy;have⟨ny,Y⟩:=E9 y.l.length;rw[<-Y]at y0;have a0:=j6 Y;have a2:=j6 hp;have f3:=a.o.arr.free (p*2+1);have⟨v,hv⟩:=tz (Ba y.l x.l);have HV:=j6 hv;have za:decide ((0:Int)<(p:Int)+1)=true:=decide_eq_true (by omega);have⟨wb,r⟩:=E9 (wr.alloc (.cells #[.slice x.A nx x.c,.int .i64 x.k] 154));have d7:w.heap.size+1<wb.heap.size:=by rw[r];exact a.o.gg.2.2
        go_upto_region 26 with fail
        rw[<-r]at XB a BX f0 f1 d0 d1 y0 y1 f3 ⊢;clear ey Y hp hv r;have X2:Ext wb wb.drew:=(Ext.refl wb).drew;have a4:=j6 ((a.o.rows y (by simp)).1.rw.ext X2);have a3:=j6 ((a.o.rows x (by simp)).1.rw.ext X2);have Y0:∀z:Xt wb.drew,z.W.cell? ⟨w.heap.size,p*2,none⟩=some (.slice y.A ny y.c):=λz=>(X2.trans z.x).cell y0;have B0:∀z:Xt wb.drew,z.W.cell? ⟨wr.heap.size,0,none⟩=some (.slice x.A nx x.c):=λz=>(X2.trans z.x).cell (BX.cell 0);by_cases hv0:v=0
        ·subst hv0;refine wro [0,1,3,7,7,23,63,127,255,7,519,2047,4095,8191] (.flo [0,1,2,3,4,5,6,7,8,9,10] (.one 11 (.flo [12,13] (.fin)))) ?_
         (refine Aa (pks rfl) ?_;(repeat (go_big_quiet_step (fail)));refine oq ?_)
         refine Ac (pks rfl) ?_;intro K_ F;go_wp2_with (go_at_call 164;refine(Gz y.A x.A y.c x.c ny nx y.l x.l _ a0.o f.o a4.o a3.o).mono ?_;rintro e w1 ⟨rfl,x1⟩;rw[HV.o])
         (refine Aa (pks rfl) ?_;(repeat (go_big_quiet_step (fail)));refine oq ?_)
         refine Ad ?_;have X3:=X2.trans x1;have C:=j6 (a.o.mono X3);have yk:=X3.cell y1;have bk:=X3.cell (BX.cell 1);have f4:=C.o.arr.free (p*2+1);have⟨s,hs⟩:=tz (w64 (y.k+x.k));have e3:IntKind.i64.wrap (y.k+x.k)=s:=hs;have HS:=j6 hs;have X4:Ext w1 w1.drew:=(Ext.refl w1).drew;have Y1:∀z:Xt w1.drew,z.W.cell? ⟨w.heap.size,p*2+1,none⟩=some (.int .i64 y.k):=λz=>(X4.trans z.x).cell yk;have B1:∀z:Xt w1.drew,z.W.cell? ⟨wr.heap.size,1,none⟩=some (.int .i64 x.k):=λz=>(X4.trans z.x).cell bk;clear hs
         go_upto_region 27 with fail
         refine wro [0,0,2,7,15,31,0,64,255,511,1023,2047] (.flo [0,1,2,3,4,5,6,7,8,9,10] (.one 11 (.fin))) ?_
         (refine Aa (pks rfl) ?_;(repeat (go_big_quiet_step (fail)));refine oq ?_)
         refine Ac (pks rfl) ?_;intro K_ F;go_wp2;refine Ad ?_;go_wp2
         go_roundg (m-(i+1))
         case measure=>omega
         case rel=>exact⟨i+1,p+1,T++[x],M++[(⟨y.A,y.c,y.l,s⟩:Ct)],X++[x],R,rfl,by omega,by omega,by go_num,by go_num,j6 (by rw[AA,AO,<-a2.o]),j6 ((C.o.mono X4).join HV.o a2.o HS.o)⟩
        ·have zv:(v==0)=false:=by simpa using hv0
         have HK:H0 (mergeStep ((M++[y]).map Al) (Al x)=(M++[y]).map Al++[Al x]):=j6 (by
          rw[AI,CA,mergeStep_snoc,if_neg (show ¬cmpV (Al y) (Al x)=0 from λq=>hv0 (HV.o.symm.trans q))])
         clear hv0;refine wro [0,1,3,7,7,23,63,127,255,7,519,2047,4095,8191] (.flo [0,1,2,3,4,5,6,7,8,9,10] (.one 11 (.flo [12,13] (.fin)))) ?_
         (refine Aa (pks rfl) ?_;(repeat (go_big_quiet_step (fail)));refine oq ?_)
         refine Ac (pks rfl) ?_;intro K_ F;go_wp2_with (go_at_call 164;refine(Gz y.A x.A y.c x.c ny nx y.l x.l _ a0.o f.o a4.o a3.o).mono ?_;rintro e w1 ⟨rfl,x1⟩;rw[HV.o])
         (refine Aa (pks rfl) ?_;(repeat (go_big_quiet_step (fail)));refine oq ?_)
         refine Ad ?_;have X3:=X2.trans x1;have C:=j6 (a.o.mono X3);have b0:=X3.cell (BX.cell 0);have b1:=X3.cell (BX.cell 1);have g0:=C.o.arr.free ((p+1)*2);have g1:=C.o.arr.free ((p+1)*2+1);have e0:=X3.cell d0;have e1:=X3.cell d1;go_wp2
         go_roundg (m-(i+1))
         case measure=>omega
         case rel=>exact⟨i+1,p+1+1,T++[x],M++[y]++[x],(X++[x]).tail,R,rfl,by omega,by omega,by go_num,by go_num,j6 (by rw[AA,AO,<-HQ.o]),j6 (C.o.keep HK.o HQ.o f.o)⟩
      ·have hR:R=[]:=AH (by
        have h1:=HG.o.spl;have h2:=HG.o.tl;have h3:=a6.o;rw[h1,AA,h2]at h3;omega)
       subst hR;have d2:q<=n:=by omega
       go_wp2_with (go_at_call 189;refine(deleteFunc_any w.heap.size w.heap.size n q M _ HQ.o HG.o.arr.prefix_).mono ?_;rintro e w2 ⟨mf,rfl,a8,a7,b2⟩;have P:=j6 (λc' hc=>lO (c':=c') HE.o b5.o b9.o HG.o a7 b2 a8 hc);clear a8 a7 b2)
       go_ret;exact P.o n rfl
def iV(A:Option Addr)(c:Nat)(w:World):C3 225 #[.slice A 0 c,.int .i64 0,.func (.func 188) #[] #[]] w λe w'=>e=.returned (.tuple #[])/\w=w':=by
 go_enter func225,ntmps225;go_wp2
 go_loop [7,8] (λu v=>u=.int .i64 0/\v=.int .i64 20) (λ_ _=>0)
 case atStart=>exact⟨rfl,rfl⟩
 case round =>
  obtain⟨rfl,rfl⟩:=hrel;go_wp2_with (go_at_call 256;refine(insSort_none _ 0 c 0 0 _ (AD _) (by decide)).mono ?_;rintro e w1 ⟨rfl,rfl⟩)
  go_loop [6,7,8] (λu v z=>u=.int .i64 20) (λ_ _ _=>0)
  case atStart=>rfl
  case round =>
   subst hrel;go_wp2
   go_end0
   exact⟨rfl,rfl⟩
def Vr(A:Option Addr)(c:Nat)(w:World):C3 187 #[.slice A 0 c,.func (.func 188) #[] #[]] w λe w'=>e=.returned (.tuple #[])/\w=w':=by
 go_enter func187,ntmps187;go_wp2_with (go_at_call 225;refine(iV A c _).mono ?_;rintro e w1 ⟨rfl,rfl⟩)
 go_end0
 exact⟨rfl,rfl⟩
def qG(A:Option Addr)(c:Nat)(w:World):C3 226 #[.slice A 0 c,.func (.func 190) #[] #[]] w λe w'=>e=.returned (.int .i64 (-1))/\w=w':=by
 go_enter func226,ntmps226;go_wp2;refine wp_loop_rounds 1 ?_;rw[rounds_succ];go_wp2;go_ret;exact⟨rfl,rfl⟩
def kQ(A:Option Addr)(c:Nat)(w:World):C3 189 #[.slice A 0 c,.func (.func 190) #[] #[]] w λe w'=>e=.returned (.slice A 0 c)/\w=w':=by
 go_enter func189,ntmps189;go_wp2_with (go_at_call 226;refine(qG A c _).mono ?_;rintro e w1 ⟨rfl,rfl⟩)
 go_ret;exact⟨rfl,rfl⟩
def tX(A:Option Addr)(c:Nat)(w:World):C3 109 #[.slice A 0 c] w (Ls w []):=by
 have d:∀W:World,(Instr.makeSlice 31 (.int .i64 0) (.int .i64 0)).run prog W=.ok (.slice (some ⟨W.heap.size,0,none⟩) 0 0) (W.alloc (Ij 0)):=Tq 0 (by omega);have f:=Tp (0:Int);go_enter func109,ntmps109
 go_upto_region 4 with fail
 have⟨w0,a⟩:=E9 ((w.alloc (Ij 0)).alloc (.map #[] 0));have X0:Ext w w0:=a▸((Ext.refl w).alloc _).alloc _;rw[<-a];clear a d f;go_wp2;refine wp_loop_rounds 1 ?_;rw[rounds_succ];go_wp2;refine wp_loop_rounds 1 ?_;rw[rounds_succ];go_wp2_with (go_at_call 187;refine(Vr _ _ _).mono ?_;rintro e w1 ⟨rfl,rfl⟩)
 refine wp_loop_rounds 1 ?_;rw[rounds_succ];go_wp2_with (go_at_call 189;refine(kQ _ _ _).mono ?_;rintro e w1 ⟨rfl,rfl⟩)
 go_ret;exact⟨_,0,_,[],rfl,rfl,Own.empty _ _ _ _ _,λx h=>(nomatch h),List.Pairwise.nil,rfl,X0⟩
def yJ(A:Option Addr)(c n:Nat)(L:List Ct)(w:World)(hn:n=L.length)(h20:n<=100000000)(h:Ev w A c L)(hin:∀x∈L,InC x)(G:Good w):C3 109 #[.slice A n c] w (Ls w L):=by
 rcases CS n with h0|h0
 ·subst h0;have:L=[]:=AH hn.symm;subst this;exact tX A c w
 ·by_cases hb:∀x∈L,Bh x.l=0
  ·exact nP A c n L w h0 hn h20 h hin hb G
  ·refine nQ A c n L w h0 hn h20 h hin ?_ G;have⟨x,hx⟩:=Classical.not_forall.1 hb;have⟨h1,h2⟩:=Classical.not_imp.1 hx;exact⟨x,h1,h2⟩
def a3q(w:World)(o1 o2 o3:Obj):(((w.alloc o1).alloc o2).alloc o3).drew=Go.Sort.grow (w.drewN 1) #[o1,o2,o3]:=by
 rw[GP,GP,GP,Go.Sort.grow_grow,Go.Sort.grow_grow];rfl
def a3l(g:Nat)(t:TypeId)(x y z:Int)(w:World)(hb:Bk w g t #[.int .i64 x,.int .i64 y,.int .i64 z]) :
  C3 182 #[.slice (some ⟨g,0,none⟩) 3 3] w λe w'=>e=.returned (.int .i64 (orT x y z))/\w=w':=by
 have hx:w.cell? ⟨g,0,none⟩=some (.int .i64 x):=hb.cell 0;have hy:w.cell? ⟨g,1,none⟩=some (.int .i64 y):=hb.cell 1;have hz:w.cell? ⟨g,2,none⟩=some (.int .i64 z):=hb.cell 2;have⟨r,hr⟩:=E9 (orT x y z);rw[<-hr];replace hr:=j6 hr;go_enter func182,ntmps182;go_wp2
 go_loop [8] (λv=>∃k:Nat,k<=3/\v=.int .i64 k/\(0<k->x=0)/\(1<k->y=0)/\(2<k->z=0)) (λv=>3-(intOf v).toNat)
 case atStart=>exact⟨0,by omega,rfl,by omega,by omega,by omega⟩
 case round =>
  obtain⟨k,hk,rfl,k0,k1,k2⟩:=hrel;have K0:=j6 k0;have K1:=j6 k1;have K2:=j6 k2;clear k0 k1 k2
  match k,hk with
  | 0,_ =>
   by_cases q:x=0
   ·have q':(x != 0)=false:=by simpa using q
    have Q:=j6 q;clear q;go_wp2
    go_round
    case rel=>exact⟨1,by omega,rfl,λ_=>Q.o,by omega,by omega⟩
    case measure=>simp[intOf]
   ·have q':(x != 0)=true:=by simpa using q
    go_wp2;go_ret;exact⟨Bw (by rw[hr.o];simp[orT,q]),rfl⟩
  | 1,_ =>
   by_cases q:y=0
   ·have q':(y != 0)=false:=by simpa using q
    have Q:=j6 q;clear q;go_wp2
    go_round
    case rel=>exact⟨2,by omega,rfl,λ_=>K0.o (by omega),λ_=>Q.o,by omega⟩
    case measure=>simp[intOf]
   ·have q':(y != 0)=true:=by simpa using q
    go_wp2;go_ret;exact⟨Bw (by rw[hr.o];simp[orT,q,K0.o (by omega)]),rfl⟩
  | 2,_ =>
   by_cases q:z=0
   ·have q':(z != 0)=false:=by simpa using q
    have Q:=j6 q;clear q;go_wp2
    go_round
    case rel=>exact⟨3,by omega,rfl,λ_=>K0.o (by omega),λ_=>K1.o (by omega),λ_=>Q.o⟩
    case measure=>simp[intOf]
   ·have q':(z != 0)=true:=by simpa using q
    go_wp2;go_ret;exact⟨Bw (by rw[hr.o];simp[orT,K1.o (by omega),K0.o (by omega)]),rfl⟩
  | 3,_ =>
   go_wp2;go_ret;exact⟨Bw (by rw[hr.o];simp[orT,K1.o (by omega),K0.o (by omega),K2.o (by omega)]),rfl⟩
  | k+4,hk=>omega
def xI(e1 e2:Int)(A1 A2:Option Addr)(n1 n2 c1 c2:Nat)(l1 l2:List Int)(w:World)(h1:Sl w 1 A1 n1 c1 (wds l1))(h2:Sl w 1 A2 n2 c2 (wds l2)) :
  C3 146 #[.agg #[.int .u64 e1,.slice A1 n1 c1],.agg #[.int .u64 e2,.slice A2 n2 c2]] w λe w'=>e=.returned (.int .i64 (Gl e1 l1 e2 l2))/\∃q os,w'=Go.Sort.grow (w.drewN q) os:=by
 have hR:Gl e1 l1 e2 l2=orT (By n1 n2) (By e1 e2) (Dx l1 l2):=by unfold Gl;rw[h1.wlen,h2.wlen]
 rw[hR];clear hR;go_enter func146,ntmps146
 go_upto_region 1 with fail
 have⟨w0,a⟩:=E9 ((w.alloc (Obj.cells #[Value.int IntKind.u64 e1,Value.slice A1 n1 c1] 26)).alloc (Obj.cells #[Value.int IntKind.u64 e2,Value.slice A2 n2 c2] 26));have x0:Ext w w0:=a▸((Ext.refl w).alloc _).alloc _;have a0:Bk w0 w.heap.size 26 #[Value.int IntKind.u64 e1,Value.slice A1 n1 c1]:=by subst a;exact(Bk.new _ _ _).alloc _
 have b0:Bk w0 (w.heap.size+1) 26 #[Value.int IntKind.u64 e2,Value.slice A2 n2 c2]:=by subst a;exact Bk.at (by simp)
 rw[<-a];replace a:=j6 a;have X:Ext w0 w0.drew:=(Ext.refl w0).drew;have q1:∀y:Xt w0.drew,y.W.cell? ⟨w.heap.size,0,none⟩=some (.int .u64 e1):=λy=>(a0.ext (X.trans y.x)).cell 0;have q2:∀y:Xt w0.drew,y.W.cell? ⟨w.heap.size,1,none⟩=some (.slice A1 n1 c1):=λy=>(a0.ext (X.trans y.x)).cell 1;have q3:∀y:Xt w0.drew,y.W.cell? ⟨w.heap.size+1,0,none⟩=some (.int .u64 e2):=λy=>(b0.ext (X.trans y.x)).cell 0;have q4:∀y:Xt w0.drew,y.W.cell? ⟨w.heap.size+1,1,none⟩=some (.slice A2 n2 c2):=λy=>(b0.ext (X.trans y.x)).cell 1;refine wro [0,1,3,0,8,24,63,0,128,0,512,2047,0,4096,0,16384,65535,131071,262143,524287] (.flo [0,1,2,3,4,5,7,8,9,10,12,13,14,15] (.ext 6 (.ext 11 (.one 16 (.one 17 (.one 18 (.flo [19] (.fin)))))))) ?_
 (refine Aa (pks rfl) ?_;(repeat (go_big_quiet_step (fail)));refine oq ?_)
 refine Ar (pks rfl) ?_;intro K_ c;go_wp2_with (refine(Rq _ _ _).mono ?_;rintro e w1 ⟨rfl,rfl⟩)
 refine An.mk (Ext.refl _) ?_;refine Ar (pks rfl) ?_;intro K_ c;go_wp2_with (refine(Ro _ _ _).mono ?_;rintro e w1 ⟨rfl,rfl⟩)
 refine An.mk (Ext.refl _) ?_;refine Ac (pks rfl) ?_;intro K_ c;go_wp2_with (refine(mE _ _ _ _ _ _ _ _ _ (h1.ext (x0.trans X)) (h2.ext (x0.trans X))).mono ?_;rintro e w1 ⟨rfl,rfl⟩)
 refine Ac (pks rfl) ?_;intro K_ c;go_wp2;refine Ac (pks rfl) ?_;intro K_ c;go_wp2_with (refine(a3l _ _ _ _ _ _ (by exact(Bk.at (by simp)).drew)).mono ?_;rintro e w1 ⟨rfl,rfl⟩)
 (refine Aa (pks rfl) ?_;(repeat (go_big_quiet_step (fail)));refine oq ?_)
 refine Ad ?_;go_wp2;go_ret;rw[a.o];exact⟨rfl,1,_,a3q w _ _ _⟩
def zB(g:Nat)(t:TypeId)(x y:Int)(w:World)(hb:Bk w g t #[.int .i64 x,.int .i64 y]) :
  C3 182 #[.slice (some ⟨g,0,none⟩) 2 2] w λe w'=>e=.returned (.int .i64 (if x=0 then y else x))/\w=w':=by
 have hx:w.cell? ⟨g,0,none⟩=some (.int .i64 x):=hb.cell 0;have hy:w.cell? ⟨g,1,none⟩=some (.int .i64 y):=hb.cell 1;have⟨r,hr⟩:=E9 ((if x=0 then y else x));rw[<-hr];replace hr:=j6 hr;go_enter func182,ntmps182;go_wp2
 go_loop [8] (λv=>∃k:Nat,k<=2/\v=.int .i64 k/\(0<k->x=0)/\(1<k->y=0)) (λv=>2-(intOf v).toNat)
 case atStart=>exact⟨0,by omega,rfl,by omega,by omega⟩
 case round =>
  obtain⟨k,hk,rfl,k0,k1⟩:=hrel;have K0:=j6 k0;have K1:=j6 k1;clear k0 k1
  match k,hk with
  | 0,_ =>
   by_cases q:x=0
   ·have q':(x != 0)=false:=by simpa using q
    have Q:=j6 q;clear q;go_wp2
    go_round
    case rel=>exact⟨1,by omega,rfl,λ_=>Q.o,by omega⟩
    case measure=>simp[intOf]
   ·have q':(x != 0)=true:=by simpa using q
    go_wp2;go_ret;exact⟨Bw (by rw[hr.o];simp[q]),rfl⟩
  | 1,_ =>
   by_cases q:y=0
   ·have q':(y != 0)=false:=by simpa using q
    have Q:=j6 q;clear q;go_wp2
    go_round
    case rel=>exact⟨2,by omega,rfl,λ_=>K0.o (by omega),λ_=>Q.o⟩
    case measure=>simp[intOf]
   ·have q':(y != 0)=true:=by simpa using q
    go_wp2;go_ret;exact⟨Bw (by rw[hr.o];simp[K0.o (by omega)]),rfl⟩
  | 2,_ =>
   go_wp2;go_ret;exact⟨Bw (by rw[hr.o];simp[K0.o (by omega),K1.o (by omega)]),rfl⟩
  | k+3,hk=>omega
def Cv(x y:Ud)(nx ny tx ty:Nat)(v:Int)(w:World)(hv:H0 (UdS.cmpC x y=v))(hnx:H0 (nx=x.l.length))(hny:H0 (ny=y.l.length))(htx:H0 (tx=x.t.l.length))(hty:H0 (ty=y.t.l.length))(hx:H0 (UdR w x))(hy:H0 (UdR w y)) :
  C3 103 #[.agg #[.slice x.A nx x.c,.int .u64 x.t.e,.slice x.t.A tx x.t.c,.int .i64 x.d],.agg #[.slice y.A ny y.c,.int .u64 y.t.e,.slice y.t.A ty y.t.c,.int .i64 y.d]] w λe w'=>e=.returned (.int .i64 v)/\Ext w w':=by
 have⟨r,hr⟩:=tz (Ba x.l y.l);have⟨t,ht⟩:=tz (Gl x.t.e x.t.l y.t.e y.t.l);have g:(if r=0 then t else r)=v:=by rw[<-hv.o,<-hr,<-ht];rfl
 have HV:=j6 g;have HR:=j6 hr;have HT:=j6 ht;have X1:H0 (Sl w 1 x.t.A tx x.t.c (wds x.t.l)):=j6 (by rw[htx.o];exact hx.o.t);have Y1:H0 (Sl w 1 y.t.A ty y.t.c (wds y.t.l)):=j6 (by rw[hty.o];exact hy.o.t);clear g hr ht;go_enter func103,ntmps103
 go_upto_region 1 with fail
 have⟨w0,a⟩:=E9 ((w.alloc (Obj.cells #[.slice x.A nx x.c,.int .u64 x.t.e,.slice x.t.A tx x.t.c,.int .i64 x.d] 95)).alloc (Obj.cells #[.slice y.A ny y.c,.int .u64 y.t.e,.slice y.t.A ty y.t.c,.int .i64 y.d] 95));have x0:Ext w w0:=a▸((Ext.refl w).alloc _).alloc _;have a0:Bk w0 w.heap.size 95 #[.slice x.A nx x.c,.int .u64 x.t.e,.slice x.t.A tx x.t.c,.int .i64 x.d]:=by subst a;exact(Bk.new _ _ _).alloc _
 have b0:Bk w0 (w.heap.size+1) 95 #[.slice y.A ny y.c,.int .u64 y.t.e,.slice y.t.A ty y.t.c,.int .i64 y.d]:=by subst a;exact Bk.at (by simp)
 rw[<-a];replace a:=j6 a;have X:Ext w0 w0.drew:=(Ext.refl w0).drew;have q1:∀y:Xt w0.drew,y.W.cell? ⟨w.heap.size,0,none⟩=some (.slice x.A nx x.c):=λy=>(a0.ext (X.trans y.x)).cell 0;have q2:∀y:Xt w0.drew,y.W.cell? ⟨w.heap.size,1,none⟩=some (.int .u64 x.t.e):=λy=>(a0.ext (X.trans y.x)).cell 1;have q3:∀y:Xt w0.drew,y.W.cell? ⟨w.heap.size,2,none⟩=some (.slice x.t.A tx x.t.c):=λy=>(a0.ext (X.trans y.x)).cell 2;have q4:∀z:Xt w0.drew,z.W.cell? ⟨w.heap.size+1,0,none⟩=some (.slice y.A ny y.c):=λz=>(b0.ext (X.trans z.x)).cell 0;have q5:∀z:Xt w0.drew,z.W.cell? ⟨w.heap.size+1,1,none⟩=some (.int .u64 y.t.e):=λz=>(b0.ext (X.trans z.x)).cell 1;have q6:∀z:Xt w0.drew,z.W.cell? ⟨w.heap.size+1,2,none⟩=some (.slice y.t.A ty y.t.c):=λz=>(b0.ext (X.trans z.x)).cell 2;refine wro [0,1,0,4,15,0,32,0,128,511,1023,2047,4095] (.flo [0,1,2,3,5,6,7,8] (.ext 4 (.one 9 (.one 10 (.one 11 (.flo [12] (.fin))))))) ?_
 (refine Aa (pks rfl) ?_;(repeat (go_big_quiet_step (fail)));refine oq ?_)
 refine Ar (pks rfl) ?_;intro K_ f;go_wp2_with (go_at_call 164;refine(Gz x.A y.A x.c y.c nx ny x.l y.l _ hnx.o hny.o (hx.o.r.ext (x0.trans X)) (hy.o.r.ext (x0.trans X))).mono ?_;rintro e w1 ⟨rfl,x1⟩;rw[HR.o])
 refine An.mk x1 ?_;refine Ac (pks rfl) ?_;intro K_ f;go_wp2_with (go_at_call 146;refine(a0h x.t.e y.t.e x.t.A y.t.A tx ty x.t.c y.t.c x.t.l y.t.l _ (X1.o.ext ((x0.trans X).trans x1)) (Y1.o.ext ((x0.trans X).trans x1))).mono ?_;rintro e w2 ⟨rfl,x2⟩;rw[HT.o])
 refine Ac (pks rfl) ?_;intro K_ f;go_wp2;refine Ac (pks rfl) ?_;intro K_ f;go_wp2_with (go_at_call 182;refine(zB _ _ _ _ _ (Bk.at (by simp))).mono ?_;rintro e w3 ⟨rfl,rfl⟩;rw[HV.o])
 (refine Aa (pks rfl) ?_;(repeat (go_big_quiet_step (fail)));refine oq ?_)
 refine Ad ?_;go_wp2;go_ret;exact⟨rfl,(((x0.trans X).trans x1).trans x2).alloc _⟩
end Go.Proofs.YtdgbkpoickbidaaGreatDoor
