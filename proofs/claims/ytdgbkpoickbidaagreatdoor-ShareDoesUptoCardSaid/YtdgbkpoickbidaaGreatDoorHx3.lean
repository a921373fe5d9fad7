/- Parts of the proof. Conditions: as stated. -/
import Derived.Test.YtdgbkpoickbidaaGreatDoorHx2
import Derived.Lib.Builder
import Derived.Lib.AppendStr
import Derived.OwnWalk
import Derived.Laws.BytesString
import Derived.Laws.Cells
import Derived.Laws.Concat
set_option maxRecDepth 100000
set_option maxHeartbeats 8000000
open Go.RowKit Go.Proofs.Tryz
set_option linter.defProp false
namespace Go.Proofs.YtdgbkpoickbidaaGreatDoor
variable{x y z:Int}{g i:Nat}{A:Option Addr}{t:TypeId}{w:World}
def Mm:prog.underlying 226=some (.slice 5):=by kernel_rfl
def La:prog.underlying 9=some .string:=by kernel_rfl
def bT(l m:List UInt8):Lib.byteCells (l++m)=Lib.byteCells l++Lib.byteCells m:=by simp[Lib.byteCells]
def Xx:∀(ns:List Int) (r:ByteArray),ns.foldl (λr n=>r.push (UInt8.ofNat n.toNat)) r=⟨(r.data.toList++ns.map λn=>UInt8.ofNat n.toNat).toArray⟩
 | [],r=>by simp
 | n::ns,r=>by
  rw[List.foldl_cons,Xx ns];simp
def a0f{cs:Array Value}(hb:Bk w g t cs)(off n cap:Nat)(ns:List Int)(h:(cs.toList.drop off).take n=ns.map (Value.int .u8))(hn:ns.length=n) :
  Sem.run prog (convert 226 9 (.slice (some ⟨g,off,none⟩) n cap)) w=.ok (.string ⟨(ns.map λn=>UInt8.ofNat n.toNat).toArray⟩) w:=by
 rw[run_convert_bytes_string _ _ _ _ _ _ _ Mm Tryz.underlying5 La];have hl:(ns.map (Value.int .u8)).length=n:=by simpa using hn
 have hr:=run_loadCells_list (P:=prog) (w:=w) ⟨g,off,none⟩ (ns.map (Value.int .u8)) (λj v hj=>by
  rw[show(⟨g,off,none⟩:Addr).add j=⟨g,off+j,none⟩by unfold Addr.add;split<;>simp_all,hb.cell,<-FS];rw[<-h,EJ]at hj;split at hj
  ·rw[GU]at hj;exact hj
  ·cases hj)
 rw[hl]at hr;rw[run_bytesToString _ _ _ _ ns hr,Xx];rfl
def Vl:∀l:List UInt8,l.map ((λn:Int=>UInt8.ofNat n.toNat) ∘ λb:UInt8=>(b.toNat:Int))=l
 | []=>rfl
 | b::l=>by rw[CJ,Vl l];simp
def qN:Gr prog 226 5 1 1 (.int .u8 0):=⟨by kernel_rfl,by kernel_rfl,rfl,by decide⟩
def Ho(w:World)(B:Nat)(A:Option Addr)(n c:Nat)(xs:List UInt8):Prop:=Own w B 5 1 A n c (Lib.byteCells xs)/\B<=w.heap.size
section
variable{w w':World}{B n c:Nat}{A:Option Addr}{xs:List UInt8}
def Ho.nil(w:World){B:Nat}(h:B<=w.heap.size):Ho w B none 0 0 []:=⟨Own.nil w B _ 1,h⟩
def Ho.len(h:Ho w B A n c xs):n=xs.length:=by
 have:=h.1.1;rw[Lib.byteCells_length]at this;omega
def Ho.ext(h:Ho w B A n c xs)(x:Ext w w'):Ho w' B A n c xs:=⟨h.1.ext x,AR h.2 x.size⟩
def Ho.alloc(h:Ho w B A n c xs)(o:Obj):Ho (w.alloc o) B A n c xs:=h.ext ((Ext.refl w).alloc o)
def Ho.ne(h:Ho w B A n c xs){g:Nat}(hg:w.heap.size<=g):blk A c≠some g:=λe=>by have:=(h.1.lt g e).2;omega
def Wv(ys:List UInt8):∀u∈Lib.byteCells ys,u.oneCell'=true:=by
 intro u hu;obtain⟨y,_,rfl⟩:=AP.1 hu;rfl
def a1z(w:World){t:TypeId}{cs:Array Value}{ys:List UInt8}{m:Nat}(hc:cs.toList=Lib.byteCells ys)(hm:ys.length=m)(hb:m<=140737488355328):Sl (w.alloc (.cells cs t)) 1 (some ⟨w.heap.size,0,none⟩) m m (Lib.byteCells ys):=
 ⟨by rw[Lib.byteCells_length];omega,AD _,by unfold maxLen;omega,(λh=>nomatch h),λ_=>⟨_,rfl,λj u hu=>Uj w t cs j u (by rw[hc];exact hu)⟩⟩
def Bn{ops:Array Oper}{rest:List Oper}{o:Oper}{a:Act}{Q:Exit->Act->World->Prop}(ys:List UInt8){cs:Array Value}{m ad:Nat}(hgd:o.guard=none)(s x:Operand)
  (ho:o.op=.call { callee:=.builtin .append,args:=#[s,x],argTypes:=#[226,226] }) (h:Ho w B A n c xs) (hs:a.eval s=.slice A n c) (hx:a.eval x=.slice (some ⟨ad,0,none⟩) m m) (had:ad=w.heap.size) (hm:ys.length=m) (hc:cs.toList=Lib.byteCells ys)
  (hb:n+m<=140737488355328)
  (k:∀A' n' c' w2,Ho w2 B A' n' c' (xs++ys)->n'=n+m->w.heap.size<=w2.heap.size->Below B w w2->(∀g,g<w.heap.size->blk A c≠some g->blk A' c'≠some g/\w2.heap[g]?=w.heap[g]?)->wpList prog ops Q rest (a.put o.dst (.slice A' n' c')) w2) :
  wpList prog ops Q (o::rest) a (w.alloc (.cells cs 5)):=by
 subst had;have x1:Ext w (w.alloc (.cells cs 5)):=(Ext.refl w).alloc _;have i:w.heap.size+1=(w.alloc (.cells cs 5)).heap.size:=by simp
 refine Ab _ qN B s x ho hgd A n c _ hs (h.1.alloc _) _ m m _ hx (a1z w hc hm (by omega)) (Wv ys) (by rw[FA];exact hb) (by decide) (AR h.2 x1.size) ?_;intro A' c' w2 h2 h3 h4;have d:w.heap.size<=w2.heap.size:=AR x1.size h3.size;have f:Below B w w2:=Below.grown (Below.mono x1 h.2) h3 (AR h.2 x1.size) (λg hg=>(h.1.lt g hg).1);refine k A' (n+m) c' w2 ⟨by rw[bT];exact h2,AR h.2 d⟩ rfl d f (λg hg hne=>⟨?_,?_⟩)
 ·rcases h4 with ⟨rfl,rfl⟩|⟨h5,_⟩
  ·exact hne
  ·rw[h5,<-i];intro e;injection e with e;omega
 ·rw[h3.block g (by omega) (Ne.symm hne)];exact x1.block g hg
end
def be8(m:Nat):List UInt8:=[UInt8.ofNat (m / 2 ^ 56),UInt8.ofNat (m / 2 ^ 48),UInt8.ofNat (m / 2 ^ 40),UInt8.ofNat (m / 2 ^ 32),UInt8.ofNat (m / 2 ^ 24),UInt8.ofNat (m / 2 ^ 16),UInt8.ofNat (m / 2 ^ 8),UInt8.ofNat m]
def Ig(c:UInt8):List UInt8:=if c=0 then [0,255] else [c]
def Li(d:Dat):List UInt8 :=
 if d.k=1 then [16] else if d.k=2 then [if d.b then 33 else 32] else if d.k=3 then 48::be8 (d.n+9223372036854775808).toNat else if d.k=4 then 64::(d.s.data.toList.flatMap Ig++[0,1]) else []
def Ch(l:List Dat):List UInt8:=l.flatMap Li
def Kr(w:World)(B:Nat)(r:List UInt8)(e:Ending)(w':World):Prop:=∃A n c,e=.returned (.slice A n c)/\Ho w' B A n c r/\Below B w w'
section
variable(k n:Int)(b:Bool)(s:ByteArray)(A:Option Addr)(m c B:Nat)(xs:List UInt8)(w:World)
def vC(h:Ho w B A m c xs)(hm:m<=100000000000000):C3 224 #[.slice A m c,.agg #[.int .u8 1,.bool b,.int .i64 n,.string s]] w (Kr w B (xs++[16])):=by
 have HB:=j6 h.2;have HO:=j6 (h.alloc (.cells #[.int .u8 1,.bool b,.int .i64 n,.string s] 204));clear h;go_enter func224,ntmps224;go_wp2_with (at_builtin;refine Bn [16] rfl _ _ rfl HO.o rfl rfl (by first|rfl|simp) rfl rfl (by omega) ?_;intro A2 n2 c2 w2 o2 hn hz a d;have O2:=j6 o2;clear o2 hn d)
 go_ret;exact⟨A2,n2,c2,rfl,O2.o,((FH B w).alloc HB.o _).trans a⟩
def vD(h:Ho w B A m c xs)(hm:m<=100000000000000):C3 224 #[.slice A m c,.agg #[.int .u8 2,.bool b,.int .i64 n,.string s]] w (Kr w B (xs++[if b then 33 else 32])):=by
 have HB:=j6 h.2;have HO:=j6 (h.alloc (.cells #[.int .u8 2,.bool b,.int .i64 n,.string s] 204));clear h;cases b
 ·go_enter func224,ntmps224;go_wp2_with (at_builtin;refine Bn [32] rfl _ _ rfl HO.o rfl rfl (by first|rfl|simp) rfl rfl (by omega) ?_;intro A2 n2 c2 w2 o2 hn hz a d;have O2:=j6 o2;clear o2 hn d)
  go_ret;exact⟨A2,n2,c2,rfl,O2.o,((FH B w).alloc HB.o _).trans a⟩
 ·go_enter func224,ntmps224;go_wp2_with (at_builtin;refine Bn [33] rfl _ _ rfl HO.o rfl rfl (by first|rfl|simp) rfl rfl (by omega) ?_;intro A2 n2 c2 w2 o2 hn hz a d;have O2:=j6 o2;clear o2 hn d)
  go_ret;exact⟨A2,n2,c2,rfl,O2.o,((FH B w).alloc HB.o _).trans a⟩
def put_none(h1:¬k=1)(h2:¬k=2)(h3:¬k=3)(h4:¬k=4)(h:Ho w B A m c xs):C3 224 #[.slice A m c,.agg #[.int .u8 k,.bool b,.int .i64 n,.string s]] w (Kr w B xs):=by
 have HB:=j6 h.2;have HO:=j6 (h.alloc (.cells #[.int .u8 k,.bool b,.int .i64 n,.string s] 204));have z1:(k==1)=false:=by simpa using h1
 have z2:(k==2)=false:=by simpa using h2
 have z3:(k==3)=false:=by simpa using h3
 have z4:(k==4)=false:=by simpa using h4
 clear h;go_enter func224,ntmps224;go_wp2;go_ret;exact⟨A,m,c,rfl,HO.o,(FH B w).alloc HB.o _⟩
def yW(hn : -9223372036854775808<=n/\n<=9223372036854775807)(h:Ho w B A m c xs)(hm:m<=100000000000000):C3 224 #[.slice A m c,.agg #[.int .u8 3,.bool b,.int .i64 n,.string s]] w (Kr w B (xs++48::be8 (n+9223372036854775808).toNat)):=by
 have HB:=j6 h.2;have HO:=j6 (h.alloc (.cells #[.int .u8 3,.bool b,.int .i64 n,.string s] 204));have b0:Bk (w.alloc (.cells #[.int .u8 3,.bool b,.int .i64 n,.string s] 204)) w.heap.size 204 #[.int .u8 3,.bool b,.int .i64 n,.string s]:=Bk.new _ _ _;have N0:=j6 (h.ne (AD _));clear h;have⟨u,hu⟩:=tz (IntKind.u64.wrap n);have⟨M,hM⟩:=tz ((n+9223372036854775808).toNat);have q1:IntKind.u64.wrap (u+9223372036854775808)=(M:Int):=by
  rw[<-hu,EQ,EQ];omega
 have d7:M<18446744073709551616:=by omega
 obtain⟨y0,H⟩:∃y:UInt8,UInt8.ofNat (M / 2 ^ 56)=y:=⟨_,rfl⟩;have d8:(M:Int) / 72057594037927936=(y0.toNat:Int):=by rw[<-H,DI];omega
 replace H:=j6 H;obtain⟨y1,I⟩:∃y:UInt8,UInt8.ofNat (M / 2 ^ 48)=y:=⟨_,rfl⟩;have d9:IntKind.u8.wrap ((M:Int) / 281474976710656)=(y1.toNat:Int):=by rw[<-I,DI,EU];omega
 replace I:=j6 I;obtain⟨y2,J⟩:∃y:UInt8,UInt8.ofNat (M / 2 ^ 40)=y:=⟨_,rfl⟩;have e0:IntKind.u8.wrap ((M:Int) / 1099511627776)=(y2.toNat:Int):=by rw[<-J,DI,EU];omega
 replace J:=j6 J;obtain⟨y3,K⟩:∃y:UInt8,UInt8.ofNat (M / 2 ^ 32)=y:=⟨_,rfl⟩;have e1:IntKind.u8.wrap ((M:Int) / 4294967296)=(y3.toNat:Int):=by rw[<-K,DI,EU];omega
 replace K:=j6 K;obtain⟨y4,L⟩:∃y:UInt8,UInt8.ofNat (M / 2 ^ 24)=y:=⟨_,rfl⟩;have e2:IntKind.u8.wrap ((M:Int) / 16777216)=(y4.toNat:Int):=by rw[<-L,DI,EU];omega
 replace L:=j6 L;obtain⟨y5,N⟩:∃y:UInt8,UInt8.ofNat (M / 2 ^ 16)=y:=⟨_,rfl⟩;have e3:IntKind.u8.wrap ((M:Int) / 65536)=(y5.toNat:Int):=by rw[<-N,DI,EU];omega
 replace N:=j6 N;obtain⟨y6,O⟩:∃y:UInt8,UInt8.ofNat (M / 2 ^ 8)=y:=⟨_,rfl⟩;have e4:IntKind.u8.wrap ((M:Int) / 256)=(y6.toNat:Int):=by rw[<-O,DI,EU];omega
 replace O:=j6 O;obtain⟨y7,P⟩:∃y:UInt8,UInt8.ofNat (M)=y:=⟨_,rfl⟩;have e5:IntKind.u8.wrap ((M:Int))=(y7.toNat:Int):=by rw[<-P,DI,EU];omega
 replace P:=j6 P;rw[hM];have Q:H0 (be8 M=[y0,y1,y2,y3,y4,y5,y6,y7]):=j6 (by unfold be8;rw[H.o,I.o,J.o,K.o,L.o,N.o,O.o,P.o]);rw[Q.o];clear hM hn Q H I J K L N O P;go_enter func224,ntmps224;go_wp2_with (at_builtin;refine Bn [48] rfl _ _ rfl HO.o rfl rfl (by first|rfl|simp) rfl rfl (by omega) ?_;intro A1 n1 c1 w1 o1 a0 a9 r a;have O1:=j6 o1;have b1:Bk w1 w.heap.size 204 #[.int .u8 3,.bool b,.int .i64 n,.string s]:=(a w.heap.size (by first|omega|(simp;done)|(simp;omega)) N0.o).2.trans b0;have N1:=j6 (a w.heap.size (by first|omega|(simp;done)|(simp;omega)) N0.o).1;have L1:n1<=100000000000001:=(by omega);have S1:w.heap.size<w1.heap.size:=b1.lt;have X1:=j6 (((FH B w).alloc HB.o _).trans r);have p1:w1.cell? ⟨w.heap.size,2,none⟩=some (.int .i64 n):=b1.cell 2;clear o1 a0 a9 r a)
 refine wp_loop_rounds 9 ?_;rw[rounds_succ];go_wp2_with (at_builtin;refine Bn [y0] rfl _ _ rfl O1.o rfl rfl (by first|rfl|simp) rfl rfl (by omega) ?_;intro A2 n2 c2 w2 o2 a1 c0 t d;have O2:=j6 o2;have b2:Bk w2 w.heap.size 204 #[.int .u8 3,.bool b,.int .i64 n,.string s]:=(d w.heap.size (by first|omega|(simp;done)|(simp;omega)) N1.o).2.trans b1;have N2:=j6 (d w.heap.size (by first|omega|(simp;done)|(simp;omega)) N1.o).1;have L2:n2<=100000000000002:=(by omega);have S2:w.heap.size<w2.heap.size:=b2.lt;have X2:=j6 (X1.o.trans t);have p2:w2.cell? ⟨w.heap.size,2,none⟩=some (.int .i64 n):=b2.cell 2;clear o2 a1 c0 t d)
 rw[rounds_succ];go_wp2_with (at_builtin;refine Bn [y1] rfl _ _ rfl O2.o rfl rfl (by first|rfl|simp) rfl rfl (by omega) ?_;intro A3 n3 c3 w3 o3 a2 d0 x e;have O3:=j6 o3;have b3:Bk w3 w.heap.size 204 #[.int .u8 3,.bool b,.int .i64 n,.string s]:=(e w.heap.size (by first|omega|(simp;done)|(simp;omega)) N2.o).2.trans b2;have N3:=j6 (e w.heap.size (by first|omega|(simp;done)|(simp;omega)) N2.o).1;have L3:n3<=100000000000003:=(by omega);have S3:w.heap.size<w3.heap.size:=b3.lt;have X3:=j6 (X2.o.trans x);have p3:w3.cell? ⟨w.heap.size,2,none⟩=some (.int .i64 n):=b3.cell 2;clear o3 a2 d0 x e)
 rw[rounds_succ];go_wp2_with (at_builtin;refine Bn [y2] rfl _ _ rfl O3.o rfl rfl (by first|rfl|simp) rfl rfl (by omega) ?_;intro A4 n4 c4 w4 o4 a3 d1 z f;have O4:=j6 o4;have b4:Bk w4 w.heap.size 204 #[.int .u8 3,.bool b,.int .i64 n,.string s]:=(f w.heap.size (by first|omega|(simp;done)|(simp;omega)) N3.o).2.trans b3;have N4:=j6 (f w.heap.size (by first|omega|(simp;done)|(simp;omega)) N3.o).1;have L4:n4<=100000000000004:=(by omega);have S4:w.heap.size<w4.heap.size:=b4.lt;have X4:=j6 (X3.o.trans z);have p4:w4.cell? ⟨w.heap.size,2,none⟩=some (.int .i64 n):=b4.cell 2;clear o4 a3 d1 z f)
 rw[rounds_succ];go_wp2_with (at_builtin;refine Bn [y3] rfl _ _ rfl O4.o rfl rfl (by first|rfl|simp) rfl rfl (by omega) ?_;intro A5 n5 c5 w5 o5 a4 d2 C g;have O5:=j6 o5;have b5:Bk w5 w.heap.size 204 #[.int .u8 3,.bool b,.int .i64 n,.string s]:=(g w.heap.size (by first|omega|(simp;done)|(simp;omega)) N4.o).2.trans b4;have N5:=j6 (g w.heap.size (by first|omega|(simp;done)|(simp;omega)) N4.o).1;have L5:n5<=100000000000005:=(by omega);have S5:w.heap.size<w5.heap.size:=b5.lt;have X5:=j6 (X4.o.trans C);have p5:w5.cell? ⟨w.heap.size,2,none⟩=some (.int .i64 n):=b5.cell 2;clear o5 a4 d2 C g)
 rw[rounds_succ];go_wp2_with (at_builtin;refine Bn [y4] rfl _ _ rfl O5.o rfl rfl (by first|rfl|simp) rfl rfl (by omega) ?_;intro A6 n6 c6 w6 o6 a5 d3 D i;have O6:=j6 o6;have b6:Bk w6 w.heap.size 204 #[.int .u8 3,.bool b,.int .i64 n,.string s]:=(i w.heap.size (by first|omega|(simp;done)|(simp;omega)) N5.o).2.trans b5;have N6:=j6 (i w.heap.size (by first|omega|(simp;done)|(simp;omega)) N5.o).1;have L6:n6<=100000000000006:=(by omega);have S6:w.heap.size<w6.heap.size:=b6.lt;have X6:=j6 (X5.o.trans D);have p6:w6.cell? ⟨w.heap.size,2,none⟩=some (.int .i64 n):=b6.cell 2;clear o6 a5 d3 D i)
 rw[rounds_succ];go_wp2_with (at_builtin;refine Bn [y5] rfl _ _ rfl O6.o rfl rfl (by first|rfl|simp) rfl rfl (by omega) ?_;intro A7 n7 c7 w7 o7 a6 d4 E j;have O7:=j6 o7;have b7:Bk w7 w.heap.size 204 #[.int .u8 3,.bool b,.int .i64 n,.string s]:=(j w.heap.size (by first|omega|(simp;done)|(simp;omega)) N6.o).2.trans b6;have N7:=j6 (j w.heap.size (by first|omega|(simp;done)|(simp;omega)) N6.o).1;have L7:n7<=100000000000007:=(by omega);have S7:w.heap.size<w7.heap.size:=b7.lt;have X7:=j6 (X6.o.trans E);have p7:w7.cell? ⟨w.heap.size,2,none⟩=some (.int .i64 n):=b7.cell 2;clear o7 a6 d4 E j)
 rw[rounds_succ];go_wp2_with (at_builtin;refine Bn [y6] rfl _ _ rfl O7.o rfl rfl (by first|rfl|simp) rfl rfl (by omega) ?_;intro A8 n8 c8 w8 o8 a7 d5 F l;have O8:=j6 o8;have b8:Bk w8 w.heap.size 204 #[.int .u8 3,.bool b,.int .i64 n,.string s]:=(l w.heap.size (by first|omega|(simp;done)|(simp;omega)) N7.o).2.trans b7;have N8:=j6 (l w.heap.size (by first|omega|(simp;done)|(simp;omega)) N7.o).1;have L8:n8<=100000000000008:=(by omega);have S8:w.heap.size<w8.heap.size:=b8.lt;have X8:=j6 (X7.o.trans F);have p8:w8.cell? ⟨w.heap.size,2,none⟩=some (.int .i64 n):=b8.cell 2;clear o8 a7 d5 F l)
 rw[rounds_succ];go_wp2_with (at_builtin;refine Bn [y7] rfl _ _ rfl O8.o rfl rfl (by first|rfl|simp) rfl rfl (by omega) ?_;intro A9 n9 c9 w9 o9 a8 d6 G q;have O9:=j6 o9;have b9:Bk w9 w.heap.size 204 #[.int .u8 3,.bool b,.int .i64 n,.string s]:=(q w.heap.size (by first|omega|(simp;done)|(simp;omega)) N8.o).2.trans b8;have N9:=j6 (q w.heap.size (by first|omega|(simp;done)|(simp;omega)) N8.o).1;have L9:n9<=100000000000009:=(by omega);have S9:w.heap.size<w9.heap.size:=b9.lt;have X9:=j6 (X8.o.trans G);have p9:w9.cell? ⟨w.heap.size,2,none⟩=some (.int .i64 n):=b9.cell 2;clear o9 a8 d6 G q)
 rw[rounds_succ];go_wp2;go_ret;exact⟨A9,n9,c9,rfl,by have:=O9.o;simp only[AK,CI,BD]at this;exact this,X9.o⟩
def wU(c:UInt8):(Ig c).length<=2:=by
 unfold Ig;split
 ·exact AD _
 ·exact Nat.le_succ _
def Nz(l:List UInt8):(l.flatMap Ig).length<=2*l.length:=by
 induction l with
 | nil=>exact AD _
 | cons c l ih =>
  have:=wU c;rw[BQ,AA,AJ];omega
def a3j{s:ByteArray}{k:Nat}(h:k<s.size):(s.data.toList.take (k+1)).flatMap Ig=(s.data.toList.take k).flatMap Ig++Ig s[k]:=by
 have h':k<s.data.toList.length:=by simpa using h
 have e:s.data.toList.take (k+1)=s.data.toList.take k++[s[k]]:=by rw[CC h'];rfl
 rw[e,DF];simp
def vB(hs:s.size<=10000000000000)(h:Ho w B A m c xs)(hm:m<=100000000000000):C3 224 #[.slice A m c,.agg #[.int .u8 4,.bool b,.int .i64 n,.string s]] w (Kr w B (xs++64::(s.data.toList.flatMap Ig++[0,1]))):=by
 have HB:=j6 h.2;have HO:=j6 (h.alloc (.cells #[.int .u8 4,.bool b,.int .i64 n,.string s] 204));have b0:Bk (w.alloc (.cells #[.int .u8 4,.bool b,.int .i64 n,.string s] 204)) w.heap.size 204 #[.int .u8 4,.bool b,.int .i64 n,.string s]:=Bk.new _ _ _;have N0:=j6 (h.ne (AD _));have x:H0 (xs.length=m):=j6 h.len.symm;clear h;go_enter func224,ntmps224;go_wp2_with (at_builtin;refine Bn [64] rfl _ _ rfl HO.o rfl rfl (by first|rfl|simp) rfl rfl (by omega) ?_;intro A1 n1 c1 w1 o1 D G i f;have O1:=j6 o1;have b1:Bk w1 w.heap.size 204 #[.int .u8 4,.bool b,.int .i64 n,.string s]:=(f w.heap.size (by first|omega|(simp;done)|(simp;omega)) N0.o).2.trans b0;have N1:=j6 (f w.heap.size (by first|omega|(simp;done)|(simp;omega)) N0.o).1;have L1:n1<=100000000000001:=(by omega);have S1:w.heap.size<w1.heap.size:=b1.lt;have X1:=j6 (((FH B w).alloc HB.o _).trans i);have p1:w1.cell? ⟨w.heap.size,3,none⟩=some (.string s):=b1.cell 3;clear o1 D G i f)
 go_loopw [0,52] (λu v wr=>∃(k n0 c0:Nat) (A0:Option Addr),k<=s.size/\v=.int .i64 k/\u=.slice A0 n0 c0/\H0 (Ho wr B A0 n0 c0 (xs++64::(s.data.toList.take k).flatMap Ig))/\Bk wr w.heap.size 204 #[.int .u8 4,.bool b,.int .i64 n,.string s]/\H0 (blk A0 c0≠some w.heap.size)/\H0 (Below B w wr)) (λ_ v _=>s.size-(intOf v).toNat)
 case atStart=>exact⟨0,n1,c1,A1,AG _,rfl,rfl,O1,b1,N1,X1⟩
 case round =>
  obtain⟨k,n2,c2,A2,hk,rfl,rfl,O2,b2,N2,X2⟩:=hrel;have L2:n2<=130000000000000:=by
   have h1:=O2.o.len;have h2:=Nz (s.data.toList.take k);have h3:(s.data.toList.take k).length<=k:=List.length_take_le _ _;rw[AA,x.o,AJ]at h1;omega
  have p2:wr.cell? ⟨w.heap.size,3,none⟩=some (.string s):=b2.cell 3;have S2:w.heap.size<wr.heap.size:=b2.lt;by_cases hlt:k<s.size
  ·have HT:=j6 (a3j hlt);by_cases hz:s[k].toNat=0
   ·have HE:H0 (Ig s[k]=[0,255]):=j6 (by rw[show s[k]=0 from GQ.1 hz];rfl);have m1:=TI;go_wp2_with (first
     | (have z:=m1;clear z m1;at_builtin;refine Bn [0] rfl _ _ rfl O2.o rfl rfl (by first|rfl|simp) rfl rfl (by omega) ?_;intro A3 n3 c3 w3 o3 q r d a;have O3:=j6 o3;have b3:Bk w3 w.heap.size 204 #[.int .u8 4,.bool b,.int .i64 n,.string s]:=(a w.heap.size (by first|omega|(simp;done)|(simp;omega)) N2.o).2.trans b2;have N3:=j6 (a w.heap.size (by first|omega|(simp;done)|(simp;omega)) N2.o).1;have L3:n3<=130000000000001:=(by omega);have S3:w.heap.size<w3.heap.size:=b3.lt;have X3:=j6 (X2.o.trans d);have p3:w3.cell? ⟨w.heap.size,3,none⟩=some (.string s):=b3.cell 3;clear o3 q r d a;have m2:=TI)
     | (have z:=m2;clear z m2;at_builtin;refine Bn [255] rfl _ _ rfl O3.o rfl rfl (by first|rfl|simp) rfl rfl (by omega) ?_;intro A4 n4 c4 w4 o4 E H j g;have O4:=j6 o4;have b4:Bk w4 w.heap.size 204 #[.int .u8 4,.bool b,.int .i64 n,.string s]:=(g w.heap.size (by first|omega|(simp;done)|(simp;omega)) N3.o).2.trans b3;have N4:=j6 (g w.heap.size (by first|omega|(simp;done)|(simp;omega)) N3.o).1;have L4:n4<=130000000000002:=(by omega);have S4:w.heap.size<w4.heap.size:=b4.lt;have X4:=j6 (X3.o.trans j);have p4:w4.cell? ⟨w.heap.size,3,none⟩=some (.string s):=b4.cell 3;clear o4 E H j g))
    go_roundw
    case rel=>exact⟨k+1,n4,c4,A4,by omega,by go_num,rfl,j6 (by have:=O4.o;rw[HT.o,HE.o];simp only[AK,CI,BD]at this ⊢;exact this),b4,N4,X4⟩
    case measure=>simp[intOf];omega
   ·have z0:((s[k].toNat:Int)==0)=false:=by simp;omega
    have HE:H0 (Ig s[k]=[s[k]]):=j6 (by unfold Ig;rw[if_neg (λe=>hz (by rw[e];rfl))]);go_wp2_with (at_builtin;refine Bn [s[k]] rfl _ _ rfl O2.o rfl rfl (by first|rfl|simp) rfl rfl (by omega) ?_;intro A3 n3 c3 w3 o3 q r d a;have O3:=j6 o3;have b3:Bk w3 w.heap.size 204 #[.int .u8 4,.bool b,.int .i64 n,.string s]:=(a w.heap.size (by first|omega|(simp;done)|(simp;omega)) N2.o).2.trans b2;have N3:=j6 (a w.heap.size (by first|omega|(simp;done)|(simp;omega)) N2.o).1;have L3:n3<=130000000000001:=(by omega);have S3:w.heap.size<w3.heap.size:=b3.lt;have X3:=j6 (X2.o.trans d);have p3:w3.cell? ⟨w.heap.size,3,none⟩=some (.string s):=b3.cell 3;clear o3 q r d a)
    go_roundw
    case rel=>exact⟨k+1,n3,c3,A3,by omega,by go_num,rfl,j6 (by have:=O3.o;rw[HT.o,HE.o];simp only[AK,CI,BD]at this ⊢;exact this),b3,N3,X3⟩
    case measure=>simp[intOf];omega
  ·have C:k=s.size:=by omega
   have y:H0 (s.data.toList.take k=s.data.toList):=j6 (AW (by simp;omega));clear C;go_wp2_with (at_builtin;refine Bn [0,1] rfl _ _ rfl O2.o rfl rfl (by first|rfl|simp) rfl rfl (by omega) ?_;intro A5 n5 c5 w5 o5 F I l t;have O5:=j6 o5;have X5:=j6 (X2.o.trans l);clear o5 F I l t)
   go_ret;exact⟨A5,n5,c5,rfl,by have:=O5.o;rw[y.o]at this;simp only[AK,CI,BD]at this ⊢;exact this,X5.o⟩
def yX(d:Dat)(hn : -9223372036854775808<=d.n/\d.n<=9223372036854775807)(hs:d.s.size<=10000000000000)(h:Ho w B A m c xs)(hm:m<=100000000000000) :
  C3 224 #[.slice A m c,.agg #[.int .u8 d.k,.bool d.b,.int .i64 d.n,.string d.s]] w (Kr w B (xs++Li d)):=by
 obtain⟨k,b,n,s⟩:=d;unfold Li;by_cases h1:k=1
 ·subst h1;exact vC n b s A m c B xs w h hm
 rw[if_neg h1];by_cases h2:k=2
 ·subst h2;exact vD n b s A m c B xs w h hm
 rw[if_neg h2];by_cases h3:k=3
 ·subst h3;exact yW n b s A m c B xs w hn h hm
 rw[if_neg h3];by_cases h4:k=4
 ·subst h4;exact vB n b s A m c B xs w hs h hm
 rw[if_neg h4,AV];exact put_none k n b s A m c B xs w h1 h2 h3 h4 h
end
def Oe(w:World)(g:Good w):C3 248 #[.string ⟨#[]⟩] w λe w'=>e=.returned (.bool true)/\Ext w w':=Xj ⟨#[]⟩ w (by simp[ByteArray.size]) g
def bS(b:Bool)(n:Int)(s:ByteArray)(hn:¬n=0)(w:World):C3 211 #[.agg #[.int .u8 2,.bool b,.int .i64 n,.string s]] w λe w'=>e=.returned (.int .u16 13)/\Ext w w':=by
 go_enter func211,ntmps211;go_wp2_with fail
 all_goals go_ret
 all_goals exact⟨rfl,((Ext.refl w).alloc _).alloc _⟩
def bR(b:Bool)(s:ByteArray)(hs:¬s=⟨#[]⟩)(w:World):C3 211 #[.agg #[.int .u8 2,.bool b,.int .i64 0,.string s]] w λe w'=>e=.returned (.int .u16 13)/\Ext w w':=by
 have hz:¬s.toList=[]:=λh=>hs (Iu.1 h);have a:s.toList.isEmpty=false:=by simpa using hz
 clear hs;go_enter func211,ntmps211;go_wp2_with fail
 all_goals go_ret
 all_goals exact⟨rfl,((Ext.refl w).alloc _).alloc _⟩
def gS(n:Int)(s:ByteArray)(w:World):C3 211 #[.agg #[.int .u8 3,.bool true,.int .i64 n,.string s]] w λe w'=>e=.returned (.int .u16 13)/\Ext w w':=by
 go_enter func211,ntmps211;go_wp2_with fail
 all_goals go_ret
 all_goals exact⟨rfl,((Ext.refl w).alloc _).alloc _⟩
def gR(n:Int)(s:ByteArray)(hs:¬s=⟨#[]⟩)(w:World):C3 211 #[.agg #[.int .u8 3,.bool false,.int .i64 n,.string s]] w λe w'=>e=.returned (.int .u16 13)/\Ext w w':=by
 have hz:¬s.toList=[]:=λh=>hs (Iu.1 h);have a:s.toList.isEmpty=false:=by simpa using hz
 clear hs;go_enter func211,ntmps211;go_wp2_with fail
 all_goals go_ret
 all_goals exact⟨rfl,((Ext.refl w).alloc _).alloc _⟩
def bM(n:Int)(s:ByteArray)(w:World):C3 211 #[.agg #[.int .u8 4,.bool true,.int .i64 n,.string s]] w λe w'=>e=.returned (.int .u16 13)/\Ext w w':=by
 go_enter func211,ntmps211;go_wp2_with fail
 all_goals go_ret
 all_goals exact⟨rfl,((Ext.refl w).alloc _).alloc _⟩
def bL(n:Int)(s:ByteArray)(hn:¬n=0)(w:World):C3 211 #[.agg #[.int .u8 4,.bool false,.int .i64 n,.string s]] w λe w'=>e=.returned (.int .u16 13)/\Ext w w':=by
 go_enter func211,ntmps211;go_wp2_with fail
 all_goals go_ret
 all_goals exact⟨rfl,((Ext.refl w).alloc _).alloc _⟩
def bP(n:Int)(s:ByteArray)(w:World):C3 211 #[.agg #[.int .u8 1,.bool true,.int .i64 n,.string s]] w λe w'=>e=.returned (.int .u16 13)/\Ext w w':=by
 go_enter func211,ntmps211;go_wp2_with fail
 all_goals go_ret
 all_goals exact⟨rfl,((Ext.refl w).alloc _).alloc _⟩
def bO(n:Int)(s:ByteArray)(hn:¬n=0)(w:World):C3 211 #[.agg #[.int .u8 1,.bool false,.int .i64 n,.string s]] w λe w'=>e=.returned (.int .u16 13)/\Ext w w':=by
 go_enter func211,ntmps211;go_wp2_with fail
 all_goals go_ret
 all_goals exact⟨rfl,((Ext.refl w).alloc _).alloc _⟩
def bN(s:ByteArray)(hs:¬s=⟨#[]⟩)(w:World):C3 211 #[.agg #[.int .u8 1,.bool false,.int .i64 0,.string s]] w λe w'=>e=.returned (.int .u16 13)/\Ext w w':=by
 have hz:¬s.toList=[]:=λh=>hs (Iu.1 h);have a:s.toList.isEmpty=false:=by simpa using hz
 clear hs;go_enter func211,ntmps211;go_wp2_with fail
 all_goals go_ret
 all_goals exact⟨rfl,((Ext.refl w).alloc _).alloc _⟩
def gQ(k:Int)(b:Bool)(n:Int)(s:ByteArray)(w:World)(h1:¬k=1)(h2:¬k=2)(h3:¬k=3)(h4:¬k=4):C3 211 #[.agg #[.int .u8 k,.bool b,.int .i64 n,.string s]] w λe w'=>e=.returned (.int .u16 13)/\Ext w w':=by
 have q1:(k==1)=false:=by simpa using h1
 have q2:(k==2)=false:=by simpa using h2
 have q3:(k==3)=false:=by simpa using h3
 have q4:(k==4)=false:=by simpa using h4
 go_enter func211,ntmps211;go_wp2_with fail
 all_goals go_ret
 all_goals exact⟨rfl,((Ext.refl w).alloc _).alloc _⟩
def Wu(b:Bool)(w:World)(g:Good w):C3 211 #[.agg #[.int .u8 2,.bool b,.int .i64 0,.string ⟨#[]⟩]] w λe w'=>e=.returned (.int .u16 0)/\Ext w w':=by
 go_enter func211,ntmps211;go_wp2_with (refine(Oe _ (g.ext (((Ext.refl w).alloc _).alloc _))).mono ?_;rintro e w1 ⟨rfl,x1⟩;have b0:=((Bk.new w 204 #[.int .u8 2,.bool b,.int .i64 0,.string ⟨#[]⟩]).alloc (.cells #[.int .u8 2,.bool false,.int .i64 0,.string ⟨#[]⟩] 204)).ext x1;have b3:w1.cell? ⟨w.heap.size,3,none⟩=some (.string ⟨#[]⟩):=b0.cell 3)
 go_ret;exact⟨rfl,(((Ext.refl w).alloc _).alloc _).trans x1⟩
def bQ(n:Int)(w:World)(g:Good w):C3 211 #[.agg #[.int .u8 3,.bool false,.int .i64 n,.string ⟨#[]⟩]] w λe w'=>e=.returned (.int .u16 0)/\Ext w w':=by
 go_enter func211,ntmps211;go_wp2_with (refine(Oe _ (g.ext (((Ext.refl w).alloc _).alloc _))).mono ?_;rintro e w1 ⟨rfl,x1⟩;have b0:=((Bk.new w 204 #[.int .u8 3,.bool false,.int .i64 n,.string ⟨#[]⟩]).alloc (.cells #[.int .u8 3,.bool false,.int .i64 0,.string ⟨#[]⟩] 204)).ext x1;have b3:w1.cell? ⟨w.heap.size,3,none⟩=some (.string ⟨#[]⟩):=b0.cell 3)
 go_ret;exact⟨rfl,(((Ext.refl w).alloc _).alloc _).trans x1⟩
def Wt(w:World)(g:Good w):C3 211 #[.agg #[.int .u8 1,.bool false,.int .i64 0,.string ⟨#[]⟩]] w λe w'=>e=.returned (.int .u16 0)/\Ext w w':=by
 go_enter func211,ntmps211;go_wp2_with (refine(Oe _ (g.ext (((Ext.refl w).alloc _).alloc _))).mono ?_;rintro e w1 ⟨rfl,x1⟩;have b0:=((Bk.new w 204 #[.int .u8 1,.bool false,.int .i64 0,.string ⟨#[]⟩]).alloc (.cells #[.int .u8 1,.bool false,.int .i64 0,.string ⟨#[]⟩] 204)).ext x1;have b3:w1.cell? ⟨w.heap.size,3,none⟩=some (.string ⟨#[]⟩):=b0.cell 3)
 go_ret;exact⟨rfl,(((Ext.refl w).alloc _).alloc _).trans x1⟩
def Ws(s:ByteArray)(w:World)(hs:s.size<=9223372036854775807)(g:Good w):C3 211 #[.agg #[.int .u8 4,.bool false,.int .i64 0,.string s]] w λe w'=>e=.returned (.int .u16 (if Ja s then (if 1000<s.size then 12 else 0) else 13))/\Ext w w':=by
 have⟨v,hv⟩:=tz (Ja s);have hc:=Xj s;rw[hv]at hc ⊢;have HC:=j6 hc;clear hc hv;cases v
 ·go_enter func211,ntmps211;go_wp2_with (refine(HC.o _ hs (g.ext (((Ext.refl w).alloc _).alloc _))).mono ?_;rintro e w1 ⟨rfl,x1⟩)
  go_ret;exact⟨rfl,(((Ext.refl w).alloc _).alloc _).trans x1⟩
 ·by_cases hl:1000<s.size
  ·go_enter func211,ntmps211;go_wp2_with (refine(HC.o _ hs (g.ext (((Ext.refl w).alloc _).alloc _))).mono ?_;rintro e w1 ⟨rfl,x1⟩;have b0:=((Bk.new w 204 #[.int .u8 4,.bool false,.int .i64 0,.string s]).alloc (.cells #[.int .u8 4,.bool false,.int .i64 0,.string ⟨#[]⟩] 204)).ext x1;have b3:w1.cell? ⟨w.heap.size,3,none⟩=some (.string s):=b0.cell 3)
   go_ret;exact⟨lT (by simp),(((Ext.refl w).alloc _).alloc _).trans x1⟩
  ·go_enter func211,ntmps211;go_wp2_with (refine(HC.o _ hs (g.ext (((Ext.refl w).alloc _).alloc _))).mono ?_;rintro e w1 ⟨rfl,x1⟩;have b0:=((Bk.new w 204 #[.int .u8 4,.bool false,.int .i64 0,.string s]).alloc (.cells #[.int .u8 4,.bool false,.int .i64 0,.string ⟨#[]⟩] 204)).ext x1;have b3:w1.cell? ⟨w.heap.size,3,none⟩=some (.string s):=b0.cell 3)
   go_ret;exact⟨lT (by simp),(((Ext.refl w).alloc _).alloc _).trans x1⟩
def rD(k:Int)(b:Bool)(n:Int)(s:ByteArray)(w:World)(hs:s.size<=9223372036854775807)(g:Good w) :
  C3 211 #[.agg #[.int .u8 k,.bool b,.int .i64 n,.string s]] w λe w'=>e=.returned (.int .u16 (Ib k b n s))/\Ext w w':=by
 by_cases h2:k=2
 ·subst h2;by_cases hn:n=0
  ·subst hn;by_cases hz:s=⟨#[]⟩
   ·subst hz;rw[Fm (by simp),Fn];exact Wu b w g
   ·rw[Aw (by simp[hz])];exact bR b s hz w
  ·rw[Aw (by simp[hn])];exact bS b n s hn w
 by_cases h3:k=3
 ·subst h3;cases b
  ·by_cases hz:s=⟨#[]⟩
   ·subst hz;rw[Fm (by simp),Fn];exact bQ n w g
   ·rw[Aw (by simp[hz])];exact gR n s hz w
  ·rw[Aw (by simp)];exact gS n s w
 by_cases h4:k=4
 ·subst h4;cases b
  ·by_cases hn:n=0
   ·subst hn;rw[Fm (by simp)];exact Ws s w hs g
   ·rw[Aw (by simp[hn])];exact bL n s hn w
  ·rw[Aw (by simp)];exact bM n s w
 by_cases h1:k=1
 ·subst h1;cases b
  ·by_cases hn:n=0
   ·subst hn;by_cases hz:s=⟨#[]⟩
    ·subst hz;rw[Fm (by simp),Fn];exact Wt w g
    ·rw[Aw (by simp[hz])];exact bN s hz w
   ·rw[Aw (by simp[hn])];exact bO n s hn w
  ·rw[Aw (by simp)];exact bP n s w
 ·rw[Aw (by simp[h1,h2,h3,h4])];exact gQ k b n s w h1 h2 h3 h4
def Du:List Dat->Int
 | []=>0
 | d::l=>if d.check=0 then Du l else d.check
def Bh(l:List Dat):Int:=if 32<l.length then 20 else Du l
def Rt{l:List Dat}(h:i<l.length):Du (l.drop i)=if (l.getD i Dat.zero).check=0 then Du (l.drop (i+1)) else (l.getD i Dat.zero).check:=by
 rw[BY h,AB,AC h];rfl
def Yp:∀l:List Dat,Du l=0 ↔ ∀d∈l,d.check=0
 | []=>⟨λ_ d h=>(nomatch h),λ_=>rfl⟩
 | d::l=>by
  unfold Du;by_cases h:d.check=0
  ·rw[if_pos h,Yp l];exact⟨λq x hx=>(AY.1 hx).elim (λe=>e▸h) (q x),λq x hx=>q x (BM _ hx)⟩
  ·rw[if_neg h];exact⟨λq=>absurd q h,λq=>absurd (q d (BC ..)) h⟩
def Nj(l:List Dat):Bh l=0↔l.length<=32/\∀d∈l,d.check=0:=by
 unfold Bh;split
 ·exact⟨λh=>absurd h (by decide),λh=>absurd h.1 (by omega)⟩
 ·rw[Yp];exact⟨λh=>⟨by omega,h⟩,λh=>h.2⟩
def Nr(l:List Dat):Prop:=∀d∈l,d.s.size<=9223372036854775807
def Nr.at{l:List Dat}(h:Nr l){i:Nat}(hi:i<l.length):(l.getD i Dat.zero).s.size<=9223372036854775807:=by
 rw[AB,AC hi];exact h _ (BR hi)
def Vk{c:Int}(k n:Int)(b:Bool)(s:ByteArray)(w:World)(h:H0 (Dat.check ⟨k,b,n,s⟩=c))(hs:s.size<=9223372036854775807)(G:Good w) :
  C3 211 #[.agg #[.int .u8 k,.bool b,.int .i64 n,.string s]] w λe w'=>e=.returned (.int .u16 c)/\Ext w w':=h.o▸rD k b n s w hs G
def aO(A:Option Addr)(c n:Nat)(l:List Dat)(w:World)(e1:n=l.length)(h1:Rw w A c l)(ht:Nr l)(G:Good w) :
  C3 154 #[.slice A n c] w λe w'=>e=.returned (.int .u16 (Bh l))/\Ext w w':=by
 have E1:=j6 e1;have j:=h1.le;rw[<-e1]at j;have H1:=j6 h1;have HT:=j6 ht;clear e1 h1 ht;by_cases h32:32<n
 ·have HR:H0 (Bh l=20):=j6 (by unfold Bh;rw[if_pos (by rw[<-E1.o];exact h32)]);go_enter func154,ntmps154;go_wp2;go_ret;exact⟨(by rw[HR.o];rfl),Ext.refl w⟩
 have HR:H0 (Bh l=Du l):=j6 (by unfold Bh;rw[if_neg (by rw[<-E1.o];exact h32)]);go_enter func154,ntmps154;go_wp2
 go_loopw [11] (λv wr=>∃i:Nat,i<=n/\v=.int .i64 i/\H0 (Du (l.drop i)=Du l)/\Ext w wr) (λv _=>n-(intOf v).toNat)
 case atStart=>exact⟨0,AG _,rfl,j6 rfl,Ext.refl _⟩
 case round =>
  obtain⟨i,hi,rfl,hr,er⟩:=hrel;have m:=er.size;by_cases hlt:i<n
  ·have a:i<l.length:=by rw[<-E1.o];exact hlt
   obtain⟨a1,rfl,p0,p1,p2,p3⟩:=(H1.o.ext er).at a;have f:=HT.o.at a;have g:=j6 (Rt a);have⟨d,hd⟩:=tz (l.getD i Dat.zero);rw[hd]at p0 p1 p2 p3 f g;clear a hd;have⟨v,hv⟩:=tz d.check;have HS:H0 (Du l=if v=0 then Du (l.drop (i+1)) else v):=j6 (by rw[<-hr.o,g.o,hv]);clear g hr;obtain⟨ka,ba,na,sa⟩:=d;simp only at p0 p1 p2 p3 f;replace hv:=j6 hv;have GW:=j6 (G.ext (er.alloc (.cells #[.int .u8 ka,.bool ba,.int .i64 na,.string sa] 204)));by_cases hv0:v=0
   ·subst hv0;go_wp2_with (go_at_call 211;refine(Vk _ _ _ _ _ hv f GW.o).mono ?_;rintro e w1 ⟨rfl,x1⟩)
    go_roundw
    case rel=>exact⟨i+1,by omega,by go_num,j6 (by rw[HS.o];simp),(er.alloc _).trans x1⟩
    case measure=>simp[intOf];omega
   ·have z:(v != 0)=true:=by simpa using hv0
    replace hv0:=j6 hv0;go_wp2_with (go_at_call 211;refine(Vk _ _ _ _ _ hv f GW.o).mono ?_;rintro e w1 ⟨rfl,x1⟩)
    go_ret;exact⟨(by rw[HR.o,HS.o,if_neg hv0.o];rfl),(er.alloc _).trans x1⟩
  ·obtain rfl:i=n:=by omega
   have h:H0 (Du l=0):=j6 (by rw[<-hr.o,CV (by rw[<-E1.o];exact AD _)];rfl);clear hr;go_wp2;go_ret;exact⟨(by rw[HR.o,h.o];rfl),er⟩
def InD(d:Dat):Prop := -9223372036854775808<=d.n/\d.n<=9223372036854775807
def Ns(l:List Dat):Prop:=∀d∈l, -9223372036854775808<=d.n/\d.n<=9223372036854775807
def Ns.at{l:List Dat}(h:Ns l){i:Nat}(hi:i<l.length) : -9223372036854775808<=(l.getD i Dat.zero).n/\(l.getD i Dat.zero).n<=9223372036854775807:=by
 rw[AB,AC hi];exact h _ (BR hi)
def Mq{d:Dat}(h:d.check=0):d.s.size<=1000:=by
 unfold Dat.check Ib at h
 repeat' split at h
 all_goals first|omega|exact absurd h (by decide)
def vE{d:Dat}(h:d.s.size<=1000):(Li d).length<=2100:=by
 unfold Li
 repeat' split
 all_goals first|(simp[be8];done)|skip
 have h1:=Nz d.s.data.toList;have h2:d.s.data.toList.length=d.s.size:=by simp
 rw[AJ,AA];simp only[AJ,CB];omega
def Tu:∀l:List Dat,(∀d∈l,d.s.size<=1000)->(Ch l).length<=2100*l.length
 | [],_=>AD _
 | d::l,h=>by
  have h1:=vE (h d (BC ..));have h2:=Tu l (λx hx=>h x (BM _ hx));unfold Ch at h2 ⊢;rw[BQ,AA,AJ];omega
def qA{l:List Dat}(h:i<l.length):Ch (l.take (i+1))=Ch (l.take i)++Li (l.getD i Dat.zero):=by
 unfold Ch;rw[CC h,DF,AB,AC h];simp
def yV(k n:Int)(b:Bool)(s:ByteArray)(A:Option Addr)(m c B:Nat)(xs r:List UInt8)(w:World)(hr:H0 (xs++Li ⟨k,b,n,s⟩=r))(hn : -9223372036854775808<=n/\n<=9223372036854775807)(hs:s.size<=1000)(h:Ho w B A m c xs)(hm:m<=100000000000000) :
  C3 224 #[.slice A m c,.agg #[.int .u8 k,.bool b,.int .i64 n,.string s]] w (Kr w B r):=hr.o▸yX A m c B xs w ⟨k,b,n,s⟩ hn (by show s.size<=_;omega) h hm
def zN(A:Option Addr)(c n:Nat)(l:List Dat)(w:World)(e1:n=l.length)(h1:Rw w A c l)(hi:Ns l)(hk:Bh l=0) :
  C3 186 #[.slice A n c] w (Kr w w.heap.size (Ch l)):=by
 have⟨r,m⟩:=(Nj l).1 hk;have h:∀d∈l,d.s.size<=1000:=λd hd=>Mq (m d hd);have E1:=j6 e1;have t:n<=32:=by omega
 have H1:=j6 h1;have HI:=j6 hi;have HZ:=j6 h;clear e1 h1 hi hk r m h;go_enter func186,ntmps186;go_wp2
 go_loopw [3,8] (λu v wr=>∃(i n0 c0:Nat) (A0:Option Addr),i<=n/\v=.int .i64 i/\u=.slice A0 n0 c0/\H0 (Ho wr w.heap.size A0 n0 c0 (Ch (l.take i)))/\Ext w wr) (λ_ v _=>n-(intOf v).toNat)
 case atStart=>exact⟨0,0,0,none,AG _,rfl,rfl,j6 (Ho.nil w (AD _)),Ext.refl w⟩
 case round =>
  obtain⟨i,n0,c0,A0,hi,rfl,rfl,O0,er⟩:=hrel;have h:=er.size;by_cases hlt:i<n
  ·have a:i<l.length:=by rw[<-E1.o];exact hlt
   have L0:n0<=70000:=by
    have a1:=O0.o.len;have a2:=Tu (l.take i) (λd hd=>HZ.o d (CK hd));have a3:(l.take i).length<=i:=List.length_take_le _ _;omega
   obtain⟨a1,rfl,p0,p1,p2,p3⟩:=(H1.o.ext er).at a;have f:=HI.o.at a;have g:(l.getD i Dat.zero).s.size<=1000:=by
    rw[AB,AC a];exact HZ.o _ (BR a)
   have j:=j6 (qA a);have⟨d,hd⟩:=tz (l.getD i Dat.zero);rw[hd]at p0 p1 p2 p3 f g j;clear a hd;obtain⟨ka,ba,na,sa⟩:=d;simp only at p0 p1 p2 p3 f g;replace f:=j6 f;go_wp2_with (go_at_call 224;refine(yV _ _ _ _ A0 n0 c0 w.heap.size _ _ _ (j6 j.o.symm) f.o g (O0.o.alloc _) (by omega)).mono ?_;rintro e w1 ⟨A1,n1,c1,rfl,o1,b1⟩;replace o1:=j6 o1)
   go_roundw
   case rel=>exact⟨i+1,n1,c1,A1,by omega,by go_num,rfl,o1,Below.trans (er.alloc _) b1⟩
   case measure=>simp[intOf];omega
  ·obtain rfl:i=n:=by omega
   have HT:H0 (l.take i=l):=j6 (AW (by rw[<-E1.o];exact AD _));go_wp2;go_ret;exact⟨A0,n0,c0,rfl,by have:=O0.o;rw[HT.o]at this;exact this,er⟩
def Ba:List Dat->List Dat->Int
 | [],[]=>0
 | [],_::_ => -1
 | _::_,[]=>1
 | a::l,b::m=>if Dk a b=0 then Ba l m else Dk a b
def Yn{l m:List Dat}(h1:i<l.length)(h2:i<m.length):Ba (l.drop i) (m.drop i)=if Dk (l.getD i Dat.zero) (m.getD i Dat.zero)=0 then Ba (l.drop (i+1)) (m.drop (i+1)) else Dk (l.getD i Dat.zero) (m.getD i Dat.zero):=by
 rw[BY h1,BY h2,AB,AB,AC h1,AC h2];rfl
def eD{l m:List Dat}(h:l.length<=i):Ba (l.drop i) (m.drop i)=if i<m.length then -1 else 0:=by
 rw[CV h];by_cases h2:i<m.length
 ·rw[if_pos h2,BY h2];rfl
 ·rw[if_neg h2,CV (by omega)];rfl
def Ym{l m:List Dat}(h1:i<l.length)(h2:m.length<=i):Ba (l.drop i) (m.drop i)=1:=by
 rw[CV h2,BY h1];rfl
def eE{v:Int}(ka na kb nb:Int)(ba bb:Bool)(sa sb:ByteArray)(w:World)(h:H0 (Dk ⟨ka,ba,na,sa⟩ ⟨kb,bb,nb,sb⟩=v)) :
  C3 218 #[.agg #[.int .u8 ka,.bool ba,.int .i64 na,.string sa],.agg #[.int .u8 kb,.bool bb,.int .i64 nb,.string sb]] w λe w'=>e=.returned (.int .i64 v)/\Ext w w':=h.o▸xD ⟨ka,ba,na,sa⟩ ⟨kb,bb,nb,sb⟩ w
def Sc(A1 A2:Option Addr)(c1 c2 n1 n2:Nat)(l m:List Dat)(w:World)(e1:n1=l.length)(e2:n2=m.length)(h1:Rw w A1 c1 l)(h2:Rw w A2 c2 m) :
  C3 217 #[.slice A1 n1 c1,.slice A2 n2 c2,.func (.func 218) #[] #[]] w λe w'=>e=.returned (.int .i64 (Ba l m))/\Ext w w':=by
 have E1:=j6 e1;have E2:=j6 e2;have c:=h1.le;have f:=h2.le;rw[<-e1]at c;rw[<-e2]at f;have H1:=j6 h1;have H2:=j6 h2;clear e1 e2 h1 h2;go_enter func217,ntmps217;go_wp2
 go_loopw [13] (λv wr=>∃i:Nat,i<=n1/\v=.int .i64 i/\H0 (i<=m.length/\Ba (l.drop i) (m.drop i)=Ba l m)/\Ext w wr) (λv _=>n1-(intOf v).toNat)
 case atStart=>exact⟨0,AG _,rfl,j6 ⟨AG _,rfl⟩,Ext.refl _⟩
 case round =>
  obtain⟨i,hi,rfl,hr,er⟩:=hrel;have g:=er.size;by_cases hlt:i<n1
  ·obtain⟨a1,rfl,p0,p1,p2,p3⟩:=(H1.o.ext er).at (show i<l.length by rw[<-E1.o];exact hlt);have⟨d,hd⟩:=tz (l.getD i Dat.zero);rw[hd]at p0 p1 p2 p3;by_cases hlt2:i<n2
   ·obtain⟨a2,rfl,q0,q1,q2,q3⟩:=(H2.o.ext er).at (show i<m.length by rw[<-E2.o];exact hlt2);have⟨d2,a⟩:=tz (m.getD i Dat.zero);rw[a]at q0 q1 q2 q3;have⟨v,hv⟩:=tz (Dk d d2);have HS:H0 (Ba l m=if v=0 then Ba (l.drop (i+1)) (m.drop (i+1)) else v):=j6 (by rw[<-hr.o.2,Yn (by rw[<-E1.o];exact hlt) (by rw[<-E2.o];exact hlt2),hd,a,hv]);have HB:H0 (i+1<=m.length):=j6 (by rw[<-E2.o];exact hlt2);clear hd a hr;obtain⟨ka,ba,na,sa⟩:=d;obtain⟨kb,bb,nb,sb⟩:=d2;simp only at p0 p1 p2 p3 q0 q1 q2 q3;replace hv:=j6 hv;have r0:=((Ext.refl wr).alloc (.cells #[.int .u8 ka,.bool ba,.int .i64 na,.string sa] 204)).cell q0;have r1:=((Ext.refl wr).alloc (.cells #[.int .u8 ka,.bool ba,.int .i64 na,.string sa] 204)).cell q1;have r2:=((Ext.refl wr).alloc (.cells #[.int .u8 ka,.bool ba,.int .i64 na,.string sa] 204)).cell q2;have r3:=((Ext.refl wr).alloc (.cells #[.int .u8 ka,.bool ba,.int .i64 na,.string sa] 204)).cell q3;clear q0 q1 q2 q3;by_cases hv0:v=0
    ·subst hv0;go_wp2_with (go_at_call 218;refine(eE _ _ _ _ _ _ _ _ _ hv).mono ?_;rintro e w1 ⟨rfl,x1⟩)
     go_roundw
     case rel=>exact⟨i+1,by omega,by go_num,j6 ⟨HB.o,by rw[HS.o];simp⟩,((er.alloc _).alloc _).trans x1⟩
     case measure=>simp[intOf];omega
    ·have z:(v != 0)=true:=by simpa using hv0
     replace hv0:=j6 hv0;go_wp2_with (go_at_call 218;refine(eE _ _ _ _ _ _ _ _ _ hv).mono ?_;rintro e w1 ⟨rfl,x1⟩)
     go_ret;exact⟨(by rw[HS.o,if_neg hv0.o];rfl),((er.alloc _).alloc _).trans x1⟩
   ·have HS:H0 (Ba l m=1):=j6 (by rw[<-hr.o.2];exact Ym (by rw[<-E1.o];exact hlt) (by rw[<-E2.o];omega));clear hr hd;go_wp2;go_ret;exact⟨(by rw[HS.o];rfl),er.alloc _⟩
  ·have HS:H0 (Ba l m=if i<m.length then -1 else 0):=j6 (by rw[<-hr.o.2];exact eD (by rw[<-E1.o];omega));obtain rfl:i=n1:=by omega
   by_cases h2:i<n2
   ·have HT:H0 (Ba l m = -1):=j6 (by rw[HS.o,if_pos (by rw[<-E2.o];exact h2)]);clear HS hr;go_wp2;go_ret;exact⟨(by rw[HT.o];rfl),er⟩
   ·have HT:H0 (Ba l m=0):=j6 (by rw[HS.o,if_neg (by rw[<-E2.o];exact h2)]);clear HS hr;go_wp2;go_ret;exact⟨(by rw[HT.o];rfl),er⟩
def Gz(A1 A2:Option Addr)(c1 c2 n1 n2:Nat)(l m:List Dat)(w:World)(e1:n1=l.length)(e2:n2=m.length)(h1:Rw w A1 c1 l)(h2:Rw w A2 c2 m) :
  C3 164 #[.slice A1 n1 c1,.slice A2 n2 c2] w λe w'=>e=.returned (.int .i64 (Ba l m))/\Ext w w':=by
 have H1:=j6 h1;have H2:=j6 h2;have E1:=j6 e1;have E2:=j6 e2;clear h1 h2 e1 e2;go_enter func164,ntmps164;go_wp2_with fail
 refine(Sc A1 A2 c1 c2 n1 n2 l m w E1.o E2.o H1.o H2.o).mono ?_;rintro e w1 ⟨rfl,x1⟩;go_wp2;go_ret;exact⟨rfl,x1⟩
def Rk:∀x:List UInt8,Op.bytesLess x x=false
 | []=>rfl
 | a::x=>by simp[Op.bytesLess,Rk x]
def Oi:∀x y:List UInt8,Op.bytesLess x y=true->Op.bytesLess y x=false
 | [],[],h=>by simp[Op.bytesLess]at h
 | [],_::_,_=>by simp[Op.bytesLess]
 | _::_,[],h=>by simp[Op.bytesLess]at h
 | a::x,b::y,h=>by
  simp only[Op.bytesLess,Bool.or_eq_true,decide_eq_true_eq,Bool.and_eq_true,beq_iff_eq]at h;rcases h with h|⟨rfl,h⟩
  ·have h1:¬b<a:=λh2=>by rw[EV]at h h2;omega
   have h2:¬b=a:=λe=>by subst e;rw[EV]at h;omega
   simp[Op.bytesLess,h1,h2]
  ·simp[Op.bytesLess,Oi x y h]
def Kx:∀x y:List UInt8,Op.bytesLess x y=false->Op.bytesLess y x=false->x=y
 | [],[],_,_=>rfl
 | [],_::_,h,_=>by simp[Op.bytesLess]at h
 | _::_,[],_,h=>by simp[Op.bytesLess]at h
 | a::x,b::y,h,k=>by
  simp only[Op.bytesLess,Bool.or_eq_false_iff,decide_eq_false_iff_not,Bool.and_eq_false_iff,beq_eq_false_iff_ne]at h k;have e:a=b:=by
   apply GQ.1;have h1:=h.1;have k1:=k.1;rw[EV]at h1 k1;omega
  subst e;rw[Kx x y (by simpa using h.2) (by simpa using k.2)]
def Vb:∀x y z:List UInt8,Op.bytesLess x y=true->Op.bytesLess y z=true->Op.bytesLess x z=true
 | _,_,[],_,k=>by simp[Op.bytesLess]at k
 | [],_,_::_,_,_=>by simp[Op.bytesLess]
 | _::_,[],_::_,h,_=>by simp[Op.bytesLess]at h
 | a::x,b::y,c::z,h,k=>by
  simp only[Op.bytesLess,Bool.or_eq_true,decide_eq_true_eq,Bool.and_eq_true,beq_iff_eq]at h k ⊢;rcases h with h|⟨rfl,h⟩<;>rcases k with k|⟨rfl,k⟩
  ·left;rw[EV]at *;omega
  ·exact Or.inl h
  ·exact Or.inl k
  ·exact Or.inr ⟨rfl,Vb x y z h k⟩
def My(x y:ByteArray):Ob x y=if Op.bytesLess x.toList y.toList then -1 else if Op.bytesLess y.toList x.toList then 1 else 0:=by
 unfold Ob;cases h1:Op.bytesLess x.toList y.toList
 ·cases h2:Op.bytesLess y.toList x.toList
  ·simp[Kx _ _ h1 h2]
  ·have:¬x.toList=y.toList:=λe=>by rw[e,Rk]at h2;cases h2
   simp[this]
 ·rfl
def xL(x y:ByteArray):Ob x y = -Ob y x:=by
 rw[My,My];cases h1:Op.bytesLess x.toList y.toList
 ·cases h2:Op.bytesLess y.toList x.toList<;>simp
 ·simp[Oi _ _ h1]
def kV{x y z:ByteArray}(h:Ob x y<=0)(k:Ob y z<=0):Ob x z<=0:=by
 rw[My]at *;by_cases h1:Op.bytesLess x.toList z.toList=true
 ·simp[h1]
 ·by_cases h2:Op.bytesLess z.toList x.toList=true
  ·exfalso;by_cases a1:Op.bytesLess x.toList y.toList=true
   ·have a2:=Vb _ _ _ h2 a1;have a3:=Oi _ _ a2;simp[a3,a2]at k
   ·by_cases b1:Op.bytesLess y.toList x.toList=true
    ·simp[a1,b1]at h
    ·have e:=Kx _ _ (by simpa using a1) (by simpa using b1);rw[<-e]at k;simp[h1,h2]at k
  ·simp[h1,h2]
def Uh(x y:Int):Fg x y = -Fg y x:=by
 rcases DN x y with h|h|h
 ·rw[Fy h,Ik h]
 ·subst h;rw[Iv];rfl
 ·rw[Ik h,Fy h];rfl
def Sn:Fg x y<=0↔x<=y:=by
 rcases DN x y with h|h|h
 ·rw[Fy h];omega
 ·subst h;rw[Iv];omega
 ·rw[Ik h];omega
def rB{x y:ByteArray}(h:Ob x y=0):x=y:=by
 rw[My]at h;by_cases h1:Op.bytesLess x.toList y.toList=true
 ·simp[h1]at h
 ·by_cases h2:Op.bytesLess y.toList x.toList=true
  ·simp[h1,h2]at h
  ·have e:=Kx _ _ (by simpa using h1) (by simpa using h2);rw[FY,FY]at e;obtain⟨⟨x⟩⟩:=x;obtain⟨⟨y⟩⟩:=y;simp at e;rw[e]
def Qp(h:Fg x y=0):x=y:=by
 rcases DN x y with k|k|k
 ·rw[Fy k]at h;omega
 ·exact k
 ·rw[Ik k]at h;omega
def Fb{a b:Dat}(h:¬a.k=b.k):Dk a b=Fg a.k b.k:=by unfold Dk;rw[if_neg h]
def Mz{a b:Dat}(h:a.k=b.k):Dk a b=if a.k=2 then Fg (Ll a.b) (Ll b.b) else if a.k=3 then Fg a.n b.n else if a.k=4 then Ob a.s b.s else 0:=by unfold Dk;rw[if_pos h]
def Mi(a b:Dat):Dk a b = -Dk b a:=by
 by_cases h:a.k=b.k
 ·rw[Mz h,Mz h.symm,<-h];by_cases h2:a.k=2
  ·rw[if_pos h2,if_pos h2];exact Uh _ _
  ·rw[if_neg h2,if_neg h2];by_cases h3:a.k=3
   ·rw[if_pos h3,if_pos h3];exact Uh _ _
   ·rw[if_neg h3,if_neg h3];by_cases h4:a.k=4
    ·rw[if_pos h4,if_pos h4];exact xL _ _
    ·rw[if_neg h4,if_neg h4];rfl
 ·rw[Fb h,Fb (Ne.symm h)];exact Uh _ _
def rC(a:Dat):Dk a a=0:=by have:=Mi a a;omega
def Vi(h:Fg x y<=0)(k:Fg y z<=0):Fg x z<=0:=by rw[Sn]at *;omega
def kW{a b c:Dat}(h:Dk a b<=0)(k:Dk b c<=0):Dk a c<=0:=by
 by_cases e1:a.k=b.k
 ·by_cases e2:b.k=c.k
  ·rw[Mz e1]at h;rw[Mz e2]at k;rw[Mz (e1.trans e2)];rw[<-e1]at k;by_cases h2:a.k=2
   ·rw[if_pos h2]at *;exact Vi h k
   ·rw[if_neg h2]at *;by_cases h3:a.k=3
    ·rw[if_pos h3]at *;exact Vi h k
    ·rw[if_neg h3]at *;by_cases h4:a.k=4
     ·rw[if_pos h4]at *;exact kV h k
     ·rw[if_neg h4];omega
  ·rw[Fb e2]at k;rw[Fb (by rw[e1];exact e2),e1];exact k
 ·by_cases e2:b.k=c.k
  ·rw[Fb e1]at h;rw[Fb (by rw[<-e2];exact e1),<-e2];exact h
  ·rw[Fb e1,Sn]at h;rw[Fb e2,Sn]at k;rw[Fb (by omega),Sn];omega
def Zw{k n:Int}{b:Bool}{s:ByteArray}(h:Ib k b n s=0):(k=1\/k=2\/k=3\/k=4)/\(k≠2->b=false)/\(k≠3->n=0)/\(k≠4->s=⟨#[]⟩):=by
 by_cases hf:(k=1\/k=2\/k=3\/k=4)/\(k≠2->b=false)/\(k≠3->n=0)/\(k≠4->s=⟨#[]⟩)
 ·exact hf
 ·rw[Aw hf]at h;cases h
def oV{a b:Bool}(h:Ll a=Ll b):a=b:=by cases a<;>cases b<;>first|rfl|(simp[Ll]at h)
def Yo{a b:Dat}(ha:a.check=0)(hb:b.check=0):Dk a b=0↔a=b:=by
 constructor
 ·intro h;by_cases e:a.k=b.k
  ·rw[Mz e]at h;obtain⟨ka,ba,na,sa⟩:=a;obtain⟨kb,bb,nb,sb⟩:=b;simp only at e h;subst e;have⟨hk,a1,a2,a3⟩:=Zw (show Ib ka ba na sa=0 from ha);have⟨_,b1,b2,b3⟩:=Zw (show Ib ka bb nb sb=0 from hb);have c:ba=bb:=by
    by_cases h2:ka=2
    ·rw[if_pos h2]at h;exact oV (Qp h)
    ·rw[a1 h2,b1 h2]
   have d:na=nb:=by
    by_cases h2:ka=3
    ·rw[if_neg (by omega),if_pos h2]at h;exact Qp h
    ·rw[a2 h2,b2 h2]
   have f:sa=sb:=by
    by_cases h2:ka=4
    ·rw[if_neg (by omega),if_neg (by omega),if_pos h2]at h;exact rB h
    ·rw[a3 h2,b3 h2]
   rw[c,d,f]
  ·rw[Fb e]at h;exact absurd (Qp h) e
 ·rintro rfl;exact rC a
def Mh:∀l m:List Dat,Ba l m = -Ba m l
 | [],[]=>rfl
 | [],_::_=>rfl
 | _::_,[]=>rfl
 | a::l,b::m=>by
  unfold Ba;have h:=Mi a b;by_cases q:Dk a b=0
  ·rw[if_pos q,if_pos (by omega),Mh l m]
  ·rw[if_neg q,if_neg (by omega),h]
def Ui:Bq Dk:=⟨Mi,λ_ _ _=>kW⟩
def Ky:∀l m n:List Dat,Ba l m<=0->Ba m n<=0->Ba l n<=0
 | [],_,[],_,_=>DX _
 | [],_,_::_,_,_=>by unfold Ba;decide
 | _::_,[],_,h,_=>by unfold Ba at h;exact absurd h (by decide)
 | _::_,_::_,[],_,k=>by unfold Ba at k;exact absurd k (by decide)
 | a::l,b::m,c::n,h,k=>by
  unfold Ba at h k ⊢;by_cases q1:Dk a b=0
  ·rw[if_pos q1]at h;by_cases q2:Dk b c=0
   ·rw[if_pos q2]at k;rw[if_pos (Ui.eq_trans q1 q2)];exact Ky l m n h k
   ·rw[if_neg q2]at k;have:=Ui.lt_of_le_lt (show Dk a b<=0 by omega) (show Dk b c<0 by omega);rw[if_neg (by omega)];omega
  ·rw[if_neg q1]at h;have hbc:Dk b c<=0:=by
    by_cases q2:Dk b c=0
    ·omega
    ·rw[if_neg q2]at k;exact k
   have:=Ui.lt_of_lt_le (show Dk a b<0 by omega) hbc;rw[if_neg (by omega)];omega
structure Ct where
 A:Option Addr
 c:Nat
 l:List Dat
 k:Int
def Ct.zero:Ct:=⟨none,0,[],0⟩
def cmpC(x y:Ct):Int:=Ba x.l y.l
def cmpC_tot:Bq cmpC:=⟨λx y=>Mh x.l y.l,λx y z=>Ky x.l y.l z.l⟩
def ctC(x:Ct):List Value:=[.slice x.A x.l.length x.c,.int .i64 x.k]
def Az(L:List Ct):List Value:=L.flatMap ctC
def Ue(L:List Ct):(Az L).length=L.length*2:=by
 unfold Az;induction L with
 | nil=>rfl
 | cons d l ih=>rw[BQ,AA,ih,AJ,show(ctC d).length=2 from rfl];omega
def Hk:∀(L:List Ct) (i j:Nat),i<L.length->j<2->(Az L)[i*2+j]?=(ctC (L.getD i Ct.zero))[j]?
 | [],i,j,h,_=>absurd h (DR _)
 | d::l,0,j,_,hj=>by
  unfold Az;rw[BQ,GC,BV,BS (by rw[show(ctC d).length=2 from rfl];exact hj)];rfl
 | d::l,i+1,j,h,hj=>by
  unfold Az;rw[BQ,BF (by rw[show(ctC d).length=2 from rfl];omega),show(i+1)*2+j-(ctC d).length=i*2+j by rw[show(ctC d).length=2 from rfl];omega];exact Hk l i j (ES h) hj
def Fo(L M:List Ct):Az (L++M)=Az L++Az M:=DF
def Po:∀(L:List Ct) (i:Nat) (x:Ct),((Az L).set (i*2) (.slice x.A x.l.length x.c)).set (i*2+1) (.int .i64 x.k)=Az (L.set i x)
 | [],i,x=>rfl
 | d::l,0,x=>rfl
 | d::l,i+1,x=>by
  have ih:=Po l i x;show((ctC d++Az l).set ((i+1)*2) _).set ((i+1)*2+1) _=ctC d++Az (l.set i x);rw[<-ih,CL _ _ (by show 2<=_;omega),CL _ _ (by show 2<=_;omega),show(i+1)*2-(ctC d).length=i*2 by show _-2=_;omega,show(i+1)*2+1-(ctC d).length=i*2+1 by show _-2=_;omega]
def Ed(L:List Ct):∀u∈Az L,u.oneCell'=true:=by
 intro u hu;have⟨d,_,h⟩:=DC.1 hu;simp only[ctC,AY,DA,or_false]at h;rcases h with rfl|rfl<;>rfl
def Rws(w:World)(g:Nat)(L:List Ct):Prop:=∀x∈L,Rw w x.A x.c x.l/\∀ad,x.A=some ad->ad.block≠g
def Arr(w:World)(B g c:Nat)(L:List Ct):Prop:=Own w B 154 2 (some ⟨g,0,none⟩) L.length c (Az L)/\0<c
section
variable{w w':World}{B g c:Nat}{L:List Ct}
def Arr.ext(h:Arr w B g c L)(x:Ext w w'):Arr w' B g c L:=⟨h.1.ext x,h.2⟩
def Rws.ext(h:Rws w g L)(x:Ext w w'):Rws w' g L:=λy hy=>⟨(h y hy).1.ext x,(h y hy).2⟩
def Rw.upd{l:List Dat}(h:Rw w A c l)(hx:w.grownBy w' (some g))(ha:∀ad,A=some ad->ad.block≠g):Rw w' A c l :=
 ⟨h.1,h.2.1,h.2.2.1,h.2.2.2.1,λhn=>by
  have⟨ad,e,hc⟩:=h.2.2.2.2 hn;exact⟨ad,e,λj u hu=>hx.cell (hc j u hu) (by rw[Ep];intro q;injection q with q;exact ha ad e q)⟩⟩
def Rws.upd(h:Rws w g L)(hx:w.grownBy w' (some g)):Rws w' g L:=λy hy=>⟨(h y hy).1.upd hx (h y hy).2,(h y hy).2⟩
def Rws.sub{M:List Ct}(h:Rws w g L)(hs:∀x∈M,x∈L):Rws w g M:=λx hx=>h x (hs x hx)
def Arr.le(h:Arr w B g c L):L.length<=9223372036854775807:=by have:=h.1.le;omega
def Arr.at(h:Arr w B g c L){i:Nat}(hi:i<L.length):w.cell? ⟨g,i*2,none⟩=some (.slice (L.getD i Ct.zero).A (L.getD i Ct.zero).l.length (L.getD i Ct.zero).c)/\w.cell? ⟨g,i*2+1,none⟩=some (.int .i64 (L.getD i Ct.zero).k):=by
 have⟨g',e,_,_,_,hc,_⟩:=h.1.form (by omega);cases e;exact⟨hc _ _ (by rw[<-EH (i*2),Hk L i 0 hi (by omega)];rfl),hc _ _ (by rw[Hk L i 1 hi (by omega)];rfl)⟩
def Arr.free(h:Arr w B g c L)(j:Nat):w.frozen? ⟨g,j,none⟩=false:=by
 rcases h.1.2 with ⟨h1,h2⟩|⟨g',cur,e,hb,hg,_⟩
 ·have:=h.2;omega
 ·cases e;simp[World.frozen?,hg]
def Arr.set(h:Arr w B g c L)(i:Nat)(x:Ct):Arr ((w.setCell ⟨g,i*2,none⟩ (.slice x.A x.l.length x.c)).setCell ⟨g,i*2+1,none⟩ (.int .i64 x.k)) B g c (L.set i x):=by
 have:=(h.1.put (i*2) (.slice x.A x.l.length x.c)).put (i*2+1) (.int .i64 x.k);rw[Po]at this;refine⟨?_,h.2⟩;rw[ED];exact this
def Cn(w:World)(g i:Nat)(u:Value):w.grownBy (w.setCell ⟨g,i,none⟩ u) (some g):=
 ⟨rfl,rfl,rfl,by rw[EA];exact AD _,λk _ hk=>GB w ⟨g,i,none⟩ u k (λe=>hk (by rw[e]))⟩
def Aq(x:Ext w w')(g:Nat):w.grownBy w' (some g):=⟨x.os,x.tape,x.output,x.size,λk hk _=>x.block k hk⟩
end
def lexB:List UInt8->List UInt8->Int
 | [],[]=>0
 | [],_::_ => -1
 | _::_,[]=>1
 | a::x,b::y=>if a.toNat<b.toNat then -1 else if b.toNat<a.toNat then 1 else lexB x y
def Ir:∀p s t:List UInt8,lexB (p++s) (p++t)=lexB s t
 | [],_,_=>rfl
 | a::p,s,t=>by
  show(if a.toNat<a.toNat then -1 else if a.toNat<a.toNat then 1 else lexB (p++s) (p++t))=_;rw[if_neg (by omega),if_neg (by omega)];exact Ir p s t
def Dl{a b:UInt8}(x y:List UInt8)(h:a.toNat<b.toNat):lexB (a::x) (b::y) = -1:=if_pos h
def Dm{a b:UInt8}(x y:List UInt8)(h:b.toNat<a.toNat):lexB (a::x) (b::y)=1:=by
 show(if a.toNat<b.toNat then -1 else if b.toNat<a.toNat then 1 else lexB x y)=1;rw[if_neg (by omega),if_pos h]
def Jr(a:UInt8)(x y:List UInt8):lexB (a::x) (a::y)=lexB x y:=Ir [a] x y
def pV(p:List UInt8):lexB p p=0:=by
 have:=Ir p [] []
 rwa [AV]at this
def be:Nat->Nat->List UInt8
 | 0,_=>[]
 | k+1,m=>UInt8.ofNat (m / 256 ^ k)::be k (m % 256 ^ k)
def tC(m:Nat)(h:m<18446744073709551616):be8 m=be 8 m:=by
 have q:∀a b:Nat,a % 256=b % 256->UInt8.ofNat a=UInt8.ofNat b:=λa b e=>GQ.1 (by rw[DI,DI];exact e);unfold be8;simp only[be];rw[show(2:Nat) ^ 56=72057594037927936 by decide,show(2:Nat) ^ 48=281474976710656 by decide,show(2:Nat) ^ 40=1099511627776 by decide,show(2:Nat) ^ 32=4294967296 by decide,show(2:Nat) ^ 24=16777216 by decide,show(2:Nat) ^ 16=65536 by decide,show(2:Nat) ^ 8=256 by decide];simp only[Nat.pow_zero,Nat.div_one];refine congr (congrArg _ (q _ _ (by omega))) (congr (congrArg _ (q _ _ (by omega))) (congr (congrArg _ (q _ _ (by omega))) (congr (congrArg _ (q _ _ (by omega))) (congr (congrArg _ (q _ _ (by omega))) (congr (congrArg _ (q _ _ (by omega))) (congr (congrArg _ (q _ _ (by omega))) (congr (congrArg _ (q _ _ (by omega))) rfl)))))))
def a1l:∀(k a b:Nat) (s t:List UInt8),a<256 ^ k->b<256 ^ k->a<b->lexB (be k a++s) (be k b++t) = -1/\lexB (be k b++t) (be k a++s)=1
 | 0,a,b,_,_,ha,hb,h=>by rw[Nat.pow_zero]at ha hb;omega
 | k+1,a,b,s,t,ha,hb,h=>by
  have hp:0<256 ^ k:=Nat.pow_pos (by decide);rw[Nat.pow_succ]at ha hb;have qa:a / 256 ^ k<256:=Nat.div_lt_of_lt_mul ha;have qb:b / 256 ^ k<256:=Nat.div_lt_of_lt_mul hb;have tx:∀x:Nat,x<256->(UInt8.ofNat x).toNat=x:=λx hx=>by rw[DI];omega
  have ta:=tx _ qa;have tb:=tx _ qb;unfold be;rw[CI,CI];rcases GH (a / 256 ^ k) (b / 256 ^ k)with q|q|q
  ·exact⟨Dl _ _ (by rw[ta,tb];exact q),Dm _ _ (by rw[ta,tb];exact q)⟩
  ·rw[q,Jr,Jr];refine a1l k _ _ s t (Nat.mod_lt _ hp) (Nat.mod_lt _ hp) ?_;have e1:=Nat.div_add_mod a (256 ^ k);have e2:=Nat.div_add_mod b (256 ^ k);rw[q]at e1;omega
  ·have:b<=a:=by
    rcases DO a b with h1|h1
    ·have:=Nat.div_le_div_right (c:=256 ^ k) (Nat.le_of_lt h1);omega
    ·exact h1
   omega
def Yh:Ig 0=[0,255]:=rfl
def Qn{c:UInt8}(h:¬c=0):Ig c=[c]:=if_neg h
def Ng{c:UInt8}(h:¬c=0):0<c.toNat:=by
 rcases CS c.toNat with q|q
 ·exact absurd (GQ.1 q) h
 ·exact q
def sC:∀(x y:List UInt8) (s t:List UInt8),Op.bytesLess x y=true->lexB (x.flatMap Ig++(0::1::s)) (y.flatMap Ig++(0::1::t)) = -1/\lexB (y.flatMap Ig++(0::1::t)) (x.flatMap Ig++(0::1::s))=1
 | [],[],_,_,h=>by simp[Op.bytesLess]at h
 | _::_,[],_,_,h=>by simp[Op.bytesLess]at h
 | [],c::y,s,t,_=>by
  rw[BQ];by_cases hc:c=0
  ·subst hc;rw[Yh];show lexB (0::1::s) (0::255::(y.flatMap Ig++0::1::t)) = -1/\lexB (0::255::(y.flatMap Ig++0::1::t)) (0::1::s)=1;rw[Jr,Jr];exact⟨Dl _ _ (by decide),Dm _ _ (by decide)⟩
  ·rw[Qn hc];exact⟨Dl _ _ (Ng hc),Dm _ _ (Ng hc)⟩
 | c::x,d::y,s,t,h=>by
  simp only[Op.bytesLess,Bool.or_eq_true,decide_eq_true_eq,Bool.and_eq_true,beq_iff_eq]at h;rw[BQ,BQ,AK,AK];rcases h with h|⟨rfl,h⟩
  ·have h':=EV.1 h;have hd:¬d=0:=λe=>by rw[e]at h';exact absurd h' (by simp)
   rw[Qn hd];by_cases hc:c=0
   ·subst hc;rw[Yh];exact⟨Dl _ _ (Ng hd),Dm _ _ (Ng hd)⟩
   ·rw[Qn hc];exact⟨Dl _ _ h',Dm _ _ h'⟩
  ·rw[Ir,Ir];exact sC x y s t h
def Ok{d:Dat}(h:d.check=0):(d.k=1\/d.k=2\/d.k=3\/d.k=4)/\(d.k≠2->d.b=false)/\(d.k≠3->d.n=0)/\(d.k≠4->d.s=⟨#[]⟩):=Zw h
def sK{a b:Dat}(ha:a.check=0)(hb:b.check=0)(ia:InD a)(ib:InD b)(h:Dk a b<0)(s t:List UInt8):lexB (Li a++s) (Li b++t) = -1/\lexB (Li b++t) (Li a++s)=1/\Dk a b = -1:=by
 have⟨ka,_⟩:=Ok ha;have⟨kb,_⟩:=Ok hb;obtain⟨k1,b1,n1,s1⟩:=a;obtain⟨k2,b2,n2,s2⟩:=b;simp only at ka kb;unfold InD at ia ib;simp only at ia ib;clear ha hb;unfold Dk at h ⊢;simp only at h ⊢;by_cases hk:k1=k2
 ·subst hk;rw[if_pos rfl]at h ⊢;rcases ka with rfl|rfl|rfl|rfl
  ·exact absurd h (by simp)
  ·cases b1<;>cases b2
   ·exact absurd h (by simp[Fg])
   ·exact⟨Dl _ _ (show(32:UInt8).toNat<(33:UInt8).toNat by decide),Dm _ _ (show(32:UInt8).toNat<(33:UInt8).toNat by decide),rfl⟩
   ·exact absurd h (by simp[Fg,Ll])
   ·exact absurd h (by simp[Fg])
  ·rw[if_neg (by decide),if_pos rfl]at h ⊢;have c:n1<n2:=by
    unfold Fg at h;split at h
    ·assumption
    ·split at h<;>exact absurd h (by decide)
   have e1:=tC (n1+9223372036854775808).toNat (by omega);have e2:=tC (n2+9223372036854775808).toNat (by omega);have:=a1l 8 (n1+9223372036854775808).toNat (n2+9223372036854775808).toNat s t (by rw[show(256:Nat) ^ 8=18446744073709551616 by decide];omega) (by rw[show(256:Nat) ^ 8=18446744073709551616 by decide];omega) (by omega);show lexB (48::be8 _++s) (48::be8 _++t) = -1/\lexB (48::be8 _++t) (48::be8 _++s)=1/\Fg n1 n2 = -1;rw[e1,e2,CI,CI,Jr,Jr];exact⟨this.1,this.2,Fy c⟩
  ·rw[if_neg (by decide),if_neg (by decide),if_pos rfl]at h ⊢;have c:Op.bytesLess s1.toList s2.toList=true:=by
    rw[My]at h;split at h
    ·assumption
    ·split at h<;>exact absurd h (by decide)
   have:=sC s1.data.toList s2.data.toList s t (by rw[FY,FY]at c;exact c);show lexB (64::(s1.data.toList.flatMap Ig++[0,1])++s) (64::(s2.data.toList.flatMap Ig++[0,1])++t) = -1/\lexB (64::(s2.data.toList.flatMap Ig++[0,1])++t) (64::(s1.data.toList.flatMap Ig++[0,1])++s)=1/\Ob s1 s2 = -1;rw[CI,CI,Jr,Jr,AK,AK];exact⟨this.1,this.2,by rw[My,if_pos c]⟩
 ·rw[if_neg hk]at h ⊢;have c:k1<k2:=by
   unfold Fg at h;split at h
   ·assumption
   ·split at h<;>exact absurd h (by decide)
  refine and_assoc.1 ⟨?_,Fy c⟩;rcases ka with rfl|rfl|rfl|rfl<;>rcases kb with rfl|rfl|rfl|rfl<;>first|exact absurd c (by decide)|skip
  ·cases b2
   ·exact⟨Dl _ _ (show(16:UInt8).toNat<(32:UInt8).toNat by decide),Dm _ _ (show(16:UInt8).toNat<(32:UInt8).toNat by decide)⟩
   ·exact⟨Dl _ _ (show(16:UInt8).toNat<(33:UInt8).toNat by decide),Dm _ _ (show(16:UInt8).toNat<(33:UInt8).toNat by decide)⟩
  ·exact⟨Dl _ _ (show(16:UInt8).toNat<(48:UInt8).toNat by decide),Dm _ _ (show(16:UInt8).toNat<(48:UInt8).toNat by decide)⟩
  ·exact⟨Dl _ _ (show(16:UInt8).toNat<(64:UInt8).toNat by decide),Dm _ _ (show(16:UInt8).toNat<(64:UInt8).toNat by decide)⟩
  ·cases b1
   ·exact⟨Dl _ _ (show(32:UInt8).toNat<(48:UInt8).toNat by decide),Dm _ _ (show(32:UInt8).toNat<(48:UInt8).toNat by decide)⟩
   ·exact⟨Dl _ _ (show(33:UInt8).toNat<(48:UInt8).toNat by decide),Dm _ _ (show(33:UInt8).toNat<(48:UInt8).toNat by decide)⟩
  ·cases b1
   ·exact⟨Dl _ _ (show(32:UInt8).toNat<(64:UInt8).toNat by decide),Dm _ _ (show(32:UInt8).toNat<(64:UInt8).toNat by decide)⟩
   ·exact⟨Dl _ _ (show(33:UInt8).toNat<(64:UInt8).toNat by decide),Dm _ _ (show(33:UInt8).toNat<(64:UInt8).toNat by decide)⟩
  ·exact⟨Dl _ _ (show(48:UInt8).toNat<(64:UInt8).toNat by decide),Dm _ _ (show(48:UInt8).toNat<(64:UInt8).toNat by decide)⟩
def sJ{d:Dat}(h:d.check=0):Li d≠[]:=by
 have⟨hk,_⟩:=Ok h;unfold Li;rcases hk with q|q|q|q<;>rw[q]<;>simp
def mH:∀l m:List Dat,(∀d∈l,d.check=0/\InD d)->(∀d∈m,d.check=0/\InD d)->lexB (Ch l) (Ch m)=Ba l m
 | [],[],_,_=>rfl
 | [],b::m,_,hm=>by
  unfold Ch;rw[BQ];have⟨c,x,e⟩:=List.exists_cons_of_ne_nil (sJ (hm b (BC ..)).1);rw[e];rfl
 | a::l,[],hl,_=>by
  unfold Ch;rw[BQ];have⟨c,x,e⟩:=List.exists_cons_of_ne_nil (sJ (hl a (BC ..)).1);rw[e];rfl
 | a::l,b::m,hl,hm=>by
  have ha:=hl a (BC ..);have hb:=hm b (BC ..);have ih:=mH l m (λd hd=>hl d (BM _ hd)) (λd hd=>hm d (BM _ hd));unfold Ch at ih ⊢;rw[BQ,BQ];unfold Ba;by_cases h:Dk a b=0
  ·rw[if_pos h];have e:a=b:=(Yo ha.1 hb.1).1 h;rw[e,Ir];exact ih
  ·rw[if_neg h];rcases Int.lt_or_gt_of_ne h with q|q
   ·have⟨h1,_,h3⟩:=sK ha.1 hb.1 ha.2 hb.2 q (l.flatMap Li) (m.flatMap Li);rw[h1,h3]
   ·have q':Dk b a<0:=by rw[Mi];omega
    have⟨_,h2,h3⟩:=sK hb.1 ha.1 hb.2 ha.2 q' (m.flatMap Li) (l.flatMap Li);rw[h2,Mi,h3];rfl
def Pj:∀l m:List Dat,(∀d∈l,d.check=0/\InD d)->(∀d∈m,d.check=0/\InD d)->Ba l m=0->l=m
 | [],[],_,_,_=>rfl
 | [],_::_,_,_,h=>absurd h (by unfold Ba;decide)
 | _::_,[],_,_,h=>absurd h (by unfold Ba;decide)
 | a::l,b::m,hl,hm,h=>by
  unfold Ba at h;by_cases q:Dk a b=0
  ·rw[if_pos q]at h;rw[(Yo (hl a (BC ..)).1 (hm b (BC ..)).1).1 q,Pj l m (λd hd=>hl d (BM _ hd)) (λd hd=>hm d (BM _ hd)) h]
  ·rw[if_neg q]at h;exact absurd h q
def zM{l m:List Dat}(hl:∀d∈l,d.check=0/\InD d)(hm:∀d∈m,d.check=0/\InD d)(h:Ch l=Ch m):l=m :=
 Pj l m hl hm (by rw[<-mH l m hl hm,h];exact pV _)
open Go.ChangeShapes Go.WideShapes Go.ChangeAt Go.RowKit Go.WideElems
instance:Inhabited Dat:=⟨Dat.zero⟩
section
variable{H:Type}{enc:TypeId×Value->H}{W:World}
def a1h{α:Type}{l:List α}(h:l.length=4):∃a b c d,l=[a,b,c,d]:=by
 match l,h with
 | [a,b,c,d],_=>exact⟨a,b,c,d,rfl⟩
def vK:prog.cellsOf 202=1:=by kernel_rfl
def vM:prog.cellsOf 4=1:=by kernel_rfl
def lW:prog.cellsOf 2=1:=by kernel_rfl
def lV:prog.cellsOf 9=1:=by kernel_rfl
def Tx:prog.cellsOf 204=4:=by kernel_rfl
def qY{sp:Nat->Bool}{held:Bool}{fuel:Nat}{cs:List Value}{y:DataW H×List MemPlace}(h:DataW.trod enc prog W 0 sp held fuel 204 cs=some y) :
  ∃d:Dat,cs=Nl d/\InD d/\d.s.size<=9223372036854775807/\(0<=d.k/\d.k<=255):=by
 have⟨y0,y1,y2,y3,n,_,hl,h0,h1,h2,h3⟩:=Go.Joins.trod_struct4 Tryz.underlying204 h;rw[Tx]at hl;obtain⟨c0,c1,c2,c3,rfl⟩:=a1h hl;have g0:DataW.trod enc prog W 0 sp held n 202 [c0]=some y0:=by
  have:DataW.trod enc prog W 0 sp held n 202 (([c0,c1,c2,c3].drop 0).take (prog.cellsOf 202))=some y0:=h0;rw[vK]at this;exact this
 have g1:DataW.trod enc prog W 0 sp held n 4 [c1]=some y1:=by
  have:DataW.trod enc prog W 0 sp held n 4 (([c0,c1,c2,c3].drop 1).take (prog.cellsOf 4))=some y1:=h1;rw[vM]at this;exact this
 have g2:DataW.trod enc prog W 0 sp held n 2 [c2]=some y2:=by
  have:DataW.trod enc prog W 0 sp held n 2 (([c0,c1,c2,c3].drop 2).take (prog.cellsOf 2))=some y2:=h2;rw[lW]at this;exact this
 have g3:DataW.trod enc prog W 0 sp held n 9 [c3]=some y3:=by
  have:DataW.trod enc prog W 0 sp held n 9 (([c0,c1,c2,c3].drop 3).take (prog.cellsOf 9))=some y3:=h3;rw[lV]at this;exact this
 have⟨k,e0,_,w0⟩:=DataW.trod_int Tryz.underlying202 g0;have⟨b,e1,_⟩:=DataW.trod_bool Tryz.underlying4 g1;have⟨m,e2,_,w2⟩:=DataW.trod_int Tryz.underlying2 g2;have⟨s,e3,_,w3⟩:=DataW.trod_string Tryz.underlying9 g3;obtain rfl:c0=.int .u8 k:=by simpa using e0
 obtain rfl:c1=.bool b:=by simpa using e1
 obtain rfl:c2=.int .i64 m:=by simpa using e2
 obtain rfl:c3=.string s:=by simpa using e3
 exact⟨⟨k,b,m,s⟩,rfl,Zz w2,w3,rS w0⟩
structure a3i (l:List Dat):Prop where
 txt:Nr l
 int:Ns l
 kind:∀d∈l,0<=d.k/\d.k<=255
def qV{fuel:Nat}{cs:List Value}{y:DataW H×List MemPlace}(h:DataW.trod enc prog W 0 (λ_=>true) true fuel 79 cs=some y) :
  ∃A c l,cs=[.slice A l.length c]/\Rw W A c l/\a3i l:=by
 rcases FJ Tryz.underlying79 h with ⟨hcs,_⟩|⟨a,n,c,m,fu,D,Pl,hcs,_,hnc,hcm,hm,_,hx⟩
 ·exact⟨none,0,[],hcs,Rw.nil W,⟨λd hd=>(nomatch hd),λd hd=>(nomatch hd),λd hd=>(nomatch hd)⟩⟩
 ·rw[Tx]at hx;have t:n<=m:=by rw[hm];split<;>omega
  have⟨F,hF⟩:=GX (α:=Dat) (n:=n) (p:=λi d=>(∀j,j<4->W.cell? (a.add (i*4+j))=(Nl d)[j]?)/\InD d/\d.s.size<=9223372036854775807/\(0<=d.k/\d.k<=255)) (λi hi=>by
   have⟨r,h1,h2⟩:=hx i (by omega);have⟨_,_,h3⟩:=GI h1;obtain⟨d,rfl,h4⟩:=qY h2;exact⟨d,λj hj=>by rw[<-Ji];exact h3 j hj,h4⟩)
  have f:((List.range n).map F).length=n:=by simp
  have g:∀d∈(List.range n).map F,InD d/\d.s.size<=9223372036854775807/\(0<=d.k/\d.k<=255):=λd hd=>by
   obtain⟨i,hi,rfl⟩:=AP.1 hd;exact(hF i (DW.1 hi)).2
  refine⟨some a,c,(List.range n).map F,by rw[f];exact hcs,⟨by rw[cV],by rw[f];exact hnc,hcm,(λh=>nomatch h),λ_=>⟨a,rfl,λj u hu=>?_⟩⟩,⟨λd hd=>(g d hd).2.1,λd hd=>(g d hd).1,λd hd=>(g d hd).2.2⟩⟩;have hj:j<n*4:=by
   rcases DO j (n*4)with q|q
   ·exact q
   ·rw[DL (by rw[cV,f];exact q)]at hu;cases hu
  have e:j=j / 4*4+j % 4:=by omega
  rw[e,Ks _ _ _ (by rw[f];omega) (by omega)]at hu;have e2:((List.range n).map F).getD (j / 4) Dat.zero=F (j / 4):=by
   rw[AB,CG,GT (by omega)];rfl
  rw[e2]at hu;rw[e,(hF (j / 4) (by omega)).1 (j % 4) (by omega)];exact hu
end
def wF(e1 e2:Int)(A1 A2:Option Addr)(n1 n2 c1 c2:Nat)(w:World)(hne:((n1:Int) != (n2:Int))=true) :
  C3 108 #[.agg #[.int .u64 e1,.slice A1 n1 c1],.agg #[.int .u64 e2,.slice A2 n2 c2]] w λe w'=>e=.returned (.bool false)/\Ext w w':=by
 go_enter func108,ntmps108;go_wp2;go_ret;exact⟨rfl,((Ext.refl w).alloc _).alloc _⟩
def wD(e1 e2:Int)(A1 A2:Option Addr)(n c1 c2:Nat)(w:World)(hlt:e2<e1) :
  C3 108 #[.agg #[.int .u64 e1,.slice A1 n c1],.agg #[.int .u64 e2,.slice A2 n c2]] w λe w'=>e=.returned (.bool false)/\Ext w w':=by
 have he:((n:Int) != (n:Int))=false:=by simp
 go_enter func108,ntmps108;go_wp2;go_ret;exact⟨rfl,((Ext.refl w).alloc _).alloc _⟩
def wC(e1 e2:Int)(A1 A2:Option Addr)(n c1 c2:Nat)(l1 l2:List Int)(w:World)(h1:Sl w 1 A1 n c1 (wds l1))(h2:Sl w 1 A2 n c2 (wds l2))(hle:e1<=e2) :
  C3 108 #[.agg #[.int .u64 e1,.slice A1 n c1],.agg #[.int .u64 e2,.slice A2 n c2]] w λe w'=>e=.returned (.bool (decide (∀k,k<n->l1.getD k 0<=l2.getD k 0)))/\Ext w w':=by
 have hm:=h1.le;have he:((n:Int) != (n:Int))=false:=by simp
 go_enter func108,ntmps108;go_wp2;have⟨w0,a⟩:=E9 ((w.alloc (Obj.cells #[Value.int IntKind.u64 e1,Value.slice A1 n c1] 26)).alloc (Obj.cells #[Value.int IntKind.u64 e2,Value.slice A2 n c2] 26));have e0:Ext w w0:=a▸((Ext.refl w).alloc _).alloc _;have b1:w0.cell? ⟨w.heap.size,1,none⟩=some (Value.slice A1 n c1):=by subst a;go_simp
 have b2:w0.cell? ⟨w.heap.size+1,1,none⟩=some (Value.slice A2 n c2):=by subst a;go_simp
 rw[<-a];clear a
 go_loopw [23] (λv wr=>∃k:Nat,k<=n/\v=.int .i64 k/\(∀j,j<k->l1.getD j 0<=l2.getD j 0)/\∃m,wr=w0.drewN m) (λv _=>n-(intOf v).toNat)
 case atStart=>exact⟨0,AG _,rfl,λj hj=>absurd hj (by omega),0,rfl⟩
 case round =>
  obtain⟨k,hk,rfl,c,m,rfl⟩:=hrel;replace c:=j6 c;by_cases hlt:k<n
  ·have⟨a1,d,g,_⟩:=(h1.ext e0).word hlt;have⟨a2,f,h,_⟩:=(h2.ext e0).word hlt;go_wp2;go_quiet (fail);go_wp2
   ·have hv:l2[k]?.getD 0<l1[k]?.getD 0:=by assumption
    go_ret;refine⟨Cm (Eq.symm (decide_eq_false λhh=>?_)),(e0.drewN _).drewN _⟩;have:=hh k hlt;simp only[AB]at this;omega
   ·have hv:l1[k]?.getD 0<=l2[k]?.getD 0:=by assumption
    go_roundw
    case rel =>
     refine⟨k+1,by omega,by go_num,λj hj=>?_,_,rfl⟩;by_cases hjk:j<k
     ·exact c.o j hjk
     ·obtain rfl:j=k:=by omega
      simpa only[AB] using hv
    case measure=>simp[intOf];omega
  ·go_wp2;go_ret;refine⟨Cm (Eq.symm (decide_eq_true λj hj=>c.o j (by omega))),e0.drewN _⟩
def mF(e1 e2:Int)(A1 A2:Option Addr)(n1 n2 c1 c2:Nat)(l1 l2:List Int)(w:World)(h1:Sl w 1 A1 n1 c1 (wds l1))(h2:Sl w 1 A2 n2 c2 (wds l2)) :
  C3 108 #[.agg #[.int .u64 e1,.slice A1 n1 c1],.agg #[.int .u64 e2,.slice A2 n2 c2]] w λe w'=>e=.returned (.bool (Jn e1 l1 e2 l2))/\Ext w w':=by
 have a:=h1.wlen;have c:=h2.wlen;by_cases hn:n1=n2
 ·subst hn;by_cases hlt:e2<e1
  ·have hf:Jn e1 l1 e2 l2=false:=decide_eq_false λhh=>by have:=hh.2.1;omega
   rw[hf];exact wD e1 e2 A1 A2 n1 c1 c2 w hlt
  ·refine(wC e1 e2 A1 A2 n1 c1 c2 l1 l2 w h1 h2 (by omega)).mono λe w' ⟨he,hx⟩=>⟨he.trans (Cm ?_),hx⟩;unfold Jn;rw[decide_eq_decide,a,c];exact⟨λh=>⟨rfl,by omega,h⟩,λh=>h.2.2⟩
 ·have hf:Jn e1 l1 e2 l2=false:=decide_eq_false λhh=>by have:=hh.1;omega
  rw[hf];exact wF e1 e2 A1 A2 n1 n2 c1 c2 w (by simp;omega)
end Go.Proofs.YtdgbkpoickbidaaGreatDoor
