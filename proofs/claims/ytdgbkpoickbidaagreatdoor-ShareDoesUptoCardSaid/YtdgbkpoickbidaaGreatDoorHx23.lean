/- ShareDoes: the walk. Conditions: each theorem states its own. -/
import Derived.Test.YtdgbkpoickbidaaGreatDoorHx22
set_option maxRecDepth 100000
set_option maxHeartbeats 64000000
open Go.RowKit Go.Proofs.Tryz
set_option linter.defProp false
namespace Go.Proofs.YtdgbkpoickbidaaGreatDoor
def a2b(A:Option Addr)(c n:Nat)(M:List Hop)(w:World)(G:Good w)(hn:H0 (n=M.length))(hM:H0 (Hin w A c M))(hI:H0 (∀x∈M,Oz x))(hb:H0 (∀x∈M,x.L.length<=1048576))(htx:H0 (∀x∈M,∀y∈x.L,∀d∈y.l,d.s.size<=10000000000000))(h1:H0 (Ou M=false)) :
  C3 10 #[.slice A n c] w λe w'=>e=.returned (.bool true)/\Ext w w':=by
 have HO:H0 (nB M):=j6 (zS h1.o);have n8:n<=300:=by
  have a:=HO.o.len;have b:=a2g M;rw[hn.o];omega
 have m1:=TI;go_enter func10,ntmps10;go_wp2_with (first
  | (go_at_call 68;clear m1;refine(Xy A c n M _ h1 hn hM hb).mono ?_;rintro r w1 ⟨rfl,x1⟩;have X1:=j6 x1;clear x1;have m2:=TI)
  | (go_at_call 70;clear m2;refine(lQ w _ (λ_=>False) X1 (j6 (λk hk=>hk.elim))).mono ?_;rintro r w2 ⟨gt,rfl,s2,x2⟩;have S2:=j6 s2;clear s2 x2;have m3:=TI)
  | (go_at_call 69;clear m3;refine(gB _ (G.ext S2.o.ext)).mono ?_;rintro r w3 ⟨rfl,x3⟩;have X3:=j6 x3;clear x3;have m4:=TI)
  | (go_at_call 77;clear m4;refine(oI w _ (j6 (S2.o.ext.trans X3.o))).mono ?_;rintro r w4 B;have R4:=j6 B;obtain⟨gr,t0,o8,p0,rfl,hx⟩:=B;clear hx)
  | fail)
 have⟨p7,t1,o9,p5,eg,r1,p1,s1,x4⟩:=R4.o;injection eg with eg;injection eg with eg;injection eg with eg;injection eg with eg;subst eg;have⟨gb,f1⟩:=E9 w4.heap.size;rw[<-f1];have d8:H0 (SdK w (w4.alloc (.cells #[.slice none 0 0,.slice none 0 0,.slice none 0 0,.slice none 0 0,.slice none 0 0,.slice none 0 0,.slice none 0 0,.slice none 0 0,.slice none 0 0,.slice none 0 0,.slice none 0 0,.slice none 0 0,.slice none 0 0,.slice none 0 0] 52)) gt gr gb 0 0 0 none 0 none 0):=j6 (by
  have z3:=X3.o.size;exact uG S2.o (X3.o.trans x4) r1 p1 (λk hk=>by have:=s1 k hk;omega) ((Ext.refl _).alloc _) f1 (by rw[f1];exact Bk.new _ _ _))
 clear R4 r1 p1 s1 x4 f1 S2 X1 X3
 go_loopg [6,7,8] n (λz s6 s7 u wr=>∃(i k hc oc:Nat) (hA oA:Option Addr),z=n-i/\i<=n/\s6=.slice hA k hc/\s7=.slice oA k oc/\u=.int .i64 i/\k<=i/\H0 (SdK w wr gt gr gb (310*i) k (Ce M i) hA hc oA oc))
 case atStart=>exact⟨0,0,0,0,none,none,rfl,AG _,rfl,rfl,rfl,AD _,by rw[bG];exact d8⟩
 case round =>
  clear d8;obtain⟨i,k,hc,oc,hA,oA,rfl,hi,rfl,rfl,rfl,n4,HK⟩:=hrel;by_cases hlt:i<n
  ·have⟨KS,KT,Gb,Q,t,v,b,all,a5⟩:=HK.o;have T:=j6 a5;clear a5 HK;have c0:i<M.length:=by rw[<-hn.o];exact hlt
   have o0:=j6 c0;have⟨x,hx⟩:=tz (M.getD i Hop.zero);have b0:x∈M:=hx▸dL c0;have f3:=HO.o.at c0;rw[hx]at f3;have⟨ad,eA,q0,q1,q2,q3,q4⟩:=(hM.o.ext T.o.d.sh.ext).at c0 hx;subst eA;have HU:H0 (Uin w x.A x.c x.L):=j6 (hM.o.ls x b0);have b7:H0 (Oz x):=j6 (hI.o x b0);have j0:H0 (∀y∈x.L,∀d∈y.l,d.s.size<=10000000000000):=j6 (htx.o x b0);have f5:H0 (∀y∈x.L,InU y):=j6 (HO.o.inU b0 b7.o);have f7:H0 (∀y∈x.L,y.l.length<=1000000/\y.t.l.length<=1000000):=j6 (λy hy=>⟨AR (HO.o.few x b0 y hy).1 (by decide),AR (HO.o.few x b0 y hy).2 (by decide)⟩);have hk:=b7.o.k;have i2:=b7.o.n;have i0:=b7.o.b;have a6:=Pv c0;rw[hx]at a6;have⟨xk,k4⟩:=tz x.k;have⟨nL,f4⟩:=E9 x.L.length;have⟨xe,g8⟩:=tz x.e;have⟨xn,j9⟩:=tz x.n;have⟨xb,j5⟩:=tz x.b;have⟨xA,h9⟩:=tz x.A;have⟨xc,i1⟩:=tz x.c;have a4:H0 (0<=xe/\xe<=18446744073709551615):=j6 (g8▸b7.o.e);rw[k4]at q0 hk;rw[h9,i1,<-f4]at q1;rw[g8]at q2;rw[j9]at q3 i2;rw[j5]at q4 i0;rw[h9,i1]at HU;rw[<-f4]at f3 a6;have e0:=j6 f4;have f6:=j6 f3;have E:=j6 a6;have n9:nL<=300:=by omega
   have g0:H0 (xn<=9223372036854775807):=j6 i2.2;clear h9 i1 g8 j9 j5 f4 hx b0 c0 f3 k4 b7 a6 i2
   go_upto_if 52 with fail
   have⟨wo,d3⟩:=E9 (wr.alloc (.cells #[.int .u8 xk,.slice xA nL xc,.int .u64 xe,.int .i64 xn,.int .u8 xb] 114));have⟨go,f2⟩:=E9 wr.heap.size;have BO:H0 (Bk wo go 114 #[.int .u8 xk,.slice xA nL xc,.int .u64 xe,.int .i64 xn,.int .u8 xb]):=j6 (by rw[d3,f2];exact Bk.new _ _ _);have XO:Ext wr wo:=by rw[d3];exact(Ext.refl _).alloc _
   have⟨P,hP⟩:=E9 (Rng Q wr.heap.size wo.heap.size);have HD:H0 (SdM w wo gt gr gb KS KT Gb P t v v b all (Ce M i)):=j6 (by rw[hP];exact T.o.d.mark XO);have HL:H0 (SdL w wo k hA hc oA oc v t.ps):=j6 (T.o.l.ext XO);have HQ:H0 (∀q,QL hA hc oA oc q->P q):=j6 (λq hq=>by rw[hP];exact .inl (T.o.q q hq));have HF:H0 (b.few (310*i)):=j6 T.o.f;have O:H0 (P go):=j6 (by rw[hP,f2];exact .inr ⟨AD _,by rw[d3];simp⟩);rw[<-d3,<-f2];clear d3 f2 hP T XO q0 q1 q2 q3 q4;have m8:wo.cell? ⟨go,4,none⟩=some (.int .u8 xb):=BO.o.cell 4;go_cut [11]from 46 to 61 (λs wx=>∃kk:Nat,s=.int .i64 kk/\(kk<k\/(k=0/\kk=0))/\wx=wo)
   case first =>
    by_cases hk0:k=0
    ·have X:¬((0:Int)<(k:Int)):=by omega
     have d8:=j6 hk0;clear hk0;go_wp2
     go_meet
     case rel=>exact⟨0,rfl,.inr ⟨d8.o,rfl⟩,rfl⟩
    ·have X:(0:Int)<(k:Int):=by omega
     have q6:¬((k:Int)=0):=by omega
     have q9:IntKind.i64.wrap xb=xb:=CU _ (by omega);obtain⟨kk,m⟩:∃kk:Nat,xb.tmod (k:Int)=kk:=⟨(xb.tmod k).toNat,by have:=Int.tmod_nonneg (k:Int) i0.1;omega⟩;have k8:kk<k:=by have:=Int.tmod_lt_of_pos xb X;omega
     have q8:IntKind.i64.wrap (kk:Int)=kk:=CU _ (by omega);go_wp2
     go_meet
     case rel=>exact⟨kk,by first|rfl|(rw[m]),.inl k8,rfl⟩
   case rest =>
    obtain⟨kk,rfl,m,h8⟩:=hcut;have h8:=h8.symm;subst h8;have⟨xq,k5⟩:=tz (xk % 9);have q7:0<=xq/\xq<=8:=by omega
    have m7:wo.cell? ⟨go,0,none⟩=some (.int .u8 xk):=BO.o.cell 0
    go_upto_block 2 with fail
    rw[k5];clear k5 hk m8 i0 m7;have n0:go<wo.heap.size:=BO.o.lt;have i4:=HD.o.sh.ext.size;have c3:H0 (Ce M i+nL+1<=300):=j6 (by have:=f6.o;omega);have g4:Ce M i+nL+1<=1000000:=by have:=f6.o;omega
    have I:t.ps.length<=1000000:=by
     have e:=congrArg List.length HD.o.rt.hv;rw[AN]at e;rw[e,<-HL.o.n];omega
    go_cut [6,7,10] (λs6 s7 s10 wx=>∃(k' d0 d5:Nat) (g3 i5:Option Addr),s6=.slice g3 k' d0/\s7=.slice i5 k' d5/\s10=.bool true/\k'<=i+1/\(kk<k'\/(k'=0/\kk=0))/\H0 (SdK w wx gt gr gb (310*i+300) k' (Ce M (i+1)) g3 d0 i5 d5))
    case first =>
     have hq:(xq=0\/xq=1)\/xq=2\/xq=3\/xq=4\/xq=5\/xq=6\/xq=7\/xq=8:=by omega
     rcases hq with hq|hq|hq|hq|hq|hq|hq|hq
     ·as_aux_lemma =>
       obtain⟨⟨ci,tv⟩,N⟩:∃q,Hp v (x.L.map Ud.uv) xe=q:=⟨_,rfl⟩;have Z:0<=ci/\ci<=200:=by
        have q:=wL v.s (x.L.map Ud.uv) [(xe,[])];rw[show(Cd v.s (x.L.map Ud.uv) [(xe,[])]).1=ci from congrArg Prod.fst N]at q;exact q
       have f0:IntKind.i64.wrap ci=ci:=CU _ (by omega);have a0:=j6 N;clear N Z;rcases hq with hq|hq<;>subst hq;all_goals
        have c1:wo.cell? ⟨go,1,none⟩=some (.slice xA nL xc):=BO.o.cell 1
        go_upto_region 25 with (first
         | (go_at_call 15;refine(kE xA xc nL x.L _ e0 (j6 (HU.o.ext HD.o.sh.ext)) (by omega) f7).mono ?_;rintro r v1 ⟨g1,M1,rfl,m9,l1,e1,x1⟩;have L1:=j6 l1;have E1:=j6 e1;have Y1:=j6 x1;clear m9 l1 e1 x1)
         | fail)
        clear c1;have XD:Ext v1 v1.drew:=(Ext.refl _).drew;have⟨P2,e9⟩:=E9 (Rng P wo.heap.size v1.drew.heap.size);have j:H0 (SdM w v1.drew gt gr gb KS KT Gb P2 t v v b all (Ce M i)):=j6 (by rw[e9];exact HD.o.mark (Y1.o.trans XD));have a9:H0 (∀q,P q->P2 q):=j6 (λq hq=>by rw[e9];exact .inl hq);have f9:H0 (∀q,wo.heap.size<=q->q<v1.drew.heap.size->P2 q):=j6 (λq a b=>by rw[e9];exact .inr ⟨a,b⟩);have e7:=j6 (L1.o.ext XD);have F:=j6 (BO.o.ext (Y1.o.trans XD));have H:=j6 (HL.o.ext (Y1.o.trans XD));have d7:H0 (Hp v (M1.map Ud.uv) xe=(ci,tv)):=j6 (by rw[E1.o];exact a0.o);have f8:H0 (nL=M1.length):=j6 L1.o.len.symm;have d6:H0 (∀y∈M1,InU y):=j6 (zR f5.o E1.o);have Q1:∀y:Yt (λq=>w.heap.size<=q/\¬P2 q) v1.drew,y.W.cell? ⟨go,1,none⟩=some (.slice xA nL xc):=λy=>(F.o.upd y.x (λe=>e.2 (a9.o _ O.o))).cell 1;have Q2:∀y:Yt (λq=>w.heap.size<=q/\¬P2 q) v1.drew,y.W.cell? ⟨go,2,none⟩=some (.int .u64 xe):=λy=>(F.o.upd y.x (λe=>e.2 (a9.o _ O.o))).cell 2;clear e9 XD;refine rN (S:=(λq=>w.heap.size<=q/\¬P2 q)) [0,0,0,4,15,31,0,0,128,0,512,2015,4095,8191] (.flo [0,1,2,3,6,7,8,9,10] (.ext 4 (.flo [5] (.ext 11 (.flo [12,13] (.fin)))))) ?_
        (refine Dg (pks rfl) ?_;(repeat (go_big_quiet_step (fail)));refine oqU ?_)
        refine Fa (pks rfl) ?_;intro K_ C;go_wp2_with (go_at_call 71;refine(Zl (q:=(ci,tv)) (some ⟨g1,0,none⟩) (nL+1) nL M1 xe (j6 j.o.sh) d7 f8 (j6 e7.o.uin) d6 a4 (j6 g4) (j6 (G.ext j.o.sh.ext))).mono ?_;rintro r v3 ⟨rfl,k3,h3⟩;have⟨n7,s3,e3⟩:=wK j.o.sh d7.o f8.o d6.o a4.o g4 h3;have D3:=j6 (j.o.stepP k3 s3);have E3:=j6 e3;have U3:=j6 (show Upd (λq=>w.heap.size<=q/\¬Oth KS KT Gb P2 b q) v1.drew v3 from k3);clear k3 h3 s3 e3)
        refine Dh.mk (U3.o.mono λq _ hq=>⟨hq.1,λe=>hq.2 (.inr (.inr (.inl e)))⟩) ?_
        (refine Dg (pks rfl) ?_;(repeat (go_big_quiet_step (fail)));refine oqU ?_)
        refine Fa (pks rfl) ?_;intro K_ C;go_wp2_with (go_at_call 78;refine(oJ (q:=(ci,tv)) w KS KT gr t v xA xc nL x.L xe _ a0 (j6 D3.o.sh.ext) (j6 D3.o.rt) e0 HU (by omega) f5 j0 (by have:=Ih (j.o.rt.qv▸j.o.sh.tt.ok.ok:OkV t.q.v);omega)).mono ?_;rintro r v4 ⟨rfl,r4⟩;have⟨e5,e6,t4,d4,p4,u4⟩:=D3.o.stepD r4;have D4:=j6 d4;have P4:=j6 p4;have U4:=j6 u4;clear r4 d4 p4 u4)
        refine Dh.mk (U4.o.mono λq _ hq=>⟨j.o.lk q hq,(j.o.kg q hq).2⟩) ?_;clear Q1 Q2
        (refine Dg (pks rfl) ?_;(repeat (go_big_quiet_step (fail)));refine oqU ?_)
        refine Md ?_;have r0:=U3.o.size;have r5:=U4.o.size;have l0:=j6 ((F.o.upd U3.o (λe=>e.2 (.inr (.inr (.inl (a9.o _ O.o)))))).upd U4.o (λe=>(j.o.kg _ e).2 (a9.o _ O.o)));have p6:v4.cell? ⟨go,1,none⟩=some (.slice xA nL xc):=l0.o.cell 1;have j2:=j6 ((e7.o.updB U3.o (λq h1 h2 e=>e.2 (.inr (.inr (.inl (f9.o q h1 h2)))))).updB U4.o (λq h1 _ e=>(j.o.kg q e).2 (f9.o q h1 (j.o.rt.low q e))));have D:H0 (SdL w v4 k hA hc oA oc tv t4.ps):=j6 (((H.o.stepP U3.o (λq hq=>a9.o q (HQ.o q hq))).stepD U4.o (λq e=>(j.o.kg q e).2) (λq hq=>a9.o q (HQ.o q hq))).val (by rw[E3.o]) (by rw[P4.o]));have S1:H0 (∀q,Zj g1 M1 q->wo.heap.size<=q/\q<v1.drew.heap.size):=j6 (λq hq=>e7.o.iv hq);clear j e7 F d7 d6 L1 U3 U4 D3 H;have m1:=TI;go_wp2_with (first
         | (go_at_call 19;clear m1;refine(eS xA xc nL _ g1 x.L M1 _ e0 (by omega) j2 (j6 (HU.o.ext D4.o.sh.ext)) E1 f7).mono ?_;rintro r v5 ⟨rfl,x5⟩;have Y5:=j6 x5;clear x5;have m2:=TI)
         | (go_at_call 20;clear m2;refine(eX g1 nL _ M1 _ (j6 (j2.o.ext Y5.o)) (by omega)).mono ?_;rintro r v7 ⟨rfl,u7⟩;have D7:=j6 ((D4.o.grow Y5.o).requ u7 (λq hq=>f9.o q (S1.o q hq).1 (S1.o q hq).2) (λq hq=>.inl hq));have l7:=j6 ((D.o.ext Y5.o).upd u7 (λq hq e=>by have:=(HD.o.lq q (HQ.o q hq)).2;have:=(S1.o q e).1;omega));clear u7)
         | fail)
        go_meet
        case rel=>exact⟨k,hc,oc,hA,oA,rfl,rfl,rfl,by omega,m,j6 (SdK.mk D7.o l7.o (λq hq=>a9.o q (HQ.o q hq)) HF.o (by have:=E.o;omega) (by omega))⟩
     ·as_aux_lemma =>
       subst hq;have⟨gs,g9⟩:=tz t.gs;have i7:=j6 g9;have XD:Ext wo wo.drew:=(Ext.refl _).drew;have j:=j6 (HD.o.grow XD);have F:=j6 (BO.o.ext XD);have H:=j6 (HL.o.ext XD);have Q3:∀y:Yt (λq=>w.heap.size<=q/\¬Oth KS KT Gb P b q) wo.drew,y.W.cell? ⟨go,3,none⟩=some (.int .i64 xn):=λy=>(F.o.upd y.x (λe=>e.2 (.inr (.inr (.inl O.o))))).cell 3;have Q0:∀y:Yt (λq=>w.heap.size<=q/\¬Oth KS KT Gb P b q) wo.drew,y.W.cell? ⟨gr,0,none⟩=some (.pointer (some ⟨gs,0,none⟩)):=λy=>(g9▸j.o.rt.bk.upd y.x (λe=>e.2 (.inl (.inr j.o.rt.kg)))).cell 0;have l8:H0 (OkV t.q.v):=j6 (j.o.rt.qv▸j.o.sh.tt.ok.ok);clear g9 XD
       go_upto_region 30 with fail
       refine rN (S:=(λq=>w.heap.size<=q/\¬Oth KS KT Gb P b q)) [0,0,2,7,0,16,48,112,0,256,1023,2047,4095] (.flo [0,1,2,4,5,6,7,8,9] (.ext 3 (.one 10 (.flo [11,12] (.fin))))) ?_
       (refine Dg (pks rfl) ?_;(repeat (go_big_quiet_step (fail)));refine oqU ?_)
       refine Fa (pks rfl) ?_;intro K_ C;go_wp2_with (go_at_call 72;refine(uC xn (j6 j.o.sh) g0.o).mono ?_;rintro r v3 ⟨r3,tv,rfl,w3,k3,s3,e3,_,_⟩;have D3:=j6 (j.o.stepP k3 s3);have E3:=j6 e3;have W3:=j6 w3;have U3:=j6 (show Upd (λq=>w.heap.size<=q/\¬Oth KS KT Gb P b q) wo.drew v3 from k3);clear k3 s3 e3 w3)
       refine Dh.mk U3.o ?_;refine dC (pks rfl) ?_;intro K_ C;go_wp2_with (go_at_call 60;refine(oD w gs xn t.q KS _ (j6 D3.o.sh.ext) (j6 (i7.o▸D3.o.rt.rs)) l8 g0.o).mono ?_;rintro r v4 B;have R4:=j6 B;obtain⟨q4,r4,rfl,s4,w4,o4,u4⟩:=B;rw[j.o.rt.qv]at w4;have⟨sx,ex,w3⟩:=W3.o;have⟨ea,er⟩:=iI w3 w4;subst er;have R5:H0 (RTo w v3 KS KT gr t.ps tv v4):=j6 (by rw[ex,ea];exact RTo.spine D3.o.rt (Ext.refl _) u4 (i7.o.symm▸s4) rfl);clear s4 w4 u4 o4 ea w3 ex)
       clear Q3 Q0
       (refine Dg (pks rfl) ?_;(repeat (go_big_quiet_step (fail)));refine oqU ?_)
       refine Md ?_;have⟨e5,e6,t4,d4,p4,u4⟩:=D3.o.stepD R5.o;have D4:=j6 d4;have D:H0 (SdL w v4 k hA hc oA oc tv t4.ps):=j6 (((H.o.stepP U3.o HQ.o).stepD u4 (λq e=>(j.o.kg q e).2) HQ.o).val (by rw[E3.o]) (by rw[p4]));clear d4 u4 p4;go_wp2
       go_meet
       case rel=>exact⟨k,hc,oc,hA,oA,rfl,rfl,rfl,by omega,m,j6 (SdK.mk D4.o D.o HQ.o HF.o (by have:=E.o;omega) (by omega))⟩
     ·as_aux_lemma =>
       subst hq;obtain⟨⟨ci,tv⟩,N⟩:∃q,Fw v xe=q:=⟨_,rfl⟩;have Z:=lB v xe;rw[N]at Z;have f0:IntKind.i64.wrap ci=ci:=CU _ (by simp only at Z;omega);have a0:=j6 N;have XD:Ext wo wo.drew:=(Ext.refl _).drew;have j:=j6 (HD.o.grow XD);have F:=j6 (BO.o.ext XD);have H:=j6 (HL.o.ext XD);have Q2:∀y:Yt (λq=>w.heap.size<=q/\¬P q) wo.drew,y.W.cell? ⟨go,2,none⟩=some (.int .u64 xe):=λy=>(F.o.upd y.x (λe=>e.2 O.o)).cell 2;clear XD N Z
       go_upto_region 32 with fail
       refine rN (S:=(λq=>w.heap.size<=q/\¬P q)) [0,0,2,7,15,0,0,64,239,511,1023] (.flo [0,1,2,5,6,7] (.ext 3 (.flo [4] (.ext 8 (.flo [9,10] (.fin)))))) ?_
       (refine Dg (pks rfl) ?_;(repeat (go_big_quiet_step (fail)));refine oqU ?_)
       refine Fa (pks rfl) ?_;intro K_ C;go_wp2_with (go_at_call 73;refine(Xq (q:=(ci,tv)) xe a0 (j6 j.o.sh) a4.o.2).mono ?_;rintro r v3 ⟨rfl,k3,s3,e3,_⟩;have D3:=j6 (j.o.stepP k3 s3);have E3:=j6 e3;have U3:=j6 (show Upd (λq=>w.heap.size<=q/\¬Oth KS KT Gb P b q) wo.drew v3 from k3);clear k3 s3 e3)
       refine Dh.mk (U3.o.mono λq _ hq=>⟨hq.1,λe=>hq.2 (.inr (.inr (.inl e)))⟩) ?_
       (refine Dg (pks rfl) ?_;(repeat (go_big_quiet_step (fail)));refine oqU ?_)
       refine Fa (pks rfl) ?_;intro K_ C;go_wp2_with (go_at_call 79;refine(jT (q:=(ci,tv)) w KS KT gr t v xe _ a0 (j6 D3.o.rt) (j6 j.o.sh.tt.ok) I).mono ?_;rintro r v4 ⟨rfl,r4⟩;have⟨e5,e6,t4,d4,p4,u4⟩:=D3.o.stepD r4;have D4:=j6 d4;have P4:=j6 p4;have U4:=j6 u4;clear r4 d4 p4 u4)
       refine Dh.mk (U4.o.mono λq _ hq=>⟨j.o.lk q hq,(j.o.kg q hq).2⟩) ?_;clear Q2
       (refine Dg (pks rfl) ?_;(repeat (go_big_quiet_step (fail)));refine oqU ?_)
       refine Md ?_;have D:H0 (SdL w v4 k hA hc oA oc tv t4.ps):=j6 (((H.o.stepP U3.o HQ.o).stepD U4.o (λq e=>(j.o.kg q e).2) HQ.o).val (by rw[E3.o]) (by rw[P4.o]));clear j F H U3 U4 D3;go_wp2
       go_meet
       case rel=>exact⟨k,hc,oc,hA,oA,rfl,rfl,rfl,by omega,m,j6 (SdK.mk D4.o D.o HQ.o HF.o (by have:=E.o;omega) (by omega))⟩
     ·as_aux_lemma =>
       subst hq;obtain⟨⟨ta,bv⟩,g7⟩:∃q,atT v xe=q:=⟨_,rfl⟩;have Y:=rG HD.o.sh.tt xe;rw[g7]at Y;have f0:IntKind.i64.wrap ta=ta:=CU _ (by have:=Y.1;simp only at this;omega);have i6:=j6 g7;have c9:H0 (bv.length<=300/\∀v∈bv,v.1.length<=1000000):=j6 ⟨by have c:=c3.o;have d:=Y.2.1;simp only at d;omega,Y.2.2⟩;have a8:H0 (∀q,wo.heap.size<=q->¬Gb q):=j6 (λq hq e=>by have:=(HD.o.lg q e).2;omega);have c2:wo.cell? ⟨go,2,none⟩=some (.int .u64 xe):=BO.o.cell 2;clear g7 Y;have m1:=TI;go_wp2_with (first
        | (go_at_call 80;clear m1;refine(sG (q:=(ta,bv)) xe i6 (j6 HD.o.sh) (j6 (G.ext HD.o.sh.ext))).mono ?_;rintro r v1 ⟨A1,n1,k1,rfl,d1⟩;have⟨R1,e1,o1,r1,a1,w1,x1⟩:=a0j d1;have N1:=j6 e1;have O1:=j6 o1;have g2:=j6 r1;have k9:=j6 a1;have V1:=j6 w1;have Y1:=j6 x1;have D1:=j6 (HD.o.mark x1);have h4:n1<=300:=(by rw[e1];have q:=congrArg List.length w1;rw[AN]at q;have:=c9.o.1;simp only at q;omega);have j4:v1.cell? ⟨go,2,none⟩=some (.int .u64 xe):=(BO.o.ext x1).cell 2;clear d1 e1 o1 r1 a1 w1 x1 c2;have m2:=TI)
        | (go_at_call 81;clear m2;refine(uJ (q:=(ta,bv)) w KS KT gr t v xe _ i6 (j6 D1.o.rt) (j6 HD.o.sh.tt.ok) I).mono ?_;rintro r v2 ⟨A2,n2,k2,R2,rfl,e2,o2,p2,w2,x2⟩;have N2:=j6 e2;have O2:=j6 o2;have P2:=j6 p2;have V2:=j6 w2;have Y2:=j6 x2;have i3:=Y1.o.size;have k7:=x2.size;clear e2 o2 p2 w2 x2;have m3:=TI)
        | (go_at_call 22;clear m3;refine(Qt gb n1 k1 Gb A1 R1 _ _ _ _ _ _ _ _ _ (j6 (D1.o.bk.ext Y2.o)) (by rw[AN];have:=HF.o.r.1;omega) (by rw[AN];have:=HF.o.c.1;omega) N1 (j6 (O1.o.sl.ext Y2.o)) (j6 (λq hq=>a8.o q (O1.o.lt q hq).1))).mono ?_;rintro r v3 ⟨rfl,vr,vc,b3,u3⟩;have D3:=j6 ((D1.o.grow Y2.o).tellC (λq hq=>(HD.o.ft_lt hq).2) (λq hq=>(HD.o.lq q hq).2) i4 O1.o g2.o Y2.o k9.o u3 b3);have b6:=j6 ((HL.o.ext (Y1.o.trans Y2.o)).upd u3 (λq hq e=>HD.o.gq q e (HQ.o q hq)));have C1:H0 (Ev v3 A1 k1 R1):=j6 (a0e N1.o (O1.o.ext Y2.o) (λy hy=>⟨(g2.o y hy).1.ext Y2.o,(g2.o y hy).2⟩) u3 a8.o);have C2:H0 (Ev v3 A2 k2 R2):=j6 ⟨(by rw[<-N2.o];exact(O2.o.upd u3 (λq hq=>a8.o q (AR i3 (O2.o.lt q hq).1))).sl),λy hy=>(P2.o y hy).ext D3.o.sh.ext⟩;clear b3 u3;have m4:=TI)
        | (go_at_call 25;clear m4;refine(fA A1 A2 k1 k2 n1 n2 R1 R2 _ N1.o N2.o C1.o C2.o (V1.o.trans V2.o.symm)).mono ?_;rintro r v4 ⟨rfl,x4⟩;have D4:=j6 (D3.o.grow x4);have D:=j6 (b6.o.ext x4);clear x4)
        | fail)
       go_meet
       case rel =>
        refine⟨k,hc,oc,hA,oA,rfl,rfl,rfl,by omega,m,j6 (SdK.mk D4.o D.o HQ.o (HF.o.tellC N1.o h4 λy hy=>?_) (by have:=E.o;omega) (by omega))⟩;exact c9.o.2 (Al y) (by rw[<-V1.o];exact AP.2 ⟨y,hy,rfl⟩)
     ·as_aux_lemma =>
       subst hq;have c2:wo.cell? ⟨go,2,none⟩=some (.int .u64 xe):=BO.o.cell 2;have m1:=TI;by_cases hlt2:xe<v.least
       ·have c4:=j6 hlt2;clear hlt2;go_wp2_with (first
         | (go_at_call 74;clear m1;refine(Qi xe (j6 HD.o.sh) a4.o.2).mono ?_;rintro r v1 ⟨k1,B⟩;replace B:=B.resolve_right (λq=>q.1 c4.o);obtain⟨_,rfl,s1⟩:=B;have D1:=j6 (HD.o.stepP k1 s1);have b5:=j6 (HL.o.stepP k1 HQ.o);have j4:v1.cell? ⟨go,2,none⟩=some (.int .u64 xe):=(BO.o.upd (show Upd (λq=>w.heap.size<=q/\¬Oth KS KT Gb P b q) wo v1 from k1) (λe=>e.2 (.inr (.inr (.inl O.o))))).cell 2;clear k1 s1 c2;have m2:=TI)
         | (go_at_call 82;clear m2;refine(Rh w KS KT gr 0 t v xe _ (j6 D1.o.rt) I).mono ?_;rintro r v2 B;replace B:=B.resolve_right (λq=>q.1 c4.o);obtain⟨_,rfl,rfl⟩:=B)
         | fail)
        go_meet
        case rel=>exact⟨k,hc,oc,hA,oA,rfl,rfl,rfl,by omega,m,j6 (SdK.mk D1.o b5.o HQ.o HF.o (by have:=E.o;omega) (by omega))⟩
       ·have r7:k+1<=1000000:=by omega
        have c4:=j6 hlt2;clear hlt2;go_wp2_with (first
         | (go_at_call 74;clear m1;refine(Qi xe (j6 HD.o.sh) a4.o.2).mono ?_;rintro r v1 ⟨k1,B⟩;replace B:=B.resolve_left (λq=>absurd q.1 (Int.not_lt.2 c4.o));obtain⟨_,gh,b1,rfl,s1⟩:=B;have D1:=j6 (HD.o.stepP k1 s1);have b5:=j6 (HL.o.stepP k1 HQ.o);have j4:v1.cell? ⟨go,2,none⟩=some (.int .u64 xe):=(BO.o.upd (show Upd (λq=>w.heap.size<=q/\¬Oth KS KT Gb P b q) wo v1 from k1) (λe=>e.2 (.inr (.inr (.inl O.o))))).cell 2;clear k1 s1 c2 b1;have m2:=TI)
         | (go_at_call 82;clear m2;refine(Rh w KS KT gr gh t v xe _ (j6 D1.o.rt) I).mono ?_;rintro r v2 B;replace B:=B.resolve_left (λq=>absurd q.1 (Int.not_lt.2 c4.o));obtain⟨_,oh,A2,k2,b2,rfl,r2,u2⟩:=B;have⟨l9,m0,t2,d2,p2,y2⟩:=D1.o.stepD (RTo.share r2 u2);have D2:=j6 d2;have P2:=j6 p2;have a7:=j6 (b5.o.stepD y2 (λq e=>(D1.o.kg q e).2) HQ.o);have k7:=D2.o.sh.ext.size;clear r2 u2 d2 p2 y2 b2;have m3:=TI)
         | (at_builtin;clear m3;refine Ab _ zY w.heap.size _ _ rfl rfl hA k hc (v.hs.map λx=>Dw x.g) rfl (a7.o.h.alloc _) (some ⟨v2.heap.size,0,none⟩) 1 1 [.pointer (some ⟨gh,0,none⟩)] rfl (Sl.one v2 #[.pointer (some ⟨gh,0,none⟩)] 112 1 rfl) (by intro u hu;simp at hu;subst hu;rfl) (by omega) (by decide) (by simp;omega) ?_;intro A5 c5 w5 o5 g5 x5;have UA:H0 (Upd (λq=>blk hA hc=some q) v2 w5):=j6 ((Upd.ext ((Ext.refl v2).alloc _)).trans ((Upd.refl _ _).grown g5 (λq hq=>.inl hq)));have O5:=j6 o5;have BA:H0 (∀q,blk A5 c5=some q->blk hA hc=some q\/(v2.heap.size<=q/\q<w5.heap.size)):=j6 (λq hq=>(by rcases x5 with ⟨e1,e2⟩|⟨e1,_⟩;(exact .inl (by rw[<-e1,<-e2];exact hq));(exact .inr ⟨(by rw[e1]at hq;injection hq with hq;simp at hq;omega),(o5.lt q hq).2⟩)));have j3:=j6 (a7.o.o.upd UA.o (λq hq e=>absurd ((a7.o.h.ty e).ne (a7.o.o.ty hq)) (by decide)));have D5:=j6 (D2.o.requ (Q':=λq=>P q\/blk A5 c5=some q) UA.o (λq hq=>HQ.o q (.inl hq)) (λq hq=>hq.elim .inl (λe=>(BA.o q e).imp (λe=>HQ.o q (.inl e)) id)));have r6:=D5.o.sh.ext.size;clear o5 g5 x5;have m4:=TI)
         | (at_builtin;clear m4;refine Ab _ mQ w.heap.size _ _ rfl rfl oA k oc (t.ps.map λp=>Dw p.1) rfl (j3.o.alloc _) (some ⟨w5.heap.size,0,none⟩) 1 1 [.pointer (some ⟨oh,0,none⟩)] rfl (Sl.one w5 #[.pointer (some ⟨oh,0,none⟩)] 132 1 rfl) (by intro u hu;simp at hu;subst hu;rfl) (by omega) (by decide) (by simp;omega) ?_;intro A6 c6 w6 o6 g6 x6;have UB:H0 (Upd (λq=>blk oA oc=some q) w5 w6):=j6 ((Upd.ext ((Ext.refl w5).alloc _)).trans ((Upd.refl _ _).grown g6 (λq hq=>.inl hq)));have O6:=j6 o6;have BB:H0 (∀q,blk A6 c6=some q->blk oA oc=some q\/(w5.heap.size<=q/\q<w6.heap.size)):=j6 (λq hq=>(by rcases x6 with ⟨e1,e2⟩|⟨e1,_⟩;(exact .inl (by rw[<-e1,<-e2];exact hq));(exact .inr ⟨(by rw[e1]at hq;injection hq with hq;simp at hq;omega),(o6.lt q hq).2⟩)));have m5:=j6 (O5.o.upd UB.o (λq hq e=>absurd ((j3.o.ty e).ne (O5.o.ty hq)) (by decide)));have D6:=j6 (D5.o.requ (Q':=λq=>(P q\/blk A5 c5=some q)\/blk A6 c6=some q) UB.o (λq hq=>.inl (HQ.o q (.inr hq))) (λq hq=>hq.elim .inl (λe=>(BB.o q e).imp (λe=>.inl (HQ.o q (.inr e))) id)));clear o6 g6 x6)
         | fail)
        go_meet
        case rel =>
         have l6:=(SdL.push (x:=Gi gh xe) (o2:=oh) a7.o m5.o O6.o).val (ps':=t2.ps) rfl (by rw[P2.o]);exact⟨k+1,c5,c6,A5,A6,rfl,rfl,rfl,by omega,by omega,j6 (SdK.mk D6.o l6 (λq hq=>hq.elim (λe=>.inl (.inr e)) .inr) HF.o (by have:=E.o;omega) (by omega))⟩
     ·as_aux_lemma =>
       subst hq;rcases m with m|⟨hk0,m⟩
       ·have X:(0:Int)<(k:Int):=by omega
        have⟨a1,a2,og,y,e1,e2,J,hp,hy⟩:=HL.o.at HD.o.rt.hv m;subst e1 e2;have R:=j6 J;have p1:=HL.o.c1 HD.o.rt.hv J;have⟨yg,K⟩:=tz y.g;rw[K]at p1;obtain⟨⟨qe,ql,qt,qx⟩,h7⟩:∃q,Cl v y=q:=⟨_,rfl⟩;have h5:=pC v y;have Y:=jY HD.o.sh.tt hy;have h6:=zI v y;rw[h7]at h5 Y h6;have f0:IntKind.i64.wrap qe=qe:=CU _ (by simp only at h5;omega);have i9:=j6 h7;have U:=j6 K;have o7:H0 (qx.g=y.g):=j6 h6;have c8:=j6 hp;have HY:=j6 hy;have c7:=j6 HD.o.sh.nd;have a3:=j6 HD.o.sh.tt.ok;have c9:H0 (ql.length<=300/\∀u∈ql,u.1.1.length<=1000000/\u.1.2.2.length<=1000000):=j6 ⟨by have c:=c3.o;have d:=Y.1;simp only at d;omega,Y.2⟩;have a8:H0 (∀q,wo.heap.size<=q->¬Gb q):=j6 (λq hq e=>by have:=(HD.o.lg q e).2;omega);have l2:(Dr v.s).length<=400000:=by have c:=c3.o;have d:=HD.o.sh.tt.all_len;omega
        clear h7 h5 Y h6 K hp hy J;have m1:=TI;go_wp2_with (first
         | (go_at_call 75;clear m1;refine(Tg (q:=(qe,ql,qt,qx)) yg U i9 (j6 HD.o.sh) HY (j6 (by have:=c3.o;omega)) (j6 (G.ext HD.o.sh.ext))).mono ?_;rintro r v1 ⟨A1,n1,Q1,rfl,e1,o1,w1,k1,s1⟩;have N1:=j6 e1;have O1:=j6 o1;have V1:=j6 w1;have K1:=j6 (show Upd (λq=>w.heap.size<=q/\¬Oth KS KT Gb P b q) wo v1 from k1);have D1:=j6 (HD.o.markN k1 s1);have b5:=j6 (HL.o.stepP k1 HQ.o);have h4:n1<=300:=(by rw[e1];have q:=congrArg List.length w1;rw[AN]at q;have:=c9.o.1;simp only at q;omega);have p3:=b5.o.c2 D1.o.rt.hv R.o;clear e1 o1 w1 k1 s1 p1;have m2:=TI)
         | (go_at_call 83;clear m2;refine(jE (q:=(qe,ql,qt,qx)) w KS KT gr t v y og _ i9 (j6 D1.o.rt) a3 c7 c8 l2).mono ?_;rintro r v2 ⟨A2,n2,k2,R2,rfl,e2,o2,p2,w2,r2⟩;have⟨l9,m0,t2,d2,q2,y2⟩:=D1.o.stepD r2;have N2:=j6 e2;have O2:=j6 o2;have P2:=j6 p2;have V2:=j6 w2;have D2:=j6 d2;have m6:=j6 q2;have Y2:=j6 y2;have a7:=j6 (b5.o.stepD y2 (λq e=>(HD.o.kg q e).2) HQ.o);have e8:=j6 (O1.o.upd y2 (λq h1 h2 e=>(D1.o.kg q e).2 (.inr ⟨h1,h2⟩)));have i3:=K1.o.size;have k7:=y2.size;clear e2 o2 p2 w2 r2 d2 q2 y2;have m3:=TI)
         | (go_at_call 21;clear m3;refine(Sd gb n1 n1 Gb A1 Q1 _ _ _ _ _ _ _ _ _ (j6 D2.o.bk) (by rw[AN];have:=HF.o.r.1;omega) (by rw[AN];have:=HF.o.w.1;omega) (by rw[AN];have:=HF.o.u.1;omega) N1 (j6 (by have q:=e8.o.own.sl;rwa [<-N1.o]at q)) (j6 (λq hq=>a8.o q (e8.o.own.lt q hq).1))).mono ?_;rintro r v3 ⟨rfl,vr,vw,vu,b3,u3⟩;have D3:=j6 (D2.o.tellU (λq hq=>(HD.o.ft_lt hq).2) (λq hq=>(HD.o.lq q hq).2) i4 O1.o e8.o N1.o u3 b3);have b6:=j6 (a7.o.upd u3 (λq hq e=>HD.o.gq q e (HQ.o q hq)));have U3:=j6 (e8.o.upd u3 (λq h1 _=>a8.o q h1));have C2:H0 (Uin v3 A2 k2 R2):=j6 ⟨(by rw[<-N2.o];exact(O2.o.upd u3 (λq hq=>a8.o q (AR i3 (O2.o.lt q hq).1))).sl),λy hy=>(P2.o y hy).ext D3.o.sh.ext⟩;clear b3 u3;have m4:=TI)
         | (go_at_call 23;clear m4;refine(Mn A1 A2 n1 k2 n1 n2 Q1 R2 _ N1 N2 (j6 U3.o.uin) C2 (j6 (V1.o.trans V2.o.symm))).mono ?_;rintro r v4 ⟨rfl,x4⟩;have D4:=j6 (D3.o.grow x4);have D:=j6 (b6.o.ext x4);clear x4)
         | fail)
        go_meet
        case rel =>
         have l4:=D.o.val (v':={ v with hs:=Bl v.hs qx }) (ps':=t2.ps) (Sz _ _) (by rw[m6.o];exact Ma _ _);refine⟨k,hc,oc,_,_,rfl,rfl,rfl,by omega,.inl m,j6 (SdK.mk D4.o l4 HQ.o (HF.o.tellU N1.o h4 λy hy=>?_) (by have:=E.o;omega) (by omega))⟩;exact c9.o.2 y.uv (by rw[<-V1.o];exact AP.2 ⟨y,hy,rfl⟩)
       ·subst hk0;have X:¬((0:Int)<((0:Nat):Int)):=by omega
        have b4:=j6 m;clear m;go_wp2
        go_meet
        case rel=>exact⟨0,hc,oc,hA,oA,rfl,rfl,rfl,by omega,.inr ⟨rfl,b4.o⟩,j6 (SdK.mk HD.o HL.o HQ.o HF.o (by have:=E.o;omega) (by omega))⟩
     ·as_aux_lemma =>
       subst hq;rcases m with m|⟨hk0,m⟩
       ·have X:(0:Int)<(k:Int):=by omega
        have⟨a1,a2,og,y,e1,e2,J,hp,hy⟩:=HL.o.at HD.o.rt.hv m;subst e1 e2;have⟨yg,K⟩:=tz y.g;have R:=j6 J;have U:=j6 K;have c8:=j6 hp;have HY:=j6 hy;have c7:=j6 HD.o.sh.nd;have a3:=j6 HD.o.sh.tt.ok;clear K hp hy J;obtain⟨⟨ci,tv⟩,N⟩:∃q,Bx v y xe=q:=⟨_,rfl⟩;have⟨Z,h0⟩:=gG v y xe;rw[N]at Z h0;have f0:IntKind.i64.wrap ci=ci:=CU _ (by simp only at Z;omega);have a0:=j6 N;have l5:H0 (tv.hs.map Hv.g=v.hs.map Hv.g):=j6 h0;have XD:Ext wo wo.drew:=(Ext.refl _).drew;have j:=j6 (HD.o.grow XD);have F:=j6 (BO.o.ext XD);have H:=j6 (HL.o.ext XD);have i8:H0 (∀q,QL (some a1) hc (some a2) oc q->¬(w.heap.size<=q/\¬P q)):=j6 (λq hq e=>e.2 (HQ.o q hq));have Q2:∀z:Yt (λq=>w.heap.size<=q/\¬P q) wo.drew,z.W.cell? ⟨go,2,none⟩=some (.int .u64 xe):=λz=>(F.o.upd z.x (λe=>e.2 O.o)).cell 2;have Q3:∀z:Yt (λq=>w.heap.size<=q/\¬P q) wo.drew,z.W.cell? (a1.add kk)=some (.pointer (some ⟨yg,0,none⟩)):=λz=>U.o▸(H.o.upd z.x i8.o).c1 HD.o.rt.hv R.o;have Q4:∀z:Yt (λq=>w.heap.size<=q/\¬P q) wo.drew,z.W.cell? (a2.add kk)=some (.pointer (some ⟨og,0,none⟩)):=λz=>(H.o.upd z.x i8.o).c2 HD.o.rt.hv R.o;clear XD N Z h0
        go_upto_region 53 with fail
        refine rN (S:=(λq=>w.heap.size<=q/\¬P q)) [0,0,3,7,0,16,63,127,0,0,768,1792,0,4096,16255,32767,65535] (.flo [0,1,2,3,4,5,8,9,10,11,12,13] (.ext 6 (.flo [7] (.ext 14 (.flo [15,16] (.fin)))))) ?_
        (refine Dg (pks rfl) ?_;(repeat (go_big_quiet_step (fail)));refine oqU ?_)
        refine Fa (pks rfl) ?_;intro K_ C;go_wp2_with (go_at_call 76;refine(Og (q:=(ci,tv)) yg xe U a0 (j6 j.o.sh) HY a4.o.1).mono ?_;rintro r v3 ⟨rfl,k3,s3,_⟩;have D3:=j6 (j.o.stepP k3 s3);have U3:=j6 (show Upd (λq=>w.heap.size<=q/\¬Oth KS KT Gb P b q) wo.drew v3 from k3);clear k3 s3)
        refine Dh.mk (U3.o.mono λq _ hq=>⟨hq.1,λe=>hq.2 (.inr (.inr (.inl e)))⟩) ?_
        (refine Dg (pks rfl) ?_;(repeat (go_big_quiet_step (fail)));refine oqU ?_)
        refine Fa (pks rfl) ?_;intro K_ C;go_wp2_with (go_at_call 84;refine(fG (q:=(ci,tv)) w KS KT gr t v y og xe _ a0 (j6 D3.o.rt) a3 c7 c8 I a4.o.1).mono ?_;rintro r v4 ⟨rfl,r4⟩;have⟨e5,e6,t4,d4,p4,u4⟩:=D3.o.stepD r4;have D4:=j6 d4;have P4:H0 (t4.ps.map (·.1)=t.ps.map (·.1)):=j6 (by rw[p4];split;exact Ma _ _;rfl);have U4:=j6 u4;clear r4 d4 p4 u4)
        refine Dh.mk (U4.o.mono λq _ hq=>⟨j.o.lk q hq,(j.o.kg q hq).2⟩) ?_;clear Q2 Q3 Q4
        (refine Dg (pks rfl) ?_;(repeat (go_big_quiet_step (fail)));refine oqU ?_)
        refine Md ?_;have D:H0 (SdL w v4 k (some a1) hc (some a2) oc tv t4.ps):=j6 (((H.o.stepP U3.o HQ.o).stepD U4.o (λq e=>(j.o.kg q e).2) HQ.o).val l5.o P4.o);clear j F H U3 U4 D3;go_wp2
        go_meet
        case rel=>exact⟨k,hc,oc,_,_,rfl,rfl,rfl,by omega,.inl m,j6 (SdK.mk D4.o D.o HQ.o HF.o (by have:=E.o;omega) (by omega))⟩
       ·subst hk0;have X:¬((0:Int)<((0:Nat):Int)):=by omega
        have b4:=j6 m;clear m;go_wp2
        go_meet
        case rel=>exact⟨0,hc,oc,hA,oA,rfl,rfl,rfl,by omega,.inr ⟨rfl,b4.o⟩,j6 (SdK.mk HD.o HL.o HQ.o HF.o (by have:=E.o;omega) (by omega))⟩
     ·as_aux_lemma =>
       subst hq;rcases m with m|⟨hk0,m⟩
       ·have X:(0:Int)<(k:Int):=by omega
        have⟨a1,a2,og,y,e1,e2,J,hp,hy⟩:=HL.o.at HD.o.rt.hv m;subst e1 e2;have⟨yg,K⟩:=tz y.g;have R:=j6 J;have U:=j6 K;have c8:=j6 hp;have HY:=j6 hy;have c7:=j6 HD.o.sh.nd;have a3:=j6 HD.o.sh.tt.ok;clear K hp hy J;have p1:wo.cell? (a1.add kk)=some (.pointer (some ⟨yg,0,none⟩)):=U.o▸HL.o.c1 HD.o.rt.hv R.o;have m1:=TI;go_wp2_with (first
         | (go_at_call 85;clear m1;refine(uD yg U (j6 HD.o.sh) HY).mono ?_;rintro r v3 ⟨rfl,k3,s3⟩;have D3:=j6 (HD.o.stepP k3 s3);have b6:=j6 (HL.o.stepP k3 HQ.o);have p3:=b6.o.c2 D3.o.rt.hv R.o;clear k3 s3 p1;have m2:=TI)
         | (go_at_call 86;clear m2;refine(oQ w KS KT gr t v y og _ (j6 D3.o.rt) a3 c7 c8 I).mono ?_;rintro r v4 ⟨rfl,r4⟩;have⟨e5,e6,t4,d4,p4,u4⟩:=D3.o.stepD r4;have D4:=j6 d4;have D:=j6 ((b6.o.stepD u4 (λq e=>(HD.o.kg q e).2) HQ.o).val (v':=Xf v y) (ps':=t4.ps) (a2n _ _) (by rw[p4];exact Ma _ _));clear r4 d4 p4 u4)
         | fail)
        go_meet
        case rel=>exact⟨k,hc,oc,_,_,rfl,rfl,rfl,by omega,.inl m,j6 (SdK.mk D4.o D.o HQ.o HF.o (by have:=E.o;omega) (by omega))⟩
       ·subst hk0;have X:¬((0:Int)<((0:Nat):Int)):=by omega
        have b4:=j6 m;clear m;go_wp2
        go_meet
        case rel=>exact⟨0,hc,oc,hA,oA,rfl,rfl,rfl,by omega,.inr ⟨rfl,b4.o⟩,j6 (SdK.mk HD.o HL.o HQ.o HF.o (by have:=E.o;omega) (by omega))⟩
    case rest=>as_aux_lemma =>
     clear HD HL HQ HF O BO j0 f5 f7 HU a4 g0 e0 f6 E c3 g4 I n0 i4 m n4;obtain⟨k',d0,d5,g3,i5,rfl,rfl,rfl,p8,m,HK⟩:=hcut;have⟨b8,b9,G',Q',t',v',b',n6,a5⟩:=HK.o;have HS:=j6 a5;clear a5;have⟨ln,j7⟩:=tz v'.least;have⟨up,k0⟩:=tz v'.up;have⟨lv,j8⟩:=tz (Np v'.hs);have d9:=j6 j7;have e4:=j6 k0;have o3:=j6 j8;have a3:=j6 HS.o.d.sh.tt.ok;have I:t'.ps.length<=1000000:=by
      have e:=congrArg List.length HS.o.d.rt.hv;rw[AN]at e;rw[e,<-HS.o.l.n];omega
     have XD:Ext wc wc.drew:=(Ext.refl _).drew;clear j7 k0 j8;rcases m with m|⟨hk0,m⟩
     ·have X:(0:Int)<(k':Int):=by omega
      have n3:0<k':=by omega
      have p9:decide ((0:Int)<(k':Int))=true:=decide_eq_true X;have q5:decide (0<k')=true:=decide_eq_true n3;have⟨a1,a2,og,y,e1,e2,J,hp,hy⟩:=HS.o.l.at HS.o.d.rt.hv m;subst e1 e2;have⟨yg,K⟩:=tz y.g;have⟨yh,k6⟩:=tz y.hold;have R:=j6 J;have U:=j6 K;have j1:=j6 k6;have HY:=j6 hy;have⟨ff,ss,bh,_,_⟩:=HS.o.d.rt.hs _ hp;have l3:=j6 bh;clear K hp hy J bh k6
      go_upto_region 54 with fail
      refine wro [0,1,3,7,15,7,63,127,255,511,1023,2047,1023,8191,16383,32767,65535,131071,262143,131071,1048575,2097151,4194303,8388607,16777215,33554431,67108863,134217727,268435455,268435455,1073741823,2147483647,4294967295,268435455,268435455,26038239231,60397977599,129117454335,266556407807,541434314751,1099511627775,2199023255551,4398046511103] (.flo [0,1,2,3] (.pur [5] (.one 4 (.one 6 (.flo [7,8,9,10] (.pur [12] (.one 11 (.one 13 (.flo [14,15,16,17] (.pur [19] (.one 18 (.one 20 (.flo [21,22,23,24,25,26,27,28,29,30,31,33,34,35,36,37,38,39] (.ext 32 (.flo [40,41,42] (.fin)))))))))))))))) ?_
      (refine Aa (pks rfl) ?_;(repeat (go_big_quiet_step (fail)));refine oq ?_)
      (refine Bi (pks rfl) ?_;(repeat (go_big_quiet_step (fail)));refine oq ?_)
      refine Ac (pks rfl) ?_;intro K_ C;go_wp2_with (go_at_call 87;refine(Na ln d9 (j6 (HS.o.d.sh.grow XD))).mono ?_;rintro r v1 ⟨rfl,x1⟩;have X1:=j6 (XD.trans x1);have Y1:=j6 x1;clear x1)
      refine Ac (pks rfl) ?_;intro K_ C;go_wp2_with (go_at_call 88;refine(Jj (n:=ln) w b8 b9 gr t' v' _ d9 (j6 (HS.o.d.rt.ext X1.o)) I).mono ?_;rintro r v2 ⟨rfl,rfl⟩)
      (refine Aa (pks rfl) ?_;(repeat (go_big_quiet_step (fail)));refine oq ?_)
      (refine Bi (pks rfl) ?_;(repeat (go_big_quiet_step (fail)));refine oq ?_)
      refine Ac (pks rfl) ?_;intro K_ C;go_wp2_with (go_at_call 89;refine(Xp up e4 (j6 (HS.o.d.sh.grow X1.o))).mono ?_;rintro r v3 ⟨rfl,x3⟩;have X3:=j6 (X1.o.trans x3);clear x3)
      refine Ac (pks rfl) ?_;intro K_ C;go_wp2_with (go_at_call 90;refine(Gy (n:=up) w b8 b9 gr t' v' _ e4 (j6 (HS.o.d.rt.ext X3.o)) a3).mono ?_;rintro r v4 ⟨rfl,rfl⟩)
      (refine Aa (pks rfl) ?_;(repeat (go_big_quiet_step (fail)));refine oq ?_)
      (refine Bi (pks rfl) ?_;(repeat (go_big_quiet_step (fail)));refine oq ?_)
      refine Ac (pks rfl) ?_;intro K_ C;go_wp2_with (go_at_call 91;refine(cP (j6 (HS.o.d.sh.grow X3.o))).mono ?_;rintro r v5 ⟨rfl,x5⟩;have X5:=j6 (X3.o.trans x5);clear x5)
      refine Ac (pks rfl) ?_;intro K_ C;go_wp2_with (go_at_call 92;refine(Uy w b8 b9 gr t' v' _ (j6 (HS.o.d.rt.ext X5.o)) I).mono ?_;rintro r v6 ⟨rfl,rfl⟩)
      have Q1:∀z:Xt v5,z.W.cell? (a1.add kk)=some (.pointer (some ⟨yg,0,none⟩)):=λz=>U.o▸(HS.o.l.ext (X5.o.trans z.x)).c1 HS.o.d.rt.hv R.o;have Q2:∀z:Xt v5,z.W.cell? (a2.add kk)=some (.pointer (some ⟨og,0,none⟩)):=λz=>(HS.o.l.ext (X5.o.trans z.x)).c2 HS.o.d.rt.hv R.o;have Q3:∀z:Xt v5,z.W.cell? ⟨og,1,none⟩=some (.int .u64 yh):=λz=>j1.o▸(l3.o.ext (X5.o.trans z.x)).cell 1
      (refine Aa (pks rfl) ?_;(repeat (go_big_quiet_step (fail)));refine oq ?_)
      refine Ar (pks rfl) ?_;intro K_ C;go_wp2_with (go_at_call 93;refine(iZ (x:=y) yg yh U j1 (j6 (HS.o.d.sh.grow X5.o)) HY).mono ?_;rintro r v7 ⟨rfl,n5⟩;subst n5)
      refine An.mk (Ext.refl _) ?_
      (refine Aa (pks rfl) ?_;(repeat (go_big_quiet_step (fail)));refine oq ?_)
      refine Ad ?_;clear Q1 Q2 Q3;go_wp2
      go_roundg (n-(i+1))
      case measure=>omega
      case rel=>exact⟨i+1,k',d0,d5,_,_,by omega,by omega,rfl,rfl,by go_num,by omega,j6 (SdK.mk (HS.o.d.grow X5.o) (HS.o.l.ext X5.o) HS.o.q HS.o.f (AD _) (by omega))⟩
     ·subst hk0;have b4:=j6 m;clear m
      go_upto_region 54 with fail
      refine wro [0,1,3,7,15,7,63,127,255,511,1023,2047,1023,8191,16383,32767,65535,131071,262143,131071,1048575,2097151,4194303,8388607,16777215,33554431,67108863,134217727,268435455,268435455,1073741823,2147483647,4294967295,268435455,268435455,26038239231,60397977599,129117454335,266556407807,541434314751,1099511627775,2199023255551,4398046511103] (.flo [0,1,2,3] (.pur [5] (.one 4 (.one 6 (.flo [7,8,9,10] (.pur [12] (.one 11 (.one 13 (.flo [14,15,16,17] (.pur [19] (.one 18 (.one 20 (.flo [21,22,23,24,25,26,27,28,29,30,31,33,34,35,36,37,38,39] (.ext 32 (.flo [40,41,42] (.fin)))))))))))))))) ?_
      (refine Aa (pks rfl) ?_;(repeat (go_big_quiet_step (fail)));refine oq ?_)
      (refine Bi (pks rfl) ?_;(repeat (go_big_quiet_step (fail)));refine oq ?_)
      refine Ac (pks rfl) ?_;intro K_ C;go_wp2_with (go_at_call 87;refine(Na ln d9 (j6 (HS.o.d.sh.grow XD))).mono ?_;rintro r v1 ⟨rfl,x1⟩;have X1:=j6 (XD.trans x1);have Y1:=j6 x1;clear x1)
      refine Ac (pks rfl) ?_;intro K_ C;go_wp2_with (go_at_call 88;refine(Jj (n:=ln) w b8 b9 gr t' v' _ d9 (j6 (HS.o.d.rt.ext X1.o)) I).mono ?_;rintro r v2 ⟨rfl,rfl⟩)
      (refine Aa (pks rfl) ?_;(repeat (go_big_quiet_step (fail)));refine oq ?_)
      (refine Bi (pks rfl) ?_;(repeat (go_big_quiet_step (fail)));refine oq ?_)
      refine Ac (pks rfl) ?_;intro K_ C;go_wp2_with (go_at_call 89;refine(Xp up e4 (j6 (HS.o.d.sh.grow X1.o))).mono ?_;rintro r v3 ⟨rfl,x3⟩;have X3:=j6 (X1.o.trans x3);clear x3)
      refine Ac (pks rfl) ?_;intro K_ C;go_wp2_with (go_at_call 90;refine(Gy (n:=up) w b8 b9 gr t' v' _ e4 (j6 (HS.o.d.rt.ext X3.o)) a3).mono ?_;rintro r v4 ⟨rfl,rfl⟩)
      (refine Aa (pks rfl) ?_;(repeat (go_big_quiet_step (fail)));refine oq ?_)
      (refine Bi (pks rfl) ?_;(repeat (go_big_quiet_step (fail)));refine oq ?_)
      refine Ac (pks rfl) ?_;intro K_ C;go_wp2_with (go_at_call 91;refine(cP (j6 (HS.o.d.sh.grow X3.o))).mono ?_;rintro r v5 ⟨rfl,x5⟩;have X5:=j6 (X3.o.trans x5);clear x5)
      refine Ac (pks rfl) ?_;intro K_ C;go_wp2_with (go_at_call 92;refine(Uy w b8 b9 gr t' v' _ (j6 (HS.o.d.rt.ext X5.o)) I).mono ?_;rintro r v6 ⟨rfl,rfl⟩)
      (refine Aa (pks rfl) ?_;(repeat (go_big_quiet_step (fail)));refine oq ?_)
      refine Ar (pks rfl) ?_;intro K_ C;go_wp2;refine An.mk (Ext.refl _) ?_
      (refine Aa (pks rfl) ?_;(repeat (go_big_quiet_step (fail)));refine oq ?_)
      refine Ad ?_;go_wp2
      go_roundg (n-(i+1))
      case measure=>omega
      case rel=>exact⟨i+1,0,d0,d5,_,_,by omega,by omega,rfl,rfl,by go_num,by omega,j6 (SdK.mk (HS.o.d.grow X5.o) (HS.o.l.ext X5.o) HS.o.q HS.o.f (AD _) (by omega))⟩
  ·have⟨KS,KT,Gb,Q,t,v,b,all,a5⟩:=HK.o;have T:=j6 a5;clear a5 HK;go_wp2_with (go_at_call 29;refine(a2a T.o.d (T.o.f.up (by omega))).mono ?_;rintro r v1 ⟨rfl,u1⟩;have X1:H0 (Ext w v1):=j6 (Hj T.o.d.sh.ext u1 λk hk=>hk.1);clear u1)
   go_ret;exact⟨rfl,X1.o⟩
def yR(A:Option Addr)(c n:Nat)(M:List Hop)(w:World)(hn:H0 (n=M.length))(hM:H0 (Hin w A c M))(hb:H0 (∀x∈M,x.L.length<=1048576))(h1:H0 (Ou M=true)) :
  C3 10 #[.slice A n c] w λe w'=>e=.returned (.bool true)/\Ext w w':=by
 go_enter func10,ntmps10;go_wp2_with (go_at_call 68;refine(Xy A c n M _ h1 hn hM hb).mono ?_;rintro r w1 ⟨rfl,x1⟩)
 go_ret;exact⟨rfl,x1⟩
def shareDoes_any(A:Option Addr)(c n:Nat)(M:List Hop)(w:World)(G:Good w)(hn:H0 (n=M.length))(hM:H0 (Hin w A c M))(hI:H0 (∀x∈M,Oz x))(hb:H0 (∀x∈M,x.L.length<=1048576))(htx:H0 (∀x∈M,∀y∈x.L,∀d∈y.l,d.s.size<=10000000000000)) :
  C3 10 #[.slice A n c] w λe w'=>e=.returned (.bool true)/\Ext w w':=by
 cases h1:Ou M with
 | true=>exact yR A c n M w hn hM hb (j6 h1)
 | false=>exact a2b A c n M w G hn hM hI hb htx (j6 h1)
end Go.Proofs.YtdgbkpoickbidaaGreatDoor
