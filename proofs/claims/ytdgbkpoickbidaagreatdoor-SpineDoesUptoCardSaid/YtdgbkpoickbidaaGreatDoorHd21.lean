/- SpineDoes: the walk. Conditions: each theorem states its own. -/
import Derived.Test.YtdgbkpoickbidaaGreatDoorHd20
set_option maxRecDepth 100000
set_option maxHeartbeats 64000000
open Go.RowKit
namespace Go.Proofs.YtdgbkpoickbidaaGreatDoor
section
variable{w w':World}{B g n:Nat}{S:Nat->Prop}
theorem Gs.updB{L:List Tm}(h:Gs w B g n L)(u:Upd S w w')(hS:∀k,B<=k->k<w.heap.size->¬S k):Gs w' B g n L :=
 ⟨h.own.upd u fun k hk=>hS k (h.own.lt k hk).1 (h.own.lt k hk).2,fun y hy=>⟨Own.upd (h.rows y hy).1 u fun k hk=>hS k (Own.lt (h.rows y hy).1 k hk).1 (Own.lt (h.rows y hy).1 k hk).2,by obtain⟨q,e1,e2,e3⟩:=(h.rows y hy).2;exact⟨q,e1,e2,BF e3 u.size⟩⟩,h.apart,h.len⟩
theorem Gr.updB{L:List Ud}(h:Gr w B g n L)(u:Upd S w w')(hS:∀k,B<=k->k<w.heap.size->¬S k):Gr w' B g n L :=
 ⟨h.own.upd u fun k hk=>hS k (h.own.lt k hk).1 (h.own.lt k hk).2,fun y hy=>Own.upd (h.rw y hy) u fun k hk=>hS k (Own.lt (h.rw y hy) k hk).1 (Own.lt (h.rw y hy) k hk).2,fun y hy=>Own.upd (h.ts y hy) u fun k hk=>hS k (Own.lt (h.ts y hy) k hk).1 (Own.lt (h.ts y hy) k hk).2,h.ap,h.len⟩
theorem Gs.iv{L:List Tm}(h:Gs w B g n L){k:Nat}(hk:Pk g L k):B<=k/\k<w.heap.size:=by
 rcases hk with rfl|⟨x,hx,hb⟩
 ·exact h.own.lt _ rfl
 ·exact Own.lt (h.rows x hx).1 k hb
end
theorem cJ{L M:List Tm}(h:Jv L)(e:M.map Tm.v=L.map Tm.v):Jv M:=by
 refine⟨by have:=congrArg List.length e;rw[AN,AN]at this;rw[this];exact h.1,fun x hx=>?_⟩;have hv:x.v∈L.map Tm.v:=by rw[<-e];exact AW.2 ⟨x,hx,rfl⟩
 obtain⟨y,hy,q⟩:=AW.1 hv;have e2:y.l=x.l:=congrArg Prod.snd q;rw[<-e2];exact h.2 y hy
theorem jJ{X:List Tm}(h:∀y∈X,aT y):∀t∈X.map Tm.v,0<=t.1/\t.1<=18446744073709551615:=fun t ht=>by
 obtain⟨y,hy,rfl⟩:=AW.1 ht;exact(h y hy).e
theorem uK{L:List Ud}(h:∀y∈L,InU y):∀u∈L.map Ud.uv,Pg u:=fun u hu=>by
 obtain⟨y,hy,rfl⟩:=AW.1 hu;exact(h y hy).uv
theorem rM(M:List Sop):M.length<=Dk M M.length:=by
 unfold Dk;rw[DU];induction M with
 | nil=>exact AD _
 | cons a l ih =>
  simp only[CN,List.sum_cons,AI];omega
def DoK(w0:World)(M:List Sop)(i gs gr gb N:Nat)(w:World):Prop:=∃(R K G:Nat->Prop) (m:SpM) (q:RSM) (b:TB),DoI w0 w M i gs gr gb N R K G m q b
theorem tC{w0 wa w1 w2 w3:World}{gs gr gb:Nat}{M:List Sop}{m:SpM}{q:RSM}(x0:Ext w0 wa)(s:SpR w1 (fun k=>wa.heap.size<=k/\k<w1.heap.size) gs m)(v:m.v=aQ)(x1:Ext wa w1)(r:RSR w0 w2 (fun k=>w1.heap.size<=k/\k<w2.heap.size) gr q)(vr:q.v=aQ)(x2:Ext w1 w2)(x3:Ext w2 w3)(hg:gb=w2.heap.size)
  (bk:Bk w3 gb 52 #[.slice none 0 0,.slice none 0 0,.slice none 0 0,.slice none 0 0,.slice none 0 0,.slice none 0 0,.slice none 0 0,.slice none 0 0,.slice none 0 0,.slice none 0 0,.slice none 0 0,.slice none 0 0,.slice none 0 0,.slice none 0 0]):DoK w0 M 0 gs gr gb 0 w3:=by
 have z0:=x0.size;have z1:=x1.size;have z2:=x2.size;have z3:=x3.size;have hl:=bk.lt;refine⟨_,_,fun k=>k=gb,m,q,TB.nil,⟨((x0.trans x1).trans x2).trans x3,s.ext (x2.trans x3),r.ext x3,oC bk rfl,Hi.nil _ _,fun k hk=>⟨by omega,by omega⟩,fun k hk=>⟨by omega,by omega⟩,fun k hk=>⟨by omega,by omega⟩,fun k hk e=>by omega,fun k hk e=>by omega,fun k hk e=>by omega,fun k hk=>?_⟩,by rw[v,vr],⟨[],?_⟩,vY⟩
 ·have:=TB.told_lt (b:=TB.nil) (Hi.nil w3 w3.heap.size) hk;omega
 ·rw[v,eH];exact kY
theorem yW{s sv:SV}{all l:List UV}{X:List TV}{B:Nat}{ci:Int}(h:Hj s all B)(hl:∀u∈l,Pg u)(hX:∀t∈X,0<=t.1/\t.1<=18446744073709551615)(hB:B+l.length+1<=1000000)(e:Cq s l X=(ci,sv)):∃all',Hj sv all' (B+l.length+1):=by
 have k:=kZ h hl hX hB;rw[e]at k;rcases k with ⟨k1,_⟩|⟨_,k2⟩
 ·exact⟨all,by have k1:sv=s:=k1;rw[k1];exact h.up (by omega)⟩
 ·exact⟨_,k2⟩
theorem wB{s a:SV}{all:List UV}{B r:Nat}{z:Int}(h:Hj s all B)(w:(a=s/\r=0/\z<1)\/∃n:Nat,z=n/\0<n/\Cz s n a r):Hj a all B:=by
 rcases w with ⟨w,_⟩|⟨n,_,_,w⟩
 ·rw[w];exact h
 ·exact gE w h
theorem wM{w w':World}{U:List V}{A:Option Addr}{n c:Nat}(h:Lh w U (.returned (.slice A n c)) w'):∃R:List Ct,n=R.length/\Own w' w.heap.size 154 2 A n c (Bg R)/\(∀x∈R,RwO w' x.A x.c x.l/\∀ad,x.A=some ad->w.heap.size<=ad.block/\blk A c≠some ad.block)/\Iu R/\R.map Am=U/\Ext w w':=by
 obtain⟨A',m,c',R,e,hm,o,r,a,v,x⟩:=h;injection e with e;injection e with e1 e2 e3;subst e1 e2 e3;exact⟨R,hm,o,r,a,v,x⟩
theorem wH{w w':World}{B n c:Nat}{A:Option Addr}{L:List Ct}{S:Nat->Prop}(hn:n=L.length)(o:Own w B 154 2 A n c (Bg L))(r:∀x∈L,RwO w x.A x.c x.l/\∀ad,x.A=some ad->B<=ad.block/\blk A c≠some ad.block)(u:Upd S w w')(hS:∀k,B<=k->¬S k):Er w' A c L:=by
 refine⟨by rw[<-hn];exact(o.upd u fun k hk=>hS k (o.lt k hk).1).sl,fun y hy=>?_⟩;exact Own.sl (Own.upd (r y hy).1 u fun k hk=>by
  obtain⟨ad,e1,e2⟩:=Gg hk;have:=((r y hy).2 ad e1).1;exact hS k (by omega))
theorem pH{w:World}{B n c:Nat}{A:Option Addr}{l:List Int}(hn:n=l.length)(o:Own w B 3 1 A n c (Kq l)):Is w A c l:=by
 subst hn;exact o.sl
theorem bE{L K:List Tm}{V:List TV}(h:L.map Tm.v=V)(f:Nx K)(e:K.map Tm.v=V:=by rfl):∀y∈L,y.l.length<=1000000:=fun y hy=>by
 have hv:y.v∈K.map Tm.v:=by rw[e,<-h];exact AW.2 ⟨y,hy,rfl⟩
 obtain⟨z,hz,q⟩:=AW.1 hv;have e2:z.l=y.l:=congrArg Prod.snd q;rw[<-e2];exact AQ (f z hz).2 (by decide)
theorem tB(A:Option Addr)(c n:Nat)(M:List Sop)(w:World)(G:Good w)(hn:Hid (n=M.length))(hM:Hid (Oin w A c M))(hI:Hid (∀x∈M,Oc x))(hb:Hid (∀x∈M,x.L.length<=1048576/\x.T.length<=1048576))(htx:Hid (∀x∈M,∀y∈x.L,∀d∈y.l,d.s.size<=10000000000000))(h1:Hid (Ny M=false)) :
  Calls Tryz.prog 7 #[.slice A n c] w fun e w'=>e=.returned (.bool true)/\Ext w w':=by
 have HO:=hid (yN h1.out);have hcap:n<=300:=by
  have a:=HO.out.len;have b:=rM M;rw[hn.out];omega
 have m1:True:=trivial;go_enter Tryz.func7,Tryz.ntmps7;go_wp2_with (first
  | (go_at_call 41;have mk:=m1;clear m1 mk;refine(Wu A c n M _ h1 hn hM hb).mono ?_;rintro r w1 ⟨rfl,x1⟩;have X1:=hid x1;clear x1;have m2:True:=trivial)
  | (go_at_call 43;have mk:=m2;clear m2 mk;refine(Wm _).mono ?_;rintro r w2 ⟨gs,m0,rfl,s2,v2,x2⟩;have S2:=hid s2;have V2:=hid v2;have X2:=hid x2;clear s2 v2 x2;have m3:True:=trivial)
  | (go_at_call 42;have mk:=m3;clear m3 mk;refine(eU _ (G.ext (X1.out.trans X2.out))).mono ?_;rintro r w3 ⟨rfl,x3⟩;have X3:=hid (X2.out.trans x3);have S3:=hid ((S2.out.ext x3).wide (R':=fun k=>w1.heap.size<=k/\k<w3.heap.size) fun k _ hk=>⟨hk.1,BF hk.2 x3.size⟩);clear x3;have m4:True:=trivial)
  | (go_at_call 55;have mk:=m4;clear m4 mk;refine(gP w _ (hid (X1.out.trans X3.out))).mono ?_;rintro r w4 ⟨gr,q0,rfl,s4,v4,x4⟩;have S4:=hid s4;have V4:=hid v4;have X4:=hid x4;clear s4 v4 x4)
  | fail)
 obtain⟨gb,hgb⟩:∃g,g=w4.heap.size:=⟨_,rfl⟩;rw[<-hgb];have HGB:=hid hgb;clear hgb
 go_loopg [6] n (fun z u wr=>∃i:Nat,z=n-i/\i<=n/\u=.int .i64 i/\Hid (DoK w M i gs gr gb (310*i) wr))
 case atStart=>exact⟨0,rfl,AE _,rfl,hid (tC X1.out S3.out V2.out X3.out S4.out V4.out X4.out ((Ext.refl _).alloc _) HGB.out (by rw[HGB.out];exact Bk.new _ _ _))⟩
 case round =>
  clear S2 S3 S4 V2 V4 X1 X2 X3 X4 HGB;obtain⟨i,rfl,hi,rfl,HK⟩:=hrel;by_cases hlt:i<n
  ·obtain⟨R,K,Gb,m,q,b,hI0⟩:=HK.out;have HI:=hid hI0;clear hI0 HK;have hiM:i<M.length:=by rw[<-hn.out];exact hlt
   have HIM:=hid hiM;obtain⟨x,hx⟩:∃x,M.getD i Sop.zero=x:=⟨_,rfl⟩;have hxm:x∈M:=hx▸cD hiM;obtain⟨ad,eA,q0,q1,q2,q3,q4,q5,q6⟩:=(hM.out.ext HI.out.d.ex).at hiM hx;subst eA;have HXR:Hid (Vi w x):=hid (hM.out.ls x hxm);have HXI:Hid (Oc x):=hid (hI.out x hxm);have HTX:Hid (∀y∈x.L,∀d∈y.l,d.s.size<=10000000000000):=hid (htx.out x hxm);have HX:=hid hx;have hk:=HXI.out.k;have hle:=mB M (i+1);rw[Fn hiM,hx]at hle;have hlen:=HO.out.len;have HOL:Hid (Dk M i+x.L.length+1<=300):=hid (by omega);have hL3:x.L.length<=300:=by omega
   have hT3:x.T.length<=300:=(HO.out.few x hxm).n;have HIN:Hid (∀y∈x.L,InU y):=hid (HO.out.inU hxm HXI.out);have HF1:Hid (Jv x.T):=hid (HO.out.few1 hxm);have HLR:Hid (∀y∈x.L,y.l.length<=1000000/\y.t.l.length<=1000000):=hid (fun y hy=>⟨AQ ((HO.out.few x hxm).u y hy).1 (by decide),AQ ((HO.out.few x hxm).u y hy).2 (by decide)⟩);have HTR:Hid (∀y∈x.T,y.l.length<=1000000):=hid (fun y hy=>AQ ((HO.out.few x hxm).t y hy) (by decide));have hcap:=HXR.out.e.cap;obtain⟨xk,hxk⟩:∃k,x.k=k:=⟨_,rfl⟩;obtain⟨nL,hnL⟩:∃k,k=x.L.length:=⟨_,rfl⟩;obtain⟨nT,hnT⟩:∃k,k=x.T.length:=⟨_,rfl⟩;obtain⟨nR,hnR⟩:∃k,k=x.r.length:=⟨_,rfl⟩;obtain⟨nE,hnE⟩:∃k,k=x.t.l.length:=⟨_,rfl⟩;obtain⟨xA,hxA⟩:∃k,x.A=k:=⟨_,rfl⟩;obtain⟨xc,hxc⟩:∃k,x.c=k:=⟨_,rfl⟩;obtain⟨tA,htA⟩:∃k,x.tA=k:=⟨_,rfl⟩;obtain⟨tc,htc⟩:∃k,x.tc=k:=⟨_,rfl⟩;obtain⟨ee,hee⟩:∃k,x.t.e=k:=⟨_,rfl⟩;obtain⟨eA,heA⟩:∃k,x.t.A=k:=⟨_,rfl⟩;obtain⟨ec,hec⟩:∃k,x.t.c=k:=⟨_,rfl⟩;obtain⟨rA,hrA⟩:∃k,x.rA=k:=⟨_,rfl⟩;obtain⟨rc,hrc⟩:∃k,x.rc=k:=⟨_,rfl⟩;obtain⟨xn,hxn⟩:∃k,x.n=k:=⟨_,rfl⟩;have HXN:Hid (xn<=9223372036854775807):=hid (by rw[<-hxn];exact HXI.out.n.2);rw[hxk]at q0 hk;rw[hxA,hxc,<-hnL]at q1;rw[htA,htc,<-hnT]at q2;rw[hxn]at q3;rw[hee]at q4;rw[heA,hec,<-hnE]at q5;rw[hrA,hrc,<-hnR]at q6;rw[<-hnL]at hL3;rw[<-hnT]at hT3;rw[hec,<-hnE]at hcap;have HU:Hid (Uin w xA xc x.L):=hid (by rw[<-hxA,<-hxc];exact HXR.out.u);have HTT:Hid (Tin w tA tc x.T):=hid (by rw[<-htA,<-htc];exact HXR.out.t);have HE:Hid (Sl w 1 eA nE ec (wds x.t.l)):=hid (by rw[<-heA,<-hec,hnE];exact HXR.out.e);have HRR:Hid (Rw w rA rc x.r):=hid (by rw[<-hrA,<-hrc];exact HXR.out.r);have HNL:=hid hnL;have HNT:=hid hnT;have HNE:=hid hnE;have HNR:=hid hnR;clear hxA hxc htA htc hee heA hec hrA hrc hxn hnL hnT hnR hnE hx hxm hiM hle hxk
   go_upto_block 2 with fail
   obtain⟨wo,hwo⟩:∃wo,wo=wr.alloc (.cells #[.int .u8 xk,.slice xA nL xc,.slice tA nT tc,.int .i64 xn,.int .u64 ee,.slice eA nE ec,.slice rA nR rc] 81):=⟨_,rfl⟩;obtain⟨go,hgo⟩:∃g,g=wr.heap.size:=⟨_,rfl⟩;have BO:Hid (Bk wo go 81 #[.int .u8 xk,.slice xA nL xc,.slice tA nT tc,.int .i64 xn,.int .u64 ee,.slice eA nE ec,.slice rA nR rc]):=hid (by rw[hwo,hgo];exact Bk.new _ _ _);have XO:Hid (Ext wr wo):=hid (by rw[hwo];exact(Ext.refl _).alloc _);have HI2:=hid (HI.out.grow XO.out);have HGO:Hid (¬R go/\¬K go/\¬Gb go):=hid ⟨fun e=>by have:=(HI.out.d.lr go e).2;omega,fun e=>by have:=(HI.out.d.lk go e).2;omega,fun e=>by have:=(HI.out.d.lg go e).2;omega⟩;have hgo1:go<wo.heap.size:=BO.out.lt;obtain⟨xq,hxq⟩:∃q,xk % 6=q:=⟨_,rfl⟩;have hq6:0<=xq/\xq<=5:=by omega
   rw[hxq,<-hwo,<-hgo];clear hwo hgo hxq hk q0 q1 q2 q3 q4 q5 q6 HI XO;go_cut [8] (fun s wx=>s=.bool true/\DoK w M (i+1) gs gr gb (310*i+300) wx)
   case first =>
    have hq:(xq=0\/xq=1)\/xq=2\/xq=3\/xq=4\/(¬xq=0/\¬xq=1/\¬xq=2/\¬xq=3/\¬xq=4):=by omega
    rcases hq with hq|hq|hq|hq|⟨h0,h1',h2,h3,h4⟩
    ·obtain⟨⟨ci,sv⟩,hiv⟩:∃v,Cq m.v (x.L.map Ud.uv) (x.T.map Tm.v)=v:=⟨_,rfl⟩;have hci:=sK m.v (x.L.map Ud.uv) (x.T.map Tm.v);rw[hiv]at hci;have hcw:IntKind.i64.wrap ci=ci:=DB _ (by have:=hci.1;have:=hci.2;simp only at *;omega);have HIV:=hid hiv;have HIQ:Hid (Cq q.v (x.L.map Ud.uv) (x.T.map Tm.v)=(ci,sv)):=hid (by rw[HI2.out.v];exact hiv);have HTN:Hid (∃all,Hj sv all (Dk M (i+1))):=hid (by
      obtain⟨all,ht⟩:=HI2.out.ts;have e:=Fn HIM.out;rw[HX.out]at e;have k:=yW (l:=x.L.map Ud.uv) ht (uK HIN.out) (jJ HXI.out.t) (by rw[AN];have:=HOL.out;omega) hiv;rw[AN]at k;rw[e,<-Nat.add_assoc];exact k)
     have hzo:=HI2.out.d.ex.size;have HRO:Hid (∀k,wo.heap.size<=k->¬R k/\¬K k):=hid (fun k hk=>⟨fun e=>by have:=(HI2.out.d.lr k e).2;omega,fun e=>by have:=(HI2.out.d.lk k e).2;omega⟩);clear hiv hci;rcases hq with hq|hq<;>subst hq;all_goals
      have c1:wo.cell? ⟨go,1,none⟩=some (.slice xA nL xc):=BO.out.cell 1;have m1:True:=trivial
      go_upto_region 21 with (first
       | (go_at_call 15;have mk:=m1;clear m1 mk;refine(iM xA xc nL x.L _ HNL (hid (HU.out.ext HI2.out.d.ex)) (by omega) HLR).mono ?_;rintro r v1 ⟨g1,M1,rfl,hg1,l1,e1,x1⟩;have L1:=hid l1;have E1:=hid e1;have Y1:=hid x1;have c12:v1.cell? ⟨go,2,none⟩=some (.slice tA nT tc):=(BO.out.ext x1).cell 2;clear hg1 l1 e1 x1;have m2:True:=trivial)
       | (go_at_call 56;have mk:=m2;clear m2 mk;refine(Uh tA tc nT x.T _ HNT (hid (HTT.out.ext (HI2.out.d.ex.trans Y1.out))) (by omega) HTR).mono ?_;rintro r v2 ⟨g2,M2,rfl,hg2,l2,e2,x2⟩;have L2:=hid l2;have E2:=hid e2;have Y2:=hid x2;clear hg2 l2 e2 x2)
       | fail)
      clear c1 c12;have XD:Ext v2 v2.drew:=(Ext.refl _).drew;have hz1:=Y1.out.size;have hz2:=(Y2.out.trans XD).size;have Q1:∀y:Yt (fun k=>R k\/K k) v2.drew,y.W.cell? ⟨go,1,none⟩=some (.slice xA nL xc):=fun y=>((BO.out.ext ((Y1.out.trans Y2.out).trans XD)).upd y.x (fun e=>e.elim HGO.out.1 HGO.out.2.1)).cell 1;have Q2:∀y:Yt (fun k=>R k\/K k) v2.drew,y.W.cell? ⟨go,2,none⟩=some (.slice tA nT tc):=fun y=>((BO.out.ext ((Y1.out.trans Y2.out).trans XD)).upd y.x (fun e=>e.elim HGO.out.1 HGO.out.2.1)).cell 2;have HI3:=hid (HI2.out.grow ((Y1.out.trans Y2.out).trans XD));have L1D:=hid (L1.out.ext (Y2.out.trans XD));have L2D:=hid (L2.out.ext XD);have BOD:=hid (BO.out.ext ((Y1.out.trans Y2.out).trans XD));have HIV1:Hid (Cq m.v (M1.map Ud.uv) (M2.map Tm.v)=(ci,sv)):=hid (by rw[E1.out,E2.out];exact HIV.out);have HNM1:Hid (nL=M1.length):=hid L1.out.len.symm;have HNM2:Hid (nT=M2.length):=hid L2.out.len.symm;have HINM:Hid (∀y∈M1,InU y):=hid (vW HIN.out E1.out);have HF2:Hid (Jv M2):=hid (cJ HF1.out E2.out);refine uC (S:=(fun k=>R k\/K k)) [0,0,0,7,15,0,0,64,0,256,1007,2047,4095] (.flo [0,1,2,5,6,7,8,9] (.ext 3 (.flo [4] (.ext 10 (.flo [11,12] (.fin)))))) ?_
      (refine Ey (pks rfl) ?_;(repeat (go_big_quiet_step (fail)));refine oqU ?_)
      refine Hk (pks rfl) ?_;intro K_ hK_;go_wp2_with (go_at_call 44;refine(Pn (q:=(ci,sv)) gs m R (some ⟨g1,0,none⟩) (nL+1) nL M1 (some ⟨g2,0,none⟩) (nT+1) nT M2 _ HIV1 (hid HI3.out.d.sp) HNM1 (hid L1D.out.uin) (by omega) HINM HNM2 (hid (fun W u=>(L2D.out.updB u (fun k h1 _=>(HRO.out k (by omega)).1)).tin)) HF2 HI3.out.ok.sp.nb (hid (G.ext HI3.out.d.ex))).mono ?_;rintro r v3 ⟨m3,rfl,s3,w3,u3⟩;have D3:=hid (HI3.out.d.stepS u3 s3);have V3:=hid w3;have U3:=hid u3;clear s3 w3 u3)
      refine Eb.mk (U3.out.mono fun k _ hk=>.inl hk) ?_
      (refine Ey (pks rfl) ?_;(repeat (go_big_quiet_step (fail)));refine oqU ?_)
      refine Hk (pks rfl) ?_;intro K_ hK_;go_wp2_with (go_at_call 57;refine(qT (q:=(ci,sv)) w gr q K xA xc nL x.L tA tc nT x.T _ HIQ (hid D3.out.ex) (hid D3.out.rs) HNL HU (by omega) HIN HTX HNT (hid (.inl HTT.out)) (by have:=Hd HI3.out.okq;omega)).mono ?_;rintro r v4 ⟨q4,rfl,s4,w4,u4⟩;have D4:=hid (D3.out.stepR u4 s4);have V4:=hid w4;have U4:=hid u4;clear s4 w4 u4)
      refine Eb.mk (U4.out.mono fun k _ hk=>.inr hk) ?_;clear Q1 Q2
      (refine Ey (pks rfl) ?_;(repeat (go_big_quiet_step (fail)));refine oqU ?_)
      refine Om ?_;have hz3:=U3.out.size;have hz4:=U4.out.size;have BO4:=hid ((BOD.out.upd U3.out HGO.out.1).upd U4.out HGO.out.2.1);have c41:v4.cell? ⟨go,1,none⟩=some (.slice xA nL xc):=BO4.out.cell 1;have L14:=hid ((L1D.out.updB U3.out (fun k h1 _=>(HRO.out k h1).1)).updB U4.out (fun k h1 _=>(HRO.out k h1).2));have L24:=hid ((L2D.out.updB U3.out (fun k h1 _=>(HRO.out k (by omega)).1)).updB U4.out (fun k h1 _=>(HRO.out k (by omega)).2));have GP:Hid (Gap (Rg R v2.drew v3) (Rg K v3 v4) Gb b wo.heap.size v2.drew.heap.size):=hid (((HI2.out.d.gap v2.drew.heap.size).stepS (AD _)).stepR hz3);have S1:Hid (∀k,Ye g1 M1 k->wo.heap.size<=k/\k<v1.heap.size):=hid (fun k hk=>L1.out.iv hk);have S2:Hid (∀k,Pk g2 M2 k->v1.heap.size<=k/\k<v2.drew.heap.size):=hid (fun k hk=>L2D.out.iv hk);clear HI3 L1D L2D BOD HIV1 HINM HF2 XD L1 L2 U3 U4;have m1:True:=trivial;go_wp2_with (first
       | (go_at_call 19;have mk:=m1;clear m1 mk;refine(dI xA xc nL _ g1 x.L M1 _ HNL (by omega) L14 (hid (HU.out.ext D4.out.ex)) E1 HLR).mono ?_;rintro r v5 ⟨rfl,x5⟩;have Y5:=hid x5;have c52:v5.cell? ⟨go,2,none⟩=some (.slice tA nT tc):=(BO4.out.ext x5).cell 2;clear x5;have m2:True:=trivial)
       | (go_at_call 58;have mk:=m2;clear m2 mk;refine(dJ tA tc nT _ g2 x.T M2 _ HNT (by omega) (hid (L24.out.ext Y5.out)) (hid (HTT.out.ext (D4.out.ex.trans Y5.out))) E2 HTR).mono ?_;rintro r v6 ⟨rfl,x6⟩;have Y6:=hid (Y5.out.trans x6);clear x6;have m3:True:=trivial)
       | (go_at_call 20;have mk:=m3;clear m3 mk;refine(dN g1 nL _ M1 _ (hid (L14.out.ext Y6.out)) (by omega)).mono ?_;rintro r v7 ⟨rfl,u7⟩;have D7:=hid ((D4.out.grow Y6.out).spoil u7 GP.out (fun k hk=>⟨(S1.out k hk).1,by have:=(S1.out k hk).2;omega⟩) hzo);have L27:=hid ((L24.out.ext Y6.out).updB u7 (fun k h1 _ e=>by have:=(S1.out k e).2;omega));clear u7;have m4:True:=trivial)
       | (go_at_call 59;have mk:=m4;clear m4 mk;refine(Ql g2 nT _ M2 _ L27 (by omega)).mono ?_;rintro r v8 ⟨rfl,u8⟩;have D8:=hid (D7.out.spoil u8 GP.out (fun k hk=>⟨by have:=(S2.out k hk).1;omega,(S2.out k hk).2⟩) hzo);clear u8)
       | fail)
      go_meet
      case rel=>exact⟨rfl,_,_,_,m3,q4,b,D8.out,by rw[V4.out,V3.out],by rw[V3.out];exact HTN.out,HI2.out.fw.up (by omega)⟩
    ·subst hq;have XD:Ext wo wo.drew:=(Ext.refl _).drew;have Q3:∀y:Yt (fun k=>R k\/K k) wo.drew,y.W.cell? ⟨go,3,none⟩=some (.int .i64 xn):=fun y=>((BO.out.ext XD).upd y.x (fun e=>e.elim HGO.out.1 HGO.out.2.1)).cell 3;have HI3:=hid (HI2.out.grow XD);clear XD
     go_upto_region 27 with fail
     refine uC (S:=(fun k=>R k\/K k)) [0,0,2,7,0,0,32,127,255,511] (.flo [0,1,2,4,5,6] (.ext 3 (.one 7 (.flo [8,9] (.fin))))) ?_
     (refine Ey (pks rfl) ?_;(repeat (go_big_quiet_step (fail)));refine oqU ?_)
     refine Hk (pks rfl) ?_;intro K_ hK_;go_wp2_with (go_at_call 47;refine(qE gs xn m R _ (hid HI3.out.d.sp) (hid HI3.out.ok) HXN.out (hid (fun k hk=>(HI3.out.d.lr k hk).2))).mono ?_;rintro r v3 ⟨m3,r3,rfl,s3,w3,o3,u3⟩;have D3:=hid (HI3.out.d.stepS u3 s3);have W3:=hid w3;have U3:=hid u3;clear s3 w3 u3 o3)
     refine Eb.mk (U3.out.mono fun k _ hk=>.inl hk) ?_;refine bQ (pks rfl) ?_;intro K_ hK_;go_wp2_with (go_at_call 60;refine(lG w gr xn q K _ (hid D3.out.ex) (hid D3.out.rs) (hid HI3.out.okq) HXN.out).mono ?_;rintro r v4 ⟨q4,r4,rfl,s4,w4,o4,u4⟩;have D4:=hid (D3.out.stepR u4 s4);rw[HI3.out.v]at w4;obtain⟨ea,er⟩:=gA W3.out w4;have V4:=hid ea;subst er;clear s4 w4 u4 o4 ea)
     clear Q3
     (refine Ey (pks rfl) ?_;(repeat (go_big_quiet_step (fail)));refine oqU ?_)
     refine Om ?_;go_wp2
     go_meet
     case rel =>
      refine⟨rfl,_,_,_,m3,q4,b,D4.out,V4.out.symm,?_,HI2.out.fw.up (by omega)⟩;obtain⟨all,ht⟩:=HI2.out.ts;exact⟨all,(wB ht W3.out).up (by rw[Fn HIM.out];omega)⟩
    ·subst hq;obtain⟨⟨ci,sv⟩,hiv⟩:∃v,Bw m.v (x.T.map Tm.v)=v:=⟨_,rfl⟩;have hci:=aD m.v (x.T.map Tm.v);rw[hiv]at hci;have hcw:IntKind.i64.wrap ci=ci:=DB _ (by have:=hci.1;have:=hci.2;simp only at *;omega);have HIV:=hid hiv;have HIQ:Hid (Bw q.v (x.T.map Tm.v)=(ci,sv)):=hid (by rw[HI2.out.v];exact hiv);have HTN:Hid (∃all,Hj sv all (Dk M (i+1))):=hid (by
      obtain⟨all,ht⟩:=HI2.out.ts;have k:=Vo (X:=x.T.map Tm.v) ht (jJ HXI.out.t);rw[hiv]at k;exact⟨all,k.up (by rw[Fn HIM.out];omega)⟩)
     have hzo:=HI2.out.d.ex.size;have HRO:Hid (∀k,wo.heap.size<=k->¬R k/\¬K k):=hid (fun k hk=>⟨fun e=>by have:=(HI2.out.d.lr k e).2;omega,fun e=>by have:=(HI2.out.d.lk k e).2;omega⟩);clear hiv hci;have c2:wo.cell? ⟨go,2,none⟩=some (.slice tA nT tc):=BO.out.cell 2;have m1:True:=trivial
     go_upto_region 30 with (first
      | (go_at_call 56;have mk:=m1;clear m1 mk;refine(Uh tA tc nT x.T _ HNT (hid (HTT.out.ext HI2.out.d.ex)) (by omega) HTR).mono ?_;rintro r v2 ⟨g2,M2,rfl,hg2,l2,e2,x2⟩;have L2:=hid l2;have E2:=hid e2;have Y2:=hid x2;clear hg2 l2 e2 x2)
      | fail)
     clear c2;have XD:Ext v2 v2.drew:=(Ext.refl _).drew;have hz2:=(Y2.out.trans XD).size;have Q2:∀y:Yt (fun k=>R k\/K k) v2.drew,y.W.cell? ⟨go,2,none⟩=some (.slice tA nT tc):=fun y=>((BO.out.ext (Y2.out.trans XD)).upd y.x (fun e=>e.elim HGO.out.1 HGO.out.2.1)).cell 2;have HI3:=hid (HI2.out.grow (Y2.out.trans XD));have L2D:=hid (L2.out.ext XD);have HIV1:Hid (Bw m.v (M2.map Tm.v)=(ci,sv)):=hid (by rw[E2.out];exact HIV.out);have HNM2:Hid (nT=M2.length):=hid L2.out.len.symm;have HF2:Hid (Jv M2):=hid (cJ HF1.out E2.out);refine uC (S:=(fun k=>R k\/K k)) [0,0,3,7,0,0,32,119,255,511] (.flo [0,1,4,5,6] (.ext 2 (.flo [3] (.ext 7 (.flo [8,9] (.fin)))))) ?_
     (refine Ey (pks rfl) ?_;(repeat (go_big_quiet_step (fail)));refine oqU ?_)
     refine Hk (pks rfl) ?_;intro K_ hK_;go_wp2_with (go_at_call 45;refine(Qy (q:=(ci,sv)) gs m R (some ⟨g2,0,none⟩) (nT+1) nT M2 _ HIV1 (hid HI3.out.d.sp) HNM2 (hid L2D.out.tin) HF2).mono ?_;rintro r v3 ⟨m3,rfl,s3,w3,u3⟩;have D3:=hid (HI3.out.d.stepS u3 s3);have V3:=hid w3;have U3:=hid u3;clear s3 w3 u3)
     refine Eb.mk (U3.out.mono fun k _ hk=>.inl hk) ?_
     (refine Ey (pks rfl) ?_;(repeat (go_big_quiet_step (fail)));refine oqU ?_)
     refine Hk (pks rfl) ?_;intro K_ hK_;go_wp2_with (go_at_call 61;refine(Zl (q:=(ci,sv)) w gr q K tA tc nT x.T _ HIQ (hid D3.out.rs) HNT (hid (.inl HTT.out))).mono ?_;rintro r v4 ⟨q4,rfl,s4,w4,u4⟩;have D4:=hid (D3.out.stepR u4 s4);have V4:=hid w4;have U4:=hid u4;clear s4 w4 u4)
     refine Eb.mk (U4.out.mono fun k _ hk=>.inr hk) ?_;clear Q2
     (refine Ey (pks rfl) ?_;(repeat (go_big_quiet_step (fail)));refine oqU ?_)
     refine Om ?_;have hz3:=U3.out.size;have L24:=hid ((L2D.out.updB U3.out (fun k h1 _=>(HRO.out k (by omega)).1)).updB U4.out (fun k h1 _=>(HRO.out k (by omega)).2));have GP:Hid (Gap (Rg R v2.drew v3) (Rg K v3 v4) Gb b wo.heap.size v2.drew.heap.size):=hid (((HI2.out.d.gap v2.drew.heap.size).stepS (AD _)).stepR hz3);have S2:Hid (∀k,Pk g2 M2 k->wo.heap.size<=k/\k<v2.drew.heap.size):=hid (fun k hk=>L2D.out.iv hk);clear HI3 L2D HIV1 HF2 XD L2 U3 U4;go_wp2_with (first
      | (go_at_call 59;refine(Ql g2 nT _ M2 _ L24 (by omega)).mono ?_;rintro r v8 ⟨rfl,u8⟩;have D8:=hid (D4.out.spoil u8 GP.out S2.out hzo);clear u8)
      | fail)
     go_meet
     case rel=>exact⟨rfl,_,_,_,m3,q4,b,D8.out,by rw[V4.out,V3.out],by rw[V3.out];exact HTN.out,HI2.out.fw.up (by omega)⟩
    ·subst hq;obtain⟨⟨ta,bv⟩,hat⟩:∃v,atS m.v (ee,x.t.l)=v:=⟨_,rfl⟩;have hci:=wO m.v (ee,x.t.l);have hsm:=tS HI2.out.ok (ee,x.t.l);rw[hat]at hci hsm;have hcw:IntKind.i64.wrap ta=ta:=DB _ (by have:=hci.1;have:=hci.2;simp only at *;omega);have HAT:=hid hat;have HAQ:Hid (atS q.v (ee,x.t.l)=(ta,bv)):=hid (by rw[HI2.out.v];exact hat);have HSM:Hid (bv.length<=300/\∀v∈bv,v.1.length<=1000000):=hid ⟨by have a:=HI2.out.size;have c:=HOL.out;have d:=hsm.1;simp only at d;omega,hsm.2⟩;have HFW:=hid HI2.out.fw;have c4:wo.cell? ⟨go,4,none⟩=some (.int .u64 ee):=BO.out.cell 4;have c5:wo.cell? ⟨go,5,none⟩=some (.slice eA nE ec):=BO.out.cell 5;have HNG:Hid (∀k,wo.heap.size<=k->¬Gb k):=hid (fun k hk e=>by have:=(HI2.out.d.lg k e).2;omega);clear hat hci hsm;have m1:True:=trivial;go_wp2_with (first
      | (go_at_call 46;have mk:=m1;clear m1 mk;refine(Sn (q:=(ta,bv)) gs m R ee eA nE ec x.t.l _ HAT (hid HI2.out.d.sp) (hid HI2.out.ok.sp) HNE (hid (HE.out.ext HI2.out.d.ex)) (G.ext HI2.out.d.ex)).mono ?_;rintro r v1 ⟨A1,n1,k1,rfl,d1⟩;obtain⟨R1,e1,o1,r1,a1,w1,x1⟩:=wM d1;have N1:=hid e1;have O1:=hid o1;have RW1:=hid r1;have AP1:=hid a1;have V1:=hid w1;have Y1:=hid x1;have hn1:n1<=300:=(by rw[e1];have q:=congrArg List.length w1;rw[AN]at q;have:=HSM.out.1;simp only at q;omega);have c14:v1.cell? ⟨go,4,none⟩=some (.int .u64 ee):=(BO.out.ext x1).cell 4;have c15:v1.cell? ⟨go,5,none⟩=some (.slice eA nE ec):=(BO.out.ext x1).cell 5;clear d1 e1 o1 r1 a1 w1 x1;have m2:True:=trivial)
      | (go_at_call 62;have mk:=m2;clear m2 mk;refine(lK (q:=(ta,bv)) w gr q K ee eA nE ec x.t.l _ HAQ (hid (HI2.out.d.rs.ext Y1.out)) (hid HI2.out.okq) HNE (hid (HE.out.ext (HI2.out.d.ex.trans Y1.out)))).mono ?_;rintro r v2 ⟨A2,n2,k2,R2,rfl,e2,o2,p2,w2,x2⟩;have N2:=hid e2;have O2:=hid o2;have P2:=hid p2;have V2:=hid w2;have Y2:=hid x2;have hz1:=Y1.out.size;have hz2:=x2.size;clear e2 o2 p2 w2 x2;have m3:True:=trivial)
      | (go_at_call 22;have mk:=m3;clear m3 mk;refine(Qd gb n1 k1 Gb A1 R1 _ _ _ _ _ _ _ _ _ _ _ (hid (HI2.out.d.bk.ext (Y1.out.trans Y2.out))) (by rw[AN];have:=HFW.out.r.1;omega) (by rw[AN];have:=HFW.out.c.1;omega) N1 (hid (O1.out.sl.ext Y2.out)) (hid (fun k hk=>HNG.out k (O1.out.lt k hk).1))).mono ?_;rintro r v3 ⟨rfl,vr,vc,b3,u3⟩;have D3:=hid (HI2.out.d.tellC (Y1.out.trans Y2.out) (O1.out.ext Y2.out) (fun y hy=>⟨(RW1.out y hy).1.ext Y2.out,(RW1.out y hy).2⟩) AP1.out u3 b3);have C1:Hid (Er v3 A1 k1 R1):=hid (wH N1.out (O1.out.ext Y2.out) (fun y hy=>⟨(RW1.out y hy).1.ext Y2.out,(RW1.out y hy).2⟩) u3 HNG.out);have C2:Hid (Er v3 A2 k2 R2):=hid ⟨(by rw[<-N2.out];exact(O2.out.upd u3 (fun k hk=>HNG.out k (AQ hz1 (O2.out.lt k hk).1))).sl),fun y hy=>(P2.out y hy).ext D3.out.ex⟩;clear b3 u3;have m4:True:=trivial)
      | (go_at_call 25;have mk:=m4;clear m4 mk;refine(dQ A1 A2 k1 k2 n1 n2 R1 R2 _ N1.out N2.out C1.out C2.out (V1.out.trans V2.out.symm)).mono ?_;rintro r v4 ⟨rfl,x4⟩;have D4:=hid (D3.out.grow x4);clear x4)
      | fail)
     go_meet
     case rel =>
      refine⟨rfl,_,_,_,m,q,_,D4.out,HI2.out.v,?_,HFW.out.tellC N1.out hn1 fun y hy=>?_⟩
      ·obtain⟨all,ht⟩:=HI2.out.ts;exact⟨all,ht.up (by rw[Fn HIM.out];omega)⟩
      ·exact HSM.out.2 (Am y) (by rw[<-V1.out];exact AW.2 ⟨y,hy,rfl⟩)
    ·have b0:(xq==0)=false:=by simp;omega
     have b1:(xq==1)=false:=by simp;omega
     have b2:(xq==2)=false:=by simp;omega
     have b3:(xq==3)=false:=by simp;omega
     have b4:(xq==4)=false:=by simp;omega
     obtain⟨AV,hav⟩:∃v,Mr m.v=v:=⟨_,rfl⟩;have hsm:=oD HI2.out.ok;rw[hav]at hsm;have HAV:=hid hav;have HAQ:Hid (Mr q.v=AV):=hid (by rw[HI2.out.v];exact hav);have HSM:Hid (AV.length<=300/\∀u∈AV,u.1.1.length<=1000000/\u.1.2.2=[]):=hid ⟨by have a:=HI2.out.size;have c:=HOL.out;have d:=hsm.1;omega,hsm.2⟩;have HAL:AV.length<=1000000:=by have:=HSM.out.1;omega
     have HFW:=hid HI2.out.fw;have HNG:Hid (∀k,wo.heap.size<=k->¬Gb k):=hid (fun k hk e=>by have:=(HI2.out.d.lg k e).2;omega);clear hav hsm;have m1:True:=trivial
     go_upto_region 16 with (first
      | (go_at_call 48;have mk:=m1;clear m1 mk;refine(Po (V:=AV) gs m R _ HAV (hid HI2.out.d.sp) (hid HI2.out.ok.sp)).mono ?_;rintro r v1 ⟨A1,n1,R1,rfl,e1,o1,w1,x1⟩;have N1:=hid e1;have O1:=hid o1;have V1:=hid w1;have Y1:=hid x1;have hn1:n1<=300:=(by rw[e1];have q:=congrArg List.length w1;rw[AN]at q;have:=HSM.out.1;omega);have hz1:=x1.size;clear e1 o1 w1 x1;have m2:True:=trivial)
      | (go_at_call 21;have mk:=m2;clear m2 mk;refine(Rm gb n1 n1 Gb A1 R1 _ _ _ _ _ _ _ _ _ _ _ (hid (HI2.out.d.bk.ext Y1.out)) (by rw[AN];have:=HFW.out.r.1;omega) (by rw[AN];have:=HFW.out.w.1;omega) (by rw[AN];have:=HFW.out.u.1;omega) N1 (hid (by have q:=O1.out.own.sl;rwa [<-N1.out]at q)) (hid (fun k hk=>HNG.out k (O1.out.own.lt k hk).1))).mono ?_;rintro r v3 ⟨rfl,vr,vw,vu,b3',u3⟩;have D3:=hid (HI2.out.d.tellU Y1.out O1.out N1.out u3 b3');have U3:=hid (O1.out.upd u3 (fun k h1 _=>HNG.out k h1));have BO3:=hid ((BO.out.ext Y1.out).upd u3 HGO.out.2.2);clear b3' u3)
      | fail)
     have XD:Ext v3 v3.drew:=(Ext.refl _).drew;have HIS:Hid (OkV m.v):=hid HI2.out.ok;have HIQ:Hid (OkV q.v):=hid HI2.out.okq;refine wro [0,0,2,7,15,31,31,95,255,31,31,1055,4095,8191,16383,32767] (.pur [0] (.flo [1] (.one 2 (.one 3 (.flo [4,5,6,7,9,10,11] (.ext 8 (.one 12 (.one 13 (.flo [14,15] (.fin)))))))))) ?_
     (refine Bv (pks rfl) ?_;(repeat (go_big_quiet_step (fail)));refine oq ?_)
     (refine Aa (pks rfl) ?_;(repeat (go_big_quiet_step (fail)));refine oq ?_)
     refine Ac (pks rfl) ?_;intro K_ hK_;go_wp2_with (go_at_call 63;refine(Ub (V:=AV) w gr q K _ HAQ (hid (D3.out.rs.ext XD)) HIQ).mono ?_;rintro r v4 ⟨A4,n4,k4,R4,rfl,e4,i4,w4,x4⟩;have N4:=hid e4;have I4:=hid i4;have V4:=hid w4;have Y4:=hid (XD.trans x4);clear e4 i4 w4 x4)
     refine Ac (pks rfl) ?_;intro K_ hK_;go_wp2_with (go_at_call 23;refine(Qm A1 A4 n1 k4 n1 n4 R1 R4 _ N1 N4 (hid (U3.out.uin.ext Y4.out)) I4 (hid (V1.out.trans V4.out.symm))).mono ?_;rintro r v5 ⟨rfl,x5⟩;have Y5:=hid (Y4.out.trans x5);clear x5)
     have C6:∀y:Xt v5,y.W.cell? ⟨go,6,none⟩=some (.slice rA nR rc):=fun y=>(BO3.out.ext (Y5.out.trans y.x)).cell 6
     (refine Aa (pks rfl) ?_;(repeat (go_big_quiet_step (fail)));refine oq ?_)
     refine Bi (pks rfl) ?_;intro K_ hK_;go_wp2_with (go_at_call 51;refine(lC (V:=AV) gs m R rA rc nR x.r _ HAV (hid (D3.out.sp.ext Y5.out)) HIS HNR (hid (HRR.out.ext (D3.out.ex.trans Y5.out))) HAL).mono ?_;rintro r v6 hr6;obtain⟨A6,n6,k6,R6,rfl,e6,i6,w6,x6⟩:=hr6.cin;have N6:=hid e6;have I6:=hid i6;have V6:=hid w6;have X6:=hid x6;have Y6:=hid (Y5.out.trans x6);clear hr6 e6 i6 w6 x6)
     refine Aq.mk X6.out ?_;clear C6;refine Ac (pks rfl) ?_;intro K_ hK_;go_wp2_with (go_at_call 64;refine(gO (V:=AV) w gr q K rA rc nR x.r _ HAQ (hid (D3.out.rs.ext Y6.out)) HIQ HNR (hid (HRR.out.ext (D3.out.ex.trans Y6.out))) HAL).mono ?_;rintro r v7 hr7;obtain⟨A7,n7,k7,R7,rfl,e7,i7,w7,x7⟩:=hr7.cin;have hl76:n7=n6:=(by rw[e7,N6.out];have q:=congrArg List.length (w7.trans V6.out.symm);rwa [AN,AN]at q);subst hl76;have I7:=hid i7;have V7:=hid w7;have X7:=hid x7;have Y7:=hid (Y6.out.trans x7);clear hr7 e7 i7 w7 x7)
     refine Ac (pks rfl) ?_;intro K_ hK_;go_wp2_with (go_at_call 52;refine(Vz A6 A7 k6 k7 n7 R6 R7 _ N6 (hid (I6.out.ext X7.out)) I7 (hid (V6.out.trans V7.out.symm))).mono ?_;rintro r v8 ⟨rfl,x8⟩;have D8:=hid (D3.out.grow (Y7.out.trans x8));clear x8)
     (refine Aa (pks rfl) ?_;(repeat (go_big_quiet_step (fail)));refine oq ?_)
     refine Ad ?_;go_wp2
     go_meet
     case rel =>
      refine⟨rfl,_,_,_,m,q,_,D8.out,HI2.out.v,?_,HFW.out.tellU N1.out hn1 fun y hy=>?_⟩
      ·obtain⟨all,ht⟩:=HI2.out.ts;exact⟨all,ht.up (by rw[Fn HIM.out];omega)⟩
      ·have k:=HSM.out.2 y.uv (by rw[<-V1.out];exact AW.2 ⟨y,hy,rfl⟩);exact⟨k.1,by have e:y.t.l=[]:=k.2;rw[e];decide⟩
   case rest =>
    clear HI2 BO HGO hgo1 hq6 hL3 hT3 hcap HXR HXI HTX HX HOL HIN HF1 HLR HTR HXN HU HTT HE HRR HNL HNT HNE HNR hlen;obtain⟨rfl,R,K,Gb,m,q,b,hI0⟩:=hcut;have HI:=hid hI0;clear hI0;obtain⟨nS,hnS⟩:∃k,k=q.S.length:=⟨_,rfl⟩;obtain⟨nU,hnU⟩:∃k,k=q.U.length:=⟨_,rfl⟩;have HNS:=hid hnS;have HNU:=hid hnU;have HFS:=hid (Dt HI.out.ok.fs);have HFU:=hid (Dt HI.out.ok.fu);have HVS:Hid (ofV m.v.S=m.v.S):=hid (Fy HI.out.ok.fs);have HVU:Hid (ofV m.v.U=m.v.U):=hid (Fy HI.out.ok.fu);have HF1:Hid (Jv m.S):=hid ⟨by have:=HFS.out.2;omega,fun y hy=>AQ (HFS.out.1 y hy).2 (by decide)⟩;have HF2:Hid (Jv m.U):=hid ⟨by have:=HFU.out.2;omega,fun y hy=>AQ (HFU.out.1 y hy).2 (by decide)⟩;have HQS:Hid (q.S.map Tm.v=m.v.S):=hid (congrArg SV.S HI.out.v);have HQU:Hid (q.U.map Tm.v=m.v.U):=hid (congrArg SV.U HI.out.v);have HNG:Hid (∀k,wc.heap.size<=k->¬Gb k):=hid (fun k hk e=>by have:=(HI.out.d.lg k e).2;omega);have HFW:=hid HI.out.fw;have HB9:Hid (m.bs.length<=1000000/\q.bs.length<=1000000):=hid ⟨HI.out.ok.sp.nb,by have:=Hd HI.out.okq;omega⟩;have HSZ:Hid (Hr q.bs=Es m.bs):=hid (qP HI.out.v);clear hnS hnU;have m1:True:=trivial;go_wp2_with (first
     | (go_at_call 65;have mk:=m1;clear m1 mk;refine(lE (V:=m.v.S) gs m R _ HVS (hid HI.out.d.sp) HF1).mono ?_;rintro r v1 ⟨A1,k1,n1,L1,rfl,e1,t1,w1,x1⟩;have N1:=hid e1;have T1:=hid t1;have V1:=hid w1;have X1:=hid x1;have hn1:n1<=1:=(by rw[e1];have q1:=congrArg List.length w1;rw[AN]at q1;have:=HFS.out.2;rw[q1];show(m.S.map Tm.v).length<=1;rw[AN];exact this);clear e1 t1 w1 x1;have m2:True:=trivial)
     | (go_at_call 50;have mk:=m2;clear m2 mk;refine(kT (V:=m.v.U) gs m R _ HVU (hid (HI.out.d.sp.ext X1.out)) HF2).mono ?_;rintro r v2 ⟨A2,k2,n2,L2,rfl,e2,t2,w2,x2⟩;have N2:=hid e2;have T2:=hid t2;have V2:=hid w2;have X2:=hid x2;have hn2:n2<=1:=(by rw[e2];have q1:=congrArg List.length w2;rw[AN]at q1;have:=HFU.out.2;rw[q1];show(m.U.map Tm.v).length<=1;rw[AN];exact this);have hz1:=X1.out.size;have hz2:=x2.size;clear e2 t2 w2 x2;have m3:True:=trivial)
     | (go_at_call 35;have mk:=m3;clear m3 mk;refine(Nf gb n1 k1 Gb A1 L1 _ _ _ _ _ _ _ _ _ _ _ (hid (HI.out.d.bk.ext (X1.out.trans X2.out))) (by rw[AN];have:=HFW.out.w.1;omega) (by rw[AN];have:=HFW.out.t.1;omega) N1 (hid (by have q1:=(T1.out.own.ext X2.out).sl;rwa [<-N1.out]at q1)) (hid (fun k hk=>HNG.out k (T1.out.own.lt k hk).1))).mono ?_;rintro r v3 ⟨rfl,vw1,vt1,b3,u3⟩;have BK3:=hid b3;have U3:=hid u3;have hz3:=u3.size;clear b3 u3;have m4:True:=trivial)
     | (go_at_call 35;have mk:=m4;clear m4 mk;refine(Nf gb n2 k2 (RN Gb v2 v3) A2 L2 _ _ _ _ _ _ _ _ _ _ _ BK3 (by rw[AA,AN,AN,<-N1.out];have:=HFW.out.w.1;omega) (by rw[AA,AN];have:=HFW.out.t.1;simp only[AK];omega) N2 (hid (by have q1:=((T2.out.updB U3.out (fun k hk=>HNG.out k (AQ hz1 (T2.out.lt hk).1))).own).sl;rwa [<-N2.out]at q1)) (hid (fun k hk e=>e.elim (HNG.out k (AQ hz1 (T2.out.own.lt k hk).1)) (fun e=>by have:=(T2.out.own.lt k hk).2;omega)))).mono ?_;rintro r v4 ⟨rfl,vw2,vt2,b4,u4⟩;have D4:=hid (HI.out.d.tell2 (vw1:=vw1) (vt1:=vt1) X1.out T1.out N1.out X2.out T2.out N2.out U3.out u4 b4);have T14:=hid ((((T1.out.ext X2.out).updB U3.out (fun k hk=>HNG.out k (T1.out.lt hk).1)).updB u4 (fun k hk e=>e.elim (HNG.out k (T1.out.lt hk).1) (fun e=>by have:=(T1.out.lt hk).2;omega))).tin);have T24:=hid ((((T2.out).updB U3.out (fun k hk=>HNG.out k (AQ hz1 (T2.out.lt hk).1))).updB u4 (fun k hk e=>e.elim (HNG.out k (AQ hz1 (T2.out.lt hk).1)) (fun e=>by have:=(T2.out.lt hk).2;omega))).tin);clear b4 u4;have m5:True:=trivial)
     | (go_at_call 49;have mk:=m5;clear m5 mk;refine(Pp gs m R _ (hid D4.out.sp) HB9.out.1).mono ?_;rintro r v5 ⟨A5,n5,k5,rfl,e5,o5,x5⟩;have N5:=hid e5;have O5:=hid o5;have X5:=hid x5;clear e5 o5 x5;have m6:True:=trivial)
     | (go_at_call 67;have mk:=m6;clear m6 mk;refine(gQ w gr q K _ (hid (D4.out.rs.ext X5.out)) HB9.out.2).mono ?_;rintro r v6 ⟨A6,n6,k6,rfl,e6,o6,x6⟩;rw[HSZ.out]at e6 o6;have N6:Hid (n6=n5):=hid (e6.trans N5.out.symm);have O6:=hid o6;have X6:=hid x6;clear e6 o6 x6;have m7:True:=trivial)
     | (go_at_call 66;have mk:=m7;clear m7 mk;refine(Kl A5 A6 k5 k6 n5 n6 (Es m.bs) _ N5 N6 (hid (pH N5.out (O5.out.ext X6.out))) (hid (pH (N6.out.trans N5.out) O6.out))).mono ?_;rintro r v7 ⟨rfl,x7⟩;have Y7:=hid ((X5.out.trans X6.out).trans x7);have c73:v7.cell? ⟨gr,3,none⟩=some (.slice q.sA nS q.sc):=(by rw[HNS.out];exact(D4.out.rs.bk.ext Y7.out).cell 3);clear x7;have m8:True:=trivial)
     | (go_at_call 37;have mk:=m8;clear m8 mk;refine(My A1 q.sA n1 nS k1 q.sc L1 q.S _ N1 HNS (hid (T14.out.ext Y7.out)) (hid ((D4.out.rs.ext Y7.out).b.sn.tin (D4.out.ex.trans Y7.out))) (hid (V1.out.trans HQS.out.symm))).mono ?_;rintro r v8 ⟨rfl,x8⟩;have Y8:=hid (Y7.out.trans x8);have c84:v8.cell? ⟨gr,4,none⟩=some (.slice q.uA nU q.uc):=(by rw[HNU.out];exact(D4.out.rs.bk.ext Y8.out).cell 4);clear x8 c73;have m9:True:=trivial)
     | (go_at_call 37;have mk:=m9;clear m9 mk;refine(My A2 q.uA n2 nU k2 q.uc L2 q.U _ N2 HNU (hid (T24.out.ext Y8.out)) (hid ((D4.out.rs.ext Y8.out).b.up.tin (D4.out.ex.trans Y8.out))) (hid (V2.out.trans HQU.out.symm))).mono ?_;rintro r v9 ⟨rfl,x9⟩;have D9:=hid (D4.out.grow (Y8.out.trans x9));clear x9 c84)
     | fail)
    go_roundg (n-(i+1))
    case measure=>omega
    case rel =>
     refine⟨i+1,by omega,by omega,by go_num,hid ⟨_,_,_,m,q,_,D9.out,HI.out.v,HI.out.ts,TB.few.up (TB.few.tellT (TB.few.tellT HFW.out N1.out hn1 (bE V1.out HFS.out.1)) N2.out hn2 (bE V2.out HFU.out.1)) (by omega)⟩⟩
  ·obtain⟨R,K,Gb,m,q,b,hI0⟩:=HK.out;have HI:=hid hI0;clear hI0 HK;go_wp2_with (go_at_call 29;refine(yV HI.out.d (HI.out.fw.up (by omega))).mono ?_;rintro r v1 ⟨rfl,u1⟩;have X1:Hid (Ext w v1):=hid (Ix HI.out.d.ex u1 fun k hk=>hk.1);clear u1)
   go_ret;exact⟨rfl,X1.out⟩
theorem nM(A:Option Addr)(c n:Nat)(M:List Sop)(w:World)(hn:Hid (n=M.length))(hM:Hid (Oin w A c M))(hb:Hid (∀x∈M,x.L.length<=1048576/\x.T.length<=1048576))(h1:Hid (Ny M=true)) :
  Calls Tryz.prog 7 #[.slice A n c] w fun e w'=>e=.returned (.bool true)/\Ext w w':=by
 go_enter Tryz.func7,Tryz.ntmps7;go_wp2_with (go_at_call 41;refine(Wu A c n M _ h1 hn hM hb).mono ?_;rintro r w1 ⟨rfl,x1⟩)
 go_ret;exact⟨rfl,x1⟩
theorem spineDoes_any(A:Option Addr)(c n:Nat)(M:List Sop)(w:World)(G:Good w)(hn:Hid (n=M.length))(hM:Hid (Oin w A c M))(hI:Hid (∀x∈M,Oc x))(hb:Hid (∀x∈M,x.L.length<=1048576/\x.T.length<=1048576))(htx:Hid (∀x∈M,∀y∈x.L,∀d∈y.l,d.s.size<=10000000000000)) :
  Calls Tryz.prog 7 #[.slice A n c] w fun e w'=>e=.returned (.bool true)/\Ext w w':=by
 cases h1:Ny M with
 | true=>exact nM A c n M w hn hM hb (hid h1)
 | false=>exact tB A c n M w G hn hM hI hb htx (hid h1)
end Go.Proofs.YtdgbkpoickbidaaGreatDoor
