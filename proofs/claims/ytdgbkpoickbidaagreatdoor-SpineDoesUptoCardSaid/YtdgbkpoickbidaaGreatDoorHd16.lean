/- penstockref11: Work. penstockref11: Insert. Counts of times: their frontier, and how it moves. Plain. Lists of changes in memory. A spine's Row: a row's changes. Conditions: each theorem states its own. -/
import Derived.Test.YtdgbkpoickbidaaGreatDoorHd15
import Derived.Deep.CutBlock
set_option maxRecDepth 100000
set_option maxHeartbeats 16000000
open Go.RowKit
namespace Go.Proofs.YtdgbkpoickbidaaGreatDoor
theorem jI{l:List Rb}{i:Nat}(h:i+1<l.length):(Dp l i).l.length+(Dp l (i+1)).l.length<=(Dx l).length:=by
 have e:Dx l=Dx (l.take i)++((Dp l i).l++((Dp l (i+1)).l++Dx (l.drop (i+2)))):=by
  have e0:l=l.take (i+2)++l.drop (i+2):=(CE _ _).symm;have e1:l.take (i+2)=l.take i++[Dp l i]++[Dp l (i+1)]:=by rw[Xx h,Xx (by omega)]
  rw[e1]at e0;unfold Dx
  conv=>lhs;rw[e0]
  simp
 rw[e,AA,AA,AA];omega
theorem Yc(l:List Rb):(Dx l).map Ud.uv=(l.map Rb.v).flatten:=by
 unfold Dx Rb.v;rw[List.flatMap_def,List.map_flatten,DD];rfl
theorem Hd{m:RSM}(h:OkV m.v):(Dx m.bs).length+m.bs.length<=1000000:=by
 have h1:=h.nb;have e:m.v.bs.flatten.length=(Dx m.bs).length:=by
  have q:=congrArg List.length (Yc m.bs);rw[AN]at q;exact q.symm
 have e2:m.v.bs.length=m.bs.length:=by show(m.bs.map Rb.v).length=_;rw[AN]
 omega
theorem fU{m:RSM}(h:OkV m.v):∀x∈Dx m.bs,InU x/\x.t.l=[]:=fun x hx=>by
 have hu:x.uv∈m.v.bs.flatten:=by
  show x.uv∈(m.bs.map Rb.v).flatten;rw[<-Yc];exact AW.2 ⟨x,hx,rfl⟩
 exact⟨(h.ins _ hu).1.u,(h.ins _ hu).2.1⟩
theorem xL{l:List Rb}{b:Rb}(h:b∈l):∀x∈b.l,x∈Dx l:=fun x hx=>DH.2 ⟨b,h,hx⟩
theorem oW(l:List Rb):∀u∈l.map Rb.s,u.oneCell'=true:=fun u hu=>by
 obtain⟨b,_,rfl⟩:=AW.1 hu;rfl
theorem qO{w:World}{w':World}{A:Option Addr}{c:Nat}(h:Sl w 1 A 0 c (wds [])):Sl w' 1 A 0 c (wds []):=⟨h.1,h.2.1,h.2.2.1,h.2.2.2.1,fun q=>absurd q (by omega)⟩
theorem qI{w0 w w':World}{x y:Ud}(h:Dz w w' x y)(hx:UdR w0 x)(hy:y.t.l=[]):UdR w0 y:=by
 obtain⟨e1,e2,e3,e4⟩:=h;refine⟨by rw[e1,e2,e3];exact hx.r,?_⟩;rw[hy];rcases e4 with ⟨f1,f2,f3⟩|o
 ·have:=hx.t;rw[<-f1,<-f2,<-f3,hy]at this;exact this
 ·have:=o.sl;rw[hy]at this;exact qO this
theorem cK{w0 w w2 w':World}{K:Nat->Prop}{gr i:Nat}{m:RSM}{A B:Option Addr}{c d p q:Nat}{M:List Ud}{N:List Rb}(x0:Ext w0 w)(up:Upd K w w2)(h:RSR w0 w2 (Rg K w w2) gr m)(hu:m.un=some (i,0))(x:Ext w2 w')
  (hN:N=m.bs.take i++(if M=[] then [] else [⟨B,d,M⟩])++m.bs.drop (i+2)) (hp:p=N.length) (o:Own w' w2.heap.size 22 1 A p c (N.map Rb.s)) (hq:q=M.length) (b:Own w' w2.heap.size 95 4 B q d (Ah M)) (hM:∀y∈M,UdR w0 y) (hV:M.map Ud.uv=Ch m.v i) :
  ∃m2:RSM,RSR w0 ((w'.setCell ⟨gr,0,none⟩ (.slice A p c)).setCell ⟨gr,1,none⟩ (.int .i64 (-1))) (Rg K w ((w'.setCell ⟨gr,0,none⟩ (.slice A p c)).setCell ⟨gr,1,none⟩ (.int .i64 (-1)))) gr m2/\m2.v=Ir m.v/\Upd K w ((w'.setCell ⟨gr,0,none⟩ (.slice A p c)).setCell ⟨gr,1,none⟩ (.int .i64 (-1))):=by
 subst hp hq;have z2:=up.size;have z0:=x0.size;have zx:=x.size;have hw:∀k,k<w'.heap.size->Rg K w w2 k->Rg K w w' k:=fun k _ hk=>hk.imp id fun z=>⟨z.1,by omega⟩;have hK:∀k,w2.heap.size<=k->k<w'.heap.size->Rg K w w' k:=fun k h1 h2=>.inr ⟨by omega,h2⟩;have h':=(h.ext x).wide hw;have P:=h'.put_l (B:=A) (d:=c) (M:=N) (o.mono (by omega)) (fun k hk=>hK k (o.lt k hk).1 (o.lt k hk).2) (fun r hr=>by
  rw[hN]at hr;rcases AR.1 hr with hr|hr
  ·rcases AR.1 hr with hr|hr
   ·exact h'.b.bt r (CF hr)
   ·split at hr
    ·cases hr
    ·rw[AH.1 hr];exact⟨b.mono (by omega),fun k hk=>hK k (b.lt k hk).1 (b.lt k hk).2,hM⟩
  ·exact h'.b.bt r (CP hr))
 have P2:=P.put_none (show({ m with A:=A,c:=c,bs:=N }:RSM).un=some (i,0)from hu);have hz:((w'.setCell ⟨gr,0,none⟩ (.slice A N.length c)).setCell ⟨gr,1,none⟩ (.int .i64 (-1))).heap.size=w'.heap.size:=by simp
 refine⟨_,P2.wide fun k _ hk=>hk.imp id fun z=>⟨z.1,by rw[hz];exact z.2⟩,?_,?_⟩
 ·have e1:N.map Rb.v=m.v.bs.take i++(if Ch m.v i=[] then [] else [Ch m.v i])++m.v.bs.drop (i+2):=by
   rw[hN,AO,AO,EQ,FB];have e2:(if M=[] then ([]:List Rb) else [⟨B,d,M⟩]).map Rb.v=if Ch m.v i=[] then [] else [Ch m.v i]:=by
    rw[<-hV];cases M with
    | nil=>rfl
    | cons a l=>rfl
   rw[e2];rfl
  unfold Ir;rw[show m.v.un=some (i,0)from hu];show SV.mk (N.map Rb.v) _ _ _=_;rw[e1];rfl
 ·have kg:K gr\/w.heap.size<=gr:=h.kg.imp id fun z=>z.1;exact((up.trans (Upd.ext x)).setCell (p:=⟨gr,0,none⟩) kg _).setCell (p:=⟨gr,1,none⟩) kg _
theorem yU{m:RSM}{j nb nc:Nat}(h:j+1<m.bs.length)(h1:nb=(Dp m.bs j).l.length)(h2:nc=(Dp m.bs (j+1)).l.length):Kv m.v.bs (j+1)=if nb<=2*nc then some (j,nb+nc) else Kv m.v.bs j:=by
 have e1:(m.v.bs.getD j []).length=nb:=by show((m.bs.map Rb.v).getD j []).length=nb;rw[Xz (by omega),Rb.len,h1]
 have e2:(m.v.bs.getD (j+1) []).length=nc:=by show((m.bs.map Rb.v).getD (j+1) []).length=nc;rw[Xz h,Rb.len,h2]
 rw[sW,e1,e2]
theorem cO(l:List Rb)(k:Nat):∀u∈(l.map Rb.s).drop k,u.oneCell'=true:=fun u hu=>oW l u (CP hu)
theorem qL(l:List Rb)(k:Nat):∀u∈(l.map Rb.s).take k,u.oneCell'=true:=fun u hu=>oW l u (CF hu)
theorem wU{V:List UV}{L M:List Ud}{S:List TV}{m n:Nat}(hm:m=M.length)(v:M.map Ud.uv=V)(hV:UdS.sumV ((L.map Ud.uv).map (Bp S))=V)(hn:n=L.length):m<=n:=by
 have h1:=congrArg List.length v;have h2:=Hz ((L.map Ud.uv).map (Bp S));rw[AN]at h1;rw[hV,AN,AN]at h2;omega
theorem wS{w0 w w':World}{V:List UV}{L M:List Ud}{S:List TV}(hN:∀x∈(L.map Ud.uv).map (Bp S),UdS.InN x)(p:∀y∈M,∃x∈L,Dz w w' x y)(v:M.map Ud.uv=V)(hV:UdS.sumV ((L.map Ud.uv).map (Bp S))=V)(h:∀x∈L,x.t.l=[]/\UdR w0 x):∀y∈M,UdR w0 y:=fun y hy=>by
 obtain⟨x,hx,f⟩:=p y hy;refine qI f (h x hx).2 ?_;have hu:y.uv∈V:=by rw[<-v];exact AW.2 ⟨y,hy,rfl⟩
 rw[<-hV]at hu;obtain⟨_,_,z,hz,e⟩:=UdS.sumV_mem hN hu;obtain⟨z1,hz1,rfl⟩:=AW.1 hz;obtain⟨z2,hz2,rfl⟩:=AW.1 hz1;have e2:y.t.l=(Fg S z2.t.v).2:=congrArg (fun q:UK=>q.2.2) e.symm;apply AG;rw[e2,Ln];have:=(h z2 hz2).1;show z2.t.l.length=0;rw[this];rfl
theorem pN{m:RSM}{i l:Nat}(h:m.un=some (i,l)):Ir ({ m with un:=some (i,0) }:RSM).v=Ir m.v:=by
 unfold Ir Ch;rw[show m.v.un=some (i,l)from h];rfl
theorem lH(w0:World)(gr n:Nat)(m:RSM)(K:Nat->Prop)(w:World)(x0:Hid (Ext w0 w))(HM:Hid (RSR w0 w K gr m))(ok:Hid (OkV m.v))(hn:0<n)(hn9:n<=9223372036854775807):Calls Tryz.prog 60 #[.pointer (some ⟨gr,0,none⟩),.int .i64 n] w (qA w0 w K gr m.v n):=by
 have h1:¬((n:Int)<1):=by omega
 have HI0:Hid (Lg w0 w w K gr n n m.v m):=hid ⟨HM.out.wide fun _ _ hk=>.inl hk,ok.out,Upd.refl K w,fun t r h=>h⟩;have HN9:=hid hn9;go_enter Tryz.func60,Tryz.ntmps60;go_wp2
 go_loopg [1] n (fun z u wr=>∃(k:Nat) (m':RSM),z=k/\k<=n/\u=.int .i64 k/\Hid (Lg w0 w wr K gr n k m.v m'))
 case atStart=>exact⟨n,m,rfl,AD _,rfl,HI0⟩
 case round =>
  clear HI0;obtain⟨k,m',hz,hk,rfl,HI⟩:=hrel;obtain⟨wa,hwa⟩:∃W:World,W=wr:=⟨_,rfl⟩;rw[<-hwa]at HI ⊢;clear hwa;by_cases hk0:k=0
  ·subst hk0;go_wp2;go_ret;exact⟨m',0,rfl,HI.out.sp,.inr ⟨n,rfl,hn,HI.out.wk _ _ (.done _)⟩,HI.out.ok,HI.out.up⟩
  ·have hkz:(0:Int)<(k:Int):=by omega
   have hk1:0<k:=by omega
   have HKK:=hid hk1;obtain⟨N,hN⟩:∃N,N=m'.bs.length:=⟨_,rfl⟩;have HN:=hid hN;have hlen:=Hd HI.out.ok;have HLN:=hid hlen;rw[<-hN]at hlen;have hN9:N<=1000000:=by omega
   clear hlen;obtain⟨mA,hmA⟩:∃a,m'.A=a:=⟨_,rfl⟩;have HMA:=hid hmA;have c0:wa.cell? ⟨gr,0,none⟩=some (.slice mA N m'.c):=hmA▸hN▸HI.out.sp.bk.cell 0;have c1:wa.cell? ⟨gr,1,none⟩=some (.int .i64 (jD m'.un)):=HI.out.sp.bk.cell 1;clear hmA hN
   go_upto_if 17 with fail
   go_cut [1] (fun u wx=>∃(m1:RSM) (i l:Nat),u=.int .i64 k/\Hid (Jz w0 w wx K gr n k m.v m1 i l))
   case first =>
    cases hun:m'.un with
    | some p =>
     obtain⟨i,l⟩:=p;rw[hun]at c1;replace c1:wa.cell? ⟨gr,1,none⟩=some (.int .i64 (i:Nat)):=c1;have HU:=hid hun;clear hun;have hi0:¬((i:Int)<0):=by omega
     go_wp2
     go_meet
     case rel=>exact⟨m',i,l,rfl,hid (HI.out.on HKK.out HU.out)⟩
    | none =>
     rw[hun]at c1;replace c1:wa.cell? ⟨gr,1,none⟩=some (.int .i64 (-1)):=c1;have HU:=hid hun;have HP0:Hid (RSR w0 wa (Rg K w wa) gr { m' with un:=Kv m'.v.bs 0,lf:=m'.lf }):=hid (by
      have:({ m' with un:=Kv m'.v.bs 0,lf:=m'.lf }:RSM)=m':=by
       show({ m' with un:=none,lf:=m'.lf }:RSM)=m';rw[<-hun]
      rw[this];exact HI.out.sp)
     have HU0:Hid (Upd K w wa):=hid HI.out.up;clear hun;have hm1:((-1:Int)<0):=by decide
     go_wp2
     go_loopg [5] N (fun z u wq=>∃(j:Nat),z=N-j/\j<=N-1/\u=.int .i64 j/\Hid (RSR w0 wq (Rg K w wq) gr { m' with un:=Kv m'.v.bs j,lf:=m'.lf })/\Hid (Upd K w wq))
     case atStart=>exact⟨0,by omega,AE _,rfl,HP0,HU0⟩
     case round =>
      clear HP0 HU0;obtain⟨j,rfl,hj,rfl,HP,HUP⟩:=hrel;have d0:wr.cell? ⟨gr,0,none⟩=some (.slice mA N m'.c):=HMA.out▸HN.out▸HP.out.bk.cell 0;by_cases hlt:j+1<N
      ·have hltz:(j:Int)+1<(N:Int):=by omega
       have hjl:j+1<m'.bs.length:=by rw[<-HN.out];exact hlt
       obtain⟨ad,hA,p0⟩:=HP.out.b.at (i:=j) (show j<m'.bs.length by omega);obtain⟨ad',hA',p1⟩:=HP.out.b.at (i:=j+1) hjl;replace hA:m'.A=some ad:=hA;replace hA':m'.A=some ad':=hA';obtain rfl:mA=some ad:=HMA.out.symm.trans hA;obtain rfl:ad=ad':=by rw[hA]at hA';injection hA'
       clear hA hA';obtain⟨b0,hb0⟩:∃b,Dp m'.bs j=b:=⟨_,rfl⟩;obtain⟨b1,hb1⟩:∃b,Dp m'.bs (j+1)=b:=⟨_,rfl⟩;obtain⟨nb,hnb⟩:∃k,k=b0.l.length:=⟨_,rfl⟩;obtain⟨nc,hnc⟩:∃k,k=b1.l.length:=⟨_,rfl⟩;replace p0:wr.cell? (ad.add j)=some (.slice b0.A nb b0.c):=by rw[hnb,<-hb0];exact p0
       replace p1:wr.cell? ⟨ad.block,ad.off+(j+1),none⟩=some (.slice b1.A nc b1.c):=by rw[hnc,<-hb1];exact p1
       have HDU:=hid (yU (m:=m') (nb:=nb) (nc:=nc) hjl (by rw[hb0];exact hnb) (by rw[hb1];exact hnc));have hsum:nb+nc<=1000000:=by have q:=jI hjl;have q2:=HLN.out;rw[hb0,hb1,<-hnb,<-hnc]at q;omega
       have hw2:IntKind.i64.wrap (2*(nc:Int))=2*(nc:Int):=DB _ (by omega);have X:Ext wr wr.drew:=(Ext.refl _).drew;have HB:=hid (HP.out.ext X);have D0:∀y:Xt wr.drew,y.W.cell? ⟨gr,0,none⟩=some (.slice (some ad) N m'.c):=fun y=>(X.trans y.x).cell d0;have P0:∀y:Xt wr.drew,y.W.cell? (ad.add j)=some (.slice b0.A nb b0.c):=fun y=>(X.trans y.x).cell p0;have P1:∀y:Xt wr.drew,y.W.cell? ⟨ad.block,ad.off+(j+1),none⟩=some (.slice b1.A nc b1.c):=fun y=>(X.trans y.x).cell p1;have HG0:Hid ((Dp m'.bs j).s=.slice b0.A nb b0.c):=hid (by rw[hb0,hnb]);have HG1:Hid ((Dp m'.bs (j+1)).s=.slice b1.A nc b1.c):=hid (by rw[hb1,hnc]);clear hb0 hb1 hnb hnc hjl
       go_upto_region 8 with fail
       refine wro [0,1,3,7,0,31,63,127,0,256,768,1792,0,4096,16128,32512,65280,130816,262143] (.flo [0,1,2,3,4,5,6,7,8,9,10,11,12,13,14,15,16,17,18] (.fin)) ?_
       (refine Aa (pks rfl) ?_;(repeat (go_big_quiet_step (fail)));refine oq ?_)
       refine Ad ?_;obtain⟨w8,hw8⟩:∃W,W=wr.drew:=⟨_,rfl⟩;rw[<-hw8]at X HB ⊢;clear hw8 D0 P0 P1;by_cases hdue:nb<=2*nc
       ·have hduez:(nb:Int)<=2*(nc:Int):=by omega
        have hs:IntKind.i64.wrap ((nb:Int)+(nc:Int))=((nb+nc:Nat):Int):=by rw[<-Int.natCast_add];exact DB _ (by omega)
        have HPU:=hid (HB.out.put_un (a:=(j:Int)) j (nb+nc) rfl);have HUU:Hid (Upd K w ((w8.setCell ⟨gr,1,none⟩ (.int .i64 (j:Int))).setCell ⟨gr,2,none⟩ (.int .i64 ((nb+nc:Nat):Int))).drew):=hid (by
         have kg:K gr\/w.heap.size<=gr:=HB.out.kg.imp id fun z=>z.1;exact(((HUP.out.trans (Upd.ext X)).setCell (p:=⟨gr,1,none⟩) kg _).setCell (p:=⟨gr,2,none⟩) kg _).trans (Upd.ext ((Ext.refl _).drew)))
        have hzz:wr.heap.size<=((w8.setCell ⟨gr,1,none⟩ (.int .i64 (j:Int))).setCell ⟨gr,2,none⟩ (.int .i64 ((nb+nc:Nat):Int))).drew.heap.size:=by
         have a1:=X.size;have a2:=(Ext.refl ((w8.setCell ⟨gr,1,none⟩ (.int .i64 (j:Int))).setCell ⟨gr,2,none⟩ (.int .i64 ((nb+nc:Nat):Int)))).drew.size;have a3:((w8.setCell ⟨gr,1,none⟩ (.int .i64 (j:Int))).setCell ⟨gr,2,none⟩ (.int .i64 ((nb+nc:Nat):Int))).heap.size=w8.heap.size:=by simp
         rw[a3]at a2;omega
        have HPW:Hid (RSR w0 ((w8.setCell ⟨gr,1,none⟩ (.int .i64 (j:Int))).setCell ⟨gr,2,none⟩ (.int .i64 ((nb+nc:Nat):Int))).drew (Rg K w ((w8.setCell ⟨gr,1,none⟩ (.int .i64 (j:Int))).setCell ⟨gr,2,none⟩ (.int .i64 ((nb+nc:Nat):Int))).drew) gr { m' with un:=Kv m'.v.bs (j+1),lf:=m'.lf }):=hid (by
         rw[HDU.out,if_pos hdue];exact HPU.out.wide fun k _ hk=>hk.imp id fun z=>⟨z.1,BF z.2 hzz⟩)
        have hgl:=HB.out.bk.lt;have f1:=HB.out.bk.free 1;have e1:w8.cell? ⟨gr,1,none⟩=some (.int .i64 (jD (Kv m'.v.bs j))):=HB.out.bk.cell 1;have BK1:=HB.out.bk.set 1 (.int .i64 (j:Int));have HB1:=HB.out.b.head HB.out.bk HB.out.lo 1 (.int .i64 (j:Int));obtain⟨ad1,hA1,q0⟩:=HB1.at (i:=j) (show j<m'.bs.length by rw[<-HN.out];omega);obtain⟨ad2,hA2,q1⟩:=HB1.at (i:=j+1) (show j+1<m'.bs.length by rw[<-HN.out];omega);replace hA1:m'.A=some ad1:=hA1;replace hA2:m'.A=some ad2:=hA2;obtain rfl:ad=ad1:=by rw[HMA.out]at hA1;injection hA1
        obtain rfl:ad=ad2:=by rw[HMA.out]at hA2;injection hA2
        obtain⟨w1,hw1⟩:∃w1,w1=w8.setCell ⟨gr,1,none⟩ (.int .i64 (j:Int)):=⟨_,rfl⟩;rw[<-hw1]at HPW HUU BK1 q0 q1;clear HPU hzz hA1 hA2 HB1
        go_upto_region 10 with fail
        rw[<-hw1];have X1:Ext w1 w1.drew:=(Ext.refl _).drew;have D0:∀y:Xt w1.drew,y.W.cell? ⟨gr,0,none⟩=some (.slice (some ad) N m'.c):=fun y=>by have:=(BK1.ext (X1.trans y.x)).cell 0;exact this.trans (by rw[<-HMA.out,HN.out];rfl)
        have P0:∀y:Xt w1.drew,y.W.cell? (ad.add j)=some (.slice b0.A nb b0.c):=fun y=>(X1.trans y.x).cell (q0.trans (by rw[HG0.out]));have P1:∀y:Xt w1.drew,y.W.cell? ⟨ad.block,ad.off+(j+1),none⟩=some (.slice b1.A nc b1.c):=fun y=>(X1.trans y.x).cell (q1.trans (by rw[HG1.out]));have hgl2:=(BK1.ext X1).lt;have f2:=(BK1.ext X1).free 2;have e2:w1.drew.cell? ⟨gr,2,none⟩=some (.int .i64 (xR (Kv m'.v.bs j) m'.lf)):=(BK1.ext X1).cell 2;clear hw1 q0 q1;refine wro [0,0,2,6,14,0,62,126,254,0,512,1536,3584,0,8192,32256,65024,130560,262142,524287,1048575,2097151] (.flo [0,1,2,3,4,5,6,7,8,9,10,11,12,13,14,15,16,17,18,19,20] (.one 21 (.fin))) ?_
        (refine Aa (pks rfl) ?_;(repeat (go_big_quiet_step (fail)));refine oq ?_)
        refine Ac (pks rfl) ?_;intro K_ hK_;go_wp2;refine Ad ?_;go_wp2
        go_roundg (N-(j+1))
        case measure=>omega
        case rel=>exact⟨j+1,rfl,by omega,by go_num,HPW,HUU⟩
       ·have hduez:¬(nb:Int)<=2*(nc:Int):=by omega
        have HP2:Hid (RSR w0 w8 (Rg K w w8) gr { m' with un:=Kv m'.v.bs (j+1),lf:=m'.lf }):=hid (by rw[HDU.out,if_neg hdue];exact HB.out.wide fun k _ hk=>hk.imp id fun z=>⟨z.1,BF z.2 X.size⟩);have HU2:Hid (Upd K w w8):=hid (HUP.out.trans (Upd.ext X));go_wp2
        go_roundg (N-(j+1))
        case measure=>omega
        case rel=>exact⟨j+1,rfl,by omega,by go_num,HP2,HU2⟩
      ·have hltz:¬(j:Int)+1<(N:Int):=by omega
       obtain rfl:j=N-1:=by omega
       obtain⟨d,hd⟩:∃d,Kv m'.v.bs (N-1)=d:=⟨_,rfl⟩;rw[hd]at HP;have HDD:Hid (Kv m'.v.bs (m'.v.bs.length-1)=d):=hid (by rw[show m'.v.bs.length=N by rw[HN.out];exact AN ..];exact hd);have d1:wr.cell? ⟨gr,1,none⟩=some (.int .i64 (jD d)):=HP.out.bk.cell 1;clear hd;cases d with
       | none =>
        replace d1:wr.cell? ⟨gr,1,none⟩=some (.int .i64 (-1)):=d1;have HST:Hid (∀r,Cz m'.v k m'.v r->Cz m.v n m'.v r):=hid (fun r hw=>HI.out.wk _ _ hw);have HBE:Hid (Bo m'.v=(m'.v,false)):=hid (by rw[Xk (show m'.v.un=none from HU.out),HDD.out]);go_wp2;go_ret;exact⟨_,k,rfl,HP.out,.inr ⟨n,rfl,hn,by rw[show({ m' with un:=none,lf:=m'.lf }:RSM).v=m'.v by unfold RSM.v;rw[HU.out]];exact HST.out _ (.stop HKK.out HBE.out)⟩,by rw[show({ m' with un:=none,lf:=m'.lf }:RSM).v=m'.v by unfold RSM.v;rw[HU.out]];exact HI.out.ok,HUP.out⟩
       | some p =>
        obtain⟨pi,pl⟩:=p;replace d1:wr.cell? ⟨gr,1,none⟩=some (.int .i64 (pi:Nat)):=d1;have hi0:¬((pi:Int)<0):=by omega
        go_wp2
        go_meet
        case rel=>exact⟨_,pi,pl,rfl,hid (HI.out.due HKK.out HU.out HDD.out rfl HP.out HUP.out rfl)⟩
   case rest =>
    clear HI HN HLN HMA c0 c1 hN9;obtain⟨m1,i,l,rfl,HP⟩:=hcut;obtain⟨hlt,hl0,hl9⟩:=HP.out.ok.un i l HP.out.un;replace hlt:i+1<m1.bs.length:=by have e:m1.v.bs.length=m1.bs.length:=AN ..;omega
    have HLT:=hid hlt;have c1:wc.cell? ⟨gr,1,none⟩=some (.int .i64 (i:Nat)):=by have:=HP.out.sp.bk.cell 1;unfold Kn at this;rw[HP.out.un]at this;exact this
    have c2:wc.cell? ⟨gr,2,none⟩=some (.int .i64 (l:Nat)):=by have:=HP.out.sp.bk.cell 2;unfold Kn at this;rw[HP.out.un]at this;exact this
    have hgl:=HP.out.sp.bk.lt;have f2:=HP.out.sp.bk.free 2;obtain⟨q,hq⟩:∃q,min k l=q:=⟨_,rfl⟩;have hqk:q<=k:=by omega
    have hql:q<=l:=by omega
    have hm1:min (k:Int) (l:Int)=(q:Int):=by omega
    have hm2:(if (l:Int)<(k:Int) then (l:Int) else (k:Int))=(q:Int):=by split<;>omega
    have hw1:IntKind.i64.wrap ((l:Int)-(q:Int))=((l-q:Nat):Int):=by rw[<-GK hql];exact DB _ (by omega)
    have hw2:IntKind.i64.wrap ((k:Int)-(q:Int))=((k-q:Nat):Int):=by rw[<-GK hqk];exact DB _ (by omega)
    have HQ:=hid hq;have HPY:=hid (HP.out.pay (l-q));clear hlt;by_cases hz0:l-q=0
    ·have hz1:¬(0:Int)<((l-q:Nat):Int):=by omega
     have hkq:k-q<k:=by omega
     go_upto_region 18 with fail
     have HPZ:Hid (RSR w0 (wc.setCell ⟨gr,2,none⟩ (.int .i64 0)) (Rg K w (wc.setCell ⟨gr,2,none⟩ (.int .i64 0))) gr { m1 with un:=some (i,0) }/\Upd K w (wc.setCell ⟨gr,2,none⟩ (.int .i64 0))):=hid (HP.out.pay 0);obtain⟨w2,hw2_⟩:∃w2,w2=wc.setCell ⟨gr,2,none⟩ (.int .i64 0):=⟨_,rfl⟩;rw[<-hw2_]at HPZ ⊢;clear hw2_ c1 c2 hgl f2 hw1 hm1 hm2 hq;have HS:Hid (RSR w0 w2 (Rg K w w2) gr { m1 with un:=some (i,0) }):=hid HPZ.out.1;have HU:=hid HPZ.out.2;clear HPY HPZ;obtain⟨N,hN⟩:∃N,N=m1.bs.length:=⟨_,rfl⟩;have HNN:=hid hN.symm;have hlen:=Hd HP.out.ok;have hlt:=HLT.out;rw[<-hN]at hlen hlt;have hN9:N<=1000000:=by omega
     have htwo:=jI HLT.out;obtain⟨ad,hA,p0⟩:=HS.out.b.at (i:=i) (show i<m1.bs.length by omega);obtain⟨ad',hA',p1⟩:=HS.out.b.at (i:=i+1) HLT.out;replace hA:m1.A=some ad:=hA;replace hA':m1.A=some ad':=hA';obtain rfl:ad=ad':=by rw[hA]at hA';injection hA'
     have ha_in:=Tb (l:=m1.bs) (i:=i) (by omega);have hb_in:=Tb HLT.out;have HUA:=HS.out.b.uin (i:=i) (show i<m1.bs.length by omega);have HUB:=HS.out.b.uin (i:=i+1) HLT.out;have hbV:Ch m1.v i=UdS.sumV (((Dp m1.bs i).v++(Dp m1.bs (i+1)).v).map (Bp (m1.S.map Tm.v))):=by
      show UdS.sumV (((m1.bs.map Rb.v).getD i []++(m1.bs.map Rb.v).getD (i+1) []).map (Bp (m1.S.map Tm.v)))=_;rw[Xz (by omega),Xz HLT.out]
     have hbt1:=HS.out.b.bt _ ha_in;have hbt2:=HS.out.b.bt _ hb_in;have hi1:∀x∈(Dp m1.bs i).l++(Dp m1.bs (i+1)).l,(InU x/\x.t.l=[])/\UdR w0 x:=fun x hx=>by
      rcases AR.1 hx with hx|hx
      ·exact⟨fU HP.out.ok x (xL ha_in x hx),hbt1.ls x hx⟩
      ·exact⟨fU HP.out.ok x (xL hb_in x hx),hbt2.ls x hx⟩
     replace p0:w2.cell? (ad.add i)=some (Dp m1.bs i).s:=p0;replace p1:w2.cell? ⟨ad.block,ad.off+(i+1),none⟩=some (Dp m1.bs (i+1)).s:=p1;obtain⟨⟨aA,ac,al⟩,ha⟩:∃b,Dp m1.bs i=b:=⟨_,rfl⟩;obtain⟨⟨bA,bc,bl⟩,hb⟩:∃b,Dp m1.bs (i+1)=b:=⟨_,rfl⟩;rw[ha]at p0 HUA hbV hi1 htwo;rw[hb]at p1 HUB hbV hi1 htwo;simp only at HUA HUB hi1 htwo;obtain⟨na,hna⟩:∃n,n=al.length:=⟨_,rfl⟩;obtain⟨nb,hnb⟩:∃n,n=bl.length:=⟨_,rfl⟩;obtain⟨nS,hnS⟩:∃n,n=m1.S.length:=⟨_,rfl⟩;replace p0:w2.cell? (ad.add i)=some (.slice aA na ac):=by rw[hna];exact p0
     replace p1:w2.cell? ⟨ad.block,ad.off+(i+1),none⟩=some (.slice bA nb bc):=by rw[hnb];exact p1
     have hsum:na+nb<=1000000:=by rw[<-hna,<-hnb]at htwo;omega
     have hna9:na<=1000000:=by omega
     have HC:Hid (∀W,Ext w2 W->W.cell? ⟨gr,0,none⟩=some (.slice (some ad) N m1.c)/\W.cell? ⟨gr,1,none⟩=some (.int .i64 (i:Nat))/\W.cell? ⟨gr,3,none⟩=some (.slice m1.sA nS m1.sc)):=hid (fun W x=>by
      have b:=HS.out.bk.ext x;refine⟨?_,b.cell 1,?_⟩
      ·rw[hN,<-hA];exact b.cell 0
      ·rw[hnS];exact b.cell 3)
     have HSA:Hid (∀W,Ext w2 W->Sl W 4 aA na ac (Ah al)):=hid (fun W x=>hna▸(HUA.ext x).sl);have HSB:Hid (∀W,Ext w2 W->Sl W 4 bA nb bc (Ah bl)):=hid (fun W x=>hnb▸(HUB.ext x).sl);have HOW:=HS.out.b.ow;replace HOW:Own w2 w0.heap.size 22 1 (some ad) N m1.c (m1.bs.map Rb.s):=by rw[hN,<-hA];exact HOW
     have hcap:N<=m1.c/\m1.c<=9223372036854775807:=HOW.sl.cap;have HST:Hid (∀W,Ext w2 W->Sl W 1 (some ad) i m1.c ((m1.bs.map Rb.s).take i)):=hid (fun W x=>by have:=Sl.take (k:=i) (HOW.sl.ext x) (by omega);rwa [EU]at this);have HSD:Hid (∀W,Ext w2 W->Sl W 1 (if m1.c=i+2 then some ad else some (ad.add (i+2))) (N-(i+2)) (m1.c-(i+2)) ((m1.bs.map Rb.s).drop (i+2))):=hid (fun W x=>by
      have:=Sl.drop (k:=i+2) (HOW.sl.ext x) (by omega);rw[EU]at this;exact this)
     have HLAB:Hid (na+nb=(al++bl).length):=hid (by rw[AA,hna,hnb]);have HVB:Hid (UdS.sumV (((al++bl).map Ud.uv).map (Bp (m1.S.map Tm.v)))=Ch m1.v i):=hid (by rw[hbV,AO];rfl);have HIN:Hid (∀x∈al++bl,InU x):=hid (fun x hx=>(hi1 x hx).1.1);have HIM:Hid (∀x∈((al++bl).map Ud.uv).map (Bp (m1.S.map Tm.v)),UdS.InN x):=hid (fun x hx=>by
      obtain⟨u,hu,rfl⟩:=AW.1 hx;obtain⟨y,hy,rfl⟩:=AW.1 hu;exact(HIN.out y hy).num)
     have HEM:Hid (∀x∈al++bl,x.t.l=[]/\UdR w0 x):=hid (fun x hx=>⟨(hi1 x hx).1.2,(hi1 x hx).2⟩);have HUE:Hid (∀W,Ext w2 W->∀x∈al++bl,UdR W x):=hid (fun W x y hy=>(AR.1 hy).elim (fun q=>(HUA.ls y q).ext x) (fun q=>(HUB.ls y q).ext x));have HNS:=hid hnS;have HFS:Hid (Nx m1.S):=hid (Dt HP.out.ok.fs).1;have hnS9:nS<=1:=by rw[hnS];exact(Dt HP.out.ok.fs).2
     have HTS:Hid (∀W,Ext w2 W->Tin W m1.sA m1.sc m1.S):=hid (fun W x=>(HS.out.b.sn.tin HS.out.b.ex).ext x);clear hN hlen htwo hA hA' ha_in hb_in HUA HUB hbV hbt1 hbt2 hi1 ha hb hna hnb hnS HOW;have X:Ext w2 w2.drew:=(Ext.refl _).drew;have D0:∀y:Xt w2.drew,y.W.cell? ⟨gr,0,none⟩=some (.slice (some ad) N m1.c):=fun y=>(HC.out _ (X.trans y.x)).1;have D1:∀y:Xt w2.drew,y.W.cell? ⟨gr,1,none⟩=some (.int .i64 (i:Nat)):=fun y=>(HC.out _ (X.trans y.x)).2.1;have P0:∀y:Xt w2.drew,y.W.cell? (ad.add i)=some (.slice aA na ac):=fun y=>(X.trans y.x).cell p0;have hz2:w2.heap.size<=w2.drew.heap.size:=X.size;refine wro [0,0,2,6,14,0,32,96,224,510,1022,2047,4095] (.flo [0,1,2,3,4,5,6,7,8,9,10] (.one 11 (.flo [12] (.fin)))) ?_
     (refine Aa (pks rfl) ?_;(repeat (go_big_quiet_step (fail)));refine oq ?_)
     refine Ac (pks rfl) ?_;intro K_ hK_;go_wp2_with (at_builtin;refine Ab _ Aw w2.heap.size _ _ rfl rfl none 0 0 [] rfl (Own.nil _ _ _ _) aA na ac (Ah al) rfl (HSA.out _ X) (Ca _) (by omega) (by decide) hz2 ?_;intro A5 c5 w5 o5 g5 h5;clear h5;have X5:Hid (Ext w2 w5):=hid (X.grown g5 (fun k e=>nomatch e));have O5:Hid (Own w5 w2.heap.size 95 4 A5 na c5 (Ah al)):=hid (by have:=o5;rwa [BR,BC]at this);clear o5 g5)
     go_simp
     (refine Aa (pks rfl) ?_;(repeat (go_big_quiet_step (fail)));refine oq ?_)
     refine Ad ?_;clear D0 D1 P0 X hz2;have X:Ext w5 w5.drew:=(Ext.refl _).drew;have D0:∀y:Xt w5.drew,y.W.cell? ⟨gr,0,none⟩=some (.slice (some ad) N m1.c):=fun y=>(HC.out _ (X5.out.trans (X.trans y.x))).1;have D1:∀y:Xt w5.drew,y.W.cell? ⟨gr,1,none⟩=some (.int .i64 (i:Nat)):=fun y=>(HC.out _ (X5.out.trans (X.trans y.x))).2.1;have P1:∀y:Xt w5.drew,y.W.cell? ⟨ad.block,ad.off+(i+1),none⟩=some (.slice bA nb bc):=fun y=>(X5.out.trans (X.trans y.x)).cell p1;have hz2:w2.heap.size<=w5.drew.heap.size:=(X5.out.trans X).size
     go_upto_region 19 with fail
     refine wro [0,0,2,6,14,0,32,96,224,480,1022,2046,4095,8191] (.flo [0,1,2,3,4,5,6,7,8,9,10,11] (.one 12 (.flo [13] (.fin)))) ?_
     (refine Aa (pks rfl) ?_;(repeat (go_big_quiet_step (fail)));refine oq ?_)
     refine Ac (pks rfl) ?_;intro K_ hK_;go_wp2_with (at_builtin;refine Ab _ Aw w2.heap.size _ _ rfl rfl A5 na c5 (Ah al) rfl (O5.out.ext X) bA nb bc (Ah bl) rfl (HSB.out _ (X5.out.trans X)) (Ca _) (by omega) (by decide) hz2 ?_;intro A6 c6 w6 o6 g6 h6;clear h6;have X6:Hid (Ext w2 w6):=hid ((X5.out.trans X).grown g6 (fun k e=>(O5.out.lt k e).1));have O6:Hid (Own w6 w2.heap.size 95 4 A6 (na+nb) c6 (Ah (al++bl))):=hid (by rw[Bb];exact o6);clear o6 g6)
     go_simp
     (refine Aa (pks rfl) ?_;(repeat (go_big_quiet_step (fail)));refine oq ?_)
     refine Ad ?_;clear D0 D1 P1 X hz2;have d3:=(HC.out _ X6.out).2.2;have HU6:Hid (Uin w6 A6 c6 (al++bl)):=hid ⟨HLAB.out▸O6.out.sl,HUE.out _ X6.out⟩
     go_upto_region 22 with (first
      | (go_at_call 27;refine(Ox (V:=Ch m1.v i) A6 c6 (na+nb) (al++bl) m1.sA m1.sc nS m1.S _ HVB HLAB HU6 (by omega) HIN HNS (hid (HTS.out _ X6.out)) HFS (by omega)).mono ?_;rintro r w7 ⟨A7,m7,c7,M7,rfl,hm7,o7,p7,v7,x7⟩;have hm79:=wU hm7 v7 HVB.out HLAB.out;have HM7:=hid hm7;have HV7:=hid v7;have X7:Hid (Ext w2 w7):=hid (X6.out.trans x7);have O7:Hid (Own w7 w2.heap.size 95 4 A7 m7 c7 (Ah M7)):=hid (o7.mono X6.out.size);have HUM:Hid (∀y∈M7,UdR w0 y):=hid (wS HIM.out p7 v7 HVB.out HEM.out);clear hm7 o7 p7 v7 x7)
      | fail)
     clear d3 HU6;have X:Ext w7 w7.drew:=(Ext.refl _).drew;have D0:∀y:Xt w7.drew,y.W.cell? ⟨gr,0,none⟩=some (.slice (some ad) N m1.c):=fun y=>(HC.out _ (X7.out.trans (X.trans y.x))).1;have D1:∀y:Xt w7.drew,y.W.cell? ⟨gr,1,none⟩=some (.int .i64 (i:Nat)):=fun y=>(HC.out _ (X7.out.trans (X.trans y.x))).2.1;have hz2:w2.heap.size<=w7.drew.heap.size:=(X7.out.trans X).size;refine wro [0,0,2,6,14,0,32,96,224,510,1023,2047] (.flo [0,1,2,3,4,5,6,7,8,9] (.one 10 (.flo [11] (.fin)))) ?_
     (refine Aa (pks rfl) ?_;(repeat (go_big_quiet_step (fail)));refine oq ?_)
     refine Ac (pks rfl) ?_;intro K_ hK_;go_wp2_with (at_builtin;refine Ab _ Oh w2.heap.size _ _ rfl rfl none 0 0 [] rfl (Own.nil _ _ _ _) (some ad) i m1.c ((m1.bs.map Rb.s).take i) rfl (HST.out _ (X7.out.trans X)) (qL _ _) (by omega) (by decide) hz2 ?_;intro A8 c8 w8 o8 g8 h8;clear h8;have X78:Ext w7 w8:=X.grown g8 (fun k e=>nomatch e);have X8:Hid (Ext w2 w8):=hid (X7.out.trans X78);have O8:Hid (Own w8 w2.heap.size 22 1 A8 i c8 ((m1.bs.map Rb.s).take i)):=hid (by have:=o8;rwa [BR,BC]at this);have O78:=hid (O7.out.ext X78);clear o8 g8 X78)
     go_simp
     (refine Aa (pks rfl) ?_;(repeat (go_big_quiet_step (fail)));refine oq ?_)
     refine Ad ?_;clear D0 D1 X hz2;have hw8:=X8.out.size
     go_upto_if 144 with fail
     go_cut [8] (fun u wx=>∃(A9:Option Addr) (n9 c9:Nat),u=.slice A9 n9 c9/\n9<=i+1/\Hid (n9=(m1.bs.take i++(if M7=[] then [] else [(⟨A7,c7,M7⟩:Rb)])).length)/\Hid (Own wx w2.heap.size 22 1 A9 n9 c9 ((m1.bs.take i++(if M7=[] then [] else [(⟨A7,c7,M7⟩:Rb)])).map Rb.s))/\Hid (Ext w2 wx)/\Hid (Own wx w2.heap.size 95 4 A7 m7 c7 (Ah M7)))
     case first =>
      by_cases hm0:m7=0
      ·subst hm0;have he:M7=[]:=AG HM7.out.symm;go_wp2
       go_meet
       case rel =>
        refine⟨A8,i,c8,rfl,by omega,hid ?_,hid ?_,X8,O78⟩
        ·rw[if_pos he,AP,CA,HNN.out];omega
        ·rw[if_pos he,AP,EQ];exact O8.out
      ·have hm1:(0:Int)<(m7:Int):=by omega
       have he:¬M7=[]:=fun q=>hm0 (by rw[HM7.out,q];rfl);have HE:=hid he;clear he;go_wp2_with (at_builtin;refine Ab _ Oh w2.heap.size _ _ rfl rfl A8 i c8 ((m1.bs.map Rb.s).take i) rfl (O8.out.alloc _) (some ⟨w8.heap.size,0,none⟩) 1 1 [.slice A7 m7 c7] rfl (Sl.one w8 #[.slice A7 m7 c7] 22 1 rfl) (by intro u hu;simp at hu;subst hu;rfl) (by omega) (by decide) (by simp;omega) ?_;intro A9 c9 w9 o9 g9 h9;clear h9;have X9:Hid (Ext w2 w9):=hid ((X8.out.alloc _).grown g9 (fun k e=>(O8.out.lt k e).1));have O9:=hid o9;have O79:Hid (Own w9 w2.heap.size 95 4 A7 m7 c7 (Ah M7)):=hid ((O78.out.alloc _).kept g9 (by cases hb:blk A7 c7 with|none=>exact .inl rfl|some k=>exact .inr (fun q=>Cd O78.out O8.out (by decide) hb q.symm)));clear o9 g9)
       go_meet
       case rel =>
        refine⟨A9,i+1,c9,rfl,AD _,hid ?_,hid ?_,X9,O79⟩
        ·rw[if_neg HE.out,AA,CA,HNN.out];simp;omega
        ·rw[if_neg HE.out,AO,EQ,BZ,show Rb.s ⟨A7,c7,M7⟩=.slice A7 m7 c7 by rw[HM7.out]];exact O9.out
     case rest =>
      clear O8 O78 X8 hw8;obtain⟨A9,n9,c9,rfl,hn9i,HN9,O9,X9,O79⟩:=hcut;obtain⟨w9,hw9⟩:∃W:World,W=wc:=⟨_,rfl⟩;rw[<-hw9]at O9 X9 O79 ⊢;clear hw9
      go_upto_region 25 with fail
      by_cases hci:m1.c=i+2
      ·have hNi:N=i+2:=by omega
       have W1:Ext w9 w9.drew:=(Ext.refl _).drew;have D0:∀y:Xt w9.drew,y.W.cell? ⟨gr,0,none⟩=some (.slice (some ad) N m1.c):=fun y=>(HC.out _ (X9.out.trans (W1.trans y.x))).1;have D1:∀y:Xt w9.drew,y.W.cell? ⟨gr,1,none⟩=some (.int .i64 (i:Nat)):=fun y=>(HC.out _ (X9.out.trans (W1.trans y.x))).2.1;have hsz:w2.heap.size<=w9.drew.heap.size:=(X9.out.trans W1).size;have SD:Hid (Sl w9.drew 1 (some ad) (i+2-(i+2)) (i+2-(i+2)) ((m1.bs.map Rb.s).drop (i+2))):=hid (by have:=HSD.out _ (X9.out.trans W1);rw[if_pos hci,hNi,hci]at this;exact this);refine wro [0,0,0,4,12,28,0,64,192,448,960,2044,4094,8191,16383,32767] (.pur [0] (.flo [1,2,3,4,5,6,7,8,9,10,11] (.one 12 (.flo [13,14] (.one 15 (.fin)))))) ?_
       (refine Bv (pks rfl) ?_;(repeat (go_big_quiet_step (fail)));refine oq ?_)
       (refine Aa (pks rfl) ?_;(repeat (go_big_quiet_step (fail)));refine oq ?_)
       refine Ac (pks rfl) ?_;intro K_ hK_;go_wp2_with (at_builtin;refine Ab _ Oh w2.heap.size _ _ rfl rfl A9 n9 c9 _ rfl (O9.out.ext W1) (some ad) (i+2-(i+2)) (i+2-(i+2)) ((m1.bs.map Rb.s).drop (i+2)) rfl SD.out (cO _ _) (by omega) (by decide) hsz ?_;intro A10 c10 w10 o10 g10 h10;clear h10;have X10:Hid (Ext w2 w10):=hid ((X9.out.trans W1).grown g10 (fun k e=>(O9.out.lt k e).1));have O10:=hid o10;have O70:Hid (Own w10 w2.heap.size 95 4 A7 m7 c7 (Ah M7)):=hid ((O79.out.ext W1).kept g10 (by cases hb:blk A7 c7 with|none=>exact .inl rfl|some k=>exact .inr (fun q=>Cd O79.out O9.out (by decide) hb q.symm)));have hgl:=(HS.out.bk.ext X10.out).lt;have f0:=(HS.out.bk.ext X10.out).free 0;have f1:=(HS.out.bk.ext X10.out).free 1;have d0:=(HC.out _ X10.out).1;have d1:=(HC.out _ X10.out).2.1;clear o10 g10)
       go_simp
       (refine Aa (pks rfl) ?_;(repeat (go_big_quiet_step (fail)));refine oq ?_)
       refine Ac (pks rfl) ?_;intro K_ hK_;go_wp2;refine Ad ?_;go_wp2
       go_roundg (k-q)
       case measure=>omega
       case rel =>
        obtain⟨m3,r1,r2,r3⟩:=cK x0.out HU.out HS.out rfl X10.out (N:=m1.bs.take i++(if M7=[] then [] else [⟨A7,c7,M7⟩])++m1.bs.drop (i+2)) rfl (p:=n9) (by rw[AA,<-HN9.out,CQ,HNN.out];omega) (by have:=O10.out;rw[DG,DV,<-FB,<-AO]at this;exact this) HM7.out O70.out HUM.out HV7.out;exact⟨k-q,m3,rfl,by omega,rfl,hid (by have:=HP.out.zero (by rw[HQ.out];exact hz0) (r2.trans (pN HP.out.un)) r1 r3;rwa [HQ.out]at this)⟩
      ·have hci2:0<m1.c-(i+2):=by omega
       have W1:Ext w9 w9.drew:=(Ext.refl _).drew;have D0:∀y:Xt w9.drew,y.W.cell? ⟨gr,0,none⟩=some (.slice (some ad) N m1.c):=fun y=>(HC.out _ (X9.out.trans (W1.trans y.x))).1;have D1:∀y:Xt w9.drew,y.W.cell? ⟨gr,1,none⟩=some (.int .i64 (i:Nat)):=fun y=>(HC.out _ (X9.out.trans (W1.trans y.x))).2.1;have hsz:w2.heap.size<=w9.drew.heap.size:=(X9.out.trans W1).size;have SD:Hid (Sl w9.drew 1 (some (ad.add (i+2))) (N-(i+2)) (m1.c-(i+2)) ((m1.bs.map Rb.s).drop (i+2))):=hid (by have:=HSD.out _ (X9.out.trans W1);rw[if_neg hci]at this;exact this);refine wro [0,0,0,4,12,28,0,64,192,448,960,2044,4094,8191,16383,32767] (.pur [0] (.flo [1,2,3,4,5,6,7,8,9,10,11] (.one 12 (.flo [13,14] (.one 15 (.fin)))))) ?_
       (refine Bv (pks rfl) ?_;(repeat (go_big_quiet_step (fail)));refine oq ?_)
       (refine Aa (pks rfl) ?_;(repeat (go_big_quiet_step (fail)));refine oq ?_)
       refine Ac (pks rfl) ?_;intro K_ hK_;go_wp2_with (at_builtin;refine Ab _ Oh w2.heap.size _ _ rfl rfl A9 n9 c9 _ rfl (O9.out.ext W1) (some (ad.add (i+2))) (N-(i+2)) (m1.c-(i+2)) ((m1.bs.map Rb.s).drop (i+2)) rfl SD.out (cO _ _) (by omega) (by decide) hsz ?_;intro A10 c10 w10 o10 g10 h10;clear h10;have X10:Hid (Ext w2 w10):=hid ((X9.out.trans W1).grown g10 (fun k e=>(O9.out.lt k e).1));have O10:=hid o10;have O70:Hid (Own w10 w2.heap.size 95 4 A7 m7 c7 (Ah M7)):=hid ((O79.out.ext W1).kept g10 (by cases hb:blk A7 c7 with|none=>exact .inl rfl|some k=>exact .inr (fun q=>Cd O79.out O9.out (by decide) hb q.symm)));have hgl:=(HS.out.bk.ext X10.out).lt;have f0:=(HS.out.bk.ext X10.out).free 0;have f1:=(HS.out.bk.ext X10.out).free 1;have d0:=(HC.out _ X10.out).1;have d1:=(HC.out _ X10.out).2.1;clear o10 g10)
       go_simp
       (refine Aa (pks rfl) ?_;(repeat (go_big_quiet_step (fail)));refine oq ?_)
       refine Ac (pks rfl) ?_;intro K_ hK_;go_wp2;refine Ad ?_;go_wp2
       go_roundg (k-q)
       case measure=>omega
       case rel =>
        obtain⟨m3,r1,r2,r3⟩:=cK x0.out HU.out HS.out rfl X10.out (N:=m1.bs.take i++(if M7=[] then [] else [⟨A7,c7,M7⟩])++m1.bs.drop (i+2)) rfl (p:=n9+(N-(i+2))) (by rw[AA,<-HN9.out,CQ,HNN.out]) (by have:=O10.out;rw[<-FB,<-AO]at this;exact this) HM7.out O70.out HUM.out HV7.out;exact⟨k-q,m3,rfl,by omega,rfl,hid (by have:=HP.out.zero (by rw[HQ.out];exact hz0) (r2.trans (pN HP.out.un)) r1 r3;rwa [HQ.out]at this)⟩
    ·have hz1:(0:Int)<((l-q:Nat):Int):=by omega
     have hkq:k-q<k:=by omega
     clear hq;go_wp2
     go_roundg (k-q)
     case measure=>omega
     case rel=>exact⟨k-q,_,rfl,by omega,rfl,hid (by have:=HP.out.left (by rw[HQ.out];exact hz0) (by rw[HQ.out];exact HPY.out.1) HPY.out.2;rwa [HQ.out]at this)⟩
theorem Xn{L:List Ud}{i:Nat}(f:UV->Bool)(h:i<L.length){x:Ud}(hx:L.getD i Ud.zero=x):((L.take (i+1)).map Ud.uv).any f=(((L.take i).map Ud.uv).any f||f x.uv):=by
 rw[Ig h,hx,AO,List.any_append];simp
theorem Je{L:List Ud}{i:Nat}{f:UV->Bool}(h:((L.take i).map Ud.uv).any f=true):(L.map Ud.uv).any f=true:=by
 obtain⟨y,hy,e⟩:=ED.1 h;rw[EQ]at hy;exact ED.2 ⟨y,CF hy,e⟩
theorem Ww{s:SV}{l:List UV}{X:List TV}(h1:Bn X=true)(h2:l.any Cf=true):Cq s l X=(110,s):=by
 unfold Cq;rw[if_neg (by rw[h1];decide),if_pos h2]
theorem Ui{s:SV}{l:List UV}{X:List TV}(h1:Bn X=true)(h2:l.any Cf=false)(h3:l.any (Cj s.U X)=true):Cq s l X=(111,s):=by
 unfold Cq;rw[if_neg (by rw[h1];decide),if_neg (by rw[h2];decide),if_pos h3]
theorem sL{s:SV}{l:List UV}{X:List TV}(h1:Bn X=true)(h2:l.any Cf=false)(h3:l.any (Cj s.U X)=false)(h4:Ho s.U X=false):Cq s l X=(110,s):=by
 unfold Cq;rw[if_neg (by rw[h1];decide),if_neg (by rw[h2];decide),if_neg (by rw[h3];decide),if_pos h4]
theorem jY{s:SV}{l:List UV}{X:List TV}(h1:Bn X=true)(h2:l.any Cf=false)(h3:l.any (Cj s.U X)=false)(h4:Ho s.U X=true):Cq s l X=(0,{ s with bs:=if UdS.sumV l=[] then s.bs else s.bs++[UdS.sumV l],U:=X }):=by
 unfold Cq;rw[if_neg (by rw[h1];decide),if_neg (by rw[h2];decide),if_neg (by rw[h3];decide),if_neg (by rw[h4];decide),Fy h1]
section
variable{w0 w w':World}{K:Nat->Prop}{gr:Nat}{m:RSM}
theorem RSR.bk_grown{w3 w4:World}(h:RSR w0 w K gr m)(x:Ext w w3)(g:w3.grownBy w4 (blk m.A m.c)):Bk w4 gr 107 (Kn m):=by
 have h3:=h.ext x;exact h3.bk.upd ((Upd.refl (fun k=>blk m.A m.c=some k) w3).grown g fun k e=>.inl e) fun e=>absurd (h3.bk.ty.ne (h3.b.ow.ty e)) (by decide)
theorem RSR.push_t{w3 w4:World}{B:Option Addr}{d:Nat}{X:List Tm}{u:Value}(h:RSR w0 w K gr m)(x:Ext w w3)(g:w3.grownBy w4 (blk m.A m.c))(t:RtR w0 w K B d X):RtR w0 (w4.setCell ⟨gr,0,none⟩ u) (Rg K w (w4.setCell ⟨gr,0,none⟩ u)) B d X:=by
 have h3:=h.ext x;have bk:=h.bk_grown x g;have t4:=(t.ext x).safe ((Upd.refl (fun k=>blk m.A m.c=some k) w3).grown g fun k e=>.inl e) fun k _ e q=>absurd (q.ne (h3.b.ow.ty e)) (by decide);have t5:=t4.safe ((Upd.refl (fun k=>k=gr) w4).setCell (p:=⟨gr,0,none⟩) (.inl rfl) u) fun k _ e q=>by subst e;exact absurd (q.ne bk.ty) (by decide)
 exact t5.wide fun _ _ hk=>.inl hk
theorem RSR.ins{B:Option Addr}{d:Nat}{X:List Tm}{s:SV}{u:Value}(h:RSR w0 w' (Rg K w w') gr m)(up:Upd K w w')(tx:RtR w0 w' (Rg K w w') B d X)(kg:K gr)(hu:u=.slice B X.length d)(hv:{ m.v with U:=X.map Tm.v }=s):Gm w0 w K gr (0,s) (.returned (.int .i64 0)) (w'.setCell ⟨gr,4,none⟩ u):=by
 subst hu;have P:=h.put_u tx;have hz:(w'.setCell ⟨gr,4,none⟩ (.slice B X.length d)).heap.size=w'.heap.size:=by simp
 exact⟨_,rfl,P.wide fun k _ hk=>hk.imp id fun z=>⟨z.1,by rw[hz];exact z.2⟩,hv,up.setCell (.inl kg) _⟩
end
theorem qT{q:Int×SV}(w0:World)(gr:Nat)(m:RSM)(K:Nat->Prop)(AL:Option Addr)(cL n:Nat)(L:List Ud)(AX:Option Addr)(cX nX:Nat)(X:List Tm)(w:World)(hq:Hid (Cq m.v (L.map Ud.uv) (X.map Tm.v)=q))(x0:Hid (Ext w0 w))(HM:Hid (RSR w0 w K gr m))(hn:Hid (n=L.length))(hL:Hid (Uin w0 AL cL L))(h9:n<=1000000)(hin:Hid (∀x∈L,InU x))(htx:Hid (∀x∈L,∀d∈x.l,d.s.size<=10000000000000))(hnX:Hid (nX=X.length))(hX:Hid (RtR w0 w K AX cX X))(hb9:m.bs.length<=1000000) :
  Calls Tryz.prog 57 #[.pointer (some ⟨gr,0,none⟩),.slice AL n cL,.slice AX nX cX] w (Gm w0 w K gr q):=by
 rw[<-hq.out];have HX:Hid (∀W,Ext w W->Tin W AX cX X):=hid fun W x=>(hX.out.tin HM.out.b.ex).ext x;have HT:Hid (∀W,Ext w W->Tin W m.uA m.uc m.U):=hid fun W x=>(HM.out.b.up.tin HM.out.b.ex).ext x;have HUL:Hid (∀W,Ext w W->Uin W AL cL L):=hid fun W x=>hL.out.ext (x0.out.trans x);obtain⟨nU,hnU⟩:∃n,n=m.U.length:=⟨_,rfl⟩;have HN:=hid hnU;have HC:Hid (∀W,Ext w W->W.cell? ⟨gr,4,none⟩=some (.slice m.uA nU m.uc)):=hid fun W x=>hnU▸(HM.out.bk.ext x).cell 4;obtain⟨b0,hb0⟩:∃b,(!Ij (X.map Tm.v))=b:=⟨_,rfl⟩;have HB0:=hid hb0;have hmax:n<=9223372036854775807:=by omega
 have HFL:Hid (nX<=1->b0=true->Bn (X.map Tm.v)=true):=hid fun h1 h2=>by rw[Jd,hb0,h2,AN,<-hnX.out,decide_eq_true h1];rfl
 have HFN:Hid ((¬nX<=1\/b0=false)->Cq m.v (L.map Ud.uv) (X.map Tm.v)=(110,m.v)):=hid fun h=>by
  have hf:Bn (X.map Tm.v)=false:=by
   rw[Jd,hb0,AN,<-hnX.out];rcases h with h|h
   ·rw[decide_eq_false h,Bool.false_and]
   ·rw[h,Bool.and_false]
  unfold Cq;rw[if_pos hf]
 clear hnU hb0 hq;cases b0 with
 | false =>
  go_enter Tryz.func57,Tryz.ntmps57;go_wp2_with (go_at_call 167;refine(Gu AX cX nX X _ HB0 hnX (hid (HX.out _ (Ext.refl _)))).mono ?_;rintro r w1 ⟨rfl,rfl⟩)
  go_ret;rw[HFN.out (.inr (by trivial))];exact Gm.stay HM.out (Ext.refl _) rfl
 | true =>
  by_cases h1:nX<=1
  ·have h1z:¬(1:Int)<(nX:Int):=by omega
   have HF:=hid (HFL.out h1 (by trivial));clear HFL HFN;go_enter Tryz.func57,Tryz.ntmps57;go_wp2_with (go_at_call 167;refine(Gu AX cX nX X _ HB0 hnX (hid (HX.out _ (Ext.refl _)))).mono ?_;rintro r w1 ⟨rfl,rfl⟩)
   go_loopg [8] n (fun z u wr=>∃i:Nat,z=n-i/\i<=n/\u=.int .i64 i/\Hid (((L.take i).map Ud.uv).any Cf=false)/\Hid (Ext w wr))
   case atStart=>exact⟨0,rfl,AE _,rfl,hid rfl,hid (Ext.refl _)⟩
   case round =>
    obtain⟨i,rfl,hi,rfl,HA,HE⟩:=hrel;by_cases hlt:i<n
    ·have hil:i<L.length:=by rw[<-hn.out];exact hlt
     obtain⟨ad,rfl,p0,p1,p2,p3⟩:=(HUL.out _ HE.out).at hil;have hm:=Ar hil;obtain⟨x,hx⟩:∃x,L.getD i Ud.zero=x:=⟨_,rfl⟩;rw[hx]at p0 p1 p2 p3 hm;obtain⟨nx,hnx⟩:∃nx,nx=x.l.length:=⟨_,rfl⟩;obtain⟨tx,htl⟩:∃tx,tx=x.t.l.length:=⟨_,rfl⟩;rw[<-hnx]at p0;rw[<-htl]at p2;obtain⟨v,hv⟩:∃v,Bl x.l=v:=⟨_,rfl⟩;have HV:=hid hv;have HNX:=hid hnx;have HS1:=hid (Xn Cf hil hx);have HFV:Hid (Cf x.uv=(decide (0<tx)||decide (v≠0))):=hid (by unfold Cf;rw[show x.uv.1.2.2.length=tx from htl.symm,show Bl x.uv.1.1=v from hv]);have HRX:Hid (∀W,Ext wr W->Rw W x.A x.c x.l):=hid (fun W q=>((HUL.out _ HE.out).ls x hm).r.ext q);have HTX:Hid (∀d∈x.l,d.s.size<=10000000000000):=hid (htx.out x hm);clear hil hm hx hnx htl hv;rcases CL tx with h0|h0
     ·subst h0;by_cases hv0:v=0
      ·subst hv0;go_wp2_with (go_at_call 168;refine(Ow x.A x.c nx x.l _ HV HNX (hid (HRX.out _ (Ext.refl _))) HTX).mono ?_;rintro r w1 ⟨rfl,x1⟩;have HE1:=hid (HE.out.trans x1);clear x1)
       go_roundg (n-(i+1))
       case measure=>omega
       case rel=>exact⟨i+1,by omega,by omega,by go_num,hid (by rw[HS1.out,HA.out,HFV.out];rfl),HE1⟩
      ·have hvn:(v != 0)=true:=by simpa using hv0
       have HNV:=hid hv0;clear hv0;go_wp2_with (go_at_call 168;refine(Ow x.A x.c nx x.l _ HV HNX (hid (HRX.out _ (Ext.refl _))) HTX).mono ?_;rintro r w1 ⟨rfl,x1⟩;have HE1:=hid (HE.out.trans x1);clear x1)
       go_ret;rw[Ww HF.out (Je (i:=i+1) (by rw[HS1.out,HFV.out,decide_eq_true HNV.out,Bool.or_true,Bool.or_true]))];exact Gm.stay HM.out HE1.out rfl
     ·have h0z:(0:Int)<(tx:Int):=by omega
      have HD:=hid (decide_eq_true h0);go_wp2;go_ret;rw[Ww HF.out (Je (i:=i+1) (by rw[HS1.out,HFV.out,HD.out,Bool.true_or,Bool.or_true]))];exact Gm.stay HM.out HE.out rfl
    ·obtain rfl:i=n:=by omega
     have HFM:Hid ((L.map Ud.uv).any Cf=false):=hid (by have:=HA.out;rwa [AT (by rw[<-hn.out];exact AD _)]at this);clear HA;obtain⟨wa,hwa⟩:∃W:World,W=wr:=⟨_,rfl⟩;rw[<-hwa]at HE ⊢;clear hwa;go_wp2
     go_loopg [9] i (fun z u wr=>∃j:Nat,z=i-j/\j<=i/\u=.int .i64 j/\Hid (((L.take j).map Ud.uv).any (Cj m.v.U (X.map Tm.v))=false)/\Hid (Ext w wr))
     case atStart=>exact⟨0,rfl,AE _,rfl,hid rfl,HE⟩
     case round =>
      clear HE;obtain⟨j,rfl,hj,rfl,HA,HE⟩:=hrel;by_cases hlt:j<i
      ·have hil:j<L.length:=by rw[<-hn.out];exact hlt
       obtain⟨ad,rfl,p0,p1,p2,p3⟩:=(HUL.out _ HE.out).at hil;have hm:=Ar hil;obtain⟨x,hx⟩:∃x,L.getD j Ud.zero=x:=⟨_,rfl⟩;rw[hx]at p0 p1 p2 p3 hm;obtain⟨tx,htl⟩:∃tx,tx=x.t.l.length:=⟨_,rfl⟩;rw[<-htl]at p2;obtain⟨b1,hb1⟩:∃v,Aj (m.U.map Tm.v) (x.t.e,x.t.l)=v:=⟨_,rfl⟩;obtain⟨b2,hb2⟩:∃v,Aj (X.map Tm.v) (x.t.e,x.t.l)=v:=⟨_,rfl⟩;have HB1:=hid hb1;have HB2:=hid hb2;have HS1:=hid (Xn (Cj m.v.U (X.map Tm.v)) hil hx);have HFV:Hid (Cj m.v.U (X.map Tm.v) x.uv=(!b1||b2)):=hid (by rw[<-hb1,<-hb2];rfl);have HTX:Hid (∀W,Ext wr W->Sl W 1 x.t.A tx x.t.c (wds x.t.l)):=hid (fun W q=>by rw[htl];exact((HUL.out _ HE.out).ls x hm).t.ext q);have Y:Ext wr wr.drew:=(Ext.refl wr).drew;have P1:∀z:Xt wr.drew,z.W.cell? ⟨(ad.add (j*4)).block,(ad.add (j*4)).off+1,none⟩=some (.int .u64 x.t.e):=fun z=>(Y.trans z.x).cell p1;have P2:∀z:Xt wr.drew,z.W.cell? ⟨(ad.add (j*4)).block,(ad.add (j*4)).off+2,none⟩=some (.slice x.t.A tx x.t.c):=fun z=>(Y.trans z.x).cell p2;have C4:∀z:Xt wr.drew,z.W.cell? ⟨gr,4,none⟩=some (.slice m.uA nU m.uc):=fun z=>HC.out _ (HE.out.trans (Y.trans z.x));clear hil hm hx htl hb1 hb2 p0 p3
       go_upto_region 12 with fail
       cases b1 with
       | false =>
        refine wro [0,1,3,7,0,0,48,112,240,511,1023,2047,4095,4095,4095,28671,61439,126975,262143,524287] (.flo [0,1,2,3,4,5,6,7,8] (.one 9 (.flo [10,11,12,13,14,15,16,17] (.one 18 (.flo [19] (.fin)))))) ?_
        (refine Aa (pks rfl) ?_;(repeat (go_big_quiet_step (fail)));refine oq ?_)
        refine Ac (pks rfl) ?_;intro K_ hK_;go_wp2_with (go_at_call 96;refine(Ef m.uA m.uc nU m.U x.t.e x.t.A tx x.t.c x.t.l _ HB1 HN (hid (HT.out _ (HE.out.trans Y))) (hid (HTX.out _ Y))).mono ?_;rintro r w1 ⟨rfl,x1⟩;have HE1:=hid (HE.out.trans (Y.trans x1)))
        clear P1 P2 C4
        (refine Aa (pks rfl) ?_;(repeat (go_big_quiet_step (fail)));refine oq ?_)
        refine Ac (pks rfl) ?_;intro K_ hK_;go_wp2
        (refine Aa (pks rfl) ?_;(repeat (go_big_quiet_step (fail)));refine oq ?_)
        refine Ad ?_;go_wp2;go_ret;rw[Ui HF.out HFM.out (Je (i:=j+1) (by rw[HS1.out,HFV.out];simp))];exact Gm.stay HM.out HE1.out rfl
       | true =>
        refine wro [0,1,3,7,0,0,48,112,240,511,1023,2047,4095,4095,4095,28671,61439,126975,262143,524287] (.flo [0,1,2,3,4,5,6,7,8] (.one 9 (.flo [10,11,12,13,14,15,16,17] (.one 18 (.flo [19] (.fin)))))) ?_
        (refine Aa (pks rfl) ?_;(repeat (go_big_quiet_step (fail)));refine oq ?_)
        refine Ac (pks rfl) ?_;intro K_ hK_;go_wp2_with (go_at_call 96;refine(Ef m.uA m.uc nU m.U x.t.e x.t.A tx x.t.c x.t.l _ HB1 HN (hid (HT.out _ (HE.out.trans Y))) (hid (HTX.out _ Y))).mono ?_;rintro r w1 ⟨rfl,x1⟩;have HE1:=hid (HE.out.trans (Y.trans x1));have Y1:=hid (Y.trans x1))
        have P1:∀z:Xt w1,z.W.cell? ⟨(ad.add (j*4)).block,(ad.add (j*4)).off+1,none⟩=some (.int .u64 x.t.e):=fun z=>(Y1.out.trans z.x).cell p1;have P2:∀z:Xt w1,z.W.cell? ⟨(ad.add (j*4)).block,(ad.add (j*4)).off+2,none⟩=some (.slice x.t.A tx x.t.c):=fun z=>(Y1.out.trans z.x).cell p2;clear C4
        (refine Aa (pks rfl) ?_;(repeat (go_big_quiet_step (fail)));refine oq ?_)
        refine Ac (pks rfl) ?_;intro K_ hK_;go_wp2_with (go_at_call 96;refine(Ef AX cX nX X x.t.e x.t.A tx x.t.c x.t.l _ HB2 hnX (hid (HX.out _ HE1.out)) (hid (HTX.out _ Y1.out))).mono ?_;rintro r w2 ⟨rfl,x2⟩;have HE2:=hid (HE1.out.trans x2);clear x2)
        (refine Aa (pks rfl) ?_;(repeat (go_big_quiet_step (fail)));refine oq ?_)
        refine Ad ?_;clear P1 P2 Y;cases b2 with
        | true =>
         go_wp2;go_ret;rw[Ui HF.out HFM.out (Je (i:=j+1) (by rw[HS1.out,HFV.out];simp))];exact Gm.stay HM.out HE2.out rfl
        | false =>
         go_wp2
         go_roundg (i-(j+1))
         case measure=>omega
         case rel=>exact⟨j+1,by omega,by omega,by go_num,hid (by rw[HS1.out,HA.out,HFV.out];rfl),HE2⟩
      ·obtain rfl:j=i:=by omega
       have HEM:Hid ((L.map Ud.uv).any (Cj m.v.U (X.map Tm.v))=false):=hid (by have:=HA.out;rwa [AT (by rw[<-hn.out];exact AD _)]at this);clear HA;have c4:=HC.out _ HE.out;obtain⟨b4,hb4⟩:∃b,Ho (m.U.map Tm.v) (X.map Tm.v)=b:=⟨_,rfl⟩;have HB4:=hid hb4;clear hb4;cases b4 with
       | false =>
        go_wp2_with (go_at_call 169;refine(Mk m.uA AX m.uc cX nU nX m.U X _ HB4 HN hnX (hid (HT.out _ HE.out)) (hid (HX.out _ HE.out))).mono ?_;rintro r w2 ⟨rfl,x2⟩;have HE2:=hid (HE.out.trans x2);clear x2)
        go_ret;rw[sL HF.out HFM.out HEM.out HB4.out];exact Gm.stay HM.out HE2.out rfl
       | true =>
        have HIN:Hid (∀x∈L,UdS.InN x.uv):=hid (fun x hx=>(hin.out x hx).num);have HU32:Hid (∀y∈L,U32 y.t.l/\y.t.l.length<=1000000):=hid (fun y hy=>⟨(hin.out y hy).tu,AQ (hin.out y hy).tn (by decide)⟩);obtain⟨N,hN⟩:∃N,N=m.bs.length:=⟨_,rfl⟩;rw[<-hN]at hb9;have HNN:=hid hN;clear hN
        go_upto_if 80 with (first
         | (go_at_call 169;refine(Mk m.uA AX m.uc cX nU nX m.U X _ HB4 HN hnX (hid (HT.out _ HE.out)) (hid (HX.out _ HE.out))).mono ?_;rintro r w2 ⟨rfl,x2⟩;have HE2:=hid (HE.out.trans x2);clear x2)
         | (go_at_call 24;refine(Ov (V:=UdS.sumV (L.map Ud.uv)) AL cL j L _ (hid rfl) hn (hid (HUL.out _ HE2.out)) h9 HIN HU32).mono ?_;rintro r w3 ⟨A3,m3,c3,M3,rfl,hm3,o3,p3,v3,x3⟩;have HM3:=hid hm3;have HV3:=hid v3;have HE3:=hid (HE2.out.trans x3);have O3:Hid (Own w3 w.heap.size 95 4 A3 m3 c3 (Ah M3)):=hid (o3.mono HE2.out.size);have HU3:Hid (∀y∈M3,UdR w0 y):=hid (fun y hy=>by obtain⟨z,hz,e⟩:=p3 y hy;exact e.udr (hL.out.ls z hz));clear hm3 o3 p3 v3 x3)
         | fail)
        by_cases hm0:m3=0
        ·subst hm0;have hgl:=(HM.out.bk.ext HE3.out).lt;have f4:=(HM.out.bk.ext HE3.out).free 4;have c4:=HC.out _ HE3.out;go_wp2;go_ret;rw[jY HF.out HFM.out HEM.out HB4.out];have he:UdS.sumV (L.map Ud.uv)=[]:=by rw[<-HV3.out,AG HM3.out.symm];rfl
         rw[if_pos he];exact RSR.ins ((HM.out.ext HE3.out).wide fun _ _ hk=>.inl hk) (Upd.ext HE3.out) ((hX.out.ext HE3.out).wide fun _ _ hk=>.inl hk) HM.out.kg (by rw[hnX.out]) rfl
        ·have hm1:(0:Int)<(m3:Int):=by omega
         have HNE:Hid (UdS.sumV (L.map Ud.uv)≠[]):=hid (fun q=>hm0 (by rw[HM3.out];have:=congrArg List.length HV3.out;rw[q,AN]at this;exact this));have c0:w3.cell? ⟨gr,0,none⟩=some (.slice m.A N m.c):=(by rw[HNN.out];exact(HM.out.bk.ext HE3.out).cell 0);have HOW:Hid (Own w3 w0.heap.size 22 1 m.A N m.c (m.bs.map Rb.s)):=hid (by rw[HNN.out];exact HM.out.b.ow.ext HE3.out);have hz3:w0.heap.size<=w3.heap.size:=(x0.out.trans HE3.out).size;clear hm0;go_wp2_with (at_builtin;refine Ab _ Oh w0.heap.size _ _ rfl rfl m.A N m.c (m.bs.map Rb.s) rfl (HOW.out.alloc _) (some ⟨w3.heap.size,0,none⟩) 1 1 [.slice A3 m3 c3] rfl (Sl.one w3 #[.slice A3 m3 c3] 22 1 rfl) (by intro u hu;simp at hu;subst hu;rfl) (by omega) (by decide) (by simp;omega) ?_;intro A6 c6 w6 o6 g6 h6;have HPU:=hid (RSR.push x0.out HM.out (HE3.out.alloc _) (b:=⟨A3,c3,M3⟩) (HM3.out▸(O3.out.alloc _)) HU3.out (HM3.out▸o6) (by rw[HNN.out]) g6 h6);have HPT:=hid (HM.out.push_t (u:=.slice A6 (N+1) c6) (HE3.out.alloc _) g6 hX.out);have bk6:=HM.out.bk_grown (HE3.out.alloc _) g6;have hgl6:=bk6.lt;have f60:=bk6.free 0;have f64:=bk6.free 4;have d60:w6.cell? ⟨gr,0,none⟩=some (.slice m.A N m.c):=(by rw[HNN.out];exact bk6.cell 0);have d64:w6.cell? ⟨gr,4,none⟩=some (.slice m.uA nU m.uc):=(by rw[HN.out];exact bk6.cell 4);clear o6 g6 h6 bk6)
         go_ret;rw[jY HF.out HFM.out HEM.out HB4.out,if_neg HNE.out];exact RSR.ins HPU.out.1 HPU.out.2 HPT.out HM.out.kg (by rw[hnX.out]) (by
          show SV.mk ((m.bs++[(⟨A3,c3,M3⟩:Rb)]).map Rb.v) m.un (m.S.map Tm.v) (X.map Tm.v)=_;rw[AO,BZ,show Rb.v ⟨A3,c3,M3⟩=UdS.sumV (L.map Ud.uv)from HV3.out];rfl)
  ·have h1z:(1:Int)<(nX:Int):=by omega
   go_enter Tryz.func57,Tryz.ntmps57;go_wp2_with (go_at_call 167;refine(Gu AX cX nX X _ HB0 hnX (hid (HX.out _ (Ext.refl _)))).mono ?_;rintro r w1 ⟨rfl,rfl⟩)
   go_ret;rw[HFN.out (.inl h1)];exact Gm.stay HM.out (Ext.refl _) rfl
abbrev CV:=TV×Int
structure Cg where
 t:Tm
 d:Int
def Cg.zero:Cg:=⟨Tm.zero,0⟩
instance:Inhabited Cg:=⟨Cg.zero⟩
def Cg.cv(x:Cg):CV:=(x.t.v,x.d)
def cgC(x:Cg):List Value:=[.int .u64 x.t.e,.slice x.t.A x.t.l.length x.t.c,.int .i64 x.d]
def Rh(L:List Cg):List Value:=L.flatMap cgC
theorem kF:∀(L:List Cg) (i j:Nat),i<L.length->j<3->(Rh L)[i*3+j]?=(cgC (L.getD i Cg.zero))[j]?
 | [],i,j,h,_=>absurd h (DQ _)
 | d::l,0,j,_,hj=>by
  unfold Rh;rw[BM,FL,BR,BI (by rw[show(cgC d).length=3 from rfl];exact hj)];rfl
 | d::l,i+1,j,h,hj=>by
  unfold Rh;rw[BM,BD (by rw[show(cgC d).length=3 from rfl];omega),show(i+1)*3+j-(cgC d).length=i*3+j by rw[show(cgC d).length=3 from rfl];omega];exact kF l i j (EC h) hj
theorem fG(L M:List Cg):Rh (L++M)=Rh L++Rh M:=CS
theorem vE{w:World}{n c:Nat}{A:Option Addr}{xs:List Value}(h:Sl w 3 A n c xs){k:Nat}(hk:k<n){l:List Value}{a b x:Value}(hl:l=[a,b,x])(hx:∀q,q<3->xs[k*3+q]?=l[q]?) :
  ∃ad,A=some ad/\w.cell? (ad.add (k*3))=some a/\w.cell? ⟨(ad.add (k*3)).block,(ad.add (k*3)).off+1,none⟩=some b/\w.cell? ⟨(ad.add (k*3)).block,(ad.add (k*3)).off+2,none⟩=some x:=by
 subst hl;obtain⟨ad,e,hc⟩:=h.2.2.2.2 (by omega);exact⟨ad,e,hc _ _ (hx 0 (by omega)),by rw[<-Ds _ _ 1 (by omega)];exact hc _ _ (hx 1 (by omega)),by rw[<-Ds _ _ 2 (by omega)];exact hc _ _ (hx 2 (by omega))⟩
structure Cin (w:World) (A:Option Addr) (c:Nat) (L:List Cg):Prop where
 sl:Sl w 3 A L.length c (Rh L)
 ls:∀x∈L,Sl w 1 x.t.A x.t.l.length x.t.c (wds x.t.l)
theorem Cin.ext{w w':World}{A:Option Addr}{c:Nat}{L:List Cg}(h:Cin w A c L)(x:Ext w w'):Cin w' A c L:=⟨h.sl.ext x,fun y hy=>(h.ls y hy).ext x⟩
theorem Cin.at{w:World}{A:Option Addr}{c:Nat}{L:List Cg}(h:Cin w A c L){i:Nat}(hi:i<L.length):∃ad,A=some ad/\w.cell? (ad.add (i*3))=some (.int .u64 (L.getD i Cg.zero).t.e) /\
  w.cell? ⟨(ad.add (i*3)).block,(ad.add (i*3)).off+1,none⟩=some (.slice (L.getD i Cg.zero).t.A (L.getD i Cg.zero).t.l.length (L.getD i Cg.zero).t.c)/\w.cell? ⟨(ad.add (i*3)).block,(ad.add (i*3)).off+2,none⟩=some (.int .i64 (L.getD i Cg.zero).d):=
 vE h.sl hi (show cgC (L.getD i Cg.zero)=[.int .u64 (L.getD i Cg.zero).t.e,.slice (L.getD i Cg.zero).t.A (L.getD i Cg.zero).t.l.length (L.getD i Cg.zero).t.c,.int .i64 (L.getD i Cg.zero).d]from rfl) (fun q hq=>kF L i q hi hq)
theorem sO{L:List Cg}{i:Nat}(h:i<L.length):L.getD i Cg.zero∈L:=by
 rw[AB,AC h];exact BP h
theorem jZ{L:List Cg}{i:Nat}(h:i<L.length):∃h2:i<(L.map Cg.cv).length,(L.map Cg.cv)[i]=(L.getD i Cg.zero).cv:=⟨by rw[AN];exact h,by
 rw[List.getElem_map,AB,AC h];rfl⟩
theorem kD:Gj Tryz.prog 58 60 3 40 (.agg #[.int .u64 0,.slice none 0 0,.int .i64 0]):=⟨by kernel_rfl,by kernel_rfl,rfl,by decide⟩
structure a0k (wr:World) (A:Option Addr) (k:Nat) (e:Int) (B:Option Addr) (n c:Nat) (l:List Int) (d:Int) (ad:Addr):Prop where
 addr:A=some ad
 c0:∀y:Xt wr,y.W.cell? (ad.add (k*3))=some (.int .u64 e)
 c1:∀y:Xt wr,y.W.cell? ⟨(ad.add (k*3)).block,(ad.add (k*3)).off+1,none⟩=some (.slice B n c)
 c2:∀y:Xt wr,y.W.cell? ⟨(ad.add (k*3)).block,(ad.add (k*3)).off+2,none⟩=some (.int .i64 d)
 sl:∀y:Xt wr,Hid (Sl y.W 1 B n c (wds l))
theorem Cin.cgAt{wr:World}{A:Option Addr}{c:Nat}{L:List Cg}(h:Cin wr A c L){k:Nat}(hk:k<L.length):∃e B n cc l d ad,a0k wr A k e B n cc l d ad/\L.getD k Cg.zero=⟨⟨e,B,cc,l⟩,d⟩/\n=l.length:=by
 obtain⟨ad,rfl,q0,q1,q2⟩:=h.at hk;have hs:=h.ls _ (sO hk);obtain⟨x,hx⟩:∃x,L.getD k Cg.zero=x:=⟨_,rfl⟩;rw[hx]at q0 q1 q2 hs;obtain⟨⟨e,B,cc,l⟩,d⟩:=x;exact⟨e,B,l.length,cc,l,d,ad,⟨rfl,fun y=>y.x.cell q0,fun y=>y.x.cell q1,fun y=>y.x.cell q2,fun y=>hid (hs.ext y.x)⟩,hx,rfl⟩
def a0e(r:List Dat)(u:UV):Bool:=decide (As u.1.1 r=0)
def uE(V:List UV)(r:List Dat):List CV:=(V.filter (a0e r)).map fun u=>(u.1.2,u.2)
def Kr(L:List Ud)(r:List Dat):List Cg:=(L.filter fun x=>decide (As x.l r=0)).map fun x=>⟨x.t,x.d⟩
theorem cZ(L:List Ud)(r:List Dat):(Kr L r).map Cg.cv=uE (L.map Ud.uv) r:=by
 unfold Kr uE;rw[DD,EH,DD];rfl
theorem Xi{L:List Ud}{i:Nat}{x:Ud}(hi:i<L.length)(hx:L.getD i Ud.zero=x)(r:List Dat):Kr (L.take (i+1)) r=Kr (L.take i) r++if As x.l r=0 then [⟨x.t,x.d⟩] else []:=by
 unfold Kr;rw[Ig hi,hx,DR,AO]
 congr 1
 split
 ·rename_i h;simp[h]
 ·rename_i h;simp[h]
def Osx(w:World)(V:List CV)(e:Ending)(w':World):Prop:=∃A n c C,e=.returned (.slice A n c)/\n=C.length/\Own w' w.heap.size 60 3 A n c (Rh C)/\(∀x∈C,Sl w' 1 x.t.A x.t.l.length x.t.c (wds x.t.l))/\C.map Cg.cv=V/\Ext w w'
theorem Osx.cin{w w':World}{V:List CV}{e:Ending}(h:Osx w V e w'):∃A n c C,e=.returned (.slice A n c)/\n=C.length/\Cin w' A c C/\C.map Cg.cv=V/\Ext w w':=by
 obtain⟨A,n,c,C,e,hn,o,l,v,x⟩:=h;exact⟨A,n,c,C,e,hn,⟨by have:=o.sl;rwa [hn]at this,l⟩,v,x⟩
structure Fw (w wr:World) (L:List Ud) (r:List Dat) (i:Nat) (A:Option Addr) (m c:Nat):Prop where
 len:m=(Kr (L.take i) r).length
 own:Own wr w.heap.size 60 3 A m c (Rh (Kr (L.take i) r))
 ext:Ext w wr
theorem Fw.skip{w wr w2:World}{L:List Ud}{r:List Dat}{i m c:Nat}{A:Option Addr}{x:Ud}(h:Fw w wr L r i A m c)(hi:i<L.length)(hx:L.getD i Ud.zero=x)(hb:As x.l r≠0)(q:Ext wr w2):Fw w w2 L r (i+1) A m c:=by
 have e:Kr (L.take (i+1)) r=Kr (L.take i) r:=by rw[Xi hi hx,if_neg hb,AP]
 exact⟨by rw[e];exact h.len,by rw[e];exact h.own.ext q,h.ext.trans q⟩
theorem Fw.more{w wr w2:World}{L:List Ud}{r:List Dat}{i m c:Nat}{A A2:Option Addr}{c2 m2:Nat}{x:Ud}(h:Fw w wr L r i A m c)(hi:i<L.length)(hx:L.getD i Ud.zero=x)(hb:As x.l r=0)(hm:m2=m+1)
  (o:Own w2 w.heap.size 60 3 A2 m2 c2 (Rh (Kr (L.take i) r)++[.int .u64 x.t.e,.slice x.t.A x.t.l.length x.t.c,.int .i64 x.d])) (q:Ext w w2):Fw w w2 L r (i+1) A2 m2 c2:=by
 have e:Kr (L.take (i+1)) r=Kr (L.take i) r++[⟨x.t,x.d⟩]:=by rw[Xi hi hx,if_pos hb]
 refine⟨by rw[e,AA,hm,h.len];rfl,?_,q⟩;rw[e,fG];exact o
theorem Qk{v:Int}(A1 A2:Option Addr)(c1 c2 n1 n2:Nat)(l m:List Dat)(w:World)(hv:Hid (As l m=v))(e1:Hid (n1=l.length))(e2:Hid (n2=m.length))(h1:Hid (Rw w A1 c1 l))(h2:Hid (Rw w A2 c2 m)) :
  Calls Tryz.prog 164 #[.slice A1 n1 c1,.slice A2 n2 c2] w fun e w'=>e=.returned (.int .i64 v)/\Ext w w':=hv.out▸Fj A1 A2 c1 c2 n1 n2 l m w e1.out e2.out h1.out h2.out
theorem xK(w:World)(e d:Int)(A:Option Addr)(n c:Nat):Sl (w.alloc (.cells #[.int .u64 e,.slice A n c,.int .i64 d] 60)) 3 (some ⟨w.heap.size,0,none⟩) 1 1 [.int .u64 e,.slice A n c,.int .i64 d]:=Ea w _ _ _ 3 1 rfl rfl (by decide)
theorem lC{V:List UV}(gs:Nat)(m:SpM)(R:Nat->Prop)(rA:Option Addr)(rc rn:Nat)(r:List Dat)(w:World)(hV:Hid (Mr m.v=V))(HM:Hid (SpR w R gs m))(ok:Hid (OkV m.v))(hrn:Hid (rn=r.length))(hr:Hid (Rw w rA rc r))(h9:V.length<=1000000) :
  Calls Tryz.prog 51 #[.pointer (some ⟨gs,0,none⟩),.slice rA rn rc] w (Osx w (uE V r)):=by
 go_enter Tryz.func51,Tryz.ntmps51;go_wp2_with (first
  | (go_at_call 48;refine(Po (V:=V) gs m R _ hV HM (hid ok.out.sp)).mono ?_;rintro r w1 ⟨A1,n,L,rfl,h1,u1,e1,x1⟩;have HN:=hid h1;have HU:=hid u1.uin;have HE:=hid e1;have X1:=hid x1;clear h1 u1 e1 x1)
  | fail)
 have hn9:n<=1000000:=by rw[HN.out];have:=congrArg List.length HE.out;rw[AN]at this;omega
 have HP0:Hid (Fw w1 w1 L r 0 none 0 0):=hid ⟨rfl,Own.nil _ _ _ _,Ext.refl _⟩
 go_loopg [5,11] n (fun z u v wr=>∃(i m c3:Nat) (A3:Option Addr),z=n-i/\i<=n/\m<=i/\u=.slice A3 m c3/\v=.int .i64 i/\Hid (Fw w1 wr L r i A3 m c3))
 case atStart=>exact⟨0,0,0,none,rfl,AE _,AD _,rfl,rfl,HP0⟩
 case round =>
  clear HP0;obtain⟨i,k,c3,A3,rfl,hi,hki,rfl,rfl,HP⟩:=hrel;by_cases hlt:i<n
  ·have hil:i<L.length:=by rw[<-HN.out];exact hlt
   obtain⟨ad,rfl,p0,p1,p2,p3⟩:=(HU.out.ext HP.out.ext).at hil;have hm:=Ar hil;obtain⟨x,hx⟩:∃x,L.getD i Ud.zero=x:=⟨_,rfl⟩;rw[hx]at p0 p1 p2 p3 hm;obtain⟨nx,hnx⟩:∃nx,nx=x.l.length:=⟨_,rfl⟩;obtain⟨tx,htx⟩:∃tx,tx=x.t.l.length:=⟨_,rfl⟩;rw[<-hnx]at p0;rw[<-htx]at p2;have HNX:=hid hnx;have HTX:=hid htx;have HX:=hid hx;have HIL:=hid hil;have XA:Ext wr (wr.alloc (.cells #[.slice x.A nx x.c,.int .u64 x.t.e,.slice x.t.A tx x.t.c,.int .i64 x.d] 95)):=(Ext.refl wr).alloc _;have HR1:Hid (Rw (wr.alloc (.cells #[.slice x.A nx x.c,.int .u64 x.t.e,.slice x.t.A tx x.t.c,.int .i64 x.d] 95)) x.A x.c x.l):=hid ((HU.out.ls x hm).r.ext (HP.out.ext.trans XA));have HR2:Hid (Rw (wr.alloc (.cells #[.slice x.A nx x.c,.int .u64 x.t.e,.slice x.t.A tx x.t.c,.int .i64 x.d] 95)) rA rc r):=hid (hr.out.ext (X1.out.trans (HP.out.ext.trans XA)));have BX:Hid (Bk (wr.alloc (.cells #[.slice x.A nx x.c,.int .u64 x.t.e,.slice x.t.A tx x.t.c,.int .i64 x.d] 95)) wr.heap.size 95 #[.slice x.A nx x.c,.int .u64 x.t.e,.slice x.t.A tx x.t.c,.int .i64 x.d]):=hid (Bk.new _ _ _);obtain⟨b,hb⟩:∃b,As x.l r=b:=⟨_,rfl⟩;have HB:=hid hb;clear hil hm hx hnx htx hb;have m1:True:=trivial;by_cases hb0:b=0
   ·subst hb0;go_wp2_with (first
     | (go_at_call 164;have mk:=m1;clear m1 mk;refine(Qk x.A rA x.c rc nx rn x.l r _ HB HNX hrn HR1 HR2).mono ?_;rintro r_ w2 ⟨rfl,x2⟩;have q1:=(BX.out.ext x2).cell 1;have q2:=(BX.out.ext x2).cell 2;have q3:=(BX.out.ext x2).cell 3;have X2:=hid (XA.trans x2);have hw2:w1.heap.size<=w2.heap.size:=(HP.out.ext.trans X2.out).size;clear x2;have m2:True:=trivial)
     | (at_builtin;have mk:=m2;clear m2 mk;refine Ab _ kD w1.heap.size _ _ rfl rfl A3 k c3 (Rh (Kr (L.take i) r)) rfl ((HP.out.own.ext X2.out).alloc _) (some ⟨w2.heap.size,0,none⟩) 1 1 [.int .u64 x.t.e,.slice x.t.A tx x.t.c,.int .i64 x.d] rfl (xK _ _ _ _ _ _) (by intro u hu;simp at hu;rcases hu with rfl|rfl|rfl<;>rfl) (by omega) (by decide) (by simp;omega) ?_;intro A6 c6 w6 o6 g6 h6;clear h6;have HQ6:Hid (Fw w1 w6 L r (i+1) A6 (k+1) c6):=hid (HP.out.more HIL.out HX.out HB.out rfl (by have:=o6;rwa [HTX.out]at this) (((HP.out.ext.trans X2.out).alloc _).grown g6 (fun k e=>(HP.out.own.lt k e).1)));clear o6 g6)
     | fail)
    go_roundg (n-(i+1))
    case measure=>omega
    case rel=>exact⟨i+1,k+1,c6,A6,rfl,by omega,by omega,rfl,by go_num,HQ6⟩
   ·have hbz:(b==0)=false:=by simp[hb0]
    go_wp2_with (first
     | (go_at_call 164;have mk:=m1;clear m1 mk;refine(Qk x.A rA x.c rc nx rn x.l r _ HB HNX hrn HR1 HR2).mono ?_;rintro r_ w2 ⟨rfl,x2⟩;have HQ6:Hid (Fw w1 w2 L r (i+1) A3 k c3):=hid (HP.out.skip HIL.out HX.out (by rw[HB.out];exact hb0) (XA.trans x2));clear x2)
     | fail)
    go_roundg (n-(i+1))
    case measure=>omega
    case rel=>exact⟨i+1,k,c3,A3,rfl,by omega,by omega,rfl,by go_num,HQ6⟩
  ·obtain rfl:i=n:=by omega
   have ea:Kr (L.take i) r=Kr L r:=by rw[AT (by rw[<-HN.out];exact AD _)]
   have HEA:=hid ea;clear ea;go_wp2;go_ret;have h1:=HP.out.len;have h2:=HP.out.own;rw[HEA.out]at h1 h2;exact⟨_,_,_,_,rfl,h1,h2.mono X1.out.size,fun y hy=>by
    obtain⟨x,hx,rfl⟩:=AW.1 hy;exact(HU.out.ls x (BV.1 hx).1).t.ext HP.out.ext,by rw[cZ,HE.out],X1.out.trans HP.out.ext⟩
end Go.Proofs.YtdgbkpoickbidaaGreatDoor
