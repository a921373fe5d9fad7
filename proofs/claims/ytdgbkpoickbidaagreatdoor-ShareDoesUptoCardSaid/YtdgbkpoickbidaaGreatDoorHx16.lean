/- Parts of the proof. Conditions: as stated. -/
import Derived.Test.YtdgbkpoickbidaaGreatDoorHx15
import Derived.Maps.RangeWalk
import Derived.Carry
set_option maxRecDepth 100000
set_option maxHeartbeats 16000000
open Go.RowKit Go.Proofs.Tryz
set_option linter.defProp false
namespace Go.Proofs.YtdgbkpoickbidaaGreatDoor
variable{ca cb:Array Value}{z:Int}{d g i n n2 r:Nat}{K S:Nat->Prop}{t ta tb:TypeId}{w w' w0 w3 w4:World}
def Yv{L:List Ud}(f:UV->Bool)(h:i<L.length){x:Ud}(hx:L.getD i Ud.zero=x):((L.take (i+1)).map Ud.uv).any f=(((L.take i).map Ud.uv).any f||f x.uv):=by
 rw[Iy h,hx,AI,List.any_append];simp
def Jw{L:List Ud}{f:UV->Bool}(h:((L.take i).map Ud.uv).any f=true):(L.map Ud.uv).any f=true:=by
 have⟨y,hy,e⟩:=EI.1 h;rw[EW]at hy;exact EI.2 ⟨y,CK hy,e⟩
def Yd{s:SV}{l:List UV}{X:List TV}(h1:Bg X=true)(h2:l.any Cb=true):Cd s l X=(110,s):=by
 unfold Cd;rw[if_neg (by rw[h1];decide),if_pos h2]
def Vc{s:SV}{l:List UV}{X:List TV}(h1:Bg X=true)(h2:l.any Cb=false)(h3:l.any (Br s.U X)=true):Cd s l X=(111,s):=by
 unfold Cd;rw[if_neg (by rw[h1];decide),if_neg (by rw[h2];decide),if_pos h3]
def wM{s:SV}{l:List UV}{X:List TV}(h1:Bg X=true)(h2:l.any Cb=false)(h3:l.any (Br s.U X)=false)(h4:Gq s.U X=false):Cd s l X=(110,s):=by
 unfold Cd;rw[if_neg (by rw[h1];decide),if_neg (by rw[h2];decide),if_neg (by rw[h3];decide),if_pos h4]
def mJ{s:SV}{l:List UV}{X:List TV}(h1:Bg X=true)(h2:l.any Cb=false)(h3:l.any (Br s.U X)=false)(h4:Gq s.U X=true):Cd s l X=(0,{ s with bs:=if UdS.sumV l=[] then s.bs else s.bs++[UdS.sumV l],U:=X }):=by
 unfold Cd;rw[if_neg (by rw[h1];decide),if_neg (by rw[h2];decide),if_neg (by rw[h3];decide),if_neg (by rw[h4];decide),Ii h1]
section
variable{w0 w w':World}{K:Nat->Prop}{gr:Nat}{m:RSM}
def RSR.bk_grown(h:RSR w0 w K gr m)(x:Ext w w3)(g:w3.grownBy w4 (blk m.A m.c)):Bk w4 gr 107 (Ld m):=by
 have h3:=h.ext x;exact h3.bk.upd ((Upd.refl (λk=>blk m.A m.c=some k) w3).grown g λk e=>.inl e) λe=>absurd (h3.bk.ty.ne (h3.b.ow.ty e)) (by decide)
def RSR.push_t{B:Option Addr}{X:List Tm}{u:Value}(h:RSR w0 w K gr m)(x:Ext w w3)(g:w3.grownBy w4 (blk m.A m.c))(t:RtR w0 w K B d X):RtR w0 (w4.setCell ⟨gr,0,none⟩ u) (Rg K w (w4.setCell ⟨gr,0,none⟩ u)) B d X:=by
 have h3:=h.ext x;have bk:=h.bk_grown x g;have t4:=(t.ext x).safe ((Upd.refl (λk=>blk m.A m.c=some k) w3).grown g λk e=>.inl e) λk _ e q=>absurd (q.ne (h3.b.ow.ty e)) (by decide);have t5:=t4.safe ((Upd.refl (λk=>k=gr) w4).setCell (p:=⟨gr,0,none⟩) (.inl rfl) u) λk _ e q=>by subst e;exact absurd (q.ne bk.ty) (by decide)
 exact t5.wide λ_ _ hk=>.inl hk
def RSR.ins{B:Option Addr}{X:List Tm}{s:SV}{u:Value}(h:RSR w0 w' (Rg K w w') gr m)(up:Upd K w w')(tx:RtR w0 w' (Rg K w w') B d X)(kg:K gr)(hu:u=.slice B X.length d)(hv:{ m.v with U:=X.map Tm.v }=s):Gm w0 w K gr (0,s) (.returned (.int .i64 0)) (w'.setCell ⟨gr,4,none⟩ u):=by
 subst hu;have P:=h.put_u tx;have hz:(w'.setCell ⟨gr,4,none⟩ (.slice B X.length d)).heap.size=w'.heap.size:=by simp
 exact⟨_,rfl,P.wide λk _ hk=>hk.imp id λz=>⟨z.1,by rw[hz];exact z.2⟩,hv,up.setCell (.inl kg) _⟩
end
def uM{q:Int×SV}(w0:World)(gr:Nat)(m:RSM)(K:Nat->Prop)(AL:Option Addr)(cL n:Nat)(L:List Ud)(AX:Option Addr)(cX nX:Nat)(X:List Tm)(w:World)(hq:H0 (Cd m.v (L.map Ud.uv) (X.map Tm.v)=q))(x0:H0 (Ext w0 w))(HM:H0 (RSR w0 w K gr m))(hn:H0 (n=L.length))(hL:H0 (Uin w0 AL cL L))(h9:n<=1000000)(hin:H0 (∀x∈L,InU x))(htx:H0 (∀x∈L,∀d∈x.l,d.s.size<=10000000000000))(hnX:H0 (nX=X.length))(hX:H0 (RtR w0 w K AX cX X))(hb9:m.bs.length<=1000000) :
  C3 57 #[.pointer (some ⟨gr,0,none⟩),.slice AL n cL,.slice AX nX cX] w (Gm w0 w K gr q):=by
 rw[<-hq.o];have HX:H0 (∀W,Ext w W->Tin W AX cX X):=j6 λW x=>(hX.o.tin HM.o.b.ex).ext x;have HT:H0 (∀W,Ext w W->Tin W m.uA m.uc m.U):=j6 λW x=>(HM.o.b.up.tin HM.o.b.ex).ext x;have J:H0 (∀W,Ext w W->Uin W AL cL L):=j6 λW x=>hL.o.ext (x0.o.trans x);have⟨nU,a3⟩:=E9 m.U.length;have HN:=j6 a3;have HC:H0 (∀W,Ext w W->W.cell? ⟨gr,4,none⟩=some (.slice m.uA nU m.uc)):=j6 λW x=>a3▸(HM.o.bk.ext x).cell 4;have⟨b0,P⟩:=tz ((!Jc (X.map Tm.v)));have Q:=j6 P;have d3:n<=9223372036854775807:=by omega
 have a6:H0 (nX<=1->b0=true->Bg (X.map Tm.v)=true):=j6 λh1 h2=>by rw[Jv,P,h2,AN,<-hnX.o,decide_eq_true h1];rfl
 have T:H0 ((¬nX<=1\/b0=false)->Cd m.v (L.map Ud.uv) (X.map Tm.v)=(110,m.v)):=j6 λh=>by
  have hf:Bg (X.map Tm.v)=false:=by
   rw[Jv,P,AN,<-hnX.o];rcases h with h|h
   ·rw[decide_eq_false h,Bool.false_and]
   ·rw[h,Bool.and_false]
  unfold Cd;rw[if_pos hf]
 clear a3 P hq;cases b0 with
 | false =>
  go_enter func57,ntmps57;go_wp2_with (go_at_call 167;refine(Gv AX cX nX X _ Q hnX (j6 (HX.o _ (Ext.refl _)))).mono ?_;rintro r w1 ⟨rfl,rfl⟩)
  go_ret;rw[T.o (.inr (by trivial))];exact Gm.stay HM.o (Ext.refl _) rfl
 | true =>
  by_cases h1:nX<=1
  ·have d1:¬(1:Int)<(nX:Int):=by omega
   have HF:=j6 (a6.o h1 (by trivial));clear a6 T;go_enter func57,ntmps57;go_wp2_with (go_at_call 167;refine(Gv AX cX nX X _ Q hnX (j6 (HX.o _ (Ext.refl _)))).mono ?_;rintro r w1 ⟨rfl,rfl⟩)
   go_loopg [8] n (λz u wr=>∃i:Nat,z=n-i/\i<=n/\u=.int .i64 i/\H0 (((L.take i).map Ud.uv).any Cb=false)/\H0 (Ext w wr))
   case atStart=>exact⟨0,rfl,AG _,rfl,j6 rfl,j6 (Ext.refl _)⟩
   case round =>
    obtain⟨i,rfl,hi,rfl,HA,HE⟩:=hrel;by_cases hlt:i<n
    ·have f:i<L.length:=by rw[<-hn.o];exact hlt
     obtain⟨ad,rfl,p0,p1,p2,p3⟩:=(J.o _ HE.o).at f;have hm:=As f;have⟨x,hx⟩:=tz (L.getD i Ud.zero);rw[hx]at p0 p1 p2 p3 hm;have⟨nx,a4⟩:=E9 x.l.length;have⟨tx,E⟩:=E9 x.t.l.length;rw[<-a4]at p0;rw[<-E]at p2;have⟨v,hv⟩:=tz (Bh x.l);have HV:=j6 hv;have a7:=j6 a4;have D:=j6 (Yv Cb f hx);have C:H0 (Cb x.uv=(decide (0<tx)||decide (v≠0))):=j6 (by unfold Cb;rw[show x.uv.1.2.2.length=tx from E.symm,show Bh x.uv.1.1=v from hv]);have a9:H0 (∀W,Ext wr W->Rw W x.A x.c x.l):=j6 (λW q=>((J.o _ HE.o).ls x hm).r.ext q);have F:H0 (∀d∈x.l,d.s.size<=10000000000000):=j6 (htx.o x hm);clear f hm hx a4 E hv;rcases CS tx with h0|h0
     ·subst h0;by_cases hv0:v=0
      ·subst hv0;go_wp2_with (go_at_call 168;refine(Pt x.A x.c nx x.l _ HV a7 (j6 (a9.o _ (Ext.refl _))) F).mono ?_;rintro r w1 ⟨rfl,x1⟩;have g:=j6 (HE.o.trans x1);clear x1)
       go_roundg (n-(i+1))
       case measure=>omega
       case rel=>exact⟨i+1,by omega,by omega,by go_num,j6 (by rw[D.o,HA.o,C.o];rfl),g⟩
      ·have e1:(v != 0)=true:=by simpa using hv0
       replace hv0:=j6 hv0;go_wp2_with (go_at_call 168;refine(Pt x.A x.c nx x.l _ HV a7 (j6 (a9.o _ (Ext.refl _))) F).mono ?_;rintro r w1 ⟨rfl,x1⟩;have g:=j6 (HE.o.trans x1);clear x1)
       go_ret;rw[Yd HF.o (Jw (i:=i+1) (by rw[D.o,C.o,decide_eq_true hv0.o,Bool.or_true,Bool.or_true]))];exact Gm.stay HM.o g.o rfl
     ·have d8:(0:Int)<(tx:Int):=by omega
      have HD:=j6 (decide_eq_true h0);go_wp2;go_ret;rw[Yd HF.o (Jw (i:=i+1) (by rw[D.o,C.o,HD.o,Bool.true_or,Bool.or_true]))];exact Gm.stay HM.o HE.o rfl
    ·obtain rfl:i=n:=by omega
     have I:H0 ((L.map Ud.uv).any Cb=false):=j6 (by have:=HA.o;rwa [AW (by rw[<-hn.o];exact AD _)]at this);clear HA;obtain⟨wa,b6⟩:∃W:World,W=wr:=⟨_,rfl⟩;rw[<-b6]at HE ⊢;clear b6;go_wp2
     go_loopg [9] i (λz u wr=>∃j:Nat,z=i-j/\j<=i/\u=.int .i64 j/\H0 (((L.take j).map Ud.uv).any (Br m.v.U (X.map Tm.v))=false)/\H0 (Ext w wr))
     case atStart=>exact⟨0,rfl,AG _,rfl,j6 rfl,HE⟩
     case round =>
      clear HE;obtain⟨j,rfl,hj,rfl,HA,HE⟩:=hrel;by_cases hlt:j<i
      ·have f:j<L.length:=by rw[<-hn.o];exact hlt
       obtain⟨ad,rfl,p0,p1,p2,p3⟩:=(J.o _ HE.o).at f;have hm:=As f;have⟨x,hx⟩:=tz (L.getD j Ud.zero);rw[hx]at p0 p1 p2 p3 hm;have⟨tx,E⟩:=E9 x.t.l.length;rw[<-E]at p2;have⟨b1,a1⟩:=tz (Ak (m.U.map Tm.v) (x.t.e,x.t.l));have⟨b2,a2⟩:=tz (Ak (X.map Tm.v) (x.t.e,x.t.l));have a5:=j6 a1;have b8:=j6 a2;have D:=j6 (Yv (Br m.v.U (X.map Tm.v)) f hx);have C:H0 (Br m.v.U (X.map Tm.v) x.uv=(!b1||b2)):=j6 (by rw[<-a1,<-a2];rfl);have F:H0 (∀W,Ext wr W->Sl W 1 x.t.A tx x.t.c (wds x.t.l)):=j6 (λW q=>by rw[E];exact((J.o _ HE.o).ls x hm).t.ext q);have Y:Ext wr wr.drew:=(Ext.refl wr).drew;have P1:∀z:Xt wr.drew,z.W.cell? ⟨(ad.add (j*4)).block,(ad.add (j*4)).off+1,none⟩=some (.int .u64 x.t.e):=λz=>(Y.trans z.x).cell p1;have P2:∀z:Xt wr.drew,z.W.cell? ⟨(ad.add (j*4)).block,(ad.add (j*4)).off+2,none⟩=some (.slice x.t.A tx x.t.c):=λz=>(Y.trans z.x).cell p2;have C4:∀z:Xt wr.drew,z.W.cell? ⟨gr,4,none⟩=some (.slice m.uA nU m.uc):=λz=>HC.o _ (HE.o.trans (Y.trans z.x));clear f hm hx E a1 a2 p0 p3
       go_upto_region 12 with fail
       cases b1 with
       | false =>
        refine wro [0,1,3,7,0,0,48,112,240,511,1023,2047,4095,4095,4095,28671,61439,126975,262143,524287] (.flo [0,1,2,3,4,5,6,7,8] (.one 9 (.flo [10,11,12,13,14,15,16,17] (.one 18 (.flo [19] (.fin)))))) ?_
        (refine Aa (pks rfl) ?_;(repeat (go_big_quiet_step (fail)));refine oq ?_)
        refine Ac (pks rfl) ?_;intro K_ a0;go_wp2_with (go_at_call 96;refine(Eg m.uA m.uc nU m.U x.t.e x.t.A tx x.t.c x.t.l _ a5 HN (j6 (HT.o _ (HE.o.trans Y))) (j6 (F.o _ Y))).mono ?_;rintro r w1 ⟨rfl,x1⟩;have g:=j6 (HE.o.trans (Y.trans x1)))
        clear P1 P2 C4
        (refine Aa (pks rfl) ?_;(repeat (go_big_quiet_step (fail)));refine oq ?_)
        refine Ac (pks rfl) ?_;intro K_ a0;go_wp2
        (refine Aa (pks rfl) ?_;(repeat (go_big_quiet_step (fail)));refine oq ?_)
        refine Ad ?_;go_wp2;go_ret;rw[Vc HF.o I.o (Jw (i:=j+1) (by rw[D.o,C.o];simp))];exact Gm.stay HM.o g.o rfl
       | true =>
        refine wro [0,1,3,7,0,0,48,112,240,511,1023,2047,4095,4095,4095,28671,61439,126975,262143,524287] (.flo [0,1,2,3,4,5,6,7,8] (.one 9 (.flo [10,11,12,13,14,15,16,17] (.one 18 (.flo [19] (.fin)))))) ?_
        (refine Aa (pks rfl) ?_;(repeat (go_big_quiet_step (fail)));refine oq ?_)
        refine Ac (pks rfl) ?_;intro K_ a0;go_wp2_with (go_at_call 96;refine(Eg m.uA m.uc nU m.U x.t.e x.t.A tx x.t.c x.t.l _ a5 HN (j6 (HT.o _ (HE.o.trans Y))) (j6 (F.o _ Y))).mono ?_;rintro r w1 ⟨rfl,x1⟩;have g:=j6 (HE.o.trans (Y.trans x1));have Y1:=j6 (Y.trans x1))
        have P1:∀z:Xt w1,z.W.cell? ⟨(ad.add (j*4)).block,(ad.add (j*4)).off+1,none⟩=some (.int .u64 x.t.e):=λz=>(Y1.o.trans z.x).cell p1;have P2:∀z:Xt w1,z.W.cell? ⟨(ad.add (j*4)).block,(ad.add (j*4)).off+2,none⟩=some (.slice x.t.A tx x.t.c):=λz=>(Y1.o.trans z.x).cell p2;clear C4
        (refine Aa (pks rfl) ?_;(repeat (go_big_quiet_step (fail)));refine oq ?_)
        refine Ac (pks rfl) ?_;intro K_ a0;go_wp2_with (go_at_call 96;refine(Eg AX cX nX X x.t.e x.t.A tx x.t.c x.t.l _ b8 hnX (j6 (HX.o _ g.o)) (j6 (F.o _ Y1.o))).mono ?_;rintro r w2 ⟨rfl,x2⟩;have B:=j6 (g.o.trans x2);clear x2)
        (refine Aa (pks rfl) ?_;(repeat (go_big_quiet_step (fail)));refine oq ?_)
        refine Ad ?_;clear P1 P2 Y;cases b2 with
        | true =>
         go_wp2;go_ret;rw[Vc HF.o I.o (Jw (i:=j+1) (by rw[D.o,C.o];simp))];exact Gm.stay HM.o B.o rfl
        | false =>
         go_wp2
         go_roundg (i-(j+1))
         case measure=>omega
         case rel=>exact⟨j+1,by omega,by omega,by go_num,j6 (by rw[D.o,HA.o,C.o];rfl),B⟩
      ·obtain rfl:j=i:=by omega
       have R:H0 ((L.map Ud.uv).any (Br m.v.U (X.map Tm.v))=false):=j6 (by have:=HA.o;rwa [AW (by rw[<-hn.o];exact AD _)]at this);clear HA;have c4:=HC.o _ HE.o;have⟨b4,b3⟩:=tz (Gq (m.U.map Tm.v) (X.map Tm.v));replace b3:=j6 b3;cases b4 with
       | false =>
        go_wp2_with (go_at_call 169;refine(Nf m.uA AX m.uc cX nU nX m.U X _ b3 HN hnX (j6 (HT.o _ HE.o)) (j6 (HX.o _ HE.o))).mono ?_;rintro r w2 ⟨rfl,x2⟩;have B:=j6 (HE.o.trans x2);clear x2)
        go_ret;rw[wM HF.o I.o R.o b3.o];exact Gm.stay HM.o B.o rfl
       | true =>
        have b9:H0 (∀x∈L,UdS.InN x.uv):=j6 (λx hx=>(hin.o x hx).num);have b7:H0 (∀y∈L,U32 y.t.l/\y.t.l.length<=1000000):=j6 (λy hy=>⟨(hin.o y hy).tu,AR (hin.o y hy).tn (by decide)⟩);have⟨N,hN⟩:=E9 m.bs.length;rw[<-hN]at hb9;replace hN:=j6 hN
        go_upto_if 80 with (first
         | (go_at_call 169;refine(Nf m.uA AX m.uc cX nU nX m.U X _ b3 HN hnX (j6 (HT.o _ HE.o)) (j6 (HX.o _ HE.o))).mono ?_;rintro r w2 ⟨rfl,x2⟩;have B:=j6 (HE.o.trans x2);clear x2)
         | (go_at_call 24;refine(In (V:=UdS.sumV (L.map Ud.uv)) AL cL j L _ (j6 rfl) hn (j6 (J.o _ B.o)) h9 b9 b7).mono ?_;rintro r w3 ⟨A3,m3,c3,M3,rfl,b5,o3,p3,v3,x3⟩;have M:=j6 b5;have Z:=j6 v3;have a:=j6 (B.o.trans x3);have O3:H0 (Own w3 w.heap.size 95 4 A3 m3 c3 (Ah M3)):=j6 (o3.mono B.o.size);have d0:H0 (∀y∈M3,UdR w0 y):=j6 (λy hy=>by have⟨z,hz,e⟩:=p3 y hy;exact e.udr (hL.o.ls z hz));clear b5 o3 p3 v3 x3)
         | fail)
        by_cases hm0:m3=0
        ·subst hm0;have d9:=(HM.o.bk.ext a.o).lt;have f4:=(HM.o.bk.ext a.o).free 4;have c4:=HC.o _ a.o;go_wp2;go_ret;rw[mJ HF.o I.o R.o b3.o];have he:UdS.sumV (L.map Ud.uv)=[]:=by rw[<-Z.o,AH M.o.symm];rfl
         rw[if_pos he];exact RSR.ins ((HM.o.ext a.o).wide λ_ _ hk=>.inl hk) (Upd.ext a.o) ((hX.o.ext a.o).wide λ_ _ hk=>.inl hk) HM.o.kg (by rw[hnX.o]) rfl
        ·have e0:(0:Int)<(m3:Int):=by omega
         have c5:H0 (UdS.sumV (L.map Ud.uv)≠[]):=j6 (λq=>hm0 (by rw[M.o];have:=congrArg List.length Z.o;rw[q,AN]at this;exact this));have c0:w3.cell? ⟨gr,0,none⟩=some (.slice m.A N m.c):=(by rw[hN.o];exact(HM.o.bk.ext a.o).cell 0);have c8:H0 (Own w3 w0.heap.size 22 1 m.A N m.c (m.bs.map Rb.s)):=j6 (by rw[hN.o];exact HM.o.b.ow.ext a.o);have e2:w0.heap.size<=w3.heap.size:=(x0.o.trans a.o).size;clear hm0;go_wp2_with (at_builtin;refine Ab _ Pd w0.heap.size _ _ rfl rfl m.A N m.c (m.bs.map Rb.s) rfl (c8.o.alloc _) (some ⟨w3.heap.size,0,none⟩) 1 1 [.slice A3 m3 c3] rfl (Sl.one w3 #[.slice A3 m3 c3] 22 1 rfl) (by intro u hu;simp at hu;subst hu;rfl) (by omega) (by decide) (by simp;omega) ?_;intro A6 c6 w6 o6 g6 h6;have a8:=j6 (RSR.push x0.o HM.o (a.o.alloc _) (b:=⟨A3,c3,M3⟩) (M.o▸(O3.o.alloc _)) d0.o (M.o▸o6) (by rw[hN.o]) g6 h6);have c9:=j6 (HM.o.push_t (u:=.slice A6 (N+1) c6) (a.o.alloc _) g6 hX.o);have G:=HM.o.bk_grown (a.o.alloc _) g6;have d2:=G.lt;have d6:=G.free 0;have d7:=G.free 4;have d4:w6.cell? ⟨gr,0,none⟩=some (.slice m.A N m.c):=(by rw[hN.o];exact G.cell 0);have d5:w6.cell? ⟨gr,4,none⟩=some (.slice m.uA nU m.uc):=(by rw[HN.o];exact G.cell 4);clear o6 g6 h6 G)
         go_ret;rw[mJ HF.o I.o R.o b3.o,if_neg c5.o];exact RSR.ins a8.o.1 a8.o.2 c9.o HM.o.kg (by rw[hnX.o]) (by
          show SV.mk ((m.bs++[(⟨A3,c3,M3⟩:Rb)]).map Rb.v) m.un (m.S.map Tm.v) (X.map Tm.v)=_;rw[AI,CA,show Rb.v ⟨A3,c3,M3⟩=UdS.sumV (L.map Ud.uv)from Z.o];rfl)
  ·have d1:(1:Int)<(nX:Int):=by omega
   go_enter func57,ntmps57;go_wp2_with (go_at_call 167;refine(Gv AX cX nX X _ Q hnX (j6 (HX.o _ (Ext.refl _)))).mono ?_;rintro r w1 ⟨rfl,rfl⟩)
   go_ret;rw[T.o (.inl h1)];exact Gm.stay HM.o (Ext.refl _) rfl
structure Cg where
 t:Tm
 d:Int
def Cg.zero:Cg:=⟨Tm.zero,0⟩
instance:Inhabited Cg:=⟨Cg.zero⟩
def Mj{s:SV}(h:OkV s):∀u∈Dr s,Db u:=by
 unfold Dr;split
 ·exact λu hu=>(nomatch hu)
 ·exact Pf λu hu=>by
   obtain⟨v,hv,rfl⟩:=AP.1 hu;exact Mk h.fs h.es (h.ins v hv)
def a0i{bs:List Rb}{R:List Ct}(bt:∀b∈bs,RbR w0 w K b)(p:∀y∈R,∃x∈Ds bs,y.A=x.A/\y.c=x.c/\y.l=x.l):∀y∈R,Rw w0 y.A y.c y.l:=λy hy=>by
 have⟨x,hx,q1,q2,q3⟩:=p y hy;have⟨b,hb,hxb⟩:=DC.1 hx;rw[q1,q2,q3];exact((bt b hb).ls x hxb).r
def tJ(w0 w:World)(q:Int×List (List Dat×Int))(e:Ending)(w':World):Prop:=∃A n c R,e=.returned (.tuple #[.slice A n c,.int .i64 q.1])/\n=R.length/\Own w' w.heap.size 154 2 A n c (Az R)/\(∀y∈R,Rw w0 y.A y.c y.l)/\R.map Al=q.2/\Ext w w'
def oL{q:Int×List (List Dat×Int)}(w0:World)(gs:Nat)(m:RSM)(R:Nat->Prop)(e:Int)(A:Option Addr)(n c:Nat)(l:List Int)(w:World)(hq:H0 (atS m.v (e,l)=q))(HM:H0 (RSR w0 w R gs m))(ok:H0 (OkV m.v))(hn:H0 (n=l.length))(ht:H0 (Sl w 1 A n c (wds l))) :
  C3 62 #[.pointer (some ⟨gs,0,none⟩),.agg #[.int .u64 e,.slice A n c]] w (tJ w0 w q):=by
 have⟨nS,t⟩:=E9 m.S.length;have⟨nU,z⟩:=E9 m.U.length;have C:=j6 t;have G:=j6 z;have HC:H0 (∀W,Ext w W->W.cell? ⟨gs,3,none⟩=some (.slice m.sA nS m.sc)/\W.cell? ⟨gs,4,none⟩=some (.slice m.uA nU m.uc)):=j6 (λW x=>⟨by have:=(HM.o.bk.ext x).cell 3;rw[t];exact this,by have:=(HM.o.bk.ext x).cell 4;rw[z];exact this⟩);have D:H0 (Tin w m.sA m.sc m.S):=j6 (HM.o.b.sn.tin HM.o.b.ex);have I:H0 (Tin w m.uA m.uc m.U):=j6 (HM.o.b.up.tin HM.o.b.ex);clear t z;by_cases h0:0<n
 ·have K:(0:Int)<(n:Int):=by omega
  have f:atS m.v (e,l)=(110,[]):=by unfold atS;rw[if_pos (by show 0<l.length;rw[<-hn.o];exact h0)]
  have HA:H0 (q=(110,[])):=j6 (hq.o.symm.trans f);clear f hq;go_enter func62,ntmps62;go_wp2;go_returns;rw[HA.o];exact⟨_,_,_,[],rfl,rfl,Own.nil _ _ _ _,λy hy=>(nomatch hy),rfl,(Ext.refl w).alloc _⟩
 ·have K:¬(0:Int)<(n:Int):=by omega
  have⟨b1,i⟩:=tz (Ak (m.S.map Tm.v) (e,l));have⟨b2,j⟩:=tz (Ak (m.U.map Tm.v) (e,l));have B:=j6 i;have F:=j6 j;have f:atS m.v (e,l)=if b1=false then (111,[]) else if b2=true then (111,[]) else (0,sumV (atV (m.v.bs.flatten) (e,l))):=by
   unfold atS;rw[if_neg (by show ¬ 0<l.length;have:=hn.o;omega),<-i,<-j];rfl
  have HA:H0 (q=if b1=false then (111,[]) else if b2=true then (111,[]) else (0,sumV (atV (m.v.bs.flatten) (e,l)))):=j6 (hq.o.symm.trans f);clear f i j hq;go_enter func62,ntmps62
  go_upto_region 3 with fail
  have⟨wb,g⟩:=E9 (w.alloc (.cells #[.int .u64 e,.slice A n c] 26));have XB:H0 (Ext w wb):=j6 (by rw[g];exact(Ext.refl _).alloc _);have BT:H0 (Bk wb w.heap.size 26 #[.int .u64 e,.slice A n c]):=j6 (by rw[g];exact Bk.new _ _ _);rw[<-g];clear g;have⟨gt,E⟩:=E9 w.heap.size;rw[<-E]at BT ⊢;clear E;have X:Ext wb wb.drew:=(Ext.refl wb).drew;have P2:∀y:Xt wb.drew,y.W.cell? ⟨gs,3,none⟩=some (.slice m.sA nS m.sc):=λy=>(HC.o _ ((XB.o.trans X).trans y.x)).1;have P3:∀y:Xt wb.drew,y.W.cell? ⟨gs,4,none⟩=some (.slice m.uA nU m.uc):=λy=>(HC.o _ ((XB.o.trans X).trans y.x)).2;have Q0:∀y:Xt wb.drew,y.W.cell? ⟨gt,0,none⟩=some (.int .u64 e):=λy=>(BT.o.ext (X.trans y.x)).cell 0;have Q1:∀y:Xt wb.drew,y.W.cell? ⟨gt,1,none⟩=some (.slice A n c):=λy=>(BT.o.ext (X.trans y.x)).cell 1;cases b1 with
  | false =>
   refine wro [0,1,3,7,0,31,63,127,255,511,1023,2047,255,8191,16383] (.flo [0,1,2,3,4] (.one 5 (.flo [6,7,8,9,10,11,12] (.one 13 (.flo [14] (.fin)))))) ?_
   (refine Aa (pks rfl) ?_;(repeat (go_big_quiet_step (fail)));refine oq ?_)
   refine Ac (pks rfl) ?_;intro K_ d;go_wp2_with (go_at_call 96;refine(Eg m.sA m.sc nS m.S e A n c l _ B C (j6 (D.o.ext (XB.o.trans X))) (j6 (ht.o.ext (XB.o.trans X)))).mono ?_;rintro r w1 ⟨rfl,x1⟩;have X1:=j6 (X.trans x1))
   clear P2 P3 Q0 Q1
   (refine Aa (pks rfl) ?_;(repeat (go_big_quiet_step (fail)));refine oq ?_)
   refine Ac (pks rfl) ?_;intro K_ d;go_wp2
   (refine Aa (pks rfl) ?_;(repeat (go_big_quiet_step (fail)));refine oq ?_)
   refine Ad ?_;go_wp2;go_returns;have hA:q=(111,[]):=by have:=HA.o;simpa using this
   rw[hA];exact⟨_,_,_,[],rfl,rfl,Own.nil _ _ _ _,λy hy=>(nomatch hy),rfl,XB.o.trans X1.o⟩
  | true =>
   refine wro [0,1,3,7,0,31,63,127,255,511,1023,2047,255,8191,16383] (.flo [0,1,2,3,4] (.one 5 (.flo [6,7,8,9,10,11,12] (.one 13 (.flo [14] (.fin)))))) ?_
   (refine Aa (pks rfl) ?_;(repeat (go_big_quiet_step (fail)));refine oq ?_)
   refine Ac (pks rfl) ?_;intro K_ d;go_wp2_with (go_at_call 96;refine(Eg m.sA m.sc nS m.S e A n c l _ B C (j6 (D.o.ext (XB.o.trans X))) (j6 (ht.o.ext (XB.o.trans X)))).mono ?_;rintro r w1 ⟨rfl,x1⟩;have X1:=j6 (X.trans x1))
   have P3:∀y:Xt w1,y.W.cell? ⟨gs,4,none⟩=some (.slice m.uA nU m.uc):=λy=>(HC.o _ ((XB.o.trans X1.o).trans y.x)).2;have Q0:∀y:Xt w1,y.W.cell? ⟨gt,0,none⟩=some (.int .u64 e):=λy=>(BT.o.ext (X1.o.trans y.x)).cell 0;have Q1:∀y:Xt w1,y.W.cell? ⟨gt,1,none⟩=some (.slice A n c):=λy=>(BT.o.ext (X1.o.trans y.x)).cell 1
   (refine Aa (pks rfl) ?_;(repeat (go_big_quiet_step (fail)));refine oq ?_)
   refine Ac (pks rfl) ?_;intro K_ d;go_wp2_with (go_at_call 96;refine(Eg m.uA m.uc nU m.U e A n c l _ F G (j6 (I.o.ext (XB.o.trans X1.o))) (j6 (ht.o.ext (XB.o.trans X1.o)))).mono ?_;rintro r w2 ⟨rfl,x2⟩;have X2:=j6 (X1.o.trans x2))
   (refine Aa (pks rfl) ?_;(repeat (go_big_quiet_step (fail)));refine oq ?_)
   refine Ad ?_;clear P2 P3 Q0 Q1;cases b2 with
   | true =>
    go_wp2;go_returns;have hA:q=(111,[]):=by have:=HA.o;simpa using this
    rw[hA];exact⟨_,_,_,[],rfl,rfl,Own.nil _ _ _ _,λy hy=>(nomatch hy),rfl,XB.o.trans X2.o⟩
   | false =>
    go_wp2;have X3:Ext wb w2.drew:=X2.o.drew;have a:=j6 X3;have Q0:∀y:Xt w2.drew,y.W.cell? ⟨gt,0,none⟩=some (.int .u64 e):=λy=>(BT.o.ext (X3.trans y.x)).cell 0;have Q1:∀y:Xt w2.drew,y.W.cell? ⟨gt,1,none⟩=some (.slice A n c):=λy=>(BT.o.ext (X3.trans y.x)).cell 1;refine wro [0,1,0,7,15,31] (.flo [0,2] (.ext 1 (.one 3 (.flo [4,5] (.fin))))) ?_
    (refine Aa (pks rfl) ?_;(repeat (go_big_quiet_step (fail)));refine oq ?_)
    refine Ar (pks rfl) ?_;intro K_ d;go_wp2_with (go_at_call 170;refine(Nx w0 gs m R _ (j6 (HM.o.ext (XB.o.trans a.o))) (by have:=Ih ok.o;omega) (by have:=Ih ok.o;omega)).mono ?_;rintro r w4 ⟨A4,n4,c4,rfl,e4,o4,x4⟩;have h:=j6 e4;have H:=j6 o4;have X4:=j6 x4;clear e4 o4 x4)
    refine An.mk X4.o ?_;have hU:H0 (Uin w4 A4 c4 (Ds m.bs)):=j6 ⟨h.o▸H.o.sl,λx hx=>by
     have⟨b,hb,L⟩:=DC.1 hx;exact((HM.o.b.bt b hb).ls x L).ext (HM.o.b.ex.trans ((XB.o.trans a.o).trans X4.o))⟩
    have M:n4<=1000000:=by have:=Ih ok.o;rw[h.o];omega
    have J:H0 (sumV (atV ((Ds m.bs).map Ud.uv) (e,l))=sumV (atV (m.v.bs.flatten) (e,l))):=j6 (by rw[Zh];rfl);refine Ac (pks rfl) ?_;intro K_ d;go_wp2_with (go_at_call 26;refine(Ri (U:=sumV (atV (m.v.bs.flatten) (e,l))) A4 c4 n4 (Ds m.bs) e A n c l _ J h hU (by omega) (j6 (ht.o.ext ((XB.o.trans a.o).trans X4.o)))).mono ?_;rintro r w5 ⟨A5,m5,c5,R5,rfl,h5,o5,p5,v5,x5⟩;have H5:=j6 h5;have I5:=j6 (o5.mono ((XB.o.trans a.o).trans X4.o).size);have P5:H0 (∀y∈R5,Rw w0 y.A y.c y.l):=j6 (a0i HM.o.b.bt p5);have V5:=j6 v5;have X5:=j6 (((XB.o.trans a.o).trans X4.o).trans x5);clear h5 o5 p5 v5 x5)
    (refine Aa (pks rfl) ?_;(repeat (go_big_quiet_step (fail)));refine oq ?_)
    refine Ad ?_;go_wp2;go_returns;have hA:q=(0,sumV (atV (m.v.bs.flatten) (e,l))):=by have:=HA.o;simpa using this
    rw[hA];exact⟨_,_,_,_,rfl,H5.o,I5.o,P5.o,V5.o,X5.o⟩
def a4c(w0 w:World)(V:List UV)(e:Ending)(w':World):Prop:=∃A m c M,e=.returned (.slice A m c)/\m=M.length/\Own w' w.heap.size 95 4 A m c (Ah M)/\(∀y∈M,UdR w0 y)/\M.map Ud.uv=V/\Ext w w'
def Uw{V:List UV}(w0:World)(gs:Nat)(m:RSM)(R:Nat->Prop)(w:World)(hV:H0 (Dr m.v=V))(HM:H0 (RSR w0 w R gs m))(ok:H0 (OkV m.v)) :
  C3 63 #[.pointer (some ⟨gs,0,none⟩)] w (a4c w0 w V):=by
 have⟨nS,d⟩:=E9 m.S.length;have a:=j6 d;have h:H0 (∀u∈V,u.1.2.2=[]):=j6 (λu hu=>(Mj ok.o u (by rw[hV.o];exact hu)).2.1);have HC:H0 (∀W,Ext w W->W.cell? ⟨gs,3,none⟩=some (.slice m.sA nS m.sc)):=j6 (λW x=>by have:=(HM.o.bk.ext x).cell 3;rw[d];exact this);have q:H0 (Tin w m.sA m.sc m.S):=j6 (HM.o.b.sn.tin HM.o.b.ex);have c2:=HC.o w (Ext.refl w);clear d;rcases CS nS with h0|h0
 ·subst h0;have HV:H0 (V=[]):=j6 (by rw[<-hV.o];unfold Dr;rw[if_pos];show m.S.map Tm.v=[];rw[AH a.o.symm];rfl);clear hV;go_enter func63,ntmps63;go_wp2;go_ret;rw[HV.o];exact⟨none,0,0,[],rfl,rfl,Own.nil _ _ _ _,λy hy=>(nomatch hy),rfl,Ext.refl w⟩
 ·have C:¬((nS:Int)=0):=by omega
  have HV:H0 (UdS.sumV (((Ds m.bs).map Ud.uv).map (Bm (m.S.map Tm.v)))=V):=j6 (by
   rw[<-hV.o,Zh];unfold Dr;rw[if_neg]
   ·rfl
   ·intro e;have e2:=congrArg List.length e;have:=a.o;simp[RSM.v]at e2;rw[e2]at this;simp at this;omega)
  clear hV;go_enter func63,ntmps63
  go_upto_region 3 with fail
  clear c2;have X:Ext w w.drew:=(Ext.refl w).drew;have P2:∀y:Xt w.drew,y.W.cell? ⟨gs,3,none⟩=some (.slice m.sA nS m.sc):=λy=>HC.o _ (X.trans y.x);refine wro [0,1,0,4,12,28,63,127] (.flo [0,2,3,4,5] (.ext 1 (.one 6 (.flo [7] (.fin))))) ?_
  (refine Aa (pks rfl) ?_;(repeat (go_big_quiet_step (fail)));refine oq ?_)
  refine Ar (pks rfl) ?_;intro K_ z;go_wp2_with (go_at_call 170;refine(Nx w0 gs m R _ (j6 (HM.o.ext X)) (by have:=Ih ok.o;omega) (by have:=Ih ok.o;omega)).mono ?_;rintro r w4 ⟨A4,n4,c4,rfl,e4,o4,x4⟩;have c:=j6 e4;have n:=j6 o4;have X4:=j6 x4;clear e4 o4 x4)
  refine An.mk X4.o ?_;have hU:H0 (Uin w4 A4 c4 (Ds m.bs)):=j6 ⟨c.o▸n.o.sl,λx hx=>by
   have⟨b,hb,g⟩:=DC.1 hx;exact((HM.o.b.bt b hb).ls x g).ext (HM.o.b.ex.trans (X.trans X4.o))⟩
  have A:n4<=1000000:=by have:=Ih ok.o;rw[c.o];omega
  have j:H0 (∀x∈Ds m.bs,InU x):=j6 (λx hx=>(Zf ok.o x hx).1);have i:H0 (∀x∈Ds m.bs,x.t.l=[]):=j6 (λx hx=>(Zf ok.o x hx).2);have B:nS<=1:=by rw[a.o];exact(Fk ok.o.fs).2
  refine Ac (pks rfl) ?_;intro K_ z;go_wp2_with (go_at_call 27;refine(Nw (V:=V) A4 c4 n4 (Ds m.bs) m.sA m.sc nS m.S _ HV c hU (by omega) j a (j6 ((q.o.ext X).ext X4.o)) (j6 (Ua ok.o.fs)) i).mono ?_;rintro r w5 ⟨A5,m5,c5,R5,rfl,h5,o5,p5,v5,x5⟩;have H5:=j6 h5;have O5:=j6 (o5.mono (X.trans X4.o).size);have V5:=j6 v5;have U5:H0 (∀y∈R5,UdR w0 y):=j6 (λy hy=>(by have⟨x,hx,f⟩:=p5 y hy;have⟨b,hb,g⟩:=DC.1 hx;exact cF f ((HM.o.b.bt b hb).ls x g) (h.o y.uv (by rw[<-v5];exact AP.2 ⟨y,hy,rfl⟩))));have X5:=j6 ((X.trans X4.o).trans x5);clear h5 o5 p5 v5 x5)
  (refine Aa (pks rfl) ?_;(repeat (go_big_quiet_step (fail)));refine oq ?_)
  refine Ad ?_;go_wp2;go_ret;exact⟨_,_,_,_,rfl,H5.o,O5.o,U5.o,V5.o,X5.o⟩
def oC(gr:Nat)(z:Int)(w:World)(hz:z<1):C3 60 #[.pointer (some ⟨gr,0,none⟩),.int .i64 z] w λe w'=>e=.returned (.int .i64 0)/\w=w':=by
 go_enter func60,ntmps60;go_wp2;go_ret;exact⟨rfl,rfl⟩
def oD(w0:World)(gr:Nat)(z:Int)(m:RSM)(K:Nat->Prop)(w:World)(x0:H0 (Ext w0 w))(HM:H0 (RSR w0 w K gr m))(ok:H0 (OkV m.v))(hz:z<=9223372036854775807):C3 60 #[.pointer (some ⟨gr,0,none⟩),.int .i64 z] w (tI w0 w K gr m.v z):=by
 by_cases h:z<1
 ·refine(oC gr z w h).mono λe w' ⟨he,hw⟩=>?_;subst hw;exact⟨m,0,by rw[he];rfl,HM.o.wide λ_ _ hk=>.inl hk,.inl ⟨rfl,rfl,h⟩,ok.o,Upd.refl _ _⟩
 ·obtain⟨n,rfl⟩:∃n:Nat,z=n:=⟨z.toNat,by omega⟩;exact oE w0 gr n m K w x0 HM ok (by omega) (by omega)
def iI{s a b:SV}{t:Nat}(h:(a=s/\r=0/\z<1)\/∃n:Nat,z=n/\0<n/\De s n a r)(k:(b=s/\t=0/\z<1)\/∃n:Nat,z=n/\0<n/\De s n b t):a=b/\r=t:=by
 rcases h with ⟨h1,h2,h3⟩|⟨n,h1,h2,h3⟩<;>rcases k with ⟨k1,k2,k3⟩|⟨l,k1,k2,k3⟩
 ·exact⟨h1.trans k1.symm,h2.trans k2.symm⟩
 ·omega
 ·omega
 ·obtain rfl:n=l:=by omega
  exact h3.det k3
open Go.ChangeMaps (setBlock)
structure Hd where
 g:Nat
 born:Nat
def Cw(x:Hd):MapEntry:=⟨.pointer (some ⟨x.g,0,none⟩),.agg #[],x.born⟩
structure PM (w:World) (b:Nat) (L:List Hd) (clock:Nat):Prop where
 bk:w.heap[b]?=some (.map (L.map Cw).toArray clock)
 st:∀x∈L,x.born<clock
 nb:(L.map Hd.born).Nodup
 ng:(L.map Hd.g).Nodup
 hb:∀x∈L,∃cs,Bk w x.g 215 cs
def mK:∃j,prog.info? 215=some j/\j.size≠0:=by
 have h:(prog.info? 215).map (·.size)=some 5:=by kernel_rfl
 cases hj:prog.info? 215 with
 | none=>rw[hj]at h;cases h
 | some j =>
  rw[hj]at h;injection h with h;exact⟨j,rfl,by rw[show j.size=5 from h];decide⟩
def Ze:prog.underlying 112=some (.pointer 215):=Tryz.underlying112
def Sy:prog.underlying 207=some (.map 112 216):=Tryz.underlying207
section
variable{w w':World}{b clock:Nat}{L:List Hd}
def kO(g:Nat):(Op.equal 112 (.pointer (some ⟨g,0,none⟩)) (.pointer (some ⟨g,0,none⟩))).run prog w=.ok true w:=by
 obtain⟨j,hj,_⟩:=mK;have h:∀d:Nat,(Op.equalIn (d+1) 112 (.pointer (some ⟨g,0,none⟩)) (.pointer (some ⟨g,0,none⟩))).run prog w=.ok true w:=λd=>by
  simp[Op.equalIn,run_underlying Ze,sizeOf,typeInfo,hj,run_sameAddr_same]
 exact h 9999
def gH{k:Nat}(hne:g≠k)(ha:Bk w g ta ca)(hb:Bk w k tb cb):(Op.equal 112 (.pointer (some ⟨g,0,none⟩)) (.pointer (some ⟨k,0,none⟩))).run prog w=.ok false w:=by
 obtain⟨j,hj,hs⟩:=mK;have h:∀d:Nat,(Op.equalIn (d+1) 112 (.pointer (some ⟨g,0,none⟩)) (.pointer (some ⟨k,0,none⟩))).run prog w=.ok false w:=λd=>by
  simp[Op.equalIn,run_underlying Ze,sizeOf,typeInfo,hj,hs,run_sameAddr_other w (a:=⟨g,0,none⟩) (b:=⟨k,0,none⟩) (λe=>hne (congrArg Addr.block e)) ha hb]
 exact h 9999
def iF{cs:Array Value}(hg:Bk w g t cs):∀(L:List Hd) (i:Nat),(∀x∈L,∃cs,Bk w x.g 215 cs) ->
  ((∀x∈L,x.g≠g)/\(Instr.findAsking 112 (.pointer (some ⟨g,0,none⟩)) (L.map Cw) i).run prog w=.ok none w) \/
  ∃j x,L[j]?=some x/\x.g=g/\(Instr.findAsking 112 (.pointer (some ⟨g,0,none⟩)) (L.map Cw) i).run prog w=.ok (some (i+j,.agg #[])) w
 | [],i,_=>.inl ⟨λx hx=>(nomatch hx),by simp[Instr.findAsking]⟩
 | x::L,i,hb=>by
  by_cases hx:x.g=g
  ·refine .inr ⟨0,x,rfl,hx,?_⟩;have e:=kO (w:=w) g;subst hx;show(Instr.findAsking _ _ (Cw x::L.map Cw) i).run _ _=_;simp[Instr.findAsking,Cw,e]
  ·have⟨cx,hcx⟩:=hb x (BC ..);have e:=gH (λq=>hx q.symm) hg hcx;rcases iF hg L (i+1) (λy hy=>hb y (BM _ hy))with ⟨h1,h2⟩|⟨j,y,h1,h2,h3⟩
   ·refine .inl ⟨λy hy=>?_,?_⟩
    ·rcases AY.1 hy with rfl|hy
     ·exact hx
     ·exact h1 y hy
    ·show(Instr.findAsking _ _ (Cw x::L.map Cw) i).run _ _=_;simp[Instr.findAsking,e,h2,Cw]at h2 ⊢
   ·refine .inr ⟨j+1,y,by simpa using h1,h2,?_⟩;show(Instr.findAsking _ _ (Cw x::L.map Cw) i).run _ _=_;rw[show i+(j+1)=i+1+j by omega];simp[Instr.findAsking,Cw]at h3 ⊢;simp[e,h3]
def mM(g:Nat)(L:List Hd):(Instr.findKey 112 (.pointer (some ⟨g,0,none⟩)) (L.map Cw)).run prog w=(Instr.findAsking 112 (.pointer (some ⟨g,0,none⟩)) (L.map Cw) 0).run prog w:=by
 unfold Instr.findKey;simp only[Sem.run_bind,run_underlying Ze,Result.andThen];cases L with
 | nil=>rfl
 | cons x L=>rfl
def Th{es:Array MapEntry}{k:Nat}(h:w.heap[b]?=some (.map es k))(o':Obj):(setObj b o').run prog w=.ok () (setBlock w b o'):=by
 simp[setObj,Sem.run,h,setBlock]
def eG(e:Bool)(g:Nat):(Instr.checkKey e 10000 112 (.pointer (some ⟨g,0,none⟩))).run prog w=.ok () w:=by
 unfold Instr.checkKey;simp[run_underlying Ze]
def Is(h:w.heap[b]?=some (.map (L.map Cw).toArray clock))(o:Obj):w.grownBy (setBlock w b o) (some b)/\(setBlock w b o).heap.size=w.heap.size :=
 ⟨⟨rfl,rfl,rfl,by simp[setBlock],λi _ hi=>Go.ChangeMaps.heap_setBlock_other h o (λe=>hi (by rw[e]))⟩,by simp[setBlock]⟩
def Jl{cs:Array Value}(hg:Bk w g t cs)(h:w.heap[b]?=some (.map (L.map Cw).toArray clock)):g≠b:=λe=>by
 subst e;have:=hg.symm.trans h;cases this
def Bk.gr{cs:Array Value}(hg:Bk w g t cs)(u:w.grownBy w' (some b))(hn:g≠b):Bk w' g t cs:=(u.block g hg.lt (λe=>hn (by injection e))).trans hg
def PM.put(h:PM w b L clock){g:Nat}{cs:Array Value}(hg:Bk w g 215 cs)(hn:∀x∈L,x.g≠g) :
  ∃w',(Instr.mapUpdate 207 (.map (some b)) (.pointer (some ⟨g,0,none⟩)) (.agg #[])).run prog w=.ok () w'/\PM w' b (L++[⟨g,clock⟩]) (clock+1)/\w.grownBy w' (some b)/\w'.heap.size=w.heap.size:=by
 have hf:=mM (w:=w) g L;rcases iF hg L 0 h.hb with ⟨_,q⟩|⟨j,x,hx,hxg,_⟩
 ·rw[q]at hf;have⟨gr,sz⟩:=Is h.bk (.map ((L.map Cw).toArray.push ⟨.pointer (some ⟨g,0,none⟩),.agg #[],clock⟩) (clock+1));refine⟨_,?_,⟨?_,λx hx=>?_,?_,?_,λx hx=>?_⟩,gr,sz⟩
  ·unfold Instr.mapUpdate;have h1:=eG (w:=w) false g;have h2:=Th h.bk (.map ((L.map Cw).toArray.push ⟨.pointer (some ⟨g,0,none⟩),.agg #[],clock⟩) (clock+1));simp only[Sem.run_bind,run_underlying Sy,Result.andThen,getObj,Sem.run,h.bk,h1,hf];exact h2
  ·rw[GN h.bk];simp[Cw]
  ·rcases AQ.1 hx with hx|hx
   ·have:=h.st x hx;omega
   ·rw[AE.1 hx];exact Nat.lt_succ_self _
  ·rw[AI];refine EY.2 ⟨h.nb,by simp,λa ha c hc=>?_⟩;obtain⟨y,hy,rfl⟩:=AP.1 ha;have:=h.st y hy;rw[AE.1 (show c∈[clock]from hc)];omega
  ·rw[AI];refine EY.2 ⟨h.ng,by simp,λa ha c hc=>?_⟩;obtain⟨y,hy,rfl⟩:=AP.1 ha;rw[AE.1 (show c∈[g]from hc)];exact hn y hy
  ·rcases AQ.1 hx with hx|hx
   ·have⟨c,hc⟩:=h.hb x hx;exact⟨c,hc.gr gr (Jl hc h.bk)⟩
   ·rw[AE.1 hx];exact⟨cs,hg.gr gr (Jl hg h.bk)⟩
 ·exact absurd hxg (hn x (List.mem_of_getElem? hx))
def PM.del(h:PM w b L clock){g:Nat}{cs:Array Value}(hg:Bk w g 215 cs)(ty:TypeId) :
  ∃w',(Builtin.delete_ #[207,112] ty #[.map (some b),.pointer (some ⟨g,0,none⟩)]).run prog w=.ok (.tuple #[]) w'/\PM w' b (L.filter λx=>!(x.g==g)) clock/\w.grownBy w' (some b)/\w'.heap.size=w.heap.size:=by
 have hf:=mM (w:=w) g L;have keep:∀{L':List Hd},L'.Sublist L->∀o:Obj,o=.map (L'.map Cw).toArray clock->PM (setBlock w b o) b L' clock:=λ{L'} hs o ho=>by
  have⟨gr,_⟩:=Is h.bk o;refine⟨by rw[GN h.bk,ho],λx hx=>h.st x (hs.subset hx),(hs.map _).nodup h.nb,(hs.map _).nodup h.ng,λx hx=>?_⟩;have⟨c,hc⟩:=h.hb x (hs.subset hx);exact⟨c,hc.gr gr (Jl hc h.bk)⟩
 have hc:=eG (w:=w) (L.map Cw).toArray.isEmpty g;rcases iF hg L 0 h.hb with ⟨hn,q⟩|⟨j,x,hx,hxg,q⟩
 ·rw[q]at hf;have he:(L.filter λx=>!(x.g==g))=L:=EM.2 λx hx=>by simpa using hn x hx
  refine⟨setBlock w b (.map (L.map Cw).toArray clock),?_,by rw[he];exact keep (GZ _) _ rfl,(Is h.bk _).1,(Is h.bk _).2⟩;unfold Builtin.delete_;have h2:=Th h.bk (.map (L.map Cw).toArray clock);simp only[Sem.run_bind,Sem.run_pure,run_underlying Sy,Result.andThen,getObj,Sem.run,h.bk,hc,hf,h2,List.getElem?_toArray,List.getElem?_cons_zero,FF]
 ·rw[q,BV]at hf;have a:j<L.length:=by
   rcases DO j L.length with r|r
   ·exact r
   ·rw[DL r]at hx;cases hx
  have he:(L.filter λx=>!(x.g==g))=L.eraseIdx j:=by
   have d:=h.ng;rw[AC a]at hx;have hx:=Option.some.inj hx;have e1:L=L.take j++x::L.drop (j+1):=by
    rw[<-hx,<-BY a,CF]
   have hp:∀y∈L.take j++L.drop (j+1),y.g≠g:=λy hy e=>by
    rw[e1,AI,CJ]at d;have h3:=EY.1 d;rcases AQ.1 hy with hy|hy
    ·exact h3.2.2 y.g (AP.2 ⟨y,hy,rfl⟩) x.g (BC ..) (e.trans hxg.symm)
    ·exact(FZ.1 h3.2.1).1 (by rw[hxg,<-e];exact AP.2 ⟨y,hy,rfl⟩)
   rw[List.eraseIdx_eq_take_drop_succ];have e2:(L.filter λx=>!(x.g==g))=((L.take j++x::L.drop (j+1)).filter λx=>!(x.g==g)):=by rw[<-e1]
   rw[e2,CT,CP (by simp[hxg]),<-CT];exact EM.2 λy hy=>by simpa using hp y hy
  have ho:Obj.map ((L.map Cw).toArray.eraseIdxIfInBounds j) clock=.map ((L.eraseIdx j).map Cw).toArray clock:=by
   refine congrArg (λx=>Obj.map x clock) (Array.ext' ?_);simp[Array.eraseIdxIfInBounds,a,Go.ChangeMaps.map_eraseIdx]
  refine⟨setBlock w b (.map ((L.map Cw).toArray.eraseIdxIfInBounds j) clock),?_,by rw[he];exact keep (List.eraseIdx_sublist ..) _ ho,(Is h.bk _).1,(Is h.bk _).2⟩;unfold Builtin.delete_;have h2:=Th h.bk (.map ((L.map Cw).toArray.eraseIdxIfInBounds j) clock);simp only[Sem.run_bind,Sem.run_pure,run_underlying Sy,Result.andThen,getObj,Sem.run,h.bk,hc,hf,h2,List.getElem?_toArray,List.getElem?_cons_zero,FF]
structure PR (w:World) (b r:Nat) (L:List Hd) (clock:Nat) (seen:Array Nat):Prop where
 m:PM w b L clock
 it:w.heap[r]?=some (.mapIter (some b) clock seen clock)
 ne:r≠b
end
section
variable{w:World}{b r clock:Nat}{L:List Hd}{seen:Array Nat}
def PM.ext(h:PM w b L clock)(x:Ext w w'):PM w' b L clock:=⟨x.heap h.bk,h.st,h.nb,h.ng,λy hy=>by have⟨c,hc⟩:=h.hb y hy;exact⟨c,hc.ext x⟩⟩
def PM.lt(h:PM w b L clock):b<w.heap.size:=by
 rcases DO b w.heap.size with q|q
 ·exact q
 ·have:=h.bk;rw[ER q]at this;cases this
def PM.upd(h:PM w b L clock)(u:Upd S w w')(hb:¬S b)(hS:∀x∈L,¬S x.g):PM w' b L clock :=
 ⟨(u.block b h.lt hb).trans h.bk,h.st,h.nb,h.ng,λy hy=>by have⟨c,hc⟩:=h.hb y hy;exact⟨c,hc.upd u (hS y hy)⟩⟩
def PM.len(h:PM w b L clock)(ty:TypeId):(Builtin.len_ #[207] ty #[.map (some b)]).run prog w=.ok (.int .i64 L.length) w:=by
 simp[Builtin.len_,run_underlying Sy,getObj,Sem.run,h.bk,Result.andThen,goInt]
def PM.range(h:PM w b L clock):(Instr.range 207 (.map (some b))).run prog w=.ok (.pointer (some ⟨w.heap.size,0,none⟩)) (w.alloc (.mapIter (some b) clock #[] clock))/\PR (w.alloc (.mapIter (some b) clock #[] clock)) b w.heap.size L clock #[]:=
 ⟨run_range_map w _ _ _ b _ clock Sy h.bk,h.ext ((Ext.refl w).alloc _),heap_alloc_new w _,λe=>by have:=h.lt;omega⟩
def mO{e:MapEntry}(h:e∈(L.map Cw).toArray.toList):∃x∈L,e=Cw x:=by
 simp at h;obtain⟨x,hx,q⟩:=h;exact⟨x,hx,q.symm⟩
def PR.next(h:PR w b r L clock seen)(ty:TypeId) :
  ((∀x∈L,seen.contains x.born=true)/\(Instr.next (.pointer (some ⟨r,0,none⟩)) false ty).run prog w=.ok (.tuple #[.bool false]) w) \/
  ∃x∈L,seen.contains x.born=false/\∃w',(Instr.next (.pointer (some ⟨r,0,none⟩)) false ty).run prog w=.ok (.tuple #[.bool true,.pointer (some ⟨x.g,0,none⟩),.agg #[]]) w'/\PR w' b r L clock (seen.push x.born) /\
   w.grownBy w' (some r)/\w'.heap.size=w.heap.size/\(Instr.entry (.pointer (some ⟨r,0,none⟩))).run prog w'=.ok (.tuple #[.pointer (some ⟨x.g,0,none⟩),.agg #[]]) w'/\(leftOf (L.map Cw).toArray (seen.push x.born)).size<(leftOf (L.map Cw).toArray seen).size:=by
 rcases run_next_at (P:=prog) w ty r b clock clock seen _ clock h.it h.m.bk (λe he=>by obtain⟨x,hx,rfl⟩:=mO he;exact h.m.st x hx) (AD _)with ⟨h0,hrun⟩|⟨e,he,w1,hal,hrun⟩
 ·refine .inl ⟨λx hx=>?_,hrun⟩;exact all_seen _ seen h0 (Cw x) (by simp;exact⟨x,hx,rfl⟩)
 ·have⟨f,n⟩:=mem_left he;obtain⟨x,hx,rfl⟩:=mO f;have q:w1.heap[r]?=some (.mapIter (some b) clock seen clock):=by rcases hal with rfl|rfl<;>exact h.it
  have j:w1.heap[b]?=some (.map (L.map Cw).toArray clock):=by rcases hal with rfl|rfl<;>exact h.m.bk
  have a:=Go.MapKept.heap_set (o':=.mapIter (some b) clock (seen.push (Cw x).born) clock) q;have d:(setBlock w1 r (.mapIter (some b) clock (seen.push (Cw x).born) clock)).heap[b]?=some (.map (L.map Cw).toArray clock):=(a.2 b (λe1=>h.ne e1.symm)).trans j;refine .inr ⟨x,hx,n,_,hrun,⟨⟨d,h.m.st,h.m.nb,h.m.ng,λy hy=>?_⟩,a.1,h.ne⟩,?_,?_,run_entry_at _ r b clock seen _ clock (Cw x) a.1 d f (by simpa [Function.comp_def,Cw] using h.m.nb),left_shrinks _ seen (Cw x) he⟩
  ·have⟨c,hc⟩:=h.m.hb y hy;have l:y.g≠r:=λe=>by
    subst e;have:=hc.symm.trans h.it;cases this
   refine⟨c,(a.2 y.g l).trans ?_⟩;rcases hal with rfl|rfl<;>exact hc
  ·rcases hal with rfl|rfl<;>exact⟨rfl,rfl,rfl,by simp[setBlock],λi _ hi=>a.2 i (λe1=>hi (by rw[e1]))⟩
  ·rcases hal with rfl|rfl<;>simp[setBlock]
end
section
variable{w:World}{b r clock:Nat}{L:List Hd}{seen:Array Nat}{ops:Array Oper}{rest:List Oper}{o:Oper}{a:Act}{Q:Exit->Act->World->Prop}
def Wi(hg:o.guard=none)(m x v:Operand)(hop:o.op=Op.mapUpdate 207 m x v)(hm:a.eval m=.map (some b))(g:Nat)(hx:a.eval x=.pointer (some ⟨g,0,none⟩))(hv:a.eval v=.agg #[])
  (h:PM w b L clock) (cs:Array Value) (hgb:Bk w g 215 cs) (hn:∀x∈L,x.g≠g)
  (hK:∀w',PM w' b (L++[⟨g,clock⟩]) (clock+1)->w.grownBy w' (some b)->w'.heap.size=w.heap.size->wpList prog ops Q rest (a.put o.dst undef) w'):wpList prog ops Q (o::rest) a w:=by
 refine wpList_plain hg λK' hK'=>?_;have⟨w',c,r1,r2,r3⟩:=h.put hgb hn;unfold Oper.wp;simp[execOp,hop,hm,hx,hv,c,Result.andThen];exact hK' _ _ (hK w' r1 r2 r3)
def Wj(hg:o.guard=none)(m x:Operand)(hop:o.op=Op.call { callee:=Callee.builtin Builtin.delete,args:=#[m,x],argTypes:=#[207,112] })(hm:a.eval m=.map (some b))(g:Nat)(hx:a.eval x=.pointer (some ⟨g,0,none⟩))
  (h:PM w b L clock) (cs:Array Value) (hgb:Bk w g 215 cs)
  (hK:∀w',PM w' b (L.filter λx=>!(x.g==g)) clock->w.grownBy w' (some b)->w'.heap.size=w.heap.size->wpList prog ops Q rest (a.put o.dst (.tuple #[])) w'):wpList prog ops Q (o::rest) a w:=by
 refine wpList_plain hg λK' hK'=>?_;have⟨w',c,r1,r2,r3⟩:=h.del hgb o.type;unfold Oper.wp;simp[execOp,hop,resolve,invoke,builtin,hm,hx,c,Result.andThen];exact hK' _ _ (hK w' r1 r2 r3)
def Sa(hg:o.guard=none)(m:Operand)(hop:o.op=Op.range 207 m)(hm:a.eval m=.map (some b))(h:PM w b L clock)
  (hK:∀w',PR w' b w.heap.size L clock #[]->Ext w w'->w'.heap.size=w.heap.size+1->wpList prog ops Q rest (a.put o.dst (.pointer (some ⟨w.heap.size,0,none⟩))) w'):wpList prog ops Q (o::rest) a w:=by
 refine wpList_plain hg λK' hK'=>?_;have⟨c,r1⟩:=h.range;unfold Oper.wp;simp[execOp,hop,hm,c,Result.andThen];exact hK' _ _ (hK _ r1 ((Ext.refl w).alloc _) (by simp))
def Vo(hg:o.guard=none)(it:Operand)(hop:o.op=Op.next it false)(hit:a.eval it=.pointer (some ⟨r,0,none⟩))(h:PR w b r L clock seen)
  (hDone:(∀x∈L,seen.contains x.born=true)->wpList prog ops Q rest (a.put o.dst (.tuple #[.bool false])) w)
  (hMore:∀(x:Hd) (w':World),x∈L->seen.contains x.born=false->PR w' b r L clock (seen.push x.born)->w.grownBy w' (some r)->w'.heap.size=w.heap.size->(Instr.entry (.pointer (some ⟨r,0,none⟩))).run prog w'=.ok (.tuple #[.pointer (some ⟨x.g,0,none⟩),.agg #[]]) w' ->
   (leftOf (L.map Cw).toArray (seen.push x.born)).size<(leftOf (L.map Cw).toArray seen).size->wpList prog ops Q rest (a.put o.dst (.tuple #[.bool true,.pointer (some ⟨x.g,0,none⟩),.agg #[]])) w'):wpList prog ops Q (o::rest) a w:=by
 refine wpList_plain hg λK' hK'=>?_;unfold Oper.wp;rcases h.next o.type with ⟨h0,hrun⟩|⟨x,hx,hs,w',hrun,h1,h2,h3,h4,h5⟩
 ·simp[execOp,hop,hit,hrun,Result.andThen];exact hK' _ _ (hDone h0)
 ·simp[execOp,hop,hit,hrun,Result.andThen];exact hK' _ _ (hMore x w' hx hs h1 h2 h3 h4 h5)
end
def gZ(S:List TV)(k:UK):UK:=(k.1,Ix S k.2)
def a0r(S:List TV):Bm S=λx:UV=>(gZ S x.1,x.2):=rfl
def Qc(s:SV):List UV:=s.bs.flatten.map (Bm s.S)
def dJ{u:UV}(h:Db u):∀d∈u.1.1,d.check=0/\InD d:=λd hd=>⟨((Nj _).1 h.2.2).2 d hd,h.1.int d hd⟩
def Oj{D:List UV}(h:∀u∈D,Db u):UdS.Canon D:=λx hx y hy h0=>by
 have gx:=dJ (h x hx);have gy:=dJ (h y hy);obtain⟨⟨l,t⟩,d⟩:=x;obtain⟨⟨l',t'⟩,d'⟩:=y;have h1:(if Ba l l'=0 then Cr t t' else Ba l l')=0:=h0;split at h1
 ·rename_i h2;rw[show l=l' from Pj l l' gx gy h2,show t=t' from Co.1 h1]
 ·rename_i h2;exact absurd h1 h2
def rI{S:List TV}(hf:Bg S=true){u:UV}(h:u.1.2.2=[]):Bm S (Bm S u)=Bm S u:=by
 obtain⟨⟨l,e,c⟩,d⟩:=u;simp only at h;subst h;rcases Gw hf with rfl|⟨t,rfl⟩
 ·rfl
 ·unfold Bm;simp only[aD]
  congr 3
  omega
def uH{s:SV}(h:OkV s):∀u∈Qc s,Db u:=λu hu=>by
 obtain⟨v,hv,rfl⟩:=AP.1 hu;exact Mk h.fs h.es (h.ins v hv)
def vR{A D:List (List UV)}(X:List UV):(A++(if X=[] then [] else [X])++D).flatten=A.flatten++X++D.flatten:=by
 rw[CN,CN];split
 ·rename_i h;rw[h];rfl
 ·rw[DT]
def yS{s:SV}{l:Nat}(h:OkV s)(hu:s.un=some (i,l))(k:Nat):UdS.Nm (Qc (Jo { s with un:=some (i,k) })) (Qc s):=by
 have hi:=(h.un i l hu).1;have e1:Qc (Jo { s with un:=some (i,k) })=(s.bs.take i).flatten.map (Bm s.S)++(Cc s i).map (Bm s.S)++(s.bs.drop (i+2)).flatten.map (Bm s.S):=by
  show((s.bs.take i++(if Cc s i=[] then [] else [Cc s i])++s.bs.drop (i+2)).flatten).map (Bm s.S)=_;rw[vR,AI,AI]
 have e2:Qc s=(s.bs.take i).flatten.map (Bm s.S)++(s.bs.getD i []++s.bs.getD (i+1) []).map (Bm s.S)++(s.bs.drop (i+2)).flatten.map (Bm s.S):=by
  have e:=congrArg (λx=>x.flatten.map (Bm s.S)) (Mw hi);simp only[CN,GJ,AI]at e;unfold Qc;rw[e,AI];simp only[AK]
 rw[e1,e2];have hg:∀u∈s.bs.getD i []++s.bs.getD (i+1) [],Db u:=λu hu'=>by
  have hm:∀j,j<s.bs.length->∀v∈s.bs.getD j [],Db v:=λj hj v hv=>by
   rw[AB,AC hj]at hv;exact h.ins v (GM.2 ⟨_,BR hj,hv⟩)
  rcases AQ.1 hu' with q|q
  ·exact hm i (by omega) u q
  ·exact hm (i+1) hi u q
 have a:∀u∈(s.bs.getD i []++s.bs.getD (i+1) []).map (Bm s.S),Db u:=λu hu'=>by
  obtain⟨v,hv,rfl⟩:=AP.1 hu';exact Mk h.fs h.es (hg v hv)
 have e3:((s.bs.getD i []++s.bs.getD (i+1) []).map (Bm s.S)).map (Bm s.S)=(s.bs.getD i []++s.bs.getD (i+1) []).map (Bm s.S):=by
  rw[CO];exact DZ λu hu'=>rI h.fs (hg u hu').2.1
 have k1:UdS.Nm ((Cc s i).map (Bm s.S)) ((s.bs.getD i []++s.bs.getD (i+1) []).map (Bm s.S)):=by
  rw[<-e3];exact(UdS.Nm.sum (λu hu'=>(a u hu').1.num) (Oj a)).map (gZ s.S)
 exact((UdS.Nm.refl _).append k1).append (UdS.Nm.refl _)
def Kz{s s1:SV}{b:Bool}(h:Bp s=(s1,b)):s1.bs=s.bs/\s1.S=s.S/\s1.U=s.U:=by
 unfold Bp at h;split at h
 ·injection h with h _;rw[<-h];exact⟨rfl,rfl,rfl⟩
 ·split at h
  ·injection h with h _;rw[<-h];exact⟨rfl,rfl,rfl⟩
  ·injection h with h _;rw[<-h];exact⟨rfl,rfl,rfl⟩
structure a3h (s t:SV):Prop where
 ok:OkV t
 say:UdS.Nm (Qc t) (Qc s)
 S:t.S=s.S
 U:t.U=s.U
def dA{s s2:SV}(h:OkV s){i l:Nat}(hu:s.un=some (i,l))(hn:0<n)(hp:Hz s n=(s2,n2)):a3h s s2/\n2<n:=by
 have hl:=(h.un i l hu).2.1;unfold Hz at hp;rw[hu]at hp;simp only at hp;injection hp with h1 h2;refine⟨?_,by omega⟩;rw[<-h1];split
 ·exact⟨Zn h hu,yS h hu _,rfl,rfl⟩
 ·exact⟨lZ h hu (by omega),UdS.Nm.refl _,rfl,rfl⟩
def Xi{s t:SV}(w:De s n t r):OkV s->a3h s t:=by
 induction w with
 | done s=>exact λh=>⟨h,UdS.Nm.refl _,rfl,rfl⟩
 | @stop s s1 n hn hb =>
  intro h;have⟨e1,e2,e3⟩:=Kz hb;have h1:=Ki h;rw[hb]at h1;exact⟨h1,by unfold Qc;rw[e1,e2];exact UdS.Nm.refl _,e2,e3⟩
 | @step s s1 s2 t n n2 r hn hb hp k ih =>
  intro h;have⟨e1,e2,e3⟩:=Kz hb;have h1:=Ki h;rw[hb]at h1;have⟨i,l,hu⟩:=Uk hb;have⟨a,_⟩:=dA h1 hu hn hp;have c:=ih a.ok;refine⟨c.ok,c.say.trans (a.say.trans ?_),c.S.trans (a.S.trans e2),c.U.trans (a.U.trans e3)⟩;unfold Qc;rw[e1,e2];exact UdS.Nm.refl _
def nzV(x:V):Bool:=!(x.2==0)
def Canon(D:List V):Prop:=∀x∈D,∀y∈D,cmpV x y=0->x.1=y.1
def alike_filter(c:V)(p:V->Bool)(l:List V):Ae cmpV c (l.filter p)=(Ae cmpV c l).filter p:=by
 unfold Ae;rw[DD,DD]
 congr 1
 funext a;rw[Bool.and_comm]
def sumV_spec{D:List V}(hin:∀x∈D,InN x):(sumV D).Pairwise (λx y=>cmpV x y<0)/\∀c,Ae cmpV c (sumV D)=(sumClass (Ae cmpV c D)).filter nzV:=by
 have h:=Summed.all D hin;refine⟨h.sorted.filter _,λc=>?_⟩;show Ae cmpV c ((sumAll D).filter nzV)=_;rw[alike_filter,h.same]
def sumV_eq{D R:List V}(hin:∀x∈D,InN x)(hs:R.Pairwise (λx y=>cmpV x y<0))(ha:∀c,Ae cmpV c R=(sumClass (Ae cmpV c D)).filter nzV):R=sumV D:=by
 have⟨h1,h2⟩:=sumV_spec hin;exact Af.unique cmpV_tot (l:=R) ⟨hs.imp λq=>DP q,λ_=>rfl⟩ ⟨h1.imp λq=>DP q,λc=>by rw[h2,ha]⟩
def cmpV_self(x:V):cmpV x x=0:=cmpV_tot.refl x
def sumV_mem{D:List V}(hin:∀x∈D,InN x){x:V}(hx:x∈sumV D):InN x/\nzV x=true/\∃y∈D,y.1=x.1:=by
 have h:x∈Ae cmpV x (sumV D):=BI.2 ⟨hx,by rw[beq_iff_eq];exact cmpV_self x⟩;rw[(sumV_spec hin).2]at h;have⟨h1,h2⟩:=BI.1 h;refine⟨?_,h2,?_⟩
 ·cases hl:Ae cmpV x D with
  | nil=>rw[hl]at h1;cases h1
  | cons y l =>
   rw[hl]at h1;rw[AE.1 h1];exact Sw _
 ·cases hl:Ae cmpV x D with
  | nil=>rw[hl]at h1;cases h1
  | cons y l =>
   have hy:y∈Ae cmpV x D:=by rw[hl];exact BC ..
   rw[hl]at h1;exact⟨y,(BI.1 hy).1,by rw[AE.1 h1]⟩
def cnt_nil:cnt []=0:=by decide
def mem_alike{c x:V}{D:List V}(h:x∈Ae cmpV c D):x∈D/\cmpV c x=0:=by
 have⟨h1,h2⟩:=BI.1 h;exact⟨h1,by simpa using h2⟩
end Go.Proofs.YtdgbkpoickbidaaGreatDoor
