/- Parts of the proof, put together. Conditions: each theorem states its own. -/
import Derived.Test.YtdgbkpoickbidaaGreatDoorHd18
set_option maxRecDepth 100000
set_option maxHeartbeats 8000000
open Go.RowKit
namespace Go.Proofs.YtdgbkpoickbidaaGreatDoor
def Rr(n:Nat):Obj:=.cells (madeCells #[.slice none 0 0,.int .u64 0,.slice none 0 0,.int .i64 0] (n*4)) 95
theorem rW(n:Nat)(hn:n<=1000000000)(W:World):(Instr.makeSlice 22 (.int .i64 0) (.int .i64 (n:Int))).run Tryz.prog W=.ok (.slice (some ⟨W.heap.size,0,none⟩) 0 n) (W.alloc (Rr n)):=by
 obtain⟨i,hi,hz,hs,hb⟩:=info_parts Aw.info;have:=run_make (P:=Tryz.prog) (w:=W) 22 95 i _ Aw.under hi hz .i64 .i64 0 (n:Int) (EL _) (by omega) (by rw[hb];omega) (by omega);rw[hs]at this;exact this
theorem vC(W:World)(n:Nat)(hn:n<=1000000000):Own (W.alloc (Rr n)) W.heap.size 95 4 (some ⟨W.heap.size,0,none⟩) 0 n []:=
 ⟨rfl,.inr ⟨W.heap.size,_,rfl,AD _,heap_alloc_new W _,AE _,by unfold maxLen;omega,EF (size_madeCells _ _).symm,rfl⟩⟩
def Jw:Ud:=⟨none,0,[],Tm.zero,91⟩
def Pj(w:World)(B:Nat)(x:Ud):Prop:=Own w B 204 4 x.A (x.l.length+2) x.c (Dc (x.l++Hu))
def ApU(L:List Ud):Prop:=(L.Pairwise fun x y=>∀k,blk x.A x.c=some k->blk y.A y.c≠some k)/\L.Pairwise fun x y=>∀k,blk x.t.A x.t.c=some k->blk y.t.A y.t.c≠some k
structure Iz (w:World) (g n:Nat) (L:List Ud) (wr:World) (i:Nat) (O:List Ud):Prop where
 own:Own wr w.heap.size 95 4 (some ⟨g,0,none⟩) i (n+1) (Ah O)
 vals:O.map Ud.uv=(L.take i).map Ud.uv
 len:O.length=i
 rw:∀x∈O,Pj wr w.heap.size x
 ts:∀x∈O,Fx wr w.heap.size x.t
 ap:ApU O
 ext:Ext w wr
 gg:w.heap.size<=g/\g<wr.heap.size
theorem Iz.mono{w wr wz:World}{g n i:Nat}{L O:List Ud}(h:Iz w g n L wr i O)(x:Ext wr wz):Iz w g n L wz i O :=
 ⟨h.own.ext x,h.vals,h.len,fun y hy=>Own.ext (h.rw y hy) x,fun y hy=>Own.ext (h.ts y hy) x,h.ap,h.ext.trans x,by have:=h.gg;have:=x.size;omega⟩
theorem Iz.new{w w1 w3 w4:World}{g n i hr ht:Nat}{L O:List Ud}{x:Ud}{nx tx:Nat}(hL:Iz w g n L w1 i O)(hi:i<L.length)(hx:L.getD i Ud.zero=x)(hnx:nx=x.l.length)(htx:tx=x.t.l.length)(x3:Ext w1 w3)
  (o3:Own w3 w1.heap.size 204 4 (some ⟨hr,0,none⟩) (nx+2) (nx+2) (Dc (x.l++Hu)))
  (t3:Own w3 w1.heap.size 180 1 (some ⟨ht,0,none⟩) (tx+2) (tx+2) (wds (x.t.l++Dl)))
  (o4:Own w4 w.heap.size 95 4 (some ⟨g,0,none⟩) (i+1) (n+1) (Ah O++[.slice (some ⟨hr,0,none⟩) nx (nx+2),.int .u64 x.t.e,.slice (some ⟨ht,0,none⟩) tx (tx+2),.int .i64 x.d])) (g4:w3.grownBy w4 (some g)):Iz w g n L w4 (i+1) (O++[⟨some ⟨hr,0,none⟩,nx+2,x.l,⟨x.t.e,some ⟨ht,0,none⟩,tx+2,x.t.l⟩,x.d⟩]):=by
 subst hnx htx;have s3:=hL.mono x3;have hg:=hL.gg;have hs4:=g4.size;have hw:=hL.ext.size;have kept:∀{k0 s:Nat} {e:TypeId} {A':Option Addr} {n' c':Nat} {xs:List Value},e≠95->Own w3 k0 e s A' n' c' xs->Own w4 k0 e s A' n' c' xs:=fun {k0 s e A' n' c' xs} he o=>o.kept g4 (by
  cases hb:blk A' c' with
  | none=>exact .inl rfl
  | some k=>exact .inr (fun q=>Cd o s3.own he hb (by rw[q];rfl)))
 refine⟨by rw[Bb];exact o4,?_,by rw[AA,hL.len];rfl,fun y hy=>?_,fun y hy=>?_,⟨?_,?_⟩,s3.ext.grown g4 (fun k e=>by cases e;exact hg.1),by have:=x3.size;omega⟩
 ·rw[Ig hi,hx,AO,AO,hL.vals];rfl
 ·rcases AR.1 hy with hy|hy
  ·exact kept Ed (s3.rw y hy)
  ·rw[AH.1 hy];exact Own.mono (kept Ed o3) hw
 ·rcases AR.1 hy with hy|hy
  ·exact kept Cx (s3.ts y hy)
  ·rw[AH.1 hy];exact Own.mono (kept Cx t3) hw
 ·refine BG.2 ⟨hL.ap.1,BL _ _,fun y hy z hz k h1 h2=>?_⟩;rw[AH]at hz;subst hz;have:=(Own.lt (hL.rw y hy) k h1).2;have:=(o3.lt k h2).1;omega
 ·refine BG.2 ⟨hL.ap.2,BL _ _,fun y hy z hz k h1 h2=>?_⟩;rw[AH]at hz;subst hz;have:=(Own.lt (hL.ts y hy) k h1).2;have:=(t3.lt k h2).1;omega
structure Gr (w:World) (B g n:Nat) (L:List Ud):Prop where
 own:Own w B 95 4 (some ⟨g,0,none⟩) (n+1) (n+1) (Ah (L++[Jw]))
 rw:∀x∈L,Pj w B x
 ts:∀x∈L,Fx w B x.t
 ap:ApU L
 len:L.length=n
theorem Gr.ext{w w':World}{B g n:Nat}{L:List Ud}(h:Gr w B g n L)(x:Ext w w'):Gr w' B g n L :=
 ⟨h.own.ext x,fun y hy=>Own.ext (h.rw y hy) x,fun y hy=>Own.ext (h.ts y hy) x,h.ap,h.len⟩
theorem Pj.full{w:World}{B:Nat}{x:Ud}(h:Pj w B x):Rw w x.A x.c (x.l++Hu):=by
 unfold Rw;rw[AA];exact Own.sl h
theorem Gr.uin{w:World}{B g n:Nat}{L:List Ud}(h:Gr w B g n L):Uin w (some ⟨g,0,none⟩) (n+1) L:=by
 refine⟨?_,fun x hx=>⟨jM (h.rw x hx).full,(h.ts x hx).sl⟩⟩;have:=Sl.take (k:=n) h.own.sl (by omega);rw[Bb,List.take_left' (by rw[Cw,h.len])]at this;rw[h.len];exact this
def xD(w:World)(n:Nat)(L:List Ud)(e:Ending)(w':World):Prop:=∃g M,e=.returned (.slice (some ⟨g,0,none⟩) n (n+1))/\w.heap.size<=g/\Gr w' w.heap.size g n M/\M.map Ud.uv=L.map Ud.uv/\Ext w w'
theorem iM(A:Option Addr)(c n:Nat)(L:List Ud)(w:World)(hn:Hid (n=L.length))(h:Hid (Uin w A c L))(hs:n<=1000000)(hr:Hid (∀x∈L,x.l.length<=1000000/\x.t.l.length<=1000000)) :
  Calls Tryz.prog 15 #[.slice A n c] w (xD w n L):=by
 have hmk:∀W:World,(Instr.makeSlice 22 (.int .i64 0) (.int .i64 ((n:Int)+1))).run Tryz.prog W=.ok (.slice (some ⟨W.heap.size,0,none⟩) 0 (n+1)) (W.alloc (Rr (n+1))):=rW (n+1) (by omega);have HL0:Hid (Iz w w.heap.size n L (w.alloc (Rr (n+1))) 0 []):=hid ⟨vC w (n+1) (by omega),rfl,rfl,fun x hx=>(nomatch hx),fun x hx=>(nomatch hx),⟨List.Pairwise.nil,List.Pairwise.nil⟩,(Ext.refl w).alloc _,by simp⟩;go_enter Tryz.func15,Tryz.ntmps15;go_wp2
 go_loopg [3,4] n (fun z u v wr=>∃(i:Nat) (O:List Ud),z=n-i/\i<=n/\u=.slice (some ⟨w.heap.size,0,none⟩) i (n+1)/\v=.int .i64 i/\Hid (Iz w w.heap.size n L wr i O))
 case atStart=>exact⟨0,[],rfl,AE _,rfl,rfl,HL0⟩
 case round =>
  clear HL0 hmk;obtain⟨i,O,rfl,hi,rfl,rfl,HP⟩:=hrel;have hwg:w.heap.size<wr.heap.size:=HP.out.gg.2;by_cases hlt:i<n
  ·have hil:i<L.length:=by rw[<-hn.out];exact hlt
   obtain⟨ad,rfl,p0,p1,p2,p3⟩:=(h.out.ext HP.out.ext).at hil;have hm:=Ar hil;obtain⟨x,hx⟩:∃x,L.getD i Ud.zero=x:=⟨_,rfl⟩;rw[hx]at p0 p1 p2 p3 hm;obtain⟨nx,hnx⟩:∃nx,nx=x.l.length:=⟨_,rfl⟩;obtain⟨tx,htx⟩:∃tx,tx=x.t.l.length:=⟨_,rfl⟩;rw[<-hnx]at p0;rw[<-htx]at p2;have hnx9:nx<=1000000:=by rw[hnx];exact(hr.out x hm).1
   have htx9:tx<=1000000:=by rw[htx];exact(hr.out x hm).2
   have HNX:=hid hnx;have HTX:=hid htx;have HX:=hid hx;have HIL:=hid hil;have HR2:Hid (∀W,Ext wr W->Rw W x.A x.c x.l):=hid (fun W q=>((h.out.ls x hm).r.ext HP.out.ext).ext q);have HT2:Hid (∀W,Ext wr W->Sl W 1 x.t.A tx x.t.c (wds x.t.l)):=hid (fun W q=>by rw[htx];exact((h.out.ls x hm).t.ext HP.out.ext).ext q);have X:Ext wr wr.drew:=(Ext.refl wr).drew;have P0:∀z:Xt wr.drew,z.W.cell? (ad.add (i*4))=some (.slice x.A nx x.c):=fun z=>(X.trans z.x).cell p0;have P1:∀z:Xt wr.drew,z.W.cell? ⟨(ad.add (i*4)).block,(ad.add (i*4)).off+1,none⟩=some (.int .u64 x.t.e):=fun z=>(X.trans z.x).cell p1;have P2:∀z:Xt wr.drew,z.W.cell? ⟨(ad.add (i*4)).block,(ad.add (i*4)).off+2,none⟩=some (.slice x.t.A tx x.t.c):=fun z=>(X.trans z.x).cell p2;have P3:∀z:Xt wr.drew,z.W.cell? ⟨(ad.add (i*4)).block,(ad.add (i*4)).off+3,none⟩=some (.int .i64 x.d):=fun z=>(X.trans z.x).cell p3;clear hil hm hx hnx htx
   go_upto_region 5 with fail
   clear p0 p1 p2 p3;refine wro [0,0,0,6,14,30,62,0,0,384,896,1920,4094,0,0,24576,57344,122880,262142,524286,1048575,2097151] (.pur [0] (.flo [1,2,3,4,5,7,8,9,10,11,13,14,15,16,17] (.ext 6 (.ext 12 (.flo [18] (.one 19 (.one 20 (.flo [21] (.fin))))))))) ?_
   (refine Bv (pks rfl) ?_;(repeat (go_big_quiet_step (fail)));refine oq ?_)
   (refine Aa (pks rfl) ?_;(repeat (go_big_quiet_step (fail)));refine oq ?_)
   refine Bi (pks rfl) ?_;intro K_ hK_;go_wp2_with (go_at_call 99;refine(eQ x.A x.c nx x.l _ HNX (hid (HR2.out _ X)) hnx9).mono ?_;rintro e w2 ⟨h2,rfl,b2,o2,x2⟩)
   refine Aq.mk x2 ?_;have O2:=hid o2;have hs1:wr.heap.size<=w2.heap.size:=(X.trans x2).size;clear o2 b2;refine Bi (pks rfl) ?_;intro K_ hK_;go_wp2_with (go_at_call 100;refine(Oy x.t.e x.t.A x.t.c tx x.t.l _ HTX (hid (HT2.out _ (X.trans x2))) htx9).mono ?_;rintro e w3 ⟨h3,rfl,o3,x3⟩)
   refine Aq.mk x3 ?_;have O3:Hid (Own w3 wr.heap.size 180 1 (some ⟨h3,0,none⟩) (tx+2) (tx+2) (wds (x.t.l++Dl))):=hid (Own.mono o3 hs1);have O2:=hid (O2.out.ext x3);have X3:=hid ((X.trans x2).trans x3);clear o3
   (refine Aa (pks rfl) ?_;(repeat (go_big_quiet_step (fail)));refine oq ?_)
   refine Ac (pks rfl) ?_;intro K_ hK_;go_wp2;refine Ac (pks rfl) ?_;intro K_ hK_;have HS3:=hid (HP.out.mono X3.out);go_wp2_with (at_builtin;refine Bd _ Aw w.heap.size _ _ rfl rfl w.heap.size i (n+1) (Ah O) rfl (HS3.out.own.alloc _) (by omega) (some ⟨w3.heap.size,0,none⟩) 1 1 [.slice (some ⟨h2,0,none⟩) nx (nx+2),.int .u64 x.t.e,.slice (some ⟨h3,0,none⟩) tx (tx+2),.int .i64 x.d] rfl (Sl.one w3 #[.slice (some ⟨h2,0,none⟩) nx (nx+2),.int .u64 x.t.e,.slice (some ⟨h3,0,none⟩) tx (tx+2),.int .i64 x.d] 95 4 rfl) (by intro u hu;simp at hu;rcases hu with rfl|rfl|rfl|rfl<;>rfl) (by omega) ?_;intro w4 o4 g4)
   have O4:=hid o4;have G4:=hid ((Kg ((Ext.refl w3).alloc (.cells #[.slice (some ⟨h2,0,none⟩) nx (nx+2),.int .u64 x.t.e,.slice (some ⟨h3,0,none⟩) tx (tx+2),.int .i64 x.d] 95)) w.heap.size).trans g4);clear o4 g4;go_simp
   (refine Aa (pks rfl) ?_;(repeat (go_big_quiet_step (fail)));refine oq ?_)
   refine Ad ?_;go_wp2
   go_roundg (n-(i+1))
   case measure=>omega
   case rel=>exact⟨i+1,_,rfl,by omega,rfl,by go_num,hid (HP.out.new HIL.out HX.out HNX.out HTX.out X3.out O2.out O3.out O4.out G4.out)⟩
  ·obtain rfl:i=n:=by omega
   have HE:=hid HP.out.own;go_wp2_with (at_builtin;refine Bd _ Aw w.heap.size _ _ rfl rfl w.heap.size i (i+1) (Ah O) rfl (HE.out.alloc _) (by omega) (some ⟨wr.heap.size,0,none⟩) 1 1 [.slice none 0 0,.int .u64 0,.slice none 0 0,.int .i64 91] rfl (Sl.one wr #[.slice none 0 0,.int .u64 0,.slice none 0 0,.int .i64 91] 95 4 rfl) (by intro u hu;simp at hu;rcases hu with rfl|rfl|rfl|rfl<;>rfl) (by omega) ?_;intro w4 o4 g4;have O4:=hid o4;have G4:=hid ((Kg ((Ext.refl wr).alloc (.cells #[.slice none 0 0,.int .u64 0,.slice none 0 0,.int .i64 91] 95)) w.heap.size).trans g4);clear o4 g4)
   go_ret;have kept:∀{k0 s:Nat} {e:TypeId} {A':Option Addr} {n' c':Nat} {xs:List Value},e≠95->Own wr k0 e s A' n' c' xs->Own w4 k0 e s A' n' c' xs:=fun {k0 s e A' n' c' xs} he o=>o.kept G4.out (by
    cases hb:blk A' c' with
    | none=>exact .inl rfl
    | some k=>exact .inr (fun q=>Cd o HE.out he hb (by rw[q];rfl)))
   exact⟨w.heap.size,O,by simp,AD _,⟨by rw[Bb];exact O4.out,fun y hy=>kept Ed (HP.out.rw y hy),fun y hy=>kept Cx (HP.out.ts y hy),HP.out.ap,HP.out.len⟩,by rw[HP.out.vals,AT (by rw[<-hn.out];exact AD _)],HP.out.ext.grown G4.out (fun k e=>by cases e;exact AD _)⟩
theorem Gr.iv{w:World}{B g n:Nat}{L:List Ud}(h:Gr w B g n L){k:Nat}(hk:k=g\/∃x∈L,blk x.A x.c=some k\/blk x.t.A x.t.c=some k):B<=k/\k<w.heap.size:=by
 rcases hk with rfl|⟨x,hx,hb|hb⟩
 ·exact h.own.lt _ rfl
 ·exact Own.lt (h.rw x hx) k hb
 ·exact Own.lt (h.ts x hx) k hb
theorem dI(A2:Option Addr)(c2 n B g:Nat)(L M:List Ud)(w:World)(hm:Hid (n=L.length))(hs:n<=1000000)(h1:Hid (Gr w B g n M))(h2:Hid (Uin w A2 c2 L))(he:Hid (M.map Ud.uv=L.map Ud.uv))(hr:Hid (∀x∈L,x.l.length<=1000000/\x.t.l.length<=1000000)) :
  Calls Tryz.prog 19 #[.slice (some ⟨g,0,none⟩) n (n+1),.slice A2 n c2] w fun e w'=>e=.returned (.bool true)/\Ext w w':=by
 obtain⟨g',eg,_,_,_,hc,_⟩:=h1.out.own.form (by omega);cases eg;have pm:w.cell? ⟨g,n*4+3,none⟩=some (.int .i64 91):=hc _ _ (by
  have:=Eg (M++[Jw]) n 3 (by rw[AA,h1.out.len];exact Nat.lt_succ_self n) (by decide);rw[show(M++[Jw]).getD n Ud.zero=Jw from by rw[AB,BD (by rw[h1.out.len];exact AD _),h1.out.len,DG];rfl]at this;exact this)
 clear hc;go_enter Tryz.func19,Tryz.ntmps19;go_wp2
 go_loopw [5] (fun v wr=>∃i:Nat,i<=n/\v=.int .i64 i/\Ext w wr) (fun v _=>n-(intOf v).toNat)
 case atStart=>exact⟨0,AE _,rfl,Ext.refl _⟩
 case round =>
  obtain⟨i,hi,rfl,er⟩:=hrel;clear pm;by_cases hlt:i<n
  ·have hil:i<M.length:=by rw[h1.out.len];exact hlt
   have him:i<L.length:=by rw[<-hm.out];exact hlt
   obtain⟨ad,eA,p0,p1,p2,p3⟩:=(h1.out.uin.ext er).at hil;cases eA;obtain⟨bd,rfl,q0,q1,q2,q3⟩:=(h2.out.ext er).at him;have hr1:=(h1.out.rw _ (Ar hil)).full;have ht1:=(h1.out.ts _ (Ar hil)).full;have hr2:=h2.out.ls _ (Ar him);have hrl:=hr.out _ (Ar him);obtain⟨e1,e2,e3,e4⟩:=jF he.out hil;obtain⟨x,hx⟩:∃x,M.getD i Ud.zero=x:=⟨_,rfl⟩;obtain⟨y,hy⟩:∃y,L.getD i Ud.zero=y:=⟨_,rfl⟩;rw[hx]at p0 p1 p2 p3 hr1 ht1 e1 e2 e3 e4;rw[hy]at q0 q1 q2 q3 hr2 hrl e1 e2 e3 e4;obtain⟨xA,xc,xl,⟨xe,xtA,xtc,xtl⟩,xd⟩:=x;obtain⟨yA,yc,yl,⟨ye,ytA,ytc,ytl⟩,yd⟩:=y;dsimp only at p0 p1 p2 p3 q0 q1 q2 q3 hr1 ht1 hr2 hrl e1 e2 e3 e4;subst e1 e2 e3 e4;obtain⟨nx,hnx⟩:∃nx,nx=yl.length:=⟨_,rfl⟩;obtain⟨tx,htx⟩:∃tx,tx=ytl.length:=⟨_,rfl⟩;rw[<-hnx]at p0 q0 hrl;rw[<-htx]at p2 q2 ht1 hrl;have hnx9:nx<=1000000000:=by omega
   have htx9:tx<=1000000000:=by omega
   have HNX:=hid hnx;have HTX:=hid htx;have HEQ:Hid (nx=nx):=hid rfl;have HR1:Hid (∀W,Ext wr W->Rw W xA xc (yl++Hu)):=hid (fun W q=>(hr1.ext er).ext q);have HR2:Hid (∀W,Ext wr W->Rw W yA yc yl):=hid (fun W q=>(hr2.r.ext er).ext q);have HT1:Hid (∀W,Ext wr W->Sl W 1 xtA (tx+2) xtc (wds (ytl++Dl))):=hid (fun W q=>(ht1.ext er).ext q);have HT2:Hid (∀W,Ext wr W->Sl W 1 ytA tx ytc (wds ytl)):=hid (fun W q=>by rw[htx];exact(hr2.t.ext er).ext q);rw[show(⟨g,0,none⟩:Addr).add (i*4)=⟨g,i*4,none⟩from by unfold Addr.add;split<;>simp_all]at p0 p1 p2 p3;have X:Ext wr wr.drew:=(Ext.refl wr).drew;have P0:∀z:Xt wr.drew,z.W.cell? ⟨g,i*4,none⟩=some (.slice xA nx xc):=fun z=>(X.trans z.x).cell p0;have P1:∀z:Xt wr.drew,z.W.cell? ⟨g,i*4+1,none⟩=some (.int .u64 ye):=fun z=>(X.trans z.x).cell p1;have P2:∀z:Xt wr.drew,z.W.cell? ⟨g,i*4+2,none⟩=some (.slice xtA tx xtc):=fun z=>(X.trans z.x).cell p2;have P3:∀z:Xt wr.drew,z.W.cell? ⟨g,i*4+3,none⟩=some (.int .i64 yd):=fun z=>(X.trans z.x).cell p3;have Q0:∀z:Xt wr.drew,z.W.cell? (bd.add (i*4))=some (.slice yA nx yc):=fun z=>(X.trans z.x).cell q0;have Q1:∀z:Xt wr.drew,z.W.cell? ⟨(bd.add (i*4)).block,(bd.add (i*4)).off+1,none⟩=some (.int .u64 ye):=fun z=>(X.trans z.x).cell q1;have Q2:∀z:Xt wr.drew,z.W.cell? ⟨(bd.add (i*4)).block,(bd.add (i*4)).off+2,none⟩=some (.slice ytA tx ytc):=fun z=>(X.trans z.x).cell q2;have Q3:∀z:Xt wr.drew,z.W.cell? ⟨(bd.add (i*4)).block,(bd.add (i*4)).off+3,none⟩=some (.int .i64 yd):=fun z=>(X.trans z.x).cell q3;clear hil him hr1 ht1 hr2 hx hy hnx htx hrl
   go_upto_region 6 with fail
   clear p0 p1 p2 p3 q0 q1 q2 q3;refine wro [0,0,3,7,15,0,0,96,224,480,1023,2047,4095,4095,16383,32767,65535,4095,4095,397311,921599,1970175,4194303,8388607,16777215,33554431,67108863,67108863,268435455,536870911,1073741823,67108863,67108863,6509559807,15099494399,32279363583,68719476735,137438953471,274877906943] (.flo [0,1,2,3,4,5,6,7,8,9,10,11,12,13,14,15,16,17,18,19,20,21] (.one 22 (.flo [23,24,25,26,27,28,29,30,31,32,33,34,35] (.one 36 (.flo [37,38] (.fin)))))) ?_
   (refine Aa (pks rfl) ?_;(repeat (go_big_quiet_step (fail)));refine oq ?_)
   refine Ac (pks rfl) ?_;intro K_ hK_;go_wp2_with (go_at_call 111;refine(Zb xA yA xc yc nx nx yl _ HNX HEQ hnx9 (hid (HR1.out _ X)) (hid (HR2.out _ X))).mono ?_;rintro e w1 ⟨rfl,x1⟩)
   have P1:∀z:Xt w1,z.W.cell? ⟨g,i*4+1,none⟩=some (.int .u64 ye):=fun z=>P1 ⟨z.W,x1.trans z.x⟩;have P2:∀z:Xt w1,z.W.cell? ⟨g,i*4+2,none⟩=some (.slice xtA tx xtc):=fun z=>P2 ⟨z.W,x1.trans z.x⟩;have Q1:∀z:Xt w1,z.W.cell? ⟨(bd.add (i*4)).block,(bd.add (i*4)).off+1,none⟩=some (.int .u64 ye):=fun z=>Q1 ⟨z.W,x1.trans z.x⟩;have Q2:∀z:Xt w1,z.W.cell? ⟨(bd.add (i*4)).block,(bd.add (i*4)).off+2,none⟩=some (.slice ytA tx ytc):=fun z=>Q2 ⟨z.W,x1.trans z.x⟩;clear P0 P3 Q0 Q3
   (refine Aa (pks rfl) ?_;(repeat (go_big_quiet_step (fail)));refine oq ?_)
   refine Ac (pks rfl) ?_;intro K_ hK_;go_wp2_with (go_at_call 112;refine(Mw ye xtA ytA xtc ytc tx ytl _ HTX htx9 (hid (HT1.out _ (X.trans x1))) (hid (HT2.out _ (X.trans x1)))).mono ?_;rintro e w2 ⟨rfl,x2⟩)
   (refine Aa (pks rfl) ?_;(repeat (go_big_quiet_step (fail)));refine oq ?_)
   refine Ad ?_;go_wp2
   go_roundw
   case rel=>exact⟨i+1,by omega,by go_num,er.trans ((X.trans x1).trans x2)⟩
   case measure=>simp[intOf];omega
  ·go_wp2;go_ret;exact⟨rfl,er⟩
theorem Own.full{w:World}{B s n c:Nat}{e:TypeId}{A:Option Addr}{xs:List Value}(h:Own w B e s A n c xs):∃ys,Own w B e s A c c ys:=by
 rcases h.2 with ⟨rfl,rfl⟩|⟨g,cur,rfl,hb,hg,hnc,hcm,hcs,_⟩
 ·exact⟨[],Own.empty _ _ _ _ _⟩
 ·refine⟨cur.toList.take (c*s),?_,.inr ⟨g,cur,rfl,hb,hg,AD _,hcm,hcs,rfl⟩⟩;rw[CA];have:c*s<=cur.toList.length:=by simpa using hcs
  omega
theorem Own.len{w:World}{B s n c:Nat}{e:TypeId}{A:Option Addr}{xs:List Value}(h:Own w B e s A n c xs):xs.length=n*s:=h.1
theorem Ze(A:Option Addr)(n nn c B:Nat)(xs:List Value)(w:World)(h:Hid (Own w B 204 4 A nn c xs))(hn:n<=c) :
  Calls Tryz.prog 113 #[.slice A n c] w fun e w'=>e=.returned (.tuple #[])/\Upd (fun k=>blk A c=some k) w w':=by
 have hc9:=h.out.le.2;obtain⟨ys,hy⟩:=h.out.full;have HY:=hid hy;clear hy;go_enter Tryz.func113,Tryz.ntmps113;go_wp2
 go_loopg [3] c (fun z v wr=>∃(i:Nat) (ys:List Value),z=c-i/\i<=c/\v=.int .i64 i/\Hid (Own wr B 204 4 A c c ys)/\Hid (Upd (fun k=>blk A c=some k) w wr))
 case atStart=>exact⟨0,ys,rfl,AE _,rfl,HY,hid (Upd.refl _ _)⟩
 case round =>
  clear HY;obtain⟨i,ys,rfl,hi,rfl,HY,HU⟩:=hrel;by_cases hlt:i<c
  ·obtain⟨g,eA,hb,_,_,hcl,hfz⟩:=HY.out.form (by omega);have hl:=HY.out.len;subst eA;have q0:wr.cell? ⟨g,i*4,none⟩=some (ys[i*4]'(by omega)):=hcl _ _ (AC (by omega));have z0:=hfz (i*4);have q1:wr.cell? ⟨g,i*4+1,none⟩=some (ys[i*4+1]'(by omega)):=hcl _ _ (AC (by omega));have z1:=hfz (i*4+1);have q2:wr.cell? ⟨g,i*4+2,none⟩=some (ys[i*4+2]'(by omega)):=hcl _ _ (AC (by omega));have z2:=hfz (i*4+2);have q3:wr.cell? ⟨g,i*4+3,none⟩=some (ys[i*4+3]'(by omega)):=hcl _ _ (AC (by omega));have z3:=hfz (i*4+3);have HB:=hid hb;clear hcl hfz hb;go_wp2
   go_roundg (c-(i+1))
   case measure=>omega
   case rel=>exact⟨i+1,_,rfl,by omega,by go_num,hid ((((HY.out.put (i*4) (.int .u8 93)).put (i*4+1) (.bool false)).put (i*4+2) (.int .i64 0)).put (i*4+3) (.string ⟨#[]⟩)),hid ((((HU.out.setCell (p:=⟨g,i*4,none⟩) (.inl HB.out) _).setCell (p:=⟨g,i*4+1,none⟩) (.inl HB.out) _).setCell (p:=⟨g,i*4+2,none⟩) (.inl HB.out) _).setCell (p:=⟨g,i*4+3,none⟩) (.inl HB.out) _)⟩
  ·go_wp2;go_returns;exact⟨rfl,HU.out⟩
def Ye(g:Nat)(L:List Ud)(k:Nat):Prop:=k=g\/∃x∈L,blk x.A x.c=some k\/blk x.t.A x.t.c=some k
theorem cC{L:List Ud}{i:Nat}(hi:i<L.length):L.getD i Ud.zero=L[i]:=by
 rw[AB,AC hi];rfl
theorem dN(g n B:Nat)(L:List Ud)(w:World)(h:Hid (Gr w B g n L))(hn:n<=1000000) :
  Calls Tryz.prog 20 #[.slice (some ⟨g,0,none⟩) n (n+1)] w fun e w'=>e=.returned (.tuple #[])/\Upd (Ye g L) w w':=by
 have HL:=hid h.out.len;have HP0:Hid (∀j,0<=j->j<n->Pj w B (L.getD j Ud.zero)/\Fx w B (L.getD j Ud.zero).t):=hid (fun j _ hj=>⟨h.out.rw _ (Ar (by rw[HL.out];exact hj)),h.out.ts _ (Ar (by rw[HL.out];exact hj))⟩);have HA:=hid h.out.ap;have HO0:=hid h.out.own;go_enter Tryz.func20,Tryz.ntmps20;go_wp2
 go_loopg [2] n (fun z v wr=>∃i:Nat,z=n-i/\i<=n/\v=.int .i64 i/\Hid (Own wr B 95 4 (some ⟨g,0,none⟩) (n+1) (n+1) (Ah (L++[Jw])))/\Hid (∀j,i<=j->j<n->Pj wr B (L.getD j Ud.zero)/\Fx wr B (L.getD j Ud.zero).t)/\Hid (Upd (Ye g L) w wr))
 case atStart=>exact⟨0,rfl,AE _,rfl,HO0,HP0,hid (Upd.refl _ _)⟩
 case round =>
  clear HO0 HP0;obtain⟨i,rfl,hi,rfl,HO,HP,HU⟩:=hrel;by_cases hlt:i<n
  ·have hil:i<L.length:=by rw[HL.out];exact hlt
   obtain⟨hrow,htm⟩:=HP.out i (AD _) hlt;have hxq:∀q,q<4->(Ah (L++[Jw]))[i*4+q]?=(udC (L.getD i Ud.zero))[q]?:=fun q hq=>by
    have:=Eg (L++[Jw]) i q (by rw[AA];omega) hq
    rwa [AB,BI hil,<-AB]at this
   have hx0:=hxq 0 (by omega);have hx2:=hxq 2 (by omega);have hcl:∀W:World,Own W B 95 4 (some ⟨g,0,none⟩) (n+1) (n+1) (Ah (L++[Jw]))->W.cell? ⟨g,i*4,none⟩=some (.slice (L.getD i Ud.zero).A (L.getD i Ud.zero).l.length (L.getD i Ud.zero).c)/\W.cell? ⟨g,i*4+2,none⟩=some (.slice (L.getD i Ud.zero).t.A (L.getD i Ud.zero).t.l.length (L.getD i Ud.zero).t.c):=fun W o=>by
    obtain⟨_,eg,_,_,_,hc,_⟩:=o.form (by omega);cases eg;exact⟨hc _ _ (by rw[<-DV (i*4)];exact hx0),hc _ _ hx2⟩
   have hmem:=Ar hil;have hap:∀j,i+1<=j->j<n->(∀q,blk (L.getD i Ud.zero).A (L.getD i Ud.zero).c=some q->blk (L.getD j Ud.zero).A (L.getD j Ud.zero).c≠some q)/\∀q,blk (L.getD i Ud.zero).t.A (L.getD i Ud.zero).t.c=some q->blk (L.getD j Ud.zero).t.A (L.getD j Ud.zero).t.c≠some q:=fun j h1 h2=>by
    have hjl:j<L.length:=by rw[HL.out];exact h2
    rw[cC hil,cC hjl];exact⟨CZ.1 HA.out.1 i j hil hjl (by omega),CZ.1 HA.out.2 i j hil hjl (by omega)⟩
   obtain⟨x,hxx⟩:∃x,L.getD i Ud.zero=x:=⟨_,rfl⟩;rw[hxx]at hrow htm hmem;simp only[hxx]at hap hcl;obtain⟨A,c,l,⟨te,tA,tc,tl⟩,d⟩:=x;obtain⟨nl,hnl⟩:∃nl,l.length=nl:=⟨_,rfl⟩;obtain⟨nt,hnt⟩:∃nt,tl.length=nt:=⟨_,rfl⟩;dsimp only at hcl hap;simp only[hnl,hnt]at hcl;have HCL:=hid hcl;have HR:Hid (Own wr B 204 4 A (nl+2) c (Dc (l++Hu))):=hid (by rw[<-hnl];exact hrow);have HT:Hid (Own wr B 180 1 tA (nt+2) tc (wds (tl++Dl))):=hid (by rw[<-hnt];exact htm);have hnc:nl<=c:=by have:=HR.out.le.1;omega
   have hntc:nt<=tc:=by have:=HT.out.le.1;omega
   have HM:Hid ((⟨A,c,l,⟨te,tA,tc,tl⟩,d⟩:Ud)∈L):=hid hmem;have HAp:=hid hap;obtain⟨p0,p2⟩:=HCL.out wr HO.out;clear hrow htm hmem hap hcl hx0 hx2 hxq hxx hnl hnt hil;have m1:True:=trivial;go_wp2_with (first
    | (go_at_call 113;have mk:=m1;clear m1 mk;refine(Ze A nl (nl+2) c B _ _ HR hnc).mono ?_;rintro e w1 ⟨rfl,x1⟩;have X1:=hid x1;have HO1:Hid (Own w1 B 95 4 (some ⟨g,0,none⟩) (n+1) (n+1) (Ah (L++[Jw]))):=hid (HO.out.upd x1 (fun q hq hq2=>Cd HR.out HO.out Ed hq2 hq));have HT1:Hid (Own w1 B 180 1 tA (nt+2) tc (wds (tl++Dl))):=hid (HT.out.upd x1 (fun q hq hq2=>Cd HR.out HT.out Pm hq2 hq));clear p0 p2 x1;obtain⟨p0,p2⟩:=HCL.out w1 HO1.out;have m2:True:=trivial)
    | (go_at_call 114;have mk:=m2;clear m2 mk;refine(Lv tA nt (nt+2) tc B _ _ HT1 hntc).mono ?_;rintro e w2 ⟨rfl,x2⟩;have X2:=hid x2;clear x2))
   go_roundg (n-(i+1))
   case measure=>omega
   case rel=>exact⟨i+1,rfl,by omega,by go_num,hid (HO1.out.upd X2.out (fun q hq hq2=>Cd HT1.out HO1.out Cx hq2 hq)),hid (fun j h1 h2=>by
     obtain⟨r1,r2⟩:=HP.out j (by omega) h2;obtain⟨a1,a2⟩:=HAp.out j h1 h2;have q1:=Own.upd r1 X1.out (fun q hq hq2=>a1 q hq2 hq);have q2:=Own.upd r2 X1.out (fun q hq hq2=>Cd HR.out r2 Pm hq2 hq);exact⟨Own.upd q1 X2.out (fun q hq hq2=>Cd HT1.out q1 (Ne.symm Pm) hq2 hq),Own.upd q2 X2.out (fun q hq hq2=>a2 q hq2 hq)⟩),hid ((HU.out.trans (X1.out.mono (fun q _ hq=>.inr ⟨_,HM.out,.inl hq⟩))).trans (X2.out.mono (fun q _ hq=>.inr ⟨_,HM.out,.inr hq⟩)))⟩
  ·obtain rfl:i=n:=by omega
   obtain⟨ys,hy⟩:=HO.out.full;have HY:=hid hy;clear hy;go_wp2
   go_loopg [4] (i+1) (fun z v wr=>∃(j:Nat) (ys:List Value),z=i+1-j/\j<=i+1/\v=.int .i64 j/\Hid (Own wr B 95 4 (some ⟨g,0,none⟩) (i+1) (i+1) ys)/\Hid (Upd (Ye g L) w wr))
   case atStart=>exact⟨0,ys,rfl,AE _,rfl,HY,HU⟩
   case round =>
    clear HY HU;obtain⟨j,ys,rfl,hj,rfl,HY,HU⟩:=hrel;by_cases hlt2:j<i+1
    ·obtain⟨_,eg,_,_,_,hcl,hfz⟩:=HY.out.form (by omega);cases eg;have hl:ys.length=(i+1)*4:=HY.out.1;have q0:wr.cell? ⟨g,j*4,none⟩=some (ys[j*4]'(by omega)):=hcl _ _ (AC (by omega));have q1:wr.cell? ⟨g,j*4+1,none⟩=some (ys[j*4+1]'(by omega)):=hcl _ _ (AC (by omega));have q2:wr.cell? ⟨g,j*4+2,none⟩=some (ys[j*4+2]'(by omega)):=hcl _ _ (AC (by omega));have q3:wr.cell? ⟨g,j*4+3,none⟩=some (ys[j*4+3]'(by omega)):=hcl _ _ (AC (by omega));have z0:=hfz (j*4);have z1:=hfz (j*4+1);have z2:=hfz (j*4+2);have z3:=hfz (j*4+3);clear hcl hfz;go_wp2
     go_roundg (i+1-(j+1))
     case measure=>omega
     case rel=>exact⟨j+1,_,rfl,by omega,by go_num,hid ((((HY.out.put (j*4) (.slice none 0 0)).put (j*4+1) (.int .u64 0)).put (j*4+2) (.slice none 0 0)).put (j*4+3) (.int .i64 93)),hid ((((HU.out.setCell (p:=⟨g,j*4,none⟩) (.inl (.inl rfl)) _).setCell (p:=⟨g,j*4+1,none⟩) (.inl (.inl rfl)) _).setCell (p:=⟨g,j*4+2,none⟩) (.inl (.inl rfl)) _).setCell (p:=⟨g,j*4+3,none⟩) (.inl (.inl rfl)) _)⟩
    ·obtain rfl:j=i+1:=by omega
     go_wp2;go_returns;exact⟨rfl,HU.out⟩
def Rs(n:Nat):Obj:=.cells (madeCells #[.int .u64 0,.slice none 0 0] (n*2)) 26
theorem rX(n:Nat)(hn:n<=1000000000)(W:World):(Instr.makeSlice 27 (.int .i64 0) (.int .i64 (n:Int))).run Tryz.prog W=.ok (.slice (some ⟨W.heap.size,0,none⟩) 0 n) (W.alloc (Rs n)):=by
 obtain⟨i,hi,hz,hs,hb⟩:=info_parts Gv.info;have:=run_make (P:=Tryz.prog) (w:=W) 27 26 i _ Gv.under hi hz .i64 .i64 0 (n:Int) (EL _) (by omega) (by rw[hb];omega) (by omega);rw[hs]at this;exact this
theorem vD(W:World)(n:Nat)(hn:n<=1000000000):Own (W.alloc (Rs n)) W.heap.size 26 2 (some ⟨W.heap.size,0,none⟩) 0 n []:=
 ⟨rfl,.inr ⟨W.heap.size,_,rfl,AD _,heap_alloc_new W _,AE _,by unfold maxLen;omega,EF (size_madeCells _ _).symm,rfl⟩⟩
def Nj:Tm:=⟨91,none,0,[]⟩
def xY(L:List Tm):Prop:=L.Pairwise fun x y=>∀a b,x.A=some a->y.A=some b->a.block≠b.block
structure Ja (w:World) (g n:Nat) (L:List Tm) (wr:World) (i:Nat) (O:List Tm):Prop where
 own:Own wr w.heap.size 26 2 (some ⟨g,0,none⟩) i (n+1) (Db O)
 vals:O.map Tm.v=(L.take i).map Tm.v
 len:O.length=i
 rows:∀x∈O,Fx wr w.heap.size x/\∃h,x.A=some ⟨h,0,none⟩/\g<h/\h<wr.heap.size
 apart:xY O
 ext:Ext w wr
 gg:w.heap.size<=g/\g<wr.heap.size
theorem Ja.mono{w wr wz:World}{g n i:Nat}{L O:List Tm}(h:Ja w g n L wr i O)(x:Ext wr wz):Ja w g n L wz i O :=
 ⟨h.own.ext x,h.vals,h.len,fun y hy=>⟨Own.ext (h.rows y hy).1 x,by obtain⟨k,e,q1,q2⟩:=(h.rows y hy).2;exact⟨k,e,q1,by have:=x.size;omega⟩⟩,h.apart,h.ext.trans x,by have:=h.gg;have:=x.size;omega⟩
theorem Sr{w w':World}{B size n c g k:Nat}{e:TypeId}{xs:List Value}(h:Own w B e size (some ⟨k,0,none⟩) n c xs)(hx:w.grownBy w' (some g))(hk:k≠g):Own w' B e size (some ⟨k,0,none⟩) n c xs :=
 h.kept hx (by
  cases c with
  | zero=>exact .inl rfl
  | succ c=>exact .inr fun e=>by injection e with e;exact hk e)
theorem gG{L:List Tm}{i:Nat}(h:i<L.length):L.take (i+1)=L.take i++[L.getD i Tm.zero]:=by
 rw[BQ h,AB,AC h];rfl
theorem Ja.new{w w1 w3 w4:World}{g n i h:Nat}{L O:List Tm}{x:Tm}{nx:Nat}(hL:Ja w g n L w1 i O)(hi:i<L.length)(hx:L.getD i Tm.zero=x)(hnx:nx=x.l.length)(x3:Ext w1 w3)(h1:w1.heap.size<=h)(h3:h<w3.heap.size)
  (o3:Own w3 w1.heap.size 180 1 (some ⟨h,0,none⟩) (nx+2) (nx+2) (wds (x.l++Dl)))
  (o4:Own w4 w.heap.size 26 2 (some ⟨g,0,none⟩) (i+1) (n+1) (Db O++[.int .u64 x.e,.slice (some ⟨h,0,none⟩) nx (nx+2)])) (g4:w3.grownBy w4 (some g)):Ja w g n L w4 (i+1) (O++[⟨x.e,some ⟨h,0,none⟩,nx+2,x.l⟩]):=by
 subst hnx;have s3:=hL.mono x3;have hg:=hL.gg;have hs4:=g4.size;have hw:=hL.ext.size;refine⟨by rw[Jb];exact o4,?_,by rw[AA,hL.len];rfl,fun y hy=>?_,?_,s3.ext.grown g4 (fun k e=>by cases e;exact hg.1),by omega⟩
 ·rw[gG hi,hx,AO,AO,hL.vals];rfl
 ·rcases AR.1 hy with hy|hy
  ·obtain⟨q1,k,q2,q3,q4⟩:=s3.rows y hy;refine⟨?_,k,q2,q3,by omega⟩;unfold Fx at q1 ⊢;rw[q2]at q1 ⊢;exact Sr q1 g4 (by omega)
  ·rw[AH.1 hy];exact⟨Own.mono (Sr o3 g4 (by omega)) hw,h,rfl,by omega,by omega⟩
 ·refine BG.2 ⟨hL.apart,BL _ _,fun y hy b hb a1 b1 e1 e2=>?_⟩;rw[AH]at hb;subst hb;obtain⟨_,k,q2,q3,q4⟩:=hL.rows y hy;rw[q2]at e1;cases e1;cases e2;show k≠h;omega
structure Gs (w:World) (B g n:Nat) (L:List Tm):Prop where
 own:Own w B 26 2 (some ⟨g,0,none⟩) (n+1) (n+1) (Db (L++[Nj]))
 rows:∀x∈L,Fx w B x/\∃h,x.A=some ⟨h,0,none⟩/\g<h/\h<w.heap.size
 apart:xY L
 len:L.length=n
theorem Gs.ext{w w':World}{B g n:Nat}{L:List Tm}(h:Gs w B g n L)(x:Ext w w'):Gs w' B g n L :=
 ⟨h.own.ext x,fun y hy=>⟨Own.ext (h.rows y hy).1 x,by obtain⟨k,e,q1,q2⟩:=(h.rows y hy).2;exact⟨k,e,q1,by have:=x.size;omega⟩⟩,h.apart,h.len⟩
theorem Gs.tin{w:World}{B g n:Nat}{L:List Tm}(h:Gs w B g n L):Tin w (some ⟨g,0,none⟩) (n+1) L:=by
 refine⟨?_,fun x hx=>(h.rows x hx).1.sl⟩;have:=Sl.take (k:=n) h.own.sl (by omega);rw[Jb,List.take_left' (by rw[Sk,h.len])]at this;rw[h.len];exact this
def xE(w:World)(n:Nat)(L:List Tm)(e:Ending)(w':World):Prop:=∃g M,e=.returned (.slice (some ⟨g,0,none⟩) n (n+1))/\w.heap.size<=g/\Gs w' w.heap.size g n M/\M.map Tm.v=L.map Tm.v/\Ext w w'
theorem Uh(A:Option Addr)(c n:Nat)(L:List Tm)(w:World)(hn:Hid (n=L.length))(h:Hid (Tin w A c L))(hs:n<=1000000)(hr:Hid (∀x∈L,x.l.length<=1000000)) :
  Calls Tryz.prog 56 #[.slice A n c] w (xE w n L):=by
 have hmk:∀W:World,(Instr.makeSlice 27 (.int .i64 0) (.int .i64 ((n:Int)+1))).run Tryz.prog W=.ok (.slice (some ⟨W.heap.size,0,none⟩) 0 (n+1)) (W.alloc (Rs (n+1))):=rX (n+1) (by omega);have HL0:Hid (Ja w w.heap.size n L (w.alloc (Rs (n+1))) 0 []):=hid ⟨vD w (n+1) (by omega),rfl,rfl,fun x hx=>(nomatch hx),List.Pairwise.nil,(Ext.refl w).alloc _,by simp⟩;go_enter Tryz.func56,Tryz.ntmps56;go_wp2
 go_loopg [3,4] n (fun z u v wr=>∃(i:Nat) (O:List Tm),z=n-i/\i<=n/\u=.slice (some ⟨w.heap.size,0,none⟩) i (n+1)/\v=.int .i64 i/\Hid (Ja w w.heap.size n L wr i O))
 case atStart=>exact⟨0,[],rfl,AE _,rfl,rfl,HL0⟩
 case round =>
  clear HL0 hmk;obtain⟨i,O,rfl,hi,rfl,rfl,HP⟩:=hrel;have hwg:w.heap.size<wr.heap.size:=HP.out.gg.2;by_cases hlt:i<n
  ·have hil:i<L.length:=by rw[<-hn.out];exact hlt
   obtain⟨ad,rfl,p0,p1⟩:=(h.out.ext HP.out.ext).at hil;have hm:=Bj hil;obtain⟨x,hx⟩:∃x,L.getD i Tm.zero=x:=⟨_,rfl⟩;rw[hx]at p0 p1 hm;obtain⟨nx,hnx⟩:∃nx,nx=x.l.length:=⟨_,rfl⟩;rw[<-hnx]at p1;have hnx9:nx<=1000000:=by rw[hnx];exact hr.out x hm
   have HNX:=hid hnx;have HX:=hid hx;have HIL:=hid hil;have HR2:Hid (Sl wr 1 x.A nx x.c (wds x.l)):=hid (by rw[hnx];exact(h.out.ls x hm).ext HP.out.ext);have m1:True:=trivial;clear hil hm hx hnx;go_wp2_with (first
    | (go_at_call 100;have mk:=m1;clear m1 mk;refine(Oy x.e x.A x.c nx x.l _ HNX HR2 hnx9).mono ?_;rintro e w3 ⟨h3,rfl,o3,x3⟩;have O3:=hid o3;have hb4:h3<w3.heap.size:=(o3.lt h3 rfl).2;have hb3:wr.heap.size<=h3:=(o3.lt h3 rfl).1;have X3:=hid x3;have HS3:=hid (HP.out.mono x3);clear o3 x3)
    | (at_builtin;refine Bd _ Gv w.heap.size _ _ rfl rfl w.heap.size i (n+1) (Db O) rfl (HS3.out.own.alloc _) (by omega) (some ⟨w3.heap.size,0,none⟩) 1 1 [.int .u64 x.e,.slice (some ⟨h3,0,none⟩) nx (nx+2)] rfl (Sl.one w3 #[.int .u64 x.e,.slice (some ⟨h3,0,none⟩) nx (nx+2)] 26 2 rfl) (by intro u hu;simp at hu;rcases hu with rfl|rfl<;>rfl) (by omega) ?_;intro w4 o4 g4;have O4:=hid o4;have G4:=hid ((Kg ((Ext.refl w3).alloc (.cells #[.int .u64 x.e,.slice (some ⟨h3,0,none⟩) nx (nx+2)] 26)) w.heap.size).trans g4);clear o4 g4))
   go_roundg (n-(i+1))
   case measure=>omega
   case rel=>exact⟨i+1,O++[⟨x.e,some ⟨h3,0,none⟩,nx+2,x.l⟩],rfl,by omega,rfl,by go_num,hid (HP.out.new HIL.out HX.out HNX.out X3.out hb3 hb4 O3.out O4.out G4.out)⟩
  ·obtain rfl:i=n:=by omega
   have HE:=hid HP.out.own;go_wp2_with (at_builtin;refine Bd _ Gv w.heap.size _ _ rfl rfl w.heap.size i (i+1) (Db O) rfl (HE.out.alloc _) (by omega) (some ⟨wr.heap.size,0,none⟩) 1 1 [.int .u64 91,.slice none 0 0] rfl (Sl.one wr #[.int .u64 91,.slice none 0 0] 26 2 rfl) (by intro u hu;simp at hu;rcases hu with rfl|rfl<;>rfl) (by omega) ?_;intro w4 o4 g4;have O4:=hid o4;have G4:=hid ((Kg ((Ext.refl wr).alloc (.cells #[.int .u64 91,.slice none 0 0] 26)) w.heap.size).trans g4);clear o4 g4)
   go_ret;refine⟨w.heap.size,O,by simp,AD _,⟨by rw[Jb];exact O4.out,fun y hy=>?_,HP.out.apart,HP.out.len⟩,by rw[HP.out.vals,AT (by rw[<-hn.out];exact AD _)],HP.out.ext.grown G4.out (fun k e=>by cases e;exact AD _)⟩;obtain⟨q1,k,q2,q3,q4⟩:=HP.out.rows y hy;refine⟨?_,k,q2,q3,by have:=G4.out.size;omega⟩;unfold Fx at q1 ⊢;rw[q2]at q1 ⊢;exact Sr q1 G4.out (by omega)
theorem kW{L M:List Tm}(h:M.map Tm.v=L.map Tm.v){i:Nat}(hi:i<M.length):(M.getD i Tm.zero).e=(L.getD i Tm.zero).e/\(M.getD i Tm.zero).l=(L.getD i Tm.zero).l:=by
 have hl:L.length=M.length:=by have:=congrArg List.length h;simpa using this.symm
 have h1:=Nk hi;have h2:=Nk (L:=L) (i:=i) (by omega);simp only[h]at h1;rw[h2]at h1;exact⟨(congrArg Prod.fst h1).symm,(congrArg Prod.snd h1).symm⟩
theorem dJ(A2:Option Addr)(c2 n B g:Nat)(L M:List Tm)(w:World)(hm:Hid (n=L.length))(hs:n<=1000000)(h1:Hid (Gs w B g n M))(h2:Hid (Tin w A2 c2 L))(he:Hid (M.map Tm.v=L.map Tm.v))(hr:Hid (∀x∈L,x.l.length<=1000000)) :
  Calls Tryz.prog 58 #[.slice (some ⟨g,0,none⟩) n (n+1),.slice A2 n c2] w fun e w'=>e=.returned (.bool true)/\Ext w w':=by
 obtain⟨g',eg,_,_,_,hc,_⟩:=h1.out.own.form (by omega);cases eg;have pm:w.cell? ⟨g,n*2,none⟩=some (.int .u64 91):=hc _ _ (by
  have:=Me (M++[Nj]) n 0 (by rw[AA,h1.out.len];exact Nat.lt_succ_self n) (by decide);rw[DV,show(M++[Nj]).getD n Tm.zero=Nj from by rw[AB,BD (by rw[h1.out.len];exact AD _),h1.out.len,DG];rfl]at this;exact this)
 clear hc;go_enter Tryz.func58,Tryz.ntmps58;go_wp2
 go_loopw [5] (fun v wr=>∃i:Nat,i<=n/\v=.int .i64 i/\Ext w wr) (fun v _=>n-(intOf v).toNat)
 case atStart=>exact⟨0,AE _,rfl,Ext.refl _⟩
 case round =>
  obtain⟨i,hi,rfl,er⟩:=hrel;clear pm;by_cases hlt:i<n
  ·have hil:i<M.length:=by rw[h1.out.len];exact hlt
   have him:i<L.length:=by rw[<-hm.out];exact hlt
   obtain⟨ad,eA,p0,p1⟩:=(h1.out.tin.ext er).at hil;cases eA;obtain⟨bd,rfl,q0,q1⟩:=(h2.out.ext er).at him;have hr1:=(h1.out.rows _ (Bj hil)).1.full;have hr2:=h2.out.ls _ (Bj him);have hrl:=hr.out _ (Bj him);obtain⟨e1,e2⟩:=kW he.out hil;rw[e1]at p0;rw[e2]at p1 hr1;obtain⟨x,hx⟩:∃x,M.getD i Tm.zero=x:=⟨_,rfl⟩;obtain⟨y,hy⟩:∃y,L.getD i Tm.zero=y:=⟨_,rfl⟩;rw[hx,hy]at p1 hr1;rw[hy]at p0 q0 q1 hr2 hrl;obtain⟨nx,hnx⟩:∃nx,nx=y.l.length:=⟨_,rfl⟩;rw[<-hnx]at p1 q1 hrl hr1 hr2;have hrl9:nx<=1000000000:=by omega
   have HNX:=hid hnx;have XE:Ext wr wr.drew:=(Ext.refl wr).drew;have HR1:Hid (Sl wr.drew 1 x.A (nx+2) x.c (wds (y.l++Dl))):=hid ((hr1.ext er).ext XE);have HR2:Hid (Sl wr.drew 1 y.A nx y.c (wds y.l)):=hid ((hr2.ext er).ext XE);rw[show(⟨g,0,none⟩:Addr).add (i*2)=⟨g,i*2,none⟩from by unfold Addr.add;split<;>simp_all]at p0 p1;have P0:∀z:Xt wr.drew,z.W.cell? ⟨g,i*2,none⟩=some (.int .u64 y.e):=fun z=>(XE.trans z.x).cell p0;have P1:∀z:Xt wr.drew,z.W.cell? ⟨g,i*2+1,none⟩=some (.slice x.A nx x.c):=fun z=>(XE.trans z.x).cell p1;have Q0:∀z:Xt wr.drew,z.W.cell? (bd.add (i*2))=some (.int .u64 y.e):=fun z=>(XE.trans z.x).cell q0;have Q1:∀z:Xt wr.drew,z.W.cell? ⟨(bd.add (i*2)).block,(bd.add (i*2)).off+1,none⟩=some (.slice y.A nx y.c):=fun z=>(XE.trans z.x).cell q1;clear hil him hr1 hr2 e1 e2 hx hy hnx p0 p1 q0 q1 hrl
   go_upto_region 6 with fail
   refine wro [0,0,3,7,0,0,48,112,255,511] (.flo [0,1,2,3,4,5,6,7] (.one 8 (.flo [9] (.fin)))) ?_
   (refine Aa (pks rfl) ?_;(repeat (go_big_quiet_step (fail)));refine oq ?_)
   refine Ac (pks rfl) ?_;intro K_ hK_;go_wp2_with (go_at_call 112;refine(Mw y.e x.A y.A x.c y.c nx y.l _ HNX hrl9 HR1 HR2).mono ?_;rintro e w1 ⟨rfl,x1⟩)
   (refine Aa (pks rfl) ?_;(repeat (go_big_quiet_step (fail)));refine oq ?_)
   refine Ad ?_;go_wp2
   go_roundw
   case rel=>exact⟨i+1,by omega,by go_num,er.trans (XE.trans x1)⟩
   case measure=>simp[intOf];omega
  ·go_wp2;go_ret;exact⟨rfl,er⟩
def Pk(g:Nat)(L:List Tm)(k:Nat):Prop:=k=g\/∃x∈L,blk x.A x.c=some k
theorem Mp{A:Option Addr}{c k:Nat}(h:blk A c=some k):∃a,A=some a/\a.block=k:=by
 unfold blk at h;cases A with
 | none=>simp at h
 | some a =>
  cases c with
  | zero=>simp at h
  | succ c=>exact⟨a,rfl,by simpa using h⟩
theorem eP{L:List Tm}(h:xY L){i j:Nat}(hi:i<L.length)(hj:j<L.length)(hij:i<j){k:Nat}(h1:blk (L.getD i Tm.zero).A (L.getD i Tm.zero).c=some k):blk (L.getD j Tm.zero).A (L.getD j Tm.zero).c≠some k:=by
 intro h2;rw[AB,AC hi]at h1;rw[AB,AC hj]at h2;obtain⟨a,e1,e2⟩:=Mp h1;obtain⟨b,e3,e4⟩:=Mp h2;have:=CZ.1 h i j hi hj hij a b (by simpa using e1) (by simpa using e3);omega
theorem Ql(g n B:Nat)(L:List Tm)(w:World)(h:Hid (Gs w B g n L))(hn:n<=1000000) :
  Calls Tryz.prog 59 #[.slice (some ⟨g,0,none⟩) n (n+1)] w fun e w'=>e=.returned (.tuple #[])/\Upd (Pk g L) w w':=by
 have HL:=hid h.out.len;have HP0:Hid (∀j,0<=j->j<n->Fx w B (L.getD j Tm.zero)):=hid (fun j _ hj=>(h.out.rows _ (Bj (by rw[HL.out];exact hj))).1);have HG:Hid (∀j,j<n->∃k,(L.getD j Tm.zero).A=some ⟨k,0,none⟩/\g<k):=hid (fun j hj=>by
  obtain⟨_,k,e1,e2,_⟩:=h.out.rows _ (Bj (show j<L.length by rw[HL.out];exact hj));exact⟨k,e1,e2⟩)
 have HA:=hid h.out.apart;have HO0:=hid h.out.own;go_enter Tryz.func59,Tryz.ntmps59;go_wp2
 go_loopg [2] n (fun z v wr=>∃i:Nat,z=n-i/\i<=n/\v=.int .i64 i/\Hid (Own wr B 26 2 (some ⟨g,0,none⟩) (n+1) (n+1) (Db (L++[Nj])))/\Hid (∀j,i<=j->j<n->Fx wr B (L.getD j Tm.zero))/\Hid (Upd (Pk g L) w wr))
 case atStart=>exact⟨0,rfl,AE _,rfl,HO0,HP0,hid (Upd.refl _ _)⟩
 case round =>
  clear HO0 HP0;obtain⟨i,rfl,hi,rfl,HO,HP,HU⟩:=hrel;by_cases hlt:i<n
  ·have hil:i<L.length:=by rw[HL.out];exact hlt
   have hrow:=HP.out i (AD _) hlt;obtain⟨k,eA,hgk⟩:=HG.out i hlt;have hx:(Db (L++[Nj]))[i*2+1]?=some (.slice (L.getD i Tm.zero).A (L.getD i Tm.zero).l.length (L.getD i Tm.zero).c):=by
    have:=Me (L++[Nj]) i 1 (by rw[AA];omega) (by omega);rw[AB,BI hil,<-AB]at this;exact this
   obtain⟨_,eg,_,_,_,hcl,_⟩:=HO.out.form (by omega);cases eg;have p0:=hcl _ _ hx;have hmem:=Bj hil;have hap:∀j,i+1<=j->j<n->∀q,blk (L.getD i Tm.zero).A (L.getD i Tm.zero).c=some q->blk (L.getD j Tm.zero).A (L.getD j Tm.zero).c≠some q:=fun j h1 h2 q hq=>eP HA.out hil (by rw[HL.out];exact h2) (by omega) hq;obtain⟨x,hxx⟩:∃x,L.getD i Tm.zero=x:=⟨_,rfl⟩;rw[hxx]at hrow eA p0 hmem hap;obtain⟨ee,A,c,l⟩:=x;obtain rfl:A=some ⟨k,0,none⟩:=eA;obtain⟨nl,hnl⟩:∃nl,l.length=nl:=⟨_,rfl⟩;replace p0:wr.cell? ⟨g,i*2+1,none⟩=some (.slice (some ⟨k,0,none⟩) nl c):=by rw[<-hnl];exact p0
   have HR:Hid (Own wr B 180 1 (some ⟨k,0,none⟩) (nl+2) c (wds (l++Dl))):=hid (by rw[<-hnl];exact hrow);have hnc:nl<=c:=by have:=HR.out.le.1;omega
   have HM:Hid (⟨ee,some ⟨k,0,none⟩,c,l⟩∈L):=hid hmem;have HAp:=hid hap;clear hrow hmem hap hcl hx hxx hnl hil;go_wp2_with (go_at_call 114;refine(Lv (some ⟨k,0,none⟩) nl (nl+2) c B _ _ HR hnc).mono ?_;rintro e w1 ⟨rfl,x1⟩)
   have hb:∀q,blk (some ⟨k,0,none⟩) c=some q->q=k:=fun q hq=>by
    obtain⟨a,e1,e2⟩:=Mp hq;cases e1;exact e2.symm
   go_roundg (n-(i+1))
   case measure=>omega
   case rel=>exact⟨i+1,rfl,by omega,by go_num,hid (HO.out.upd x1 (fun q hq hq2=>by
     have h1:=hb q hq2;obtain⟨a,e1,e2⟩:=Mp hq;cases e1;simp only at e2;omega)),hid (fun j h1 h2=>Own.upd (HP.out j (by omega) h2) x1 (fun q hq hq2=>HAp.out j h1 h2 q hq2 hq)),hid (HU.out.trans (x1.mono (fun q _ hq=>.inr ⟨_,HM.out,hq⟩)))⟩
  ·obtain rfl:i=n:=by omega
   obtain⟨ys,hy⟩:=HO.out.fullW;have HY:=hid hy;clear hy;go_wp2
   go_loopg [4] (i+1) (fun z v wr=>∃(j:Nat) (ys:List Value),z=i+1-j/\j<=i+1/\v=.int .i64 j/\Hid (Own wr B 26 2 (some ⟨g,0,none⟩) (i+1) (i+1) ys)/\Hid (Upd (Pk g L) w wr))
   case atStart=>exact⟨0,ys,rfl,AE _,rfl,HY,HU⟩
   case round =>
    clear HY HU;obtain⟨j,ys,rfl,hj,rfl,HY,HU⟩:=hrel;by_cases hlt2:j<i+1
    ·obtain⟨_,eg,_,_,_,hcl,hfz⟩:=HY.out.form (by omega);cases eg;have hl:ys.length=(i+1)*2:=HY.out.1;have q0:wr.cell? ⟨g,j*2,none⟩=some (ys[j*2]'(by omega)):=hcl _ _ (AC (by omega));have q1:wr.cell? ⟨g,j*2+1,none⟩=some (ys[j*2+1]'(by omega)):=hcl _ _ (AC (by omega));have z0:=hfz (j*2);have z1:=hfz (j*2+1);clear hcl hfz;go_wp2
     go_roundg (i+1-(j+1))
     case measure=>omega
     case rel=>exact⟨j+1,_,rfl,by omega,by go_num,hid ((HY.out.put (j*2) (.int .u64 93)).put (j*2+1) (.slice none 0 0)),hid ((HU.out.setCell (p:=⟨g,j*2,none⟩) (.inl (.inl rfl)) _).setCell (p:=⟨g,j*2+1,none⟩) (.inl (.inl rfl)) _)⟩
    ·obtain rfl:j=i+1:=by omega
     go_wp2;go_returns;exact⟨rfl,HU.out⟩
def fN(S:List TV)(k:UK):UK:=(k.1,Fg S k.2)
theorem wV(S:List TV):Bp S=fun x:UV=>(fN S x.1,x.2):=rfl
def Re(s:SV):List UV:=s.bs.flatten.map (Bp s.S)
theorem cB{u:UV}(h:Gn u):∀d∈u.1.1,d.check=0/\InD d:=fun d hd=>⟨((Mo _).1 h.2.2).2 d hd,h.1.int d hd⟩
theorem Ul{D:List UV}(h:∀u∈D,Gn u):UdS.Canon D:=fun x hx y hy h0=>by
 have gx:=cB (h x hx);have gy:=cB (h y hy);obtain⟨⟨l,t⟩,d⟩:=x;obtain⟨⟨l',t'⟩,d'⟩:=y;have h1:(if As l l'=0 then Cp t t' else As l l')=0:=h0;split at h1
 ·rename_i h2;rw[show l=l' from Ol l l' gx gy h2,show t=t' from Co.1 h1]
 ·rename_i h2;exact absurd h1 h2
theorem oF{S:List TV}(hf:Bn S=true){u:UV}(h:u.1.2.2=[]):Bp S (Bp S u)=Bp S u:=by
 obtain⟨⟨l,e,c⟩,d⟩:=u;simp only at h;subst h;rcases Ic hf with rfl|⟨t,rfl⟩
 ·rfl
 ·unfold Bp;simp only[Yy]
  congr 3
  omega
theorem rT{A D:List (List UV)}(X:List UV):(A++(if X=[] then [] else [X])++D).flatten=A.flatten++X++D.flatten:=by
 rw[CJ,CJ];split
 ·rename_i h;rw[h];rfl
 ·rw[DO]
theorem uU{s:SV}{i l:Nat}(h:OkV s)(hu:s.un=some (i,l))(k:Nat):UdS.Nh (Re (Ir { s with un:=some (i,k) })) (Re s):=by
 have hi:=(h.un i l hu).1;have e1:Re (Ir { s with un:=some (i,k) })=(s.bs.take i).flatten.map (Bp s.S)++(Ch s i).map (Bp s.S)++(s.bs.drop (i+2)).flatten.map (Bp s.S):=by
  show((s.bs.take i++(if Ch s i=[] then [] else [Ch s i])++s.bs.drop (i+2)).flatten).map (Bp s.S)=_;rw[rT,AO,AO]
 have e2:Re s=(s.bs.take i).flatten.map (Bp s.S)++(s.bs.getD i []++s.bs.getD (i+1) []).map (Bp s.S)++(s.bs.drop (i+2)).flatten.map (Bp s.S):=by
  have e:=congrArg (fun x=>x.flatten.map (Bp s.S)) (Mf hi);simp only[CJ,GB,AO]at e;unfold Re;rw[e,AO];simp only[AJ]
 rw[e1,e2];have hg:∀u∈s.bs.getD i []++s.bs.getD (i+1) [],Gn u:=fun u hu'=>by
  have hm:∀j,j<s.bs.length->∀v∈s.bs.getD j [],Gn v:=fun j hj v hv=>by
   rw[AB,AC hj]at hv;exact h.ins v (GE.2 ⟨_,BP hj,hv⟩)
  rcases AR.1 hu' with q|q
  ·exact hm i (by omega) u q
  ·exact hm (i+1) hi u q
 have hg2:∀u∈(s.bs.getD i []++s.bs.getD (i+1) []).map (Bp s.S),Gn u:=fun u hu'=>by
  obtain⟨v,hv,rfl⟩:=AW.1 hu';exact Tp h.fs h.es (hg v hv)
 have e3:((s.bs.getD i []++s.bs.getD (i+1) []).map (Bp s.S)).map (Bp s.S)=(s.bs.getD i []++s.bs.getD (i+1) []).map (Bp s.S):=by
  rw[DD];exact EY fun u hu'=>oF h.fs (hg u hu').2.1
 have k1:UdS.Nh ((Ch s i).map (Bp s.S)) ((s.bs.getD i []++s.bs.getD (i+1) []).map (Bp s.S)):=by
  rw[<-e3];exact(UdS.Nh.sum (fun u hu'=>(hg2 u hu').1.num) (Ul hg2)).map (fN s.S)
 exact((UdS.Nh.refl _).append k1).append (UdS.Nh.refl _)
theorem Kj{s s1:SV}{b:Bool}(h:Bo s=(s1,b)):s1.bs=s.bs/\s1.S=s.S/\s1.U=s.U:=by
 unfold Bo at h;split at h
 ·injection h with h _;rw[<-h];exact⟨rfl,rfl,rfl⟩
 ·split at h
  ·injection h with h _;rw[<-h];exact⟨rfl,rfl,rfl⟩
  ·injection h with h _;rw[<-h];exact⟨rfl,rfl,rfl⟩
structure zP (s t:SV):Prop where
 ok:OkV t
 say:UdS.Nh (Re t) (Re s)
 S:t.S=s.S
 U:t.U=s.U
theorem bO{s s2:SV}{n n2:Nat}(h:OkV s){i l:Nat}(hu:s.un=some (i,l))(hn:0<n)(hp:Gq s n=(s2,n2)):zP s s2/\n2<n:=by
 have hl:=(h.un i l hu).2.1;unfold Gq at hp;rw[hu]at hp;simp only at hp;injection hp with h1 h2;refine⟨?_,by omega⟩;rw[<-h1];split
 ·exact⟨Yl h hu,uU h hu _,rfl,rfl⟩
 ·exact⟨jQ h hu (by omega),UdS.Nh.refl _,rfl,rfl⟩
theorem kR{s t:SV}{n r:Nat}(w:Cz s n t r):OkV s->zP s t:=by
 induction w with
 | done s=>exact fun h=>⟨h,UdS.Nh.refl _,rfl,rfl⟩
 | @stop s s1 n hn hb =>
  intro h;obtain⟨e1,e2,e3⟩:=Kj hb;have h1:=Jr h;rw[hb]at h1;exact⟨h1,by unfold Re;rw[e1,e2];exact UdS.Nh.refl _,e2,e3⟩
 | @step s s1 s2 t n n2 r hn hb hp k ih =>
  intro h;obtain⟨e1,e2,e3⟩:=Kj hb;have h1:=Jr h;rw[hb]at h1;obtain⟨i,l,hu⟩:=To hb;obtain⟨a,_⟩:=bO h1 hu hn hp;have c:=ih a.ok;refine⟨c.ok,c.say.trans (a.say.trans ?_),c.S.trans (a.S.trans e2),c.U.trans (a.U.trans e3)⟩;unfold Re;rw[e1,e2];exact UdS.Nh.refl _
def nzV(x:V):Bool:=!(x.2==0)
def Canon(D:List V):Prop:=∀x∈D,∀y∈D,cmpV x y=0->x.1=y.1
theorem alike_filter(c:V)(p:V->Bool)(l:List V):Af cmpV c (l.filter p)=(Af cmpV c l).filter p:=by
 unfold Af;rw[CW,CW]
 congr 1
 funext a;rw[Bool.and_comm]
theorem sumV_spec{D:List V}(hin:∀x∈D,InN x):(sumV D).Pairwise (fun x y=>cmpV x y<0)/\∀c,Af cmpV c (sumV D)=(sumClass (Af cmpV c D)).filter nzV:=by
 have h:=Summed.all D hin;refine⟨h.sorted.filter _,fun c=>?_⟩;show Af cmpV c ((sumAll D).filter nzV)=_;rw[alike_filter,h.same]
theorem cmpV_self(x:V):cmpV x x=0:=cmpV_tot.refl x
theorem sumV_mem{D:List V}(hin:∀x∈D,InN x){x:V}(hx:x∈sumV D):InN x/\nzV x=true/\∃y∈D,y.1=x.1:=by
 have h:x∈Af cmpV x (sumV D):=BV.2 ⟨hx,by rw[beq_iff_eq];exact cmpV_self x⟩;rw[(sumV_spec hin).2]at h;obtain⟨h1,h2⟩:=BV.1 h;refine⟨?_,h2,?_⟩
 ·cases hl:Af cmpV x D with
  | nil=>rw[hl]at h1;cases h1
  | cons y l =>
   rw[hl]at h1;rw[AH.1 h1];exact Sf _
 ·cases hl:Af cmpV x D with
  | nil=>rw[hl]at h1;cases h1
  | cons y l =>
   have hy:y∈Af cmpV x D:=by rw[hl];exact BE ..
   rw[hl]at h1;exact⟨y,(BV.1 hy).1,by rw[AH.1 h1]⟩
def Ft(s:SV):Nat:=s.bs.flatten.length+s.bs.length
theorem kC{s:SV}{i l:Nat}(h:OkV s)(hu:s.un=some (i,l))(k:Nat):Ft (Ir { s with un:=some (i,k) })<=Ft s/\(Ir { s with un:=some (i,k) }).bs.length<s.bs.length:=by
 have hi:=(h.un i l hu).1;have hlen:(Ch s i).length<=(s.bs.getD i []).length+(s.bs.getD (i+1) []).length:=by
  unfold Ch;refine AQ (Hz _) ?_;rw[AN,AA];exact AD _
 have e:=congrArg List.flatten (Mf hi);have e2:=congrArg List.length e;have e3:=congrArg List.length (Mf hi);simp only[CJ,GB,AA,AI]at e2 e3;have hb:(Ir { s with un:=some (i,k) }).bs=s.bs.take i++(if Ch s i=[] then [] else [Ch s i])++s.bs.drop (i+2):=rfl;unfold Ft;rw[hb];split
 ·simp only[CJ,AA,List.flatten_nil,CB];omega
 ·simp only[CJ,AA,DO,AK];omega
theorem vA{s s2:SV}{n n2:Nat}(h:OkV s){i l:Nat}(hu:s.un=some (i,l))(hp:Gq s n=(s2,n2)):Ft s2<=Ft s/\(l<=n->s2.bs.length<s.bs.length/\n2=n-l):=by
 unfold Gq at hp;rw[hu]at hp;simp only at hp;injection hp with h1 h2;rw[<-h1];split
 ·exact⟨(kC h hu _).1,fun hl=>⟨(kC h hu _).2,by omega⟩⟩
 ·exact⟨AD _,fun hl=>by omega⟩
theorem qD{s t:SV}{n r:Nat}(w:Cz s n t r):OkV s->Ft t<=Ft s:=by
 induction w with
 | done s=>exact fun _=>AD _
 | @stop s s1 n hn hb =>
  intro _;obtain⟨e1,_,_⟩:=Kj hb;unfold Ft;rw[e1];exact AD _
 | @step s s1 s2 t n n2 r hn hb hp k ih =>
  intro h;obtain⟨e1,_,_⟩:=Kj hb;have h1:OkV s1:=by have q:=Jr h;rw[hb]at q;exact q
  obtain⟨i,l,hu⟩:=To hb;obtain⟨a,_⟩:=bO h1 hu hn hp;have q:=(vA h1 hu hp).1;have c:=ih a.ok;have e:Ft s1=Ft s:=by unfold Ft;rw[e1]
  omega
structure Hj (s:SV) (all:List UV) (B:Nat):Prop where
 ok:OkV s
 good:∀u∈all,Gn u
 say:s.S=[]\/UdS.Nh (Re s) (all.map (Bp s.S))
 nb:Ft s<=B
theorem kY:Hj aQ [] 0:=⟨Yj,fun u hu=>(nomatch hu),.inr (UdS.Nh.refl _),AD _⟩
theorem Hj.up{s:SV}{all:List UV}{B C:Nat}(h:Hj s all B)(k:B<=C):Hj s all C:=⟨h.ok,h.good,h.say,AQ h.nb k⟩
theorem nB(s:SV)(l:List UV)(X:List TV):((Cq s l X).2=s/\(Cq s l X).1≠0)\/(Bn X=true/\l.any Cf=false/\l.any (Cj s.U X)=false/\Ho s.U X=true/\Cq s l X=(0,{ s with bs:=if UdS.sumV l=[] then s.bs else s.bs++[UdS.sumV l],U:=ofV X })):=by
 cases h1:Bn X with
 | false=>rw[pL h1];exact .inl ⟨rfl,by intro q;revert q;exact(by decide:¬((110:Int)=0))⟩
 | true =>
  cases h2:l.any Cf with
  | true=>rw[pK h1 h2];exact .inl ⟨rfl,by intro q;revert q;exact(by decide:¬((110:Int)=0))⟩
  | false =>
   cases h3:l.any (Cj s.U X)with
   | true=>rw[pJ h1 h2 h3];exact .inl ⟨rfl,by intro q;revert q;exact(by decide:¬((111:Int)=0))⟩
   | false =>
    cases h4:Ho s.U X with
    | false=>rw[pI h1 h2 h3 h4];exact .inl ⟨rfl,by intro q;revert q;exact(by decide:¬((110:Int)=0))⟩
    | true=>exact .inr ⟨rfl,rfl,rfl,rfl,fW h1 h2 h3 h4⟩
theorem nF{l:List UV}(h2:l.any Cf=false)(hl:∀u∈l,Pg u):∀u∈l,Gn u:=fun u hu=>by
 have q:Cf u=false:=by
  have:=GA.1 h2 u hu;simpa using this
 unfold Cf at q;rw[Bool.or_eq_false_iff]at q;exact⟨hl u hu,AG (by have:=of_decide_eq_false q.1;omega),by simpa using q.2⟩
theorem kZ{s:SV}{all l:List UV}{X:List TV}{B:Nat}(h:Hj s all B)(hl:∀u∈l,Pg u)(hX:∀t∈X,0<=t.1/\t.1<=18446744073709551615)(hB:B+l.length+1<=1000000) :
  ((Cq s l X).2=s/\(Cq s l X).1≠0)\/((Cq s l X).1=0/\Hj (Cq s l X).2 (all++l) (B+l.length+1)):=by
 have hk:=Yk h.ok hl hX (by have:=h.nb;unfold Ft at this;omega);rcases nB s l X with q|⟨h1,h2,h3,h4,e⟩
 ·exact .inl q
 ·refine .inr ⟨by rw[e],?_⟩;have hg:=nF h2 hl;rw[e]at hk ⊢;refine⟨hk,fun u hu=>(AR.1 hu).elim (h.good u) (hg u),?_,?_⟩
  ·rcases h.say with q|q
   ·exact .inl q
   ·refine .inr ?_;have e2:Re { s with bs:=if UdS.sumV l=[] then s.bs else s.bs++[UdS.sumV l],U:=ofV X }=Re s++(UdS.sumV l).map (Bp s.S):=by
     show(if UdS.sumV l=[] then s.bs else s.bs++[UdS.sumV l]).flatten.map (Bp s.S)=s.bs.flatten.map (Bp s.S)++(UdS.sumV l).map (Bp s.S);split
     ·rename_i h5;rw[h5];simp
     ·rw[CJ,AO,DO]
    show UdS.Nh _ ((all++l).map (Bp s.S));rw[e2,AO];exact q.append ((UdS.Nh.sum (fun u hu=>(hg u hu).1.num) (Ul hg)).map (fN s.S))
  ·show(if UdS.sumV l=[] then s.bs else s.bs++[UdS.sumV l]).flatten.length+(if UdS.sumV l=[] then s.bs else s.bs++[UdS.sumV l]).length<=_;have h5:=h.nb;have h6:=Hz l;unfold Ft at h5;split
   ·omega
   ·simp only[CJ,AA,DO,AK];omega
theorem Vv(s:SV)(X:List TV):((Bw s X).2=s/\(Bw s X).1≠0)\/(Bn X=true/\Ho s.S X=true/\Bw s X=(0,{ s with S:=X })):=by
 unfold Bw;cases h1:Bn X with
 | false=>exact .inl ⟨rfl,by intro q;revert q;exact(by decide:¬((110:Int)=0))⟩
 | true =>
  cases h2:Ho s.S X with
  | false=>exact .inl ⟨rfl,by intro q;revert q;exact(by decide:¬((111:Int)=0))⟩
  | true=>exact .inr ⟨rfl,rfl,by rw[Fy h1];rfl⟩
theorem tU{S X:List TV}(hf:Bn S=true)(hx:Bn X=true)(hl:Ho S X=true)(h0:X≠[]){u:UV}(h:u.1.2.2=[]):Bp X (Bp S u)=Bp X u:=by
 obtain⟨⟨l,e,c⟩,d⟩:=u;simp only at h;subst h;rcases Ic hx with rfl|⟨x,rfl⟩
 ·exact absurd rfl h0
 ·rcases Ic hf with rfl|⟨t,rfl⟩
  ·rfl
  ·have h1:t<=x:=by
    obtain⟨y,hy,q⟩:=Ki.1 (On.1 hl (x,[]) (AH.2 rfl));rw[AH.1 hy]at q;exact((Og _ _ _ _).1 q).2.1
   unfold Bp;simp only[Yy]
   congr 3
   omega
theorem Vo{s:SV}{all:List UV}{X:List TV}{B:Nat}(h:Hj s all B)(hX:∀t∈X,0<=t.1/\t.1<=18446744073709551615):Hj (Bw s X).2 all B:=by
 have hk:=Qq h.ok hX;rcases Vv s X with q|⟨h1,h2,e⟩
 ·rw[q.1];exact h
 ·rw[e]at hk ⊢;refine⟨hk,h.good,?_,h.nb⟩;by_cases h0:X=[]
  ·exact .inl h0
  ·refine .inr ?_;have hS:s.S≠[]:=fun q=>by
    rw[q]at h2;cases X with
    | nil=>exact h0 rfl
    | cons t X=>exact absurd (On.1 h2 t (BE ..)) (by simp[Aj])
   rcases h.say with q|q
   ·exact absurd q hS
   ·have k:=q.map (fN X);have e1:∀D:List UV,(∀u∈D,Gn u)->(D.map (Bp s.S)).map (fun x=>(fN X x.1,x.2))=D.map (Bp X):=fun D hD=>by
     rw[<-wV,DD];exact EY fun u hu=>tU h.ok.fs h1 h2 h0 (hD u hu).2.1
    have k2:UdS.Nh ((s.bs.flatten.map (Bp s.S)).map fun x=>(fN X x.1,x.2)) ((all.map (Bp s.S)).map fun x=>(fN X x.1,x.2)):=k;rw[e1 _ h.ok.ins,e1 _ h.good]at k2;exact k2
theorem gE{s t:SV}{n r:Nat}{all:List UV}{B:Nat}(w:Cz s n t r)(h:Hj s all B):Hj t all B:=by
 have k:=kR w h.ok;refine⟨k.ok,h.good,?_,AQ (qD w h.ok) h.nb⟩;rw[k.S];rcases h.say with q|q
 ·exact .inl q
 ·exact .inr (k.say.trans q)
theorem wN{D:List UV}(h:∀u∈D,Gn u)(t:TV):∀x∈atV D t,∃u∈D,x=(u.1.1,u.2):=fun x hx=>by
 obtain⟨u,hu,e⟩:=AW.1 hx;exact⟨u,(BV.1 hu).1,e.symm⟩
section
variable{w0 w w':World}{ga gb:Nat}{ma mb m':SpM}{Ra Rb:Nat->Prop}{A:Option Addr}{n c:Nat}{L:List Ud}
theorem sQ{S:Nat->Prop}{a b d:World}(x:Ext a b)(u:Upd S b d)(h:∀k,S k->a.heap.size<=k):Ext a d :=
 ⟨u.os.trans (Below.os x),u.tape.trans (Below.tape x),u.output.trans (Below.output x),AQ x.size u.size,fun k hk=>(u.block k (BF hk x.size) fun q=>by have:=h k q;omega).trans (Below.block x k hk)⟩
end
def Dk(M:List Sop)(i:Nat):Nat:=((M.take i).map fun x=>x.L.length+1).sum
theorem eH(M:List Sop):Dk M 0=0:=by simp[Dk]
theorem Fn{M:List Sop}{i:Nat}(h:i<M.length):Dk M (i+1)=Dk M i+((M.getD i Sop.zero).L.length+1):=by
 unfold Dk;rw[xJ h,AO,FD];simp
theorem mB(M:List Sop)(i:Nat):Dk M i<=Dk M M.length:=by
 have h:Dk M M.length=Dk M i+((M.drop i).map fun x=>x.L.length+1).sum:=by
  unfold Dk;rw[<-FD,<-AO,CE,DU]
 omega
theorem yG{L:List Tm}{i:Nat}(h:i<L.length):L.take (i+1)=L.take i++[L.getD i Tm.zero]:=by
 rw[BQ h,AB,AC h];rfl
def Sc(y:Ud):Nat:=y.l.length / 16+y.t.l.length / 4
def Jl(L:List Ud)(k:Nat):Nat:=((L.take k).map Sc).sum
def Jk(T:List Tm)(k:Nat):Nat:=((T.take k).map fun y=>y.l.length / 4).sum
def Mu(x:Sop):Nat:=x.L.length+x.T.length+x.r.length / 16+Jl x.L x.L.length+Jk x.T x.T.length
def Ky(M:List Sop)(i:Nat):Nat:=((M.take i).map Mu).sum
theorem iT{L:List Ud}{k:Nat}(h:k<L.length):Jl L (k+1)=Jl L k+Sc (L.getD k Ud.zero):=by
 unfold Jl;rw[Ig h,AO,FD];simp
theorem Um{T:List Tm}{k:Nat}(h:k<T.length):Jk T (k+1)=Jk T k+(T.getD k Tm.zero).l.length / 4:=by
 unfold Jk;rw[yG h,AO,FD];simp
theorem iS{M:List Sop}{k:Nat}(h:k<M.length):Ky M (k+1)=Ky M k+Mu (M.getD k Sop.zero):=by
 unfold Ky;rw[xJ h,AO,FD];simp
theorem Jc{α:Type}(f:α->Nat)(l:List α)(k:Nat):((l.take k).map f).sum<=((l.take l.length).map f).sum:=by
 have h:((l.take l.length).map f).sum=((l.take k).map f).sum+((l.drop k).map f).sum:=by
  rw[<-FD,<-AO,CE,DU]
 omega
theorem No{α:Type}(f:α->Nat){l:List α}{x:α}(h:x∈l):f x<=((l.take l.length).map f).sum:=by
 rw[DU];induction l with
 | nil=>cases h
 | cons a l ih =>
  rw[CN,List.sum_cons];rcases AZ.1 h with rfl|h
  ·omega
  ·have:=ih h;omega
def Ny(M:List Sop):Bool:=decide (300<M.length+Ky M M.length)
structure Kt (E N:Nat):Prop where
 le:N<=E
 eq:N<=300->N=E
theorem Kt.rfl'(E:Nat):Kt E E:=⟨AD _,fun _=>rfl⟩
theorem Kt.add{E N d E2 N2:Nat}(h:Kt E N)(hE:E2=E+d)(hN:N2=N+d):Kt E2 N2:=by
 have:=h.le;exact⟨by omega,fun q=>by have:=h.eq (by omega);omega⟩
theorem Kt.up{E N E2:Nat}(h:Kt E N)(hE:E<=E2)(hN:300<N):Kt E2 N:=by
 have:=h.le;exact⟨by omega,fun q=>by omega⟩
theorem Kt.much{E N:Nat}(h:Kt E N):decide (300<N)=decide (300<E):=by
 have h1:=h.le;have h2:=h.eq;rw[decide_eq_decide];constructor<;>intro q
 ·omega
 ·rcases DP 300 N with r|r
  ·exact r
  ·have:=h2 r;omega
def Ob(M:List Sop)(x:Sop)(i:Nat):Nat:=M.length+Ky M i+(x.L.length+x.T.length+x.r.length / 16)
theorem Mm{M:List Sop}{x:Sop}{i:Nat}(hi:i<M.length)(hx:M.getD i Sop.zero=x):M.length+Ky M (i+1)=Ob M x i+Jl x.L x.L.length+Jk x.T x.T.length:=by
 rw[iS hi,hx];unfold Ob Mu;omega
structure a0a (x:Sop):Prop where
 u:∀y∈x.L,y.l.length<=5000/\y.t.l.length<=1300
 n:x.T.length<=300
 t:∀y∈x.T,y.l.length<=1300
 r:x.r.length<=5000
structure Ops (M:List Sop):Prop where
 len:Dk M M.length<=300
 few:∀x∈M,a0a x
theorem yN{M:List Sop}(h:Ny M=false):Ops M:=by
 have h0:=of_decide_eq_false h;refine⟨?_,fun x hx=>?_⟩
 ·have:∀l:List Sop,(l.map fun x=>x.L.length+1).sum<=l.length+(l.map Mu).sum:=fun l=>by
   induction l with
   | nil=>exact AD _
   | cons a l ih =>
    simp only[CN,List.sum_cons,AI];have:a.L.length<=Mu a:=by unfold Mu;omega
    omega
  have h1:=this M;unfold Dk;unfold Ky at h0;rw[DU]at h0 ⊢;omega
 ·have hc:Mu x<=Ky M M.length:=No Mu hx;unfold Mu at hc;refine⟨fun y hy=>?_,by omega,fun y hy=>?_,by omega⟩
  ·have h2:Sc y<=Jl x.L x.L.length:=No Sc hy;unfold Sc at h2;exact⟨by omega,by omega⟩
  ·have h2:y.l.length / 4<=Jk x.T x.T.length:=No (fun y:Tm=>y.l.length / 4) hy;omega
theorem Ops.inU{M:List Sop}(h:Ops M){x:Sop}(hx:x∈M)(hI:Oc x):∀y∈x.L,InU y:=fun y hy =>
 (hI.u y hy).inU (AQ ((h.few x hx).u y hy).1 (by decide)) (AQ ((h.few x hx).u y hy).2 (by decide))
theorem Ops.few1{M:List Sop}(h:Ops M){x:Sop}(hx:x∈M):Jv x.T:=⟨AQ (h.few x hx).n (by decide),fun y hy=>AQ ((h.few x hx).t y hy) (by decide)⟩
end Go.Proofs.YtdgbkpoickbidaaGreatDoor
