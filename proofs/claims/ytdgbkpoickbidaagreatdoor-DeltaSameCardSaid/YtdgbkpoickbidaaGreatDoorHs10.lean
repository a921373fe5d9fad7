/- delta.Advance: updates whose times nobody beyond since can tell. What an update's value is like. Plain. The plain law of sums of sums. The plain law of delta.Of: what comes of the bags at all the times of updates, one time behind another, is their sum; and that bags stay. Times that are closed under joining; all that comes of joining some. Plain. The plain law of penstockref01.long and Runes: a text has no runes just if it is no UTF-8. penstockref01.long: what it answers. penstockref01.Runes: what it answers. penstockref01.Check: it answers what datum.Check answers. penstockref02.Check. Conditions: each theorem states its own. -/
import Derived.Test.YtdgbkpoickbidaaGreatDoorHs9
import Derived.Test.YtdgbkpoickbidaaGreatDoorHs7
import Derived.Deep.LoopGhost
import Derived.Test.YtdgbkpoickbidaaGreatDoorHs4
import Derived.Lib.ValidLaws
import Derived.Test.YtdgbkpoickbidaaGreatDoorHs1
import Derived.Test.YtdgbkpoickbidaaGreatDoorHs2
namespace Go.Proofs.YtdgbkpoickbidaaGreatDoor
open Go.RowKit

theorem uadvance_at {v:TV} (AL:Option Addr) (cL m:Nat) (L:List Tm) (e:Int) (A:Option Addr) (n c:Nat) (l:List Int) (w:World) (hv:Hid (advV (L.map Tm.v) (e,l)=v)) (hm:Hid (m=L.length)) (hL:Hid (Tin w AL cL L)) (fL:Hid (Fine L)) (ht:Hid (Sl w 1 A n c (wds l))) (u:U32 l) (h9:m≤1000000) (hn:n≤100000) :
  Calls Tryz.prog 110 #[.slice AL m cL, .agg #[.int .u64 e, .slice A n c]] w (TimeR v w):=hv.out ▸ advance_any AL cL m L e A n c l w hm hL fL ht u h9 hn
def advK (S:List TV) (v:UV):UV:=((v.1.1,advV S v.1.2),v.2)
theorem udsC_set12 (K R:List Ud) (x:Ud) (f:Int) (A:Option Addr) (c:Nat) (l:List Int) {i:Nat} (hi:i=K.length):((udsC (K++x :: R)).set (i * 4+1) (.int .u64 f)).set (i * 4+2) (.slice A l.length c)=udsC (K++⟨x.A,x.c,x.l,⟨f,A,c,l⟩,x.d⟩ :: R):=by
 subst hi
 have e:udsC (K++x :: R)=udsC K++(udC x++udsC R):=by rw [udsC_append];rfl
 rw [e,List.set_append_right _ _ (by rw [udsC_len];omega),udsC_len,Nat.add_sub_cancel_left,List.set_append_right _ _ (by rw [udsC_len];omega),udsC_len,Nat.add_sub_cancel_left,udsC_append]
 rfl
/-- so far: K has the new times, the rest is as it was -/
structure UAdvI (w wr:World) (g c:Nat) (S:List TV) (L:List Ud) (i:Nat) (K:List Ud):Prop where
 own:Own wr w.heap.size 95 4 (some ⟨g,0,none⟩) L.length c (udsC (K++L.drop i))
 rws:UdS.Rws wr g (K++L.drop i)
 len:K.length=i
 vals:K.map Ud.uv=((L.take i).map Ud.uv).map (advK S)
 ext:Ext w wr
 gl:w.heap.size≤g∧g<wr.heap.size
theorem UAdvI.mono {w wr w2:World} {g c i:Nat} {S:List TV} {L K:List Ud} (h:UAdvI w wr g c S L i K) (x:Ext wr w2):UAdvI w w2 g c S L i K :=
 ⟨h.own.ext x,h.rws.ext x,h.len,h.vals,h.ext.trans x,⟨h.gl.1,Nat.lt_of_lt_of_le h.gl.2 x.size⟩⟩
theorem UAdvI.step {w wr w2:World} {g c i:Nat} {S:List TV} {L K:List Ud} {x:Ud} {v:TV} {A:Option Addr} {nn cc:Nat} (h:UAdvI w wr g c S L i K) (hi:i<L.length) (hx:L.getD i Ud.zero=x) (hv:advV S x.t.v=v) (q:Ext wr w2) (hn:nn=v.2.length) (o:Own w2 wr.heap.size 180 1 A nn cc (wds v.2)) :
  UAdvI w ((w2.setCell ⟨g,i * 4+1,none⟩ (.int .u64 v.1)).setCell ⟨g,i * 4+2,none⟩ (.slice A nn cc)) g c S L (i+1) (K++[⟨x.A,x.c,x.l,⟨v.1,A,cc,v.2⟩,x.d⟩]):=by
 subst hn
 have h2:=h.mono q
 have hd:L.drop i=x :: L.drop (i+1):=by rw [dropU hi,hx]
 have hup:w2.grownBy ((w2.setCell ⟨g,i * 4+1,none⟩ (.int .u64 v.1)).setCell ⟨g,i * 4+2,none⟩ (.slice A v.2.length cc)) (some g):=(upd_set w2 g _ _).trans (upd_set _ g _ _)
 have hxm:x∈K++L.drop i:=by rw [hd];simp
 refine ⟨?_,?_,by rw [List.length_append,h.len];rfl,?_,((h2.ext.set (p:=⟨g,_,none⟩) h.gl.1 _).set (p:=⟨g,_,none⟩) h.gl.1 _),⟨h.gl.1,by rw [World.size_setCell,World.size_setCell];exact h2.gl.2⟩⟩
 ·have:=(h2.own.put (i * 4+1) (.int .u64 v.1)).put (i * 4+2) (.slice A v.2.length cc)
  rw [hd,udsC_set12 K (L.drop (i+1)) x v.1 A cc v.2 h.len.symm] at this
  rwa [List.append_assoc]
 ·intro y hy
  rw [List.append_assoc] at hy
  rcases List.mem_append.1 hy with hy | hy
  ·exact (h2.rws.upd hup) y (List.mem_append_left _ hy)
  ·rcases List.mem_cons.1 hy with rfl | hy
   ·have hxx:=(h2.rws.upd hup) x hxm
    have ot:=o.kept hup (by
     cases hb:blk A cc with
     | none=>exact .inl rfl
     | some k=>exact .inr (fun e=>by injection e with e;have:=(o.lt k hb).1;have:=h.gl.2;omega))
    refine ⟨⟨hxx.1.r,ot.sl⟩,hxx.2.1,fun hn ad e=>?_⟩
    obtain ⟨k,e2,hb,hk,_⟩:=o.form hn
    replace e:A=some ad:=e
    rw [e2] at e
    injection e with e
    subst e
    show k≠g
    have:=h.gl.2
    omega
   ·exact (h2.rws.upd hup) y (List.mem_append_right _ (by rw [hd];exact List.mem_cons_of_mem _ hy))
 ·rw [takeU hi,hx,List.map_append,List.map_append,List.map_append,h.vals]
  congr 1
  show [(((x.l,(v.1,v.2)),x.d):UV)]=[advK S x.uv]
  unfold advK
  show _=[((x.l,advV S x.t.v),x.d)]
  rw [hv]
/-- what Advance hands back -/
def DAdvRes (w:World) (V:List UV) (e:Ending) (w':World):Prop := ∃ A m R,e = .returned (.slice A m m)∧m=R.length∧Uout w' w.heap.size A m R∧R.map Ud.uv=V∧Ext w w'
theorem DAdvRes.of {w w0 w':World} {L:List Ud} {V:List UV} {e:Ending} (h:UdS.DSumRes w0 L e w') (x:Ext w w0) (hv:UdS.sumV (L.map Ud.uv)=V):DAdvRes w V e w':=by
 obtain ⟨A,m,R,e1,e2,o,v,x2⟩:=h
 exact ⟨A,m,R,e1,e2,o.mono x.size,by rw [v,hv],x.trans x2⟩
theorem dsum_at {V:List UV} (A:Option Addr) (c n:Nat) (L:List Ud) (w:World) (hv:Hid (UdS.sumV (L.map Ud.uv)=V)) (hn:Hid (n=L.length)) (h:Hid (Uin w A c L)) (h9:n≤1000000) (hin:Hid (∀ x∈L,UdS.InN x.uv)) (hr:Hid (∀ x∈L,x.l.length≤1000000000∧x.t.l.length≤1000000000)) :
  Calls Tryz.prog 16 #[.slice A n c] w (DAdvRes w V):=(UdS.dsum_any A c n L w hn h h9 hin hr).mono fun e w' q=>DAdvRes.of q (Ext.refl _) hv.out
set_option maxRecDepth 100000 in
set_option maxHeartbeats 4000000 in
theorem dadv_none (A:Option Addr) (c:Nat) (S0:Value) (w:World) (h:Hid (Uin w A c [])) :
  Calls Tryz.prog 18 #[.slice A 0 c,S0] w (DAdvRes w []):=by
 have hn:Hid ((0:Nat)=([]:List Ud).length):=Lib.hid rfl
 have hin:Hid (∀ x∈([]:List Ud),UdS.InN x.uv):=Lib.hid (fun x hx=>nomatch hx)
 have hr:Hid (∀ x∈([]:List Ud),x.l.length≤1000000000∧x.t.l.length≤1000000000):=Lib.hid (fun x hx=>nomatch hx)
 go_enter Tryz.func18,Tryz.ntmps18
 go_wp2_with (first
  | (go_at_call 101;refine (clone_ups A 0 c [] _ hn h (by decide)).mono ?_;rintro r w1 ⟨A1,c1,rfl,o1,x1⟩;have X1:=Lib.hid x1;have HU:Hid (Uin w1 A1 c1 []):=Lib.hid ⟨o1.sl,fun x hx=>nomatch hx⟩;clear o1 x1)
  | fail)
 go_loop [12] (fun u=>u = .int .i64 0) (fun _=>0)
 case atStart=>rfl
 case round =>
  subst hrel
  go_wp2_with (first
   | (go_at_call 16;refine (UdS.dsum_any A1 c1 0 [] _ hn HU (by decide) hin hr).mono ?_;rintro r w2 hres;have HR:=Lib.hid (DAdvRes.of hres X1.out rfl);obtain ⟨A2,m2,R2,rfl,h2⟩:=hres;clear h2)
   | fail)
  go_ret
  exact HR.out
set_option maxRecDepth 100000 in
set_option maxHeartbeats 8000000 in
theorem dadv_some (A:Option Addr) (c n:Nat) (L:List Ud) (AS:Option Addr) (cS nS:Nat) (S:List Tm) (w:World) (h0:0<n) (hn:Hid (n=L.length)) (h:Hid (Uin w A c L)) (h9:n≤1000000) (hin:Hid (∀ x∈L,InU x)) (hnS:Hid (nS=S.length)) (hS:Hid (Tin w AS cS S)) (fS:Hid (Fine S)) (h9S:nS≤1000000) :
  Calls Tryz.prog 18 #[.slice A n c, .slice AS nS cS] w (DAdvRes w (UdS.sumV ((L.map Ud.uv).map (advK (S.map Tm.v))))):=by
 go_enter Tryz.func18,Tryz.ntmps18
 go_wp2_with (first
  | (go_at_call 101;refine (clone_ups A n c L _ hn h h9).mono ?_;rintro r w1 ⟨A1,c1,rfl,o1,x1⟩;have hf:=o1.form h0;obtain ⟨g,eA,hb,hg1,hg2,_,_⟩:=hf;subst eA;have HP0:Hid (UAdvI w w1 g c1 (S.map Tm.v) L 0 []):=Lib.hid ⟨by rw [← hn.out];exact o1,UdS.Rws.of h.out.ls x1 hg1,rfl,rfl,x1,⟨hg1,hg2⟩⟩;clear o1 x1 hb hg1 hg2)
  | fail)
 go_loopg [12] n (fun z v wr => ∃ (i:Nat) (K:List Ud),z=n - i∧i≤n∧v = .int .i64 i∧Hid (UAdvI w wr g c1 (S.map Tm.v) L i K))
 case atStart=>exact ⟨0,[],rfl,Nat.zero_le _,rfl,HP0⟩
 case round =>
  clear HP0
  obtain ⟨i,K,rfl,hi,rfl,HP⟩:=hrel
  by_cases hlt:i<n
  ·have hil:i<L.length:=by rw [← hn.out];exact hlt
   have hKl:(K++L.drop i).length=L.length:=by rw [List.length_append,HP.out.len,List.length_drop];omega
   have hU:Uin wr (some ⟨g,0,none⟩) c1 (K++L.drop i):=⟨by have:=HP.out.own.sl;rwa [← hKl] at this,fun y hy=>(HP.out.rws y hy).1⟩
   obtain ⟨ad,eA,p0,p1,p2,p3⟩:=hU.at (i:=i) (by rw [hKl];exact hil)
   cases eA
   rw [show (⟨g,0,none⟩:Addr).add (i * 4)=⟨g,i * 4,none⟩ from by unfold Addr.add;split<;>simp_all] at p0 p1 p2 p3
   have hm:=getU_mem hil
   obtain ⟨x,hx⟩ : ∃ x,L.getD i Ud.zero=x:=⟨_,rfl⟩
   have hgx:(K++L.drop i).getD i Ud.zero=x:=by
    rw [List.getD_eq_getElem?_getD,List.getElem?_append_right (by rw [HP.out.len];exact Nat.le_refl _),HP.out.len,Nat.sub_self,dropU hil,hx]
    rfl
   have hxm:x∈K++L.drop i:=by rw [dropU hil,hx];simp
   have hux:=(HP.out.rws x hxm).1
   rw [hgx] at p0 p1 p2 p3
   rw [hx] at hm
   obtain ⟨nx,hnx⟩ : ∃ nx,nx=x.l.length:=⟨_,rfl⟩
   obtain ⟨tx,htx⟩ : ∃ tx,tx=x.t.l.length:=⟨_,rfl⟩
   rw [← hnx] at p0
   rw [← htx] at p2
   have HX:=Lib.hid hx
   have HIL:=Lib.hid hil
   have HTX:Hid (∀ W,Ext wr W→Sl W 1 x.t.A tx x.t.c (wds x.t.l)):=Lib.hid (fun W q=>by rw [htx];exact hux.t.ext q)
   have htx9:tx≤100000:=by rw [htx];exact (hin.out x hm).tn
   have UX:=Lib.hid (hin.out x hm).tu
   obtain ⟨v,hv⟩ : ∃ v,advV (S.map Tm.v) (x.t.e,x.t.l)=v:=⟨_,rfl⟩
   have HV:=Lib.hid hv
   have XA:Ext wr (wr.alloc (.cells #[.slice x.A nx x.c, .int .u64 x.t.e, .slice x.t.A tx x.t.c, .int .i64 x.d] 95)):=(Ext.refl wr).alloc _
   have HST:Hid (∀ W,Ext wr W→Tin W AS cS S):=Lib.hid (fun W q=>(hS.out.ext HP.out.ext).ext q)
   have hgw:=HP.out.gl.2
   clear hil hm hx hnx htx hv hU hKl hgx hxm hux
   go_wp2_with (first
    | (go_at_call 110;refine (uadvance_at AS cS nS S x.t.e x.t.A tx x.t.c x.t.l _ HV hnS (Lib.hid (HST.out _ XA)) fS (Lib.hid (HTX.out _ XA)) UX.out h9S htx9).mono ?_;rintro r w3 ⟨A3,n3,c3,rfl,hn3,o3,x3⟩;have HN3:=Lib.hid hn3;have O3:Hid (Own w3 wr.heap.size 180 1 A3 n3 c3 (wds v.2)):=Lib.hid (o3.mono XA.size);have X3:=Lib.hid (XA.trans x3);have H3:=HP.out.mono X3.out;obtain ⟨u1,y1⟩:=Option.isSome_iff_exists.1 (show (w3.cell? ⟨g,i * 4+1,none⟩).isSome=true by rw [X3.out.cell p1];rfl);obtain ⟨u2,y2⟩:=Option.isSome_iff_exists.1 (show (w3.cell? ⟨g,i * 4+2,none⟩).isSome=true by rw [X3.out.cell p2];rfl);have hfz:=(H3.own.form (show 0<L.length by have:=HIL.out;omega));obtain ⟨g',eg,_,_,_,_,hf⟩:=hfz;cases eg;have f1:=hf (i * 4+1);have f2:=hf (i * 4+2);clear hf H3 hn3 o3 x3)
    | fail)
   go_roundg (n - (i+1))
   case measure=>omega
   case rel=>exact ⟨i+1,_,rfl,by omega,by go_num,Lib.hid (HP.out.step HIL.out HX.out HV.out X3.out HN3.out O3.out)⟩
  ·obtain rfl:i=n:=by omega
   have hd:L.drop i=[]:=List.drop_of_length_le (by rw [← hn.out];exact Nat.le_refl _)
   have hKl:K.length=L.length:=by rw [HP.out.len];exact hn.out
   have HU:Hid (Uin wr (some ⟨g,0,none⟩) c1 K):=Lib.hid ⟨by have:=HP.out.own.sl;rw [hd,List.append_nil] at this;rwa [hKl],fun y hy=>(HP.out.rws y (List.mem_append_left _ hy)).1⟩
   have hvals:K.map Ud.uv=(L.map Ud.uv).map (advK (S.map Tm.v)):=by have:=HP.out.vals;rwa [List.take_of_length_le (by rw [← hn.out];exact Nat.le_refl _)] at this
   have HN:Hid (i=K.length):=Lib.hid (by rw [hKl];exact hn.out)
   have hpick : ∀ y∈K, ∃ x∈L,y.uv=advK (S.map Tm.v) x.uv:=fun y hy=>by
    have:y.uv∈K.map Ud.uv:=List.mem_map.2 ⟨y,hy,rfl⟩
    rw [hvals,List.map_map] at this
    obtain ⟨x,hx,e⟩:=List.mem_map.1 this
    exact ⟨x,hx,e.symm⟩
   have HI:Hid (∀ y∈K,UdS.InN y.uv):=Lib.hid (fun y hy=>by
    obtain ⟨x,hx,e⟩:=hpick y hy
    rw [e]
    exact (hin.out x hx).num)
   have HL:Hid (∀ y∈K,y.l.length≤1000000000∧y.t.l.length≤1000000000):=Lib.hid (fun y hy=>by
    obtain ⟨x,hx,e⟩:=hpick y hy
    have e1:y.l=x.l:=congrArg (fun q:UV=>q.1.1) e
    have e2:y.t.l=(advV (S.map Tm.v) x.t.v).2:=congrArg (fun q:UV=>q.1.2.2) e
    rw [e1,e2]
    refine ⟨(hin.out x hx).lens.1,?_⟩
    rw [advV_len]
    exact (hin.out x hx).lens.2)
   have HX:=Lib.hid HP.out.ext
   have HV:=Lib.hid (congrArg UdS.sumV hvals)
   clear hd hKl hvals hpick HP
   go_wp2_with (first
    | (go_at_call 16;refine (UdS.dsum_any (some ⟨g,0,none⟩) c1 i K _ HN HU h9 HI HL).mono ?_;rintro r w2 hres;have HR:=Lib.hid (DAdvRes.of hres HX.out HV.out);obtain ⟨A2,m2,R2,rfl,h2⟩:=hres;clear h2)
    | fail)
   go_ret
   exact HR.out
theorem dadv_any {V:List UV} (A:Option Addr) (c n:Nat) (L:List Ud) (AS:Option Addr) (cS nS:Nat) (S:List Tm) (w:World) (hV:Hid (UdS.sumV ((L.map Ud.uv).map (advK (S.map Tm.v)))=V)) (hn:Hid (n=L.length)) (h:Hid (Uin w A c L)) (h9:n≤1000000) (hin:Hid (∀ x∈L,InU x)) (hnS:Hid (nS=S.length)) (hS:Hid (Tin w AS cS S)) (fS:Hid (Fine S)) (h9S:nS≤1000000) :
  Calls Tryz.prog 18 #[.slice A n c, .slice AS nS cS] w (DAdvRes w V):=by
 rw [← hV.out]
 rcases Nat.eq_zero_or_pos n with h0 | h0
 ·subst h0
  have e:L=[]:=List.eq_nil_of_length_eq_zero hn.out.symm
  subst e
  exact dadv_none A c _ w h
 ·exact dadv_some A c n L AS cS nS S w h0 hn h h9 hin hnS hS fS h9S
open Go.RowKit
/-- an update's value as a walk may take it -/
structure InUV (u:UV):Prop where
 txt:RwTxt u.1.1
 int:RwInt u.1.1
 num:UdS.InN u
 len:u.1.1.length≤1000000
 tu:U32 u.1.2.2
 tn:u.1.2.2.length≤100000
 te:0≤u.1.2.1∧u.1.2.1≤18446744073709551615
theorem InU.uv {x:Ud} (h:InU x):InUV x.uv:=⟨h.row.txt,h.row.int,h.row.num,h.row.len,h.tu,h.tn,h.te⟩
theorem InUV.u {x:Ud} (h:InUV x.uv):InU x:=⟨⟨h.txt,h.int,h.num,h.len⟩,h.tu,h.tn,h.te⟩
theorem InUV.key {u v:UV} (h:InUV u) (e:u.1=v.1) (hn:UdS.InN v):InUV v:=by
 obtain ⟨k,d⟩:=u
 obtain ⟨k',d'⟩:=v
 simp only at e
 subst e
 exact ⟨h.txt,h.int,hn,h.len,h.tu,h.tn,h.te⟩
open Go.RowKit
def nzV (x:V):Bool := !(x.2==0)
def Canon (D:List V):Prop := ∀ x∈D, ∀ y∈D,cmpV x y=0→x.1=y.1
theorem alike_filter (c:V) (p:V→Bool) (l:List V):alike cmpV c (l.filter p)=(alike cmpV c l).filter p:=by
 unfold alike
 rw [List.filter_filter,List.filter_filter]
 congr 1
 funext a
 rw [Bool.and_comm]
theorem sumV_spec {D:List V} (hin : ∀ x∈D,InN x):(sumV D).Pairwise (fun x y=>cmpV x y<0) ∧ ∀ c,alike cmpV c (sumV D)=(sumClass (alike cmpV c D)).filter nzV:=by
 have h:=Summed.all D hin
 refine ⟨h.sorted.filter _,fun c=>?_⟩
 show alike cmpV c ((sumAll D).filter nzV)=_
 rw [alike_filter,h.same]
theorem sumV_eq {D R:List V} (hin : ∀ x∈D,InN x) (hs:R.Pairwise (fun x y=>cmpV x y<0)) (ha : ∀ c,alike cmpV c R=(sumClass (alike cmpV c D)).filter nzV):R=sumV D:=by
 obtain ⟨h1,h2⟩:=sumV_spec hin
 exact Stable.unique cmpV_tot (l:=R) ⟨hs.imp fun q=>Int.le_of_lt q,fun _=>rfl⟩ ⟨h1.imp fun q=>Int.le_of_lt q,fun c=>by rw [h2,ha]⟩
theorem cmpV_self (x:V):cmpV x x=0:=cmpV_tot.refl x
/-- where a sum's row comes from -/
theorem sumV_mem {D:List V} (hin : ∀ x∈D,InN x) {x:V} (hx:x∈sumV D):InN x∧nzV x=true ∧ ∃ y∈D,y.1=x.1:=by
 have h:x∈alike cmpV x (sumV D):=List.mem_filter.2 ⟨hx,by rw [beq_iff_eq];exact cmpV_self x⟩
 rw [(sumV_spec hin).2] at h
 obtain ⟨h1,h2⟩:=List.mem_filter.1 h
 refine ⟨?_,h2,?_⟩
 ·cases hl:alike cmpV x D with
  | nil=>rw [hl] at h1;cases h1
  | cons y l =>
   rw [hl] at h1
   rw [List.mem_singleton.1 h1]
   exact w64_in _
 ·cases hl:alike cmpV x D with
  | nil=>rw [hl] at h1;cases h1
  | cons y l =>
   have hy:y∈alike cmpV x D:=by rw [hl];exact List.mem_cons_self ..
   rw [hl] at h1
   exact ⟨y,(List.mem_filter.1 hy).1,by rw [List.mem_singleton.1 h1]⟩
theorem cnt_nil:cnt []=0:=by decide
theorem mem_alike {c x:V} {D:List V} (h:x∈alike cmpV c D):x∈D∧cmpV c x=0:=by
 obtain ⟨h1,h2⟩:=List.mem_filter.1 h
 exact ⟨h1,by simpa using h2⟩
open Go.RowKit
/-- an update of a row that may be -/
def GoodT (u:UV):Prop:=InUV u∧checkR u.1.1=0
theorem gt_row {u:UV} (h:GoodT u) : ∀ d∈u.1.1,d.check=0∧InD d:=fun d hd=>⟨((checkR_ok _).1 h.2).2 d hd,h.1.int d hd⟩
theorem gt_canon {D:List UV} (h : ∀ u∈D,GoodT u):UdS.Canon D:=fun x hx y hy h0=>by
 have gx:=gt_row (h x hx)
 have gy:=gt_row (h y hy)
 obtain ⟨⟨l,t⟩,d⟩:=x
 obtain ⟨⟨l',t'⟩,d'⟩:=y
 have h1:(if cmpR l l'=0 then tcmp t t' else cmpR l l')=0:=h0
 split at h1
 ·rename_i h2
  rw [show l=l' from row_zero l l' gx gy h2,show t=t' from tcmp_zero.1 h1]
 ·rename_i h2
  exact absurd h1 h2
theorem gt_num {D:List UV} (h : ∀ u∈D,GoodT u) : ∀ u∈D,UdS.InN u:=fun u hu=>(h u hu).1.num
theorem gt_sum {D:List UV} (h : ∀ u∈D,GoodT u) : ∀ u∈UdS.sumV D,GoodT u:=fun u hu=>by
 obtain ⟨h1,_,y,hy,e⟩:=UdS.sumV_mem (gt_num h) hu
 obtain ⟨a,c⟩:=h y hy
 exact ⟨a.key e h1,by rw [← e];exact c⟩
theorem sumT_same {D E:List UV} (h:UdS.Same D E) (hD : ∀ u∈D,GoodT u) (hE : ∀ u∈E,GoodT u):UdS.sumV D=UdS.sumV E :=
 UdS.sumV_same h (gt_canon fun u hu=>(List.mem_append.1 hu).elim (hD u) (hE u)) (gt_num hD) (gt_num hE)
theorem sumT_twice {D:List UV} (h : ∀ u∈D,GoodT u):UdS.sumV (UdS.sumV D)=UdS.sumV D:=sumT_same (UdS.Same.sum (gt_num h) (gt_canon h)) (gt_sum h) h
theorem sumT_perm {D E:List UV} (hp:E.Perm D) (h : ∀ u∈D,GoodT u):UdS.sumV E=UdS.sumV D:=sumT_same (UdS.Same.perm hp) (fun u hu=>h u (hp.mem_iff.1 hu)) h
/-! ### a bag's rows as updates at one time -/
def bagT (t:TV) (x:List Dat × Int):UV:=((x.1,t),x.2)
theorem ucmp_bagT (t:TV) (x y:List Dat × Int):UdS.cmpV (bagT t x) (bagT t y)=cmpV x y:=by
 show (if cmpR x.1 y.1=0 then tcmp t t else cmpR x.1 y.1)=cmpR x.1 y.1
 split
 ·rename_i h
  rw [h]
  exact tcmp_zero.2 rfl
 ·rfl
theorem uadd_bagT (t:TV) (x:List Dat × Int) : ∀ R:List (List Dat × Int),UdS.addV (R.map (bagT t)) (bagT t x)=(addV R x).map (bagT t)
 | []=>rfl
 | y :: R=>by
  have ih:=uadd_bagT t x R
  rw [List.map_cons]
  unfold UdS.addV addV
  rw [ucmp_bagT]
  split
  ·rw [ih];rfl
  ·split
   ·rfl
   ·rfl
theorem usum_bagT (t:TV) (D:List (List Dat × Int)):UdS.sumAll (D.map (bagT t))=(sumAll D).map (bagT t):=by
 refine snoc_ind (p:=fun D=>UdS.sumAll (D.map (bagT t))=(sumAll D).map (bagT t)) rfl (fun D x ih=>?_) D
 have e1:sumAll (D++[x])=addV (sumAll D) x:=by unfold sumAll;rw [List.foldl_append];rfl
 have e2:UdS.sumAll (D.map (bagT t)++[bagT t x])=UdS.addV (UdS.sumAll (D.map (bagT t))) (bagT t x):=by unfold UdS.sumAll;rw [List.foldl_append];rfl
 rw [List.map_append,List.map_singleton,e2,ih,uadd_bagT,e1]
theorem usumV_bagT (t:TV) (D:List (List Dat × Int)):UdS.sumV (D.map (bagT t))=(sumV D).map (bagT t):=by
 unfold UdS.sumV sumV
 rw [usum_bagT,List.filter_map]
 rfl
theorem at_cons (u:UV) (D:List UV) (t:TV):atV (u :: D) t=if tleq u.1.2 t=true then (u.1.1,u.2) :: atV D t else atV D t:=by
 unfold atV
 rw [List.filter_cons]
 split<;>rfl
theorem tot_bagT (P:UK→Bool) (t:TV) : ∀ D:List UV,UdS.tot P ((atV D t).map (bagT t))=UdS.tot (fun k=>tleq k.2 t&&P (k.1,t)) D
 | []=>rfl
 | u :: D=>by
  have ih:=tot_bagT P t D
  rw [at_cons]
  show _=(if (tleq u.1.2 t&&P (u.1.1,t))=true then u.2 else 0)+_
  rw [← ih]
  cases h:tleq u.1.2 t with
  | true=>rfl
  | false=>simp
theorem mem_bagT {t:TV} {D:List UV} (h : ∀ u∈D,GoodT u) (ht:U32 t.2∧t.2.length≤100000∧0≤t.1∧t.1≤18446744073709551615) : ∀ u∈(atV D t).map (bagT t),GoodT u:=fun u hu=>by
 obtain ⟨x,hx,rfl⟩:=List.mem_map.1 hu
 obtain ⟨v,hv,rfl⟩:=List.mem_map.1 hx
 obtain ⟨a,b⟩:=h v (List.mem_filter.1 hv).1
 exact ⟨⟨a.txt,a.int,a.num,a.len,ht.1,ht.2.1,ht.2.2⟩,b⟩
/-- bags of lists that say the same -/
theorem bag_eq {D E:List UV} {t:TV} (hD : ∀ u∈D,GoodT u) (hE : ∀ u∈E,GoodT u) (h : ∀ P:UK→Bool,w64 (UdS.tot (fun k=>tleq k.2 t&&P (k.1,t)) D)=w64 (UdS.tot (fun k=>tleq k.2 t&&P (k.1,t)) E))
  (ht:U32 t.2∧t.2.length≤100000∧0≤t.1∧t.1≤18446744073709551615):sumV (atV D t)=sumV (atV E t):=by
 have e:(sumV (atV D t)).map (bagT t)=(sumV (atV E t)).map (bagT t):=by
  rw [← usumV_bagT, ← usumV_bagT]
  exact sumT_same (fun P=>by rw [tot_bagT,tot_bagT];exact h P) (mem_bagT hD ht) (mem_bagT hE ht)
 refine (List.map_inj_right (f:=bagT t) fun x y q=>?_).1 e
 obtain ⟨a,b⟩:=x
 obtain ⟨c,d⟩:=y
 unfold bagT at q
 injection q with q1 q2
 injection q1 with q3
 simp only at q2 q3
 rw [q3,q2]
theorem bag_sum {D:List UV} {t:TV} (hD : ∀ u∈D,GoodT u) (ht:U32 t.2∧t.2.length≤100000∧0≤t.1∧t.1≤18446744073709551615):sumV (atV (UdS.sumV D) t)=sumV (atV D t) :=
 bag_eq (gt_sum hD) hD (fun _=>UdS.Same.sum (gt_num hD) (gt_canon hD) _) ht
/-- times that stand for theirs -/
theorem tleq_len {x t:TV} (h:x.2.length≠t.2.length):tleq x t=false:=by
 cases q:tleq x t with
 | false=>rfl
 | true=>exact absurd (same_of_leq q) h
theorem adv_tleq {S:List TV} {t:TV} (hb:beyondV S t=true) (s:TV):tleq (advV S s) t=tleq s t:=by
 by_cases h:s.2.length=t.2.length
 ·exact (adv_law hb h).symm
 ·rw [tleq_len h,tleq_len (by rw [advV_len];exact h)]
theorem at_adv {S:List TV} {t:TV} (hb:beyondV S t=true) : ∀ D:List UV,atV (D.map (advK S)) t=atV D t
 | []=>rfl
 | u :: D=>by
  rw [List.map_cons,at_cons,at_cons,at_adv hb D]
  show (if tleq (advV S u.1.2) t=true then _ else _)=_
  rw [adv_tleq hb]
  rfl
theorem mem_adv {S:List TV} (hS : ∀ t∈S,U32 t.2∧0≤t.1∧t.1≤18446744073709551615) {D:List UV} (h : ∀ u∈D,GoodT u) (hv : ∀ u∈D,U32 (advV S u.1.2).2∧0≤(advV S u.1.2).1∧(advV S u.1.2).1≤18446744073709551615) : ∀ u∈D.map (advK S),GoodT u:=fun u hu=>by
 obtain ⟨v,h1,rfl⟩:=List.mem_map.1 hu
 obtain ⟨a,b⟩:=h v h1
 exact ⟨⟨a.txt,a.int,a.num,a.len,(hv v h1).1,by show (advV S v.1.2).2.length≤_;rw [advV_len];exact a.tn,(hv v h1).2⟩,b⟩
/-! ### one time behind another -/
def negR (x:List Dat × Int):List Dat × Int:=(x.1,w64 (-x.2))
def negU (x:UV):UV:=(x.1,w64 (-x.2))
theorem w64_negc {a b:Int} (h:w64 a=w64 b):w64 (-a)=w64 (-b):=by
 unfold w64 at h ⊢
 simp only [IntKind.wrap_i64] at h ⊢
 omega
theorem w64_twice (a:Int):w64 (w64 a)=w64 a:=by have:=w64_add a 0;rwa [Int.add_zero,Int.add_zero] at this
theorem tot_neg (P:UK→Bool) : ∀ D:List UV,w64 (UdS.tot P (D.map negU))=w64 (-(UdS.tot P D))
 | []=>rfl
 | x :: D=>by
  have ih:=tot_neg P D
  show w64 ((if P x.1 then w64 (-x.2) else 0)+UdS.tot P (D.map negU))=w64 (-((if P x.1 then x.2 else 0)+UdS.tot P D))
  rw [show -((if P x.1 then x.2 else 0)+UdS.tot P D)=(if P x.1 then -x.2 else 0) + -(UdS.tot P D) by split<;>omega]
  refine UdS.w64_cong2 ?_ ih
  split
  ·exact w64_twice _
  ·rfl
theorem neg_bagT (t:TV) (D:List (List Dat × Int)):(D.map negR).map (bagT t)=(D.map (bagT t)).map negU:=by
 rw [List.map_map,List.map_map]
 rfl
/-- what one time puts to the others -/
def newO (L out:List UV) (t:TV):List UV:=(sumV (sumV (atV L t)++(sumV (atV out t)).map negR)).map (bagT t)
def stepO (L out:List UV) (t:TV):List UV:=out++newO L out t
def allO (L:List UV) (T:List TV):List UV:=T.foldl (stepO L) []
/-- what of a list stands at one time -/
def totAt (t:TV) (Q:List Dat→Bool) (D:List UV):Int:=UdS.tot (fun k=>decide (k.2=t)&&Q k.1) D
theorem tot_split (P f:UK→Bool) : ∀ D:List UV,UdS.tot P D=UdS.tot (fun k=>f k&&P k) D+UdS.tot (fun k => !f k&&P k) D
 | []=>rfl
 | x :: D=>by
  show (if P x.1 then x.2 else 0)+UdS.tot P D=((if (f x.1&&P x.1)=true then x.2 else 0)+UdS.tot _ D)+((if (!f x.1&&P x.1)=true then x.2 else 0)+UdS.tot _ D)
  rw [tot_split P f D]
  cases f x.1<;>simp<;>omega
theorem tot_congr {P Q:UK→Bool} : ∀ {D:List UV},(∀ x∈D,P x.1=Q x.1)→UdS.tot P D=UdS.tot Q D
 | [],_=>rfl
 | x :: D,h=>by
  show (if P x.1 then x.2 else 0)+UdS.tot P D=(if Q x.1 then x.2 else 0)+UdS.tot Q D
  rw [h x (List.mem_cons_self ..),tot_congr fun y hy=>h y (List.mem_cons_of_mem _ hy)]
theorem tot_zero {P:UK→Bool} : ∀ {D:List UV},(∀ x∈D,P x.1=false)→UdS.tot P D=0
 | [],_=>rfl
 | x :: D,h=>by
  show (if P x.1 then x.2 else 0)+UdS.tot P D=0
  rw [h x (List.mem_cons_self ..),tot_zero fun y hy=>h y (List.mem_cons_of_mem _ hy)]
  rfl
/-- lists that say the same at each of some times say the same of keys at these -/
theorem tot_times {D E:List UV} : ∀ (T:List TV) (P:UK→Bool),(∀ t∈T, ∀ Q,w64 (totAt t Q D)=w64 (totAt t Q E))→w64 (UdS.tot (fun k=>decide (k.2∈T)&&P k) D)=w64 (UdS.tot (fun k=>decide (k.2∈T)&&P k) E)
 | [],P,_=>by
  rw [tot_zero (D:=D) fun x _=>by simp,tot_zero (D:=E) fun x _=>by simp]
 | t :: T,P,h=>by
  have ih:=tot_times (D:=D) (E:=E) T (fun k => !decide (k.2=t)&&P k) (fun s hs=>h s (List.mem_cons_of_mem _ hs))
  have h1:=h t (List.mem_cons_self ..) fun r=>P (r,t)
  unfold totAt at h1
  have e : ∀ F:List UV,UdS.tot (fun k=>decide (k.2∈t :: T)&&P k) F=UdS.tot (fun k=>decide (k.2=t)&&P (k.1,t)) F+UdS.tot (fun k=>decide (k.2∈T)&&(!decide (k.2=t)&&P k)) F:=fun F=>by
   rw [tot_split _ (fun k=>decide (k.2=t)) F]
   congr 1
   ·refine tot_congr fun x _=>?_
    obtain ⟨⟨r,s⟩,d⟩:=x
    by_cases q:s=t
    ·subst q;simp
    ·simp [q]
   ·refine tot_congr fun x _=>?_
    obtain ⟨⟨r,s⟩,d⟩:=x
    by_cases q:s=t
    ·simp [q]
    ·simp [q]
  rw [e,e]
  exact UdS.w64_cong2 h1 ih
theorem tot_in {T:List TV} {D:List UV} (h : ∀ u∈D,u.1.2∈T) (P:UK→Bool):UdS.tot P D=UdS.tot (fun k=>decide (k.2∈T)&&P k) D:=tot_congr fun x hx=>by simp [h x hx]
/-- a time that may be -/
def InTV (t:TV):Prop:=U32 t.2∧t.2.length≤100000∧0≤t.1∧t.1≤18446744073709551615
structure OfI (L:List UV) (T1:List TV) (out:List UV):Prop where
 good : ∀ u∈out,GoodT u
 time : ∀ u∈out,u.1.2∈T1
 rows : ∀ u∈out, ∃ v∈L,v.1.1=u.1.1
 same : ∀ t∈T1, ∀ Q,w64 (totAt t Q out)=w64 (totAt t Q L)
 len:out.length≤T1.length * L.length
/-- rows that rise, each out of a list, are no more than the list -/
theorem rising_len : ∀ (R:List (List Dat × Int)) (L:List (List Dat)),R.Pairwise (fun x y=>cmpV x y<0)→(∀ x∈R,x.1∈L)→R.length≤L.length
 | [],L,_,_=>Nat.zero_le _
 | x :: R,L,h,hm=>by
  letI:DecidableEq (List Dat):=fun a b=>Classical.propDecidable (a=b)
  have h':=List.pairwise_cons.1 h
  have hx:=hm x (List.mem_cons_self ..)
  have ih:=rising_len R (L.erase x.1) h'.2 fun y hy=>by
   refine (List.mem_erase_of_ne fun q=>?_).2 (hm y (List.mem_cons_of_mem _ hy))
   have:=h'.1 y hy
   unfold cmpV at this
   rw [q,cmpR_tot.refl] at this
   omega
  rw [List.length_erase_of_mem hx] at ih
  have:=List.length_pos_of_mem hx
  rw [List.length_cons]
  omega
theorem neg_in (x:List Dat × Int):InN (negR x):=w64_in _
theorem new_mem {L out:List UV} {t:TV} (hL : ∀ u∈L,GoodT u) (ho : ∀ u∈out,GoodT u) {u:UV} (hu:u∈newO L out t):u.1.2=t∧UdS.InN u ∧ ∃ v,(v∈L∨v∈out)∧v.1.1=u.1.1:=by
 have hm : ∀ {D:List UV},(∀ u∈D,GoodT u) → ∀ x∈atV D t,InN x ∧ ∃ v∈D,v.1.1=x.1:=fun hD x hx=>by
  obtain ⟨v,hv,rfl⟩:=List.mem_map.1 hx
  exact ⟨(hD v (List.mem_filter.1 hv).1).1.num,v,(List.mem_filter.1 hv).1,rfl⟩
 have hn : ∀ x∈sumV (atV L t)++(sumV (atV out t)).map negR,InN x ∧ ∃ v,(v∈L∨v∈out)∧v.1.1=x.1:=fun x hx=>by
  rcases List.mem_append.1 hx with q | q
  ·obtain ⟨h1,_,y,hy,e⟩:=sumV_mem (fun z hz=>(hm hL z hz).1) q
   obtain ⟨_,v,hv,e2⟩:=hm hL y hy
   exact ⟨h1,v, .inl hv,e2.trans e⟩
  ·obtain ⟨z,hz,rfl⟩:=List.mem_map.1 q
   obtain ⟨h1,_,y,hy,e⟩:=sumV_mem (fun z hz=>(hm ho z hz).1) hz
   obtain ⟨_,v,hv,e2⟩:=hm ho y hy
   exact ⟨neg_in z,v, .inr hv,e2.trans e⟩
 obtain ⟨x,hx,rfl⟩:=List.mem_map.1 hu
 obtain ⟨h1,_,y,hy,e⟩:=sumV_mem (fun z hz=>(hn z hz).1) hx
 obtain ⟨_,v,hv,e2⟩:=hn y hy
 exact ⟨rfl,h1,v,hv,e2.trans e⟩
theorem new_tot {L out:List UV} {t:TV} (ht:InTV t) (hL : ∀ u∈L,GoodT u) (ho : ∀ u∈out,GoodT u) (P:UK→Bool) :
  w64 (UdS.tot P (newO L out t))=w64 (UdS.tot (fun k=>tleq k.2 t&&P (k.1,t)) L + -(UdS.tot (fun k=>tleq k.2 t&&P (k.1,t)) out)):=by
 have gL:=mem_bagT hL ht
 have go:=mem_bagT ho ht
 have gX : ∀ u∈((atV L t).map (bagT t))++((atV out t).map (bagT t)),GoodT u:=fun u hu=>(List.mem_append.1 hu).elim (gL u) (go u)
 have hg : ∀ u∈(sumV (atV L t)++(sumV (atV out t)).map negR).map (bagT t),GoodT u:=fun u hu=>by
  rw [List.map_append,neg_bagT, ← usumV_bagT, ← usumV_bagT] at hu
  rcases List.mem_append.1 hu with q | q
  ·exact gt_sum gL u q
  ·obtain ⟨z,hz,rfl⟩:=List.mem_map.1 q
   obtain ⟨a,b⟩:=gt_sum go z hz
   exact ⟨a.key rfl (w64_in _),b⟩
 unfold newO
 rw [← usumV_bagT,UdS.Same.sum (gt_num hg) (gt_canon hg) P,List.map_append,UdS.tot_append,neg_bagT, ← usumV_bagT, ← usumV_bagT, ← tot_bagT, ← tot_bagT]
 refine UdS.w64_cong2 (UdS.Same.sum (gt_num gL) (gt_canon gL) P) ?_
 rw [tot_neg]
 exact w64_negc (UdS.Same.sum (gt_num go) (gt_canon go) P)
theorem OfI.nil (L:List UV):OfI L [] []:=⟨fun u hu=>(nomatch hu),fun u hu=>(nomatch hu),fun u hu=>(nomatch hu),fun t ht=>(nomatch ht),Nat.zero_le _⟩
theorem OfI.step {L:List UV} {T1 T2:List TV} {t:TV} {out:List UV} (h:OfI L T1 out) (hL : ∀ u∈L,GoodT u) (hT : ∀ u∈L,u.1.2∈T1++t :: T2) (hr:Rising (T1++t :: T2)) (ht:InTV t):OfI L (T1++[t]) (stepO L out t):=by
 have hr':=List.pairwise_append.1 hr
 have h1 : ∀ s∈T1,s≠t:=fun s hs e=>by
  have:=hr'.2.2 s hs t (List.mem_cons_self ..)
  rw [e,tcmp_zero.2 rfl] at this
  omega
 have htn:t ∉ T1:=fun q=>h1 t q rfl
 have h2 : ∀ s∈T2,tleq s t=false:=fun s hs=>by
  cases q:tleq s t with
  | false=>rfl
  | true =>
   have a:=tleq_cmp q
   have b:=(List.pairwise_cons.1 hr'.2.1).1 s hs
   rw [tcmp_neg] at b
   omega
 have hn:=fun u hu=>new_mem (t:=t) (u:=u) hL h.good hu
 have hrow : ∀ u∈newO L out t, ∃ v∈L,v.1.1=u.1.1:=fun u hu=>by
  obtain ⟨_,_,v,hv,e⟩:=hn u hu
  rcases hv with hv | hv
  ·exact ⟨v,hv,e⟩
  ·obtain ⟨z,hz,e2⟩:=h.rows v hv
   exact ⟨z,hz,e2.trans e⟩
 refine ⟨fun u hu=>?_,fun u hu=>?_,fun u hu=>?_,fun s hs Q=>?_,?_⟩
 ·rcases List.mem_append.1 hu with q | q
  ·exact h.good u q
  ·obtain ⟨e1,e2,_⟩:=hn u q
   obtain ⟨v,hv,e⟩:=hrow u q
   obtain ⟨a,b⟩:=hL v hv
   obtain ⟨⟨l,s⟩,d⟩:=u
   simp only at e1 e
   subst e1 e
   exact ⟨⟨a.txt,a.int,e2,a.len,ht.1,ht.2.1,ht.2.2⟩,b⟩
 ·rcases List.mem_append.1 hu with q | q
  ·exact List.mem_append_left _ (h.time u q)
  ·rw [(hn u q).1];simp
 ·rcases List.mem_append.1 hu with q | q
  ·exact h.rows u q
  ·exact hrow u q
 ·unfold stepO totAt
  rw [UdS.tot_append]
  rcases List.mem_append.1 hs with q | q
  ·rw [tot_zero (D:=newO L out t) fun u hu=>by rw [(hn u hu).1];simp [(h1 s q).symm],Int.add_zero]
   exact h.same s q Q
  ·rw [List.mem_singleton.1 q]
   rw [tot_zero (D:=out) fun u hu=>by
    have:u.1.2≠t:=h1 _ (h.time u hu)
    simp [this],Int.zero_add,new_tot ht hL h.good]
   have e1:UdS.tot (fun k=>tleq k.2 t&&(decide (t=t)&&Q k.1)) L=totAt t Q L+UdS.tot (fun k=>decide (k.2∈T1)&&(tleq k.2 t&&Q k.1)) L:=by
    rw [tot_split _ (fun k=>decide (k.2=t)) L]
    unfold totAt
    congr 1
    ·refine tot_congr fun u _=>?_
     by_cases z:u.1.2=t
     ·rw [z,tleq_refl];simp
     ·simp [z]
    ·refine tot_congr fun u hu=>?_
     by_cases z:u.1.2=t
     ·simp [z,htn]
     ·rcases List.mem_append.1 (hT u hu) with m | m
      ·simp [z,m]
      ·rcases List.mem_cons.1 m with m | m
       ·exact absurd m z
       ·rw [h2 _ m];simp
   have e2:UdS.tot (fun k=>tleq k.2 t&&(decide (t=t)&&Q k.1)) out=UdS.tot (fun k=>decide (k.2∈T1)&&(tleq k.2 t&&Q k.1)) out:=tot_congr fun u hu=>by simp [h.time u hu]
   have e3:=tot_times (D:=out) (E:=L) T1 (fun k=>tleq k.2 t&&Q k.1) h.same
   rw [e1,e2]
   unfold totAt w64 at *
   simp only [IntKind.wrap_i64] at *
   omega
 ·unfold stepO
  have hl:(newO L out t).length≤L.length:=by
   unfold newO
   rw [List.length_map]
   have hin : ∀ x∈sumV (atV L t)++(sumV (atV out t)).map negR,InN x:=fun x hx=>by
    rcases List.mem_append.1 hx with q | q
    ·exact (sumV_mem (fun z hz=>by
      obtain ⟨v,hv,rfl⟩:=List.mem_map.1 hz
      exact (hL v (List.mem_filter.1 hv).1).1.num) q).1
    ·obtain ⟨z,_,rfl⟩:=List.mem_map.1 q
     exact neg_in z
   have:=rising_len _ (L.map fun u=>u.1.1) (sumV_spec hin).1 fun x hx=>by
    obtain ⟨v,hv,e⟩:=hrow (bagT t x) (List.mem_map.2 ⟨x,hx,rfl⟩)
    exact List.mem_map.2 ⟨v,hv,e⟩
   rwa [List.length_map] at this
  have:=h.len
  rw [List.length_append,List.length_append,List.length_singleton,Nat.add_mul]
  omega
theorem OfI.all {L:List UV} (hL : ∀ u∈L,GoodT u) : ∀ (T2 T1:List TV) (out:List UV),OfI L T1 out→(∀ u∈L,u.1.2∈T1++T2)→Rising (T1++T2)→(∀ t∈T2,InTV t)→OfI L (T1++T2) (T2.foldl (stepO L) out)
 | [],T1,out,h,_,_,_=>by rw [List.append_nil];exact h
 | t :: T2,T1,out,h,hT,hr,hi=>by
  have k:=h.step hL hT hr (hi t (List.mem_cons_self ..))
  have e:T1++t :: T2=(T1++[t])++T2:=by simp
  rw [e] at hT hr ⊢
  exact OfI.all hL T2 (T1++[t]) _ k hT hr fun s hs=>hi s (List.mem_cons_of_mem _ hs)
theorem allO_is {L:List UV} {T:List TV} (hL : ∀ u∈L,GoodT u) (hT : ∀ u∈L,u.1.2∈T) (hr:Rising T) (hi : ∀ t∈T,InTV t):OfI L T (allO L T):=OfI.all hL T [] [] (OfI.nil L) hT hr hi
/-- what Of makes of all bags is the sum -/
theorem of_sum {L:List UV} {T:List TV} (hL : ∀ u∈L,GoodT u) (hT : ∀ u∈L,u.1.2∈T) (hr:Rising T) (hi : ∀ t∈T,InTV t):UdS.sumV (allO L T)=UdS.sumV L:=by
 have h:=allO_is hL hT hr hi
 refine sumT_same (fun P=>?_) h.good hL
 rw [tot_in h.time P,tot_in hT P]
 exact tot_times T P h.same
open Go.RowKit
theorem zmax_comm : ∀ a b:List Int,List.zipWith max a b=List.zipWith max b a
 | [],[]=>rfl
 | [],_ :: _=>rfl
 | _ :: _,[]=>rfl
 | x :: a,y :: b=>by rw [List.zipWith_cons_cons,List.zipWith_cons_cons,zmax_comm a b,Int.max_comm]
theorem zmax_assoc : ∀ a b c:List Int,List.zipWith max (List.zipWith max a b) c=List.zipWith max a (List.zipWith max b c)
 | [],_,_=>by simp
 | _ :: _,[],_=>by simp
 | _ :: _,_ :: _,[]=>by simp
 | x :: a,y :: b,z :: c=>by simp only [List.zipWith_cons_cons];rw [zmax_assoc a b c,Int.max_assoc]
theorem zmax_self : ∀ a:List Int,List.zipWith max a a=a
 | []=>rfl
 | x :: a=>by rw [List.zipWith_cons_cons,zmax_self a,Int.max_self]
theorem maxT_comm (x y:TV):maxT x y=maxT y x:=by unfold maxT;rw [zmax_comm,Int.max_comm]
theorem maxT_assoc (x y z:TV):maxT (maxT x y) z=maxT x (maxT y z):=by unfold maxT;simp only;rw [zmax_assoc,Int.max_assoc]
theorem maxT_self (x:TV):maxT x x=x:=by unfold maxT;rw [zmax_self,Int.max_self]
theorem same_comm {x y:TV} (h:same x y=true):same y x=true:=by unfold same at h ⊢;exact decide_eq_true (of_decide_eq_true h).symm
theorem same_eq {x y:TV} (h:same x y=true):x.2.length=y.2.length:=of_decide_eq_true h
theorem same_mk {x y:TV} (h:x.2.length=y.2.length):same x y=true:=decide_eq_true h
def ClosedT (T:List TV):Prop := ∀ x∈T, ∀ y∈T,same x y=true→maxT x y∈T
/-- all that comes of joining some of a list -/
def closT:List TV→List TV
 | []=>[]
 | x :: l=>closT l++x :: ((closT l).filter (same x)).map (maxT x)
theorem closT_sub : ∀ {l:List TV} {x:TV},x∈l→x∈closT l
 | y :: l,x,h=>by
  unfold closT
  rcases List.mem_cons.1 h with rfl | h
  ·exact List.mem_append_right _ (List.mem_cons_self ..)
  ·exact List.mem_append_left _ (closT_sub h)
theorem closT_mem {x:TV} {l:List TV} {v:TV}:v∈closT (x :: l)↔v∈closT l∨v=x ∨ ∃ y∈closT l,same x y=true∧maxT x y=v:=by
 show v∈closT l++x :: ((closT l).filter (same x)).map (maxT x)↔_
 rw [List.mem_append,List.mem_cons,List.mem_map]
 constructor
 ·rintro (h | h | ⟨y,hy,e⟩)
  ·exact .inl h
  ·exact .inr (.inl h)
  ·exact .inr (.inr ⟨y,(List.mem_filter.1 hy).1,(List.mem_filter.1 hy).2,e⟩)
 ·rintro (h | h | ⟨y,hy,q,e⟩)
  ·exact .inl h
  ·exact .inr (.inl h)
  ·exact .inr (.inr ⟨y,List.mem_filter.2 ⟨hy,q⟩,e⟩)
theorem closT_half {x:TV} {l:List TV} (ih:ClosedT (closT l)) {u v:TV} (hu:u∈closT l) (hv:v=x ∨ ∃ y∈closT l,same x y=true∧maxT x y=v) (hs:same u v=true):maxT u v∈closT (x :: l):=by
 refine closT_mem.2 (.inr (.inr ?_))
 rcases hv with rfl | ⟨y,hy,q,rfl⟩
 ·exact ⟨u,hu,same_comm hs,maxT_comm _ _⟩
 ·have e1:=maxT_len q
  have e2:=same_eq hs
  have e3:=same_eq q
  have huy:same u y=true:=same_mk (by omega)
  refine ⟨maxT u y,ih u hu y hy huy,same_mk (by rw [maxT_len huy];omega),?_⟩
  rw [← maxT_assoc,maxT_comm x u,maxT_assoc]
theorem closT_closed : ∀ l:List TV,ClosedT (closT l)
 | []=>fun x hx=>nomatch hx
 | x :: l=>fun u hu v hv hs=>by
  have ih:=closT_closed l
  rcases closT_mem.1 hu with hu | hu
  ·rcases closT_mem.1 hv with hv | hv
   ·exact closT_mem.2 (.inl (ih u hu v hv hs))
   ·exact closT_half ih hu hv hs
  ·rcases closT_mem.1 hv with hv | hv
   ·rw [maxT_comm]
    exact closT_half ih hv hu (same_comm hs)
   ·refine closT_mem.2 (.inr ?_)
    rcases hu with rfl | ⟨y,hy,q,rfl⟩
    ·rcases hv with rfl | ⟨z,hz,r,rfl⟩
     ·exact .inl (maxT_self _)
     ·refine .inr ⟨z,hz,r,?_⟩
      rw [← maxT_assoc,maxT_self]
    ·rcases hv with rfl | ⟨z,hz,r,rfl⟩
     ·refine .inr ⟨y,hy,q,?_⟩
      rw [maxT_comm (maxT v y) v, ← maxT_assoc,maxT_self]
     ·have e1:=same_eq q
      have e2:=same_eq r
      have hyz:same y z=true:=same_mk (by omega)
      refine .inr ⟨maxT y z,ih y hy z hz hyz,same_mk (by rw [maxT_len hyz];omega),?_⟩
      rw [maxT_assoc x y (maxT x z), ← maxT_assoc y x z,maxT_comm y x,maxT_assoc x y z, ← maxT_assoc x x,maxT_self]
theorem closT_len : ∀ l:List TV,(closT l).length+1≤2 ^ l.length
 | []=>by decide
 | x :: l=>by
  have ih:=closT_len l
  have:=List.length_filter_le (same x) (closT l)
  show (closT l++x :: ((closT l).filter (same x)).map (maxT x)).length+1≤2 ^ (l.length+1)
  rw [List.length_append,List.length_cons,List.length_map,Nat.pow_succ]
  omega
/-- an invariant of joining -/
theorem closT_all {p:TV→Prop} (hp : ∀ x y,p x→p y→same x y=true→p (maxT x y)) : ∀ {l:List TV},(∀ x∈l,p x) → ∀ v∈closT l,p v
 | [],_,v,hv=>nomatch hv
 | x :: l,h,v,hv=>by
  have ih:=closT_all hp (l:=l) fun y hy=>h y (List.mem_cons_of_mem _ hy)
  have hx:=h x (List.mem_cons_self ..)
  rcases closT_mem.1 hv with hv | rfl | ⟨y,hy,q,rfl⟩
  ·exact ih v hv
  ·exact hx
  ·exact hp x y hx (ih y hy) q
/-- different ones out of a list are no more than the list -/
theorem nodup_len : ∀ {R U:List TV},R.Pairwise (· ≠ ·)→(∀ x∈R,x∈U)→R.length≤U.length
 | [],U,_,_=>Nat.zero_le _
 | x :: R,U,h,hm=>by
  have h':=List.pairwise_cons.1 h
  have hx:=hm x (List.mem_cons_self ..)
  have ih:=nodup_len (U:=U.erase x) h'.2 fun y hy=>(List.mem_erase_of_ne (h'.1 y hy).symm).2 (hm y (List.mem_cons_of_mem _ hy))
  rw [List.length_erase_of_mem hx] at ih
  have:=List.length_pos_of_mem hx
  rw [List.length_cons]
  omega
/-! ### each once -/
def onceStep (acc:List TV) (v:TV):List TV:=if v∈acc then acc else acc++[v]
def onceT (l:List TV):List TV:=l.foldl onceStep []
theorem once_snoc (l:List TV) (v:TV):onceT (l++[v])=onceStep (onceT l) v:=by unfold onceT;rw [List.foldl_append];rfl
theorem once_mem (l:List TV) : ∀ v,v∈onceT l↔v∈l:=by
 refine snoc_ind (p:=fun l => ∀ v,v∈onceT l↔v∈l) (fun v=>Iff.rfl) (fun l x ih v=>?_) l
 rw [once_snoc]
 unfold onceStep
 split
 ·rename_i h
  rw [ih,List.mem_append,List.mem_singleton]
  exact ⟨.inl,fun q=>q.elim id fun e=>e ▸ (ih x).1 h⟩
 ·rw [List.mem_append,List.mem_append,ih]
theorem once_ne (l:List TV):(onceT l).Pairwise (· ≠ ·):=by
 refine snoc_ind (p:=fun l=>(onceT l).Pairwise (· ≠ ·)) List.Pairwise.nil (fun l x ih=>?_) l
 rw [once_snoc]
 unfold onceStep
 split
 ·exact ih
 ·rename_i h
  exact List.pairwise_append.2 ⟨ih,List.pairwise_singleton _ _,fun y hy z hz e=>h (by rw [List.mem_singleton.1 hz] at e;exact e ▸ hy)⟩
theorem once_take (l:List TV) (i:Nat) (h:i<l.length):onceT (l.take (i+1))=onceStep (onceT (l.take i)) l[i]:=by
 rw [List.take_add_one,List.getElem?_eq_getElem h]
 exact once_snoc _ _
/-! ### what joining makes -/
/-- times that rise: those of a list, and all that comes of joining them -/
structure JoinedV (L R:List TV):Prop where
 rise:Rising R
 sub : ∀ v∈L,v∈R
 closed:ClosedT R
 least : ∀ U,ClosedT U→(∀ v∈L,v∈U) → ∀ v∈R,v∈U
theorem JoinedV.self {L R:List TV} (h:JoinedV L R) (hr:Rising L) (hc:ClosedT L):R=L:=rising_ext h.rise hr fun x=>⟨h.least L hc (fun _ q=>q) x,h.sub x⟩
theorem JoinedV.len {L R:List TV} (h:JoinedV L R) {U:List TV} (hc:ClosedT U) (hs : ∀ v∈L,v∈U):R.length≤U.length:=nodup_len (h.rise.imp fun q e=>by rw [e,tcmp_zero.2 rfl] at q;omega) (h.least U hc hs)
end Go.Proofs.YtdgbkpoickbidaaGreatDoor
namespace Go.Proofs.YtdgbkpoickbidaaGreatDoor

/-- what 'long' answers at bytes b0 b1 b2 b3, of which m are left -/
def longT (m b0 b1 b2 b3:Nat):Nat :=
 if b0<128 then 1
 else if b0<194 then 0
 else if b0<224 then (if m<2∨b1<128∨192≤b1 then 0 else 2)
 else if b0<240 then (if m<3∨b1<128∨192≤b1∨b2<128∨192≤b2 then 0 else
  if (b0 - 224) * 4096+(b1 - 128) * 64+(b2 - 128)<2048∨55296≤(b0 - 224) * 4096+(b1 - 128) * 64+(b2 - 128)∧(b0 - 224) * 4096+(b1 - 128) * 64+(b2 - 128)<57344 then 0 else 3)
 else if b0<245 then (if m<4∨b1<128∨192≤b1∨b2<128∨192≤b2∨b3<128∨192≤b3 then 0 else
  if (b0 - 240) * 262144+(b1 - 128) * 4096+(b2 - 128) * 64+(b3 - 128)<65536∨1114111<(b0 - 240) * 262144+(b1 - 128) * 4096+(b2 - 128) * 64+(b3 - 128) then 0 else 4)
 else 0
/-- the same of a list's head -/
def longL (l:List UInt8):Nat:=longT l.length (l.getD 0 0).toNat (l.getD 1 0).toNat (l.getD 2 0).toNat (l.getD 3 0).toNat
def Agree (k:Nat) (d:Nat × Nat):Prop:=(k=0∧d=(65533,1))∨(k≠0∧d.2=k ∧ ¬ (d.1=65533∧d.2=1))

set_option maxHeartbeats 1000000 in
theorem agree1 (n b0 b1 b2 b3:Nat) (h:b0<128):Agree (longT n b0 b1 b2 b3) (Lib.decodeN n b0 b1 b2 b3):=by
 unfold longT Lib.decodeN
 rw [if_pos h,if_pos h]
 right
 refine ⟨by omega,rfl,?_⟩
 simp only
 omega
set_option maxHeartbeats 1000000 in
theorem agree0 (n b0 b1 b2 b3:Nat) (h:(128≤b0∧b0<194)∨(245≤b0∧b0<256)):Agree (longT n b0 b1 b2 b3) (Lib.decodeN n b0 b1 b2 b3):=by
 rw [Lib.decodeN_bad n b0 b1 b2 b3 h]
 left
 refine ⟨?_,rfl⟩
 unfold longT
 repeat' split
 all_goals omega
theorem long2 (n b0 b1 b2 b3:Nat) (h:194≤b0) (h':b0<224):longT n b0 b1 b2 b3=if n<2∨b1<128∨192≤b1 then 0 else 2:=by
 unfold longT
 rw [if_neg (show ¬ b0<128 by omega),if_neg (show ¬ b0<194 by omega),if_pos h']
theorem dec2 (n b0 b1 b2 b3:Nat) (h:194≤b0) (h':b0<224):Lib.decodeN n b0 b1 b2 b3=if 1<n∧b1 / 64=2 then (if b0 % 32 * 64+b1 % 64 ≥ 128 then (b0 % 32 * 64+b1 % 64,2) else (65533,1)) else (65533,1):=by
 unfold Lib.decodeN
 rw [if_neg (show ¬ b0<128 by omega),if_neg (show ¬ (b0 / 16=14∧(1<n∧b1 / 64=2)∧2<n∧b2 / 64=2) by omega),if_neg (show ¬ (b0 / 8=30∧(1<n∧b1 / 64=2)∧(2<n∧b2 / 64=2)∧3<n∧b3 / 64=2) by omega)]
 by_cases hh:1<n∧b1 / 64=2
 ·rw [if_pos ⟨by omega,hh⟩,if_pos hh]
 ·rw [if_neg (fun x=>hh x.2),if_neg hh]
theorem agree2 (n b0 b1 b2 b3:Nat) (h:194≤b0) (h':b0<224) (h1:b1<256):Agree (longT n b0 b1 b2 b3) (Lib.decodeN n b0 b1 b2 b3):=by
 rw [long2 n b0 b1 b2 b3 h h',dec2 n b0 b1 b2 b3 h h']
 by_cases hh:1<n∧b1 / 64=2
 ·rw [if_neg (show ¬ (n<2∨b1<128∨192≤b1) by omega),if_pos hh,if_pos (show b0 % 32 * 64+b1 % 64 ≥ 128 by omega)]
  exact .inr ⟨by omega,rfl,by simp⟩
 ·rw [if_pos (show n<2∨b1<128∨192≤b1 by omega),if_neg hh];exact .inl ⟨rfl,rfl⟩
theorem long3 (n b0 b1 b2 b3:Nat) (h:224≤b0) (h':b0<240):longT n b0 b1 b2 b3=if n<3∨b1<128∨192≤b1∨b2<128∨192≤b2 then 0 else
  if (b0 - 224) * 4096+(b1 - 128) * 64+(b2 - 128)<2048∨55296≤(b0 - 224) * 4096+(b1 - 128) * 64+(b2 - 128)∧(b0 - 224) * 4096+(b1 - 128) * 64+(b2 - 128)<57344 then 0 else 3:=by
 unfold longT
 rw [if_neg (show ¬ b0<128 by omega),if_neg (show ¬ b0<194 by omega),if_neg (show ¬ b0<224 by omega),if_pos h']
theorem dec3 (n b0 b1 b2 b3:Nat) (h:224≤b0) (h':b0<240):Lib.decodeN n b0 b1 b2 b3=if (1<n∧b1 / 64=2)∧(2<n∧b2 / 64=2) then
  (if b0 % 16 * 4096+b1 % 64 * 64+b2 % 64 ≥ 2048∧(b0 % 16 * 4096+b1 % 64 * 64+b2 % 64<55296∨(57344≤b0 % 16 * 4096+b1 % 64 * 64+b2 % 64∧b0 % 16 * 4096+b1 % 64 * 64+b2 % 64≤1114111))
   then (b0 % 16 * 4096+b1 % 64 * 64+b2 % 64,3) else (65533,1)) else (65533,1):=by
 unfold Lib.decodeN
 rw [if_neg (show ¬ b0<128 by omega),if_neg (show ¬ (b0 / 32=6∧(1<n∧b1 / 64=2)) by omega),if_neg (show ¬ (b0 / 8=30∧(1<n∧b1 / 64=2)∧(2<n∧b2 / 64=2)∧3<n∧b3 / 64=2) by omega)]
 by_cases hh:(1<n∧b1 / 64=2)∧(2<n∧b2 / 64=2)
 ·rw [if_pos (show b0 / 16=14∧(1<n∧b1 / 64=2)∧2<n∧b2 / 64=2 from ⟨by omega,hh⟩),if_pos hh]
 ·rw [if_neg (show ¬ (b0 / 16=14∧(1<n∧b1 / 64=2)∧2<n∧b2 / 64=2) from fun x=>hh x.2),if_neg hh]
theorem agree3 (n b0 b1 b2 b3:Nat) (h:224≤b0) (h':b0<240) (h1:b1<256) (h2:b2<256):Agree (longT n b0 b1 b2 b3) (Lib.decodeN n b0 b1 b2 b3):=by
 rw [long3 n b0 b1 b2 b3 h h',dec3 n b0 b1 b2 b3 h h']
 by_cases hh:(1<n∧b1 / 64=2)∧(2<n∧b2 / 64=2)
 ·rw [if_neg (show ¬ (n<3∨b1<128∨192≤b1∨b2<128∨192≤b2) by omega),if_pos hh]
  have e:b0 % 16 * 4096+b1 % 64 * 64+b2 % 64=(b0 - 224) * 4096+(b1 - 128) * 64+(b2 - 128):=by omega
  rw [e]
  have hv:(b0 - 224) * 4096+(b1 - 128) * 64+(b2 - 128)<65536:=by omega
  obtain ⟨v,e2⟩ : ∃ v,(b0 - 224) * 4096+(b1 - 128) * 64+(b2 - 128)=v:=⟨_,rfl⟩
  rw [e2] at hv ⊢
  clear e e2
  by_cases hg:v<2048∨55296≤v∧v<57344
  ·rw [if_pos hg,if_neg (by omega)];exact .inl ⟨rfl,rfl⟩
  ·rw [if_neg hg,if_pos (by omega)];exact .inr ⟨by omega,rfl,by simp⟩
 ·rw [if_pos (show n<3∨b1<128∨192≤b1∨b2<128∨192≤b2 by omega),if_neg hh];exact .inl ⟨rfl,rfl⟩
theorem long4 (n b0 b1 b2 b3:Nat) (h:240≤b0) (h':b0<245):longT n b0 b1 b2 b3=if n<4∨b1<128∨192≤b1∨b2<128∨192≤b2∨b3<128∨192≤b3 then 0 else
  if (b0 - 240) * 262144+(b1 - 128) * 4096+(b2 - 128) * 64+(b3 - 128)<65536∨1114111<(b0 - 240) * 262144+(b1 - 128) * 4096+(b2 - 128) * 64+(b3 - 128) then 0 else 4:=by
 unfold longT
 rw [if_neg (show ¬ b0<128 by omega),if_neg (show ¬ b0<194 by omega),if_neg (show ¬ b0<224 by omega),if_neg (show ¬ b0<240 by omega),if_pos h']
theorem dec4 (n b0 b1 b2 b3:Nat) (h:240≤b0) (h':b0<248):Lib.decodeN n b0 b1 b2 b3=if (1<n∧b1 / 64=2)∧(2<n∧b2 / 64=2)∧(3<n∧b3 / 64=2) then
  (if b0 % 8 * 262144+b1 % 64 * 4096+b2 % 64 * 64+b3 % 64 ≥ 65536∧(b0 % 8 * 262144+b1 % 64 * 4096+b2 % 64 * 64+b3 % 64<55296∨(57344≤b0 % 8 * 262144+b1 % 64 * 4096+b2 % 64 * 64+b3 % 64∧b0 % 8 * 262144+b1 % 64 * 4096+b2 % 64 * 64+b3 % 64≤1114111))
   then (b0 % 8 * 262144+b1 % 64 * 4096+b2 % 64 * 64+b3 % 64,4) else (65533,1)) else (65533,1):=by
 unfold Lib.decodeN
 rw [if_neg (show ¬ b0<128 by omega),if_neg (show ¬ (b0 / 32=6∧(1<n∧b1 / 64=2)) by omega),if_neg (show ¬ (b0 / 16=14∧(1<n∧b1 / 64=2)∧2<n∧b2 / 64=2) by omega)]
 by_cases hh:(1<n∧b1 / 64=2)∧(2<n∧b2 / 64=2)∧(3<n∧b3 / 64=2)
 ·rw [if_pos (show b0 / 8=30∧(1<n∧b1 / 64=2)∧(2<n∧b2 / 64=2)∧3<n∧b3 / 64=2 from ⟨by omega,hh⟩),if_pos hh]
 ·rw [if_neg (show ¬ (b0 / 8=30∧(1<n∧b1 / 64=2)∧(2<n∧b2 / 64=2)∧3<n∧b3 / 64=2) from fun x=>hh x.2),if_neg hh]
theorem agree4 (n b0 b1 b2 b3:Nat) (h:240≤b0) (h':b0<245) (h1:b1<256) (h2:b2<256) (h3:b3<256):Agree (longT n b0 b1 b2 b3) (Lib.decodeN n b0 b1 b2 b3):=by
 rw [long4 n b0 b1 b2 b3 h h',dec4 n b0 b1 b2 b3 h (by omega)]
 by_cases hh:(1<n∧b1 / 64=2)∧(2<n∧b2 / 64=2)∧(3<n∧b3 / 64=2)
 ·rw [if_neg (show ¬ (n<4∨b1<128∨192≤b1∨b2<128∨192≤b2∨b3<128∨192≤b3) by omega),if_pos hh]
  have e:b0 % 8 * 262144+b1 % 64 * 4096+b2 % 64 * 64+b3 % 64=(b0 - 240) * 262144+(b1 - 128) * 4096+(b2 - 128) * 64+(b3 - 128):=by omega
  rw [e]
  obtain ⟨v,e2⟩ : ∃ v,(b0 - 240) * 262144+(b1 - 128) * 4096+(b2 - 128) * 64+(b3 - 128)=v:=⟨_,rfl⟩
  rw [e2]
  clear e e2
  by_cases hg:v<65536∨1114111<v
  ·rw [if_pos hg,if_neg (by omega)];exact .inl ⟨rfl,rfl⟩
  ·rw [if_neg hg,if_pos (by omega)];exact .inr ⟨by omega,rfl,by simp⟩
 ·rw [if_pos (show n<4∨b1<128∨192≤b1∨b2<128∨192≤b2∨b3<128∨192≤b3 by omega),if_neg hh];exact .inl ⟨rfl,rfl⟩
theorem agree_any (n b0 b1 b2 b3:Nat) (h0:b0<256) (h1:b1<256) (h2:b2<256) (h3:b3<256):Agree (longT n b0 b1 b2 b3) (Lib.decodeN n b0 b1 b2 b3):=by
 by_cases c1:b0<128
 ·exact agree1 n b0 b1 b2 b3 c1
 by_cases c2:b0<194
 ·exact agree0 n b0 b1 b2 b3 (.inl ⟨by omega,c2⟩)
 by_cases c3:b0<224
 ·exact agree2 n b0 b1 b2 b3 (by omega) c3 h1
 by_cases c4:b0<240
 ·exact agree3 n b0 b1 b2 b3 (by omega) c4 h1 h2
 by_cases c5:b0<245
 ·exact agree4 n b0 b1 b2 b3 (by omega) c5 h1 h2 h3
 ·exact agree0 n b0 b1 b2 b3 (.inr ⟨by omega,h0⟩)
theorem agree_list (l:List UInt8):Agree (longL l) (Lib.decodeL l):=by
 rw [Lib.decodeL_N]
 exact agree_any _ _ _ _ _ (l.getD 0 0).toNat_lt (l.getD 1 0).toNat_lt (l.getD 2 0).toNat_lt (l.getD 3 0).toNat_lt

/-- how many runes; none: it is no UTF-8 -/
def runesG:Nat→List UInt8→Option Nat
 | 0,_=>some 0
 | f+1,l=>if l=[] then some 0 else if longL l=0 then none else (runesG f (l.drop (longL l))).map (· + 1)
def runesO (l:List UInt8):Option Nat:=runesG l.length l
theorem longL_le (l:List UInt8) (h:l≠[]):longL l≤l.length:=by
 have hl:0<l.length:=List.length_pos_iff.2 h
 unfold longL longT
 repeat' split
 all_goals omega
theorem runesG_nil : ∀ f,runesG f []=some 0
 | 0=>rfl
 | _+1=>by simp [runesG]
theorem runesG_fuel : ∀ (n m:Nat) (l:List UInt8),l.length≤n→l.length≤m→runesG n l=runesG m l
 | 0,m,l,hn,_=>by
  have:l=[]:=List.eq_nil_of_length_eq_zero (by omega)
  subst this
  rw [runesG_nil,runesG_nil]
 | n+1,0,l,_,hm=>by
  have:l=[]:=List.eq_nil_of_length_eq_zero (by omega)
  subst this
  rw [runesG_nil,runesG_nil]
 | n+1,m+1,l,hn,hm=>by
  unfold runesG
  by_cases hne:l=[]
  ·simp [hne]
  ·have hl:0<l.length:=List.length_pos_iff.2 hne
   by_cases h0:longL l=0
   ·simp [hne,h0]
   ·rw [if_neg hne,if_neg hne,if_neg h0,if_neg h0,runesG_fuel n m (l.drop (longL l)) (by rw [List.length_drop];omega) (by rw [List.length_drop];omega)]
theorem runesO_nil:runesO []=some 0:=rfl
theorem runesO_bad {l:List UInt8} (hne:l≠[]) (h:longL l=0):runesO l=none:=by
 obtain ⟨n,hn⟩ : ∃ n,l.length=n+1:=⟨l.length - 1,by have:=List.length_pos_iff.2 hne;omega⟩
 unfold runesO
 rw [hn]
 unfold runesG
 rw [if_neg hne,if_pos h]
theorem runesO_step {l:List UInt8} (hne:l≠[]) (h:longL l≠0):runesO l=(runesO (l.drop (longL l))).map (· + 1):=by
 have hl:0<l.length:=List.length_pos_iff.2 hne
 obtain ⟨n,hn⟩ : ∃ n,l.length=n+1:=⟨l.length - 1,by omega⟩
 have e:runesG n (l.drop (longL l))=runesG (l.drop (longL l)).length (l.drop (longL l)):=runesG_fuel n _ _ (by rw [List.length_drop];omega) (Nat.le_refl _)
 unfold runesO
 rw [hn, ← e]
 show (if l=[] then some 0 else if longL l=0 then none else (runesG n (l.drop (longL l))).map (· + 1))=_
 rw [if_neg hne,if_neg h]
theorem runes_valid_aux : ∀ (f:Nat) (l:List UInt8),l.length≤f→(runesO l).isSome=Lib.validD l
 | 0,l,h=>by
  have:l=[]:=List.eq_nil_of_length_eq_zero (by omega)
  subst this
  rfl
 | f+1,l,h=>by
  by_cases hne:l=[]
  ·subst hne;rfl
  ·have hl:0<l.length:=List.length_pos_iff.2 hne
   rw [Lib.validD_step l hne]
   rcases agree_list l with ⟨h0,hd⟩ | ⟨h0,hd,hn⟩
   ·rw [runesO_bad hne h0,hd];rfl
   ·rw [runesO_step hne h0,if_neg hn,hd,Option.isSome_map,runes_valid_aux f _ (by rw [List.length_drop];omega)]
theorem runes_valid (l:List UInt8):(runesO l).isSome=Lib.validD l:=runes_valid_aux _ l (Nat.le_refl _)
/-- what Runes answers -/
def runesT (s:ByteArray):Int:=match runesO s.data.toList with | some n=>n | none => -1
theorem runesT_neg (s:ByteArray):(runesT s<0)↔validB s=false:=by
 unfold runesT validB
 rw [← runes_valid]
 cases runesO s.data.toList with
 | none=>simp
 | some n=>simp
open Go.RowKit
section
variable (s:ByteArray) (k:Nat) (w:World) (hk:k<s.size)
set_option maxRecDepth 100000 in
set_option maxHeartbeats 600000 in
theorem long_one (h:s[k].toNat<128):Calls Tryz.prog 282 #[.string s, .int .i64 k] w fun e w'=>e = .returned (.int .i64 1)∧w=w':=by
 go_enter Tryz.func282,Tryz.ntmps282
 go_wp2
 go_ret
 exact ⟨rfl,rfl⟩
set_option maxRecDepth 100000 in
set_option maxHeartbeats 600000 in
theorem long_bad1 (h:128≤s[k].toNat) (h':s[k].toNat<194):Calls Tryz.prog 282 #[.string s, .int .i64 k] w fun e w'=>e = .returned (.int .i64 0)∧w=w':=by
 go_enter Tryz.func282,Tryz.ntmps282
 go_wp2
 go_ret
 exact ⟨rfl,rfl⟩
set_option maxRecDepth 100000 in
set_option maxHeartbeats 600000 in
theorem long_bad2 (h:245≤s[k].toNat):Calls Tryz.prog 282 #[.string s, .int .i64 k] w fun e w'=>e = .returned (.int .i64 0)∧w=w':=by
 go_enter Tryz.func282,Tryz.ntmps282
 go_wp2
 go_ret
 exact ⟨rfl,rfl⟩
set_option maxRecDepth 100000 in
set_option maxHeartbeats 600000 in
theorem long2_short (hs:s.size≤140737488355328) (h:194≤s[k].toNat) (h':s[k].toNat<224) (hl:s.size<k+2):Calls Tryz.prog 282 #[.string s, .int .i64 k] w fun e w'=>e = .returned (.int .i64 0)∧w=w':=by
 go_enter Tryz.func282,Tryz.ntmps282
 go_wp2
 go_ret
 exact ⟨rfl,rfl⟩
set_option maxRecDepth 100000 in
set_option maxHeartbeats 600000 in
theorem long2_lo1 (hs:s.size≤140737488355328) (h:194≤s[k].toNat) (h':s[k].toNat<224) (hl:k+2≤s.size)  (c:s[k+1].toNat<128):Calls Tryz.prog 282 #[.string s, .int .i64 k] w fun e w'=>e = .returned (.int .i64 0)∧w=w':=by
 go_enter Tryz.func282,Tryz.ntmps282
 go_wp2
 go_rounds 2
 go_ret
 exact ⟨rfl,rfl⟩
set_option maxRecDepth 100000 in
set_option maxHeartbeats 600000 in
theorem long2_hi1 (hs:s.size≤140737488355328) (h:194≤s[k].toNat) (h':s[k].toNat<224) (hl:k+2≤s.size)  (c:192≤s[k+1].toNat):Calls Tryz.prog 282 #[.string s, .int .i64 k] w fun e w'=>e = .returned (.int .i64 0)∧w=w':=by
 go_enter Tryz.func282,Tryz.ntmps282
 go_wp2
 go_rounds 2
 go_ret
 exact ⟨rfl,rfl⟩
set_option maxRecDepth 100000 in
set_option maxHeartbeats 600000 in
theorem long2_ok (hs:s.size≤140737488355328) (h:194≤s[k].toNat) (h':s[k].toNat<224) (hl:k+2≤s.size) (c1:128≤s[k+1].toNat) (d1:s[k+1].toNat<192):Calls Tryz.prog 282 #[.string s, .int .i64 k] w fun e w'=>e = .returned (.int .i64 2)∧w=w':=by
 go_enter Tryz.func282,Tryz.ntmps282
 go_wp2
 go_rounds 2
 go_ret
 exact ⟨rfl,rfl⟩
set_option maxRecDepth 100000 in
set_option maxHeartbeats 600000 in
theorem long3_short (hs:s.size≤140737488355328) (h:224≤s[k].toNat) (h':s[k].toNat<240) (hl:s.size<k+3):Calls Tryz.prog 282 #[.string s, .int .i64 k] w fun e w'=>e = .returned (.int .i64 0)∧w=w':=by
 go_enter Tryz.func282,Tryz.ntmps282
 go_wp2
 go_ret
 exact ⟨rfl,rfl⟩
set_option maxRecDepth 100000 in
set_option maxHeartbeats 600000 in
theorem long3_lo1 (hs:s.size≤140737488355328) (h:224≤s[k].toNat) (h':s[k].toNat<240) (hl:k+3≤s.size)  (c:s[k+1].toNat<128):Calls Tryz.prog 282 #[.string s, .int .i64 k] w fun e w'=>e = .returned (.int .i64 0)∧w=w':=by
 go_enter Tryz.func282,Tryz.ntmps282
 go_wp2
 go_rounds 3
 go_ret
 exact ⟨rfl,rfl⟩
set_option maxRecDepth 100000 in
set_option maxHeartbeats 600000 in
theorem long3_hi1 (hs:s.size≤140737488355328) (h:224≤s[k].toNat) (h':s[k].toNat<240) (hl:k+3≤s.size)  (c:192≤s[k+1].toNat):Calls Tryz.prog 282 #[.string s, .int .i64 k] w fun e w'=>e = .returned (.int .i64 0)∧w=w':=by
 go_enter Tryz.func282,Tryz.ntmps282
 go_wp2
 go_rounds 3
 go_ret
 exact ⟨rfl,rfl⟩
set_option maxRecDepth 100000 in
set_option maxHeartbeats 600000 in
theorem long3_lo2 (hs:s.size≤140737488355328) (h:224≤s[k].toNat) (h':s[k].toNat<240) (hl:k+3≤s.size) (c1:128≤s[k+1].toNat) (d1:s[k+1].toNat<192) (c:s[k+2].toNat<128):Calls Tryz.prog 282 #[.string s, .int .i64 k] w fun e w'=>e = .returned (.int .i64 0)∧w=w':=by
 go_enter Tryz.func282,Tryz.ntmps282
 go_wp2
 go_rounds 3
 go_ret
 exact ⟨rfl,rfl⟩
set_option maxRecDepth 100000 in
set_option maxHeartbeats 600000 in
theorem long3_hi2 (hs:s.size≤140737488355328) (h:224≤s[k].toNat) (h':s[k].toNat<240) (hl:k+3≤s.size) (c1:128≤s[k+1].toNat) (d1:s[k+1].toNat<192) (c:192≤s[k+2].toNat):Calls Tryz.prog 282 #[.string s, .int .i64 k] w fun e w'=>e = .returned (.int .i64 0)∧w=w':=by
 go_enter Tryz.func282,Tryz.ntmps282
 go_wp2
 go_rounds 3
 go_ret
 exact ⟨rfl,rfl⟩
set_option maxRecDepth 100000 in
set_option maxHeartbeats 600000 in
theorem long3_small (hs:s.size≤140737488355328) (h:224≤s[k].toNat) (h':s[k].toNat<240) (hl:k+3≤s.size) (c1:128≤s[k+1].toNat) (d1:s[k+1].toNat<192) (c2:128≤s[k+2].toNat) (d2:s[k+2].toNat<192) (v:64 * (64 * ((s[k].toNat:Int) - 224)+(s[k+1].toNat:Int) - 128)+(s[k+2].toNat:Int) - 128<2048):Calls Tryz.prog 282 #[.string s, .int .i64 k] w fun e w'=>e = .returned (.int .i64 0)∧w=w':=by
 go_enter Tryz.func282,Tryz.ntmps282
 go_wp2
 go_rounds 3
 go_ret
 exact ⟨rfl,rfl⟩
set_option maxRecDepth 100000 in
set_option maxHeartbeats 600000 in
theorem long3_half (hs:s.size≤140737488355328) (h:224≤s[k].toNat) (h':s[k].toNat<240) (hl:k+3≤s.size) (c1:128≤s[k+1].toNat) (d1:s[k+1].toNat<192) (c2:128≤s[k+2].toNat) (d2:s[k+2].toNat<192) (v:55296≤64 * (64 * ((s[k].toNat:Int) - 224)+(s[k+1].toNat:Int) - 128)+(s[k+2].toNat:Int) - 128) (v':64 * (64 * ((s[k].toNat:Int) - 224)+(s[k+1].toNat:Int) - 128)+(s[k+2].toNat:Int) - 128<57344):Calls Tryz.prog 282 #[.string s, .int .i64 k] w fun e w'=>e = .returned (.int .i64 0)∧w=w':=by
 go_enter Tryz.func282,Tryz.ntmps282
 go_wp2
 go_rounds 3
 go_ret
 exact ⟨rfl,rfl⟩
set_option maxRecDepth 100000 in
set_option maxHeartbeats 600000 in
theorem long3_ok1 (hs:s.size≤140737488355328) (h:224≤s[k].toNat) (h':s[k].toNat<240) (hl:k+3≤s.size) (c1:128≤s[k+1].toNat) (d1:s[k+1].toNat<192) (c2:128≤s[k+2].toNat) (d2:s[k+2].toNat<192) (v:2048≤64 * (64 * ((s[k].toNat:Int) - 224)+(s[k+1].toNat:Int) - 128)+(s[k+2].toNat:Int) - 128) (v':64 * (64 * ((s[k].toNat:Int) - 224)+(s[k+1].toNat:Int) - 128)+(s[k+2].toNat:Int) - 128<55296):Calls Tryz.prog 282 #[.string s, .int .i64 k] w fun e w'=>e = .returned (.int .i64 3)∧w=w':=by
 go_enter Tryz.func282,Tryz.ntmps282
 go_wp2
 go_rounds 3
 go_ret
 exact ⟨rfl,rfl⟩
set_option maxRecDepth 100000 in
set_option maxHeartbeats 600000 in
theorem long3_ok2 (hs:s.size≤140737488355328) (h:224≤s[k].toNat) (h':s[k].toNat<240) (hl:k+3≤s.size) (c1:128≤s[k+1].toNat) (d1:s[k+1].toNat<192) (c2:128≤s[k+2].toNat) (d2:s[k+2].toNat<192) (v:57344≤64 * (64 * ((s[k].toNat:Int) - 224)+(s[k+1].toNat:Int) - 128)+(s[k+2].toNat:Int) - 128):Calls Tryz.prog 282 #[.string s, .int .i64 k] w fun e w'=>e = .returned (.int .i64 3)∧w=w':=by
 go_enter Tryz.func282,Tryz.ntmps282
 go_wp2
 go_rounds 3
 go_ret
 exact ⟨rfl,rfl⟩
set_option maxRecDepth 100000 in
set_option maxHeartbeats 600000 in
theorem long4_short (hs:s.size≤140737488355328) (h:240≤s[k].toNat) (h':s[k].toNat<245) (hl:s.size<k+4):Calls Tryz.prog 282 #[.string s, .int .i64 k] w fun e w'=>e = .returned (.int .i64 0)∧w=w':=by
 go_enter Tryz.func282,Tryz.ntmps282
 go_wp2
 go_ret
 exact ⟨rfl,rfl⟩
set_option maxRecDepth 100000 in
set_option maxHeartbeats 600000 in
theorem long4_lo1 (hs:s.size≤140737488355328) (h:240≤s[k].toNat) (h':s[k].toNat<245) (hl:k+4≤s.size)  (c:s[k+1].toNat<128):Calls Tryz.prog 282 #[.string s, .int .i64 k] w fun e w'=>e = .returned (.int .i64 0)∧w=w':=by
 go_enter Tryz.func282,Tryz.ntmps282
 go_wp2
 go_rounds 4
 go_ret
 exact ⟨rfl,rfl⟩
set_option maxRecDepth 100000 in
set_option maxHeartbeats 600000 in
theorem long4_hi1 (hs:s.size≤140737488355328) (h:240≤s[k].toNat) (h':s[k].toNat<245) (hl:k+4≤s.size)  (c:192≤s[k+1].toNat):Calls Tryz.prog 282 #[.string s, .int .i64 k] w fun e w'=>e = .returned (.int .i64 0)∧w=w':=by
 go_enter Tryz.func282,Tryz.ntmps282
 go_wp2
 go_rounds 4
 go_ret
 exact ⟨rfl,rfl⟩
set_option maxRecDepth 100000 in
set_option maxHeartbeats 600000 in
theorem long4_lo2 (hs:s.size≤140737488355328) (h:240≤s[k].toNat) (h':s[k].toNat<245) (hl:k+4≤s.size) (c1:128≤s[k+1].toNat) (d1:s[k+1].toNat<192) (c:s[k+2].toNat<128):Calls Tryz.prog 282 #[.string s, .int .i64 k] w fun e w'=>e = .returned (.int .i64 0)∧w=w':=by
 go_enter Tryz.func282,Tryz.ntmps282
 go_wp2
 go_rounds 4
 go_ret
 exact ⟨rfl,rfl⟩
set_option maxRecDepth 100000 in
set_option maxHeartbeats 600000 in
theorem long4_hi2 (hs:s.size≤140737488355328) (h:240≤s[k].toNat) (h':s[k].toNat<245) (hl:k+4≤s.size) (c1:128≤s[k+1].toNat) (d1:s[k+1].toNat<192) (c:192≤s[k+2].toNat):Calls Tryz.prog 282 #[.string s, .int .i64 k] w fun e w'=>e = .returned (.int .i64 0)∧w=w':=by
 go_enter Tryz.func282,Tryz.ntmps282
 go_wp2
 go_rounds 4
 go_ret
 exact ⟨rfl,rfl⟩
set_option maxRecDepth 100000 in
set_option maxHeartbeats 600000 in
theorem long4_lo3 (hs:s.size≤140737488355328) (h:240≤s[k].toNat) (h':s[k].toNat<245) (hl:k+4≤s.size) (c1:128≤s[k+1].toNat) (d1:s[k+1].toNat<192) (c2:128≤s[k+2].toNat) (d2:s[k+2].toNat<192) (c:s[k+3].toNat<128):Calls Tryz.prog 282 #[.string s, .int .i64 k] w fun e w'=>e = .returned (.int .i64 0)∧w=w':=by
 go_enter Tryz.func282,Tryz.ntmps282
 go_wp2
 go_rounds 4
 go_ret
 exact ⟨rfl,rfl⟩
set_option maxRecDepth 100000 in
set_option maxHeartbeats 600000 in
theorem long4_hi3 (hs:s.size≤140737488355328) (h:240≤s[k].toNat) (h':s[k].toNat<245) (hl:k+4≤s.size) (c1:128≤s[k+1].toNat) (d1:s[k+1].toNat<192) (c2:128≤s[k+2].toNat) (d2:s[k+2].toNat<192) (c:192≤s[k+3].toNat):Calls Tryz.prog 282 #[.string s, .int .i64 k] w fun e w'=>e = .returned (.int .i64 0)∧w=w':=by
 go_enter Tryz.func282,Tryz.ntmps282
 go_wp2
 go_rounds 4
 go_ret
 exact ⟨rfl,rfl⟩
set_option maxRecDepth 100000 in
set_option maxHeartbeats 600000 in
theorem long4_small (hs:s.size≤140737488355328) (h:240≤s[k].toNat) (h':s[k].toNat<245) (hl:k+4≤s.size) (c1:128≤s[k+1].toNat) (d1:s[k+1].toNat<192) (c2:128≤s[k+2].toNat) (d2:s[k+2].toNat<192) (c3:128≤s[k+3].toNat) (d3:s[k+3].toNat<192) (v:64 * (64 * (64 * ((s[k].toNat:Int) - 240)+(s[k+1].toNat:Int) - 128)+(s[k+2].toNat:Int) - 128)+(s[k+3].toNat:Int) - 128<65536):Calls Tryz.prog 282 #[.string s, .int .i64 k] w fun e w'=>e = .returned (.int .i64 0)∧w=w':=by
 go_enter Tryz.func282,Tryz.ntmps282
 go_wp2
 go_rounds 4
 go_ret
 exact ⟨rfl,rfl⟩
set_option maxRecDepth 100000 in
set_option maxHeartbeats 600000 in
theorem long4_great (hs:s.size≤140737488355328) (h:240≤s[k].toNat) (h':s[k].toNat<245) (hl:k+4≤s.size) (c1:128≤s[k+1].toNat) (d1:s[k+1].toNat<192) (c2:128≤s[k+2].toNat) (d2:s[k+2].toNat<192) (c3:128≤s[k+3].toNat) (d3:s[k+3].toNat<192) (v:1114111<64 * (64 * (64 * ((s[k].toNat:Int) - 240)+(s[k+1].toNat:Int) - 128)+(s[k+2].toNat:Int) - 128)+(s[k+3].toNat:Int) - 128):Calls Tryz.prog 282 #[.string s, .int .i64 k] w fun e w'=>e = .returned (.int .i64 0)∧w=w':=by
 go_enter Tryz.func282,Tryz.ntmps282
 go_wp2
 go_rounds 4
 go_ret
 exact ⟨rfl,rfl⟩
set_option maxRecDepth 100000 in
set_option maxHeartbeats 600000 in
theorem long4_ok (hs:s.size≤140737488355328) (h:240≤s[k].toNat) (h':s[k].toNat<245) (hl:k+4≤s.size) (c1:128≤s[k+1].toNat) (d1:s[k+1].toNat<192) (c2:128≤s[k+2].toNat) (d2:s[k+2].toNat<192) (c3:128≤s[k+3].toNat) (d3:s[k+3].toNat<192) (v:65536≤64 * (64 * (64 * ((s[k].toNat:Int) - 240)+(s[k+1].toNat:Int) - 128)+(s[k+2].toNat:Int) - 128)+(s[k+3].toNat:Int) - 128) (v':64 * (64 * (64 * ((s[k].toNat:Int) - 240)+(s[k+1].toNat:Int) - 128)+(s[k+2].toNat:Int) - 128)+(s[k+3].toNat:Int) - 128≤1114111):Calls Tryz.prog 282 #[.string s, .int .i64 k] w fun e w'=>e = .returned (.int .i64 4)∧w=w':=by
 go_enter Tryz.func282,Tryz.ntmps282
 go_wp2
 go_rounds 4
 go_ret
 exact ⟨rfl,rfl⟩
end
theorem at_drop (s:ByteArray) (k i:Nat) (h:k+i<s.size):(s.data.toList.drop k).getD i 0=s[k+i]:=by
 have h':k+i<s.data.toList.length:=by simpa using h
 rw [List.getD_eq_getElem?_getD,List.getElem?_drop,List.getElem?_eq_getElem h']
 rfl
theorem len_drop (s:ByteArray) (k:Nat):(s.data.toList.drop k).length=s.size - k:=by simp
theorem long_any (s:ByteArray) (k:Nat) (w:World) (hs:s.size≤140737488355328) (hk:k<s.size) :
  Calls Tryz.prog 282 #[.string s, .int .i64 k] w fun e w'=>e = .returned (.int .i64 (longL (s.data.toList.drop k):Nat))∧w=w':=by
 have e0:(s.data.toList.drop k).getD 0 0=s[k]:=at_drop s k 0 hk
 unfold longL
 rw [e0,len_drop]
 generalize hb1:(s.data.toList.drop k).getD 1 0=b1
 generalize hb2:(s.data.toList.drop k).getD 2 0=b2
 generalize hb3:(s.data.toList.drop k).getD 3 0=b3
 by_cases a1:s[k].toNat<128
 ·rw [show longT (s.size - k) s[k].toNat b1.toNat b2.toNat b3.toNat=1 by unfold longT;rw [if_pos a1]];exact long_one s k w hk a1
 by_cases a2:s[k].toNat<194
 ·rw [show longT (s.size - k) s[k].toNat b1.toNat b2.toNat b3.toNat=0 by unfold longT;rw [if_neg a1,if_pos a2]];exact long_bad1 s k w hk (by omega) a2
 by_cases a3:s[k].toNat<224
 ·rw [long2 _ _ _ _ _ (by omega) a3]
  by_cases l:k+2≤s.size
  ·rw [at_drop s k 1 (by omega)] at hb1
   subst hb1
   by_cases c1:s[k+1].toNat<128
   ·rw [if_pos (by omega)];exact long2_lo1 s k w hk hs (by omega) a3 l c1
   by_cases d1:192≤s[k+1].toNat
   ·rw [if_pos (by omega)];exact long2_hi1 s k w hk hs (by omega) a3 l d1
   rw [if_neg (by omega)];exact long2_ok s k w hk hs (by omega) a3 l (by omega) (by omega)
  ·rw [if_pos (by omega)];exact long2_short s k w hk hs (by omega) a3 (by omega)
 by_cases a4:s[k].toNat<240
 ·rw [long3 _ _ _ _ _ (by omega) a4]
  by_cases l:k+3≤s.size
  ·rw [at_drop s k 1 (by omega)] at hb1
   rw [at_drop s k 2 (by omega)] at hb2
   subst hb1 hb2
   by_cases c1:s[k+1].toNat<128
   ·rw [if_pos (by omega)];exact long3_lo1 s k w hk hs (by omega) a4 l c1
   by_cases d1:192≤s[k+1].toNat
   ·rw [if_pos (by omega)];exact long3_hi1 s k w hk hs (by omega) a4 l d1
   by_cases c2:s[k+2].toNat<128
   ·rw [if_pos (by omega)];exact long3_lo2 s k w hk hs (by omega) a4 l (by omega) (by omega) c2
   by_cases d2:192≤s[k+2].toNat
   ·rw [if_pos (by omega)];exact long3_hi2 s k w hk hs (by omega) a4 l (by omega) (by omega) d2
   rw [if_neg (show ¬ (s.size - k<3∨s[k+1].toNat<128∨192≤s[k+1].toNat∨s[k+2].toNat<128∨192≤s[k+2].toNat) by omega)]
   by_cases v1:64 * (64 * ((s[k].toNat:Int) - 224)+(s[k+1].toNat:Int) - 128)+(s[k+2].toNat:Int) - 128<2048
   ·rw [if_pos (by omega)];exact long3_small s k w hk hs (by omega) a4 l (by omega) (by omega) (by omega) (by omega) v1
   by_cases v2:64 * (64 * ((s[k].toNat:Int) - 224)+(s[k+1].toNat:Int) - 128)+(s[k+2].toNat:Int) - 128<55296
   ·rw [if_neg (by omega)];exact long3_ok1 s k w hk hs (by omega) a4 l (by omega) (by omega) (by omega) (by omega) (by omega) v2
   by_cases v3:64 * (64 * ((s[k].toNat:Int) - 224)+(s[k+1].toNat:Int) - 128)+(s[k+2].toNat:Int) - 128<57344
   ·rw [if_pos (by omega)];exact long3_half s k w hk hs (by omega) a4 l (by omega) (by omega) (by omega) (by omega) (by omega) v3
   ·rw [if_neg (by omega)];exact long3_ok2 s k w hk hs (by omega) a4 l (by omega) (by omega) (by omega) (by omega) (by omega)
  ·rw [if_pos (by omega)];exact long3_short s k w hk hs (by omega) a4 (by omega)
 by_cases a5:s[k].toNat<245
 ·rw [long4 _ _ _ _ _ (by omega) a5]
  by_cases l:k+4≤s.size
  ·rw [at_drop s k 1 (by omega)] at hb1
   rw [at_drop s k 2 (by omega)] at hb2
   rw [at_drop s k 3 (by omega)] at hb3
   subst hb1 hb2 hb3
   by_cases c1:s[k+1].toNat<128
   ·rw [if_pos (by omega)];exact long4_lo1 s k w hk hs (by omega) a5 l c1
   by_cases d1:192≤s[k+1].toNat
   ·rw [if_pos (by omega)];exact long4_hi1 s k w hk hs (by omega) a5 l d1
   by_cases c2:s[k+2].toNat<128
   ·rw [if_pos (by omega)];exact long4_lo2 s k w hk hs (by omega) a5 l (by omega) (by omega) c2
   by_cases d2:192≤s[k+2].toNat
   ·rw [if_pos (by omega)];exact long4_hi2 s k w hk hs (by omega) a5 l (by omega) (by omega) d2
   by_cases c3:s[k+3].toNat<128
   ·rw [if_pos (by omega)];exact long4_lo3 s k w hk hs (by omega) a5 l (by omega) (by omega) (by omega) (by omega) c3
   by_cases d3:192≤s[k+3].toNat
   ·rw [if_pos (by omega)];exact long4_hi3 s k w hk hs (by omega) a5 l (by omega) (by omega) (by omega) (by omega) d3
   rw [if_neg (show ¬ (s.size - k<4∨s[k+1].toNat<128∨192≤s[k+1].toNat∨s[k+2].toNat<128∨192≤s[k+2].toNat∨s[k+3].toNat<128∨192≤s[k+3].toNat) by omega)]
   by_cases v1:64 * (64 * (64 * ((s[k].toNat:Int) - 240)+(s[k+1].toNat:Int) - 128)+(s[k+2].toNat:Int) - 128)+(s[k+3].toNat:Int) - 128<65536
   ·rw [if_pos (by omega)];exact long4_small s k w hk hs (by omega) a5 l (by omega) (by omega) (by omega) (by omega) (by omega) (by omega) v1
   by_cases v2:1114111<64 * (64 * (64 * ((s[k].toNat:Int) - 240)+(s[k+1].toNat:Int) - 128)+(s[k+2].toNat:Int) - 128)+(s[k+3].toNat:Int) - 128
   ·rw [if_pos (by omega)];exact long4_great s k w hk hs (by omega) a5 l (by omega) (by omega) (by omega) (by omega) (by omega) (by omega) v2
   ·rw [if_neg (by omega)];exact long4_ok s k w hk hs (by omega) a5 l (by omega) (by omega) (by omega) (by omega) (by omega) (by omega) (by omega) (by omega)
  ·rw [if_pos (by omega)];exact long4_short s k w hk hs (by omega) a5 (by omega)
 ·rw [show longT (s.size - k) s[k].toNat b1.toNat b2.toNat b3.toNat=0 by unfold longT;rw [if_neg a1,if_neg a2,if_neg a3,if_neg a4,if_neg a5]];exact long_bad2 s k w hk (by omega)
open Go.RowKit
theorem map_map_add (o:Option Nat) (n:Nat):(o.map (· + 1)).map (· + n)=o.map (· + (n+1)):=by
 cases o with
 | none=>rfl
 | some m=>simp;omega
theorem drop_ne {s:ByteArray} {k:Nat} (h:k<s.size):s.data.toList.drop k≠[]:=by
 intro e
 have:=congrArg List.length e
 rw [len_drop] at this
 simp at this
 omega
theorem runesT_none {s:ByteArray} (h:runesO s.data.toList=none):runesT s = -1:=by unfold runesT;rw [h]
theorem runesT_some {s:ByteArray} {n:Nat} (h:runesO s.data.toList=some n):runesT s=n:=by unfold runesT;rw [h]

set_option maxRecDepth 100000 in
set_option maxHeartbeats 800000 in
theorem runes_any (s:ByteArray) (w:World) (hs:s.size≤140737488355328):Calls Tryz.prog 254 #[.string s] w fun e w'=>e = .returned (.int .i64 (runesT s))∧w=w':=by
 go_enter Tryz.func254,Tryz.ntmps254
 go_wp2
 go_loop [3,4] (fun u v => ∃ k n:Nat,k≤s.size∧n≤k∧u = .int .i64 n∧v = .int .i64 k∧Hid (runesO s.data.toList=(runesO (s.data.toList.drop k)).map (· + n))) (fun _ v=>s.size - (intOf v).toNat)
 case atStart=>exact ⟨0,0,Nat.zero_le _,Nat.le_refl _,rfl,rfl,Lib.hid (by simp)⟩
 case round =>
  obtain ⟨k,n,hk,hn,rfl,rfl,hr⟩:=hrel
  by_cases hlt:k<s.size
  ·obtain ⟨q,hq⟩ : ∃ q,longL (s.data.toList.drop k)=q:=⟨_,rfl⟩
   have hle:=longL_le (s.data.toList.drop k) (drop_ne hlt)
   rw [hq,len_drop] at hle
   have hL:=long_any s k w hs hlt
   rw [hq] at hL
   have HL:=Lib.hid hL
   clear hL
   by_cases h0:q=0
   ·subst h0
    have hT:runesT s = -1:=runesT_none (by rw [hr.out,runesO_bad (drop_ne hlt) hq];rfl)
    have HT:=Lib.hid hT
    clear hT hq hle hr
    go_wp2_with (go_at_call 282;refine HL.out.mono ?_;rintro e w' ⟨rfl,rfl⟩)
    go_ret
    exact ⟨ret_int HT.out.symm,rfl⟩
   ·have hT:runesO s.data.toList=(runesO (s.data.toList.drop (k+q))).map (· + (n+1)):=by
     rw [hr.out,runesO_step (drop_ne hlt) (by rw [hq];exact h0),hq,List.drop_drop,map_map_add]
    have HT:=Lib.hid hT
    have z0:((q:Int)==0)=false:=by simpa using h0
    clear hT hq hr h0
    go_wp2_with (go_at_call 282;refine HL.out.mono ?_;rintro e w' ⟨rfl,rfl⟩)
    go_round
    case rel=>exact ⟨k+q,n+1,by omega,by simp at z0;omega,by go_num,by go_num,HT⟩
    case measure=>simp [intOf];simp at z0;omega
  ·have e1:k=s.size:=by omega
   have hT:runesT s=n:=runesT_some (by
    have h:=hr.out
    rw [e1,List.drop_of_length_le (by simp),runesO_nil] at h
    rw [h];simp)
   have HT:=Lib.hid hT
   clear hT e1 hr
   go_wp2
   go_ret
   exact ⟨ret_int HT.out.symm,rfl⟩
theorem runes_at {r:Int} (s:ByteArray) (w:World) (h:Hid (runesT s=r)) (hs:s.size≤140737488355328):Calls Tryz.prog 254 #[.string s] w fun e w'=>e = .returned (.int .i64 r)∧w=w':=h.out ▸ runes_any s w hs
theorem runes_empty:runesT ⟨#[]⟩=0:=rfl
open Go.RowKit
set_option maxRecDepth 100000 in
set_option maxHeartbeats 600000 in
theorem rcheck_lo (k n:Int) (b:Bool) (s:ByteArray) (w:World) (h:k<1):Calls Tryz.prog 220 #[.agg #[.int .u8 k, .bool b, .int .i64 n, .string s]] w fun e w'=>e = .returned (.int .i64 13)∧Ext w w':=by
 go_enter Tryz.func220,Tryz.ntmps220
 go_wp2
 go_ret
 exact ⟨rfl,(Ext.refl w).alloc _⟩
set_option maxRecDepth 100000 in
set_option maxHeartbeats 600000 in
theorem rcheck_hi (k n:Int) (b:Bool) (s:ByteArray) (w:World) (h:4<k):Calls Tryz.prog 220 #[.agg #[.int .u8 k, .bool b, .int .i64 n, .string s]] w fun e w'=>e = .returned (.int .i64 13)∧Ext w w':=by
 go_enter Tryz.func220,Tryz.ntmps220
 go_wp2
 go_ret
 exact ⟨rfl,(Ext.refl w).alloc _⟩
set_option maxRecDepth 100000 in
set_option maxHeartbeats 600000 in
theorem rcheck_1_b (n:Int) (s:ByteArray) (w:World)  : Calls Tryz.prog 220 #[.agg #[.int .u8 1, .bool true, .int .i64 n, .string s]] w fun e w'=>e = .returned (.int .i64 13)∧Ext w w':=by
 go_enter Tryz.func220,Tryz.ntmps220
 go_wp2
 go_ret
 exact ⟨rfl,(Ext.refl w).alloc _⟩
set_option maxRecDepth 100000 in
set_option maxHeartbeats 600000 in
theorem rcheck_1_n (n:Int) (s:ByteArray) (w:World) (hn:(n != 0)=true):Calls Tryz.prog 220 #[.agg #[.int .u8 1, .bool false, .int .i64 n, .string s]] w fun e w'=>e = .returned (.int .i64 13)∧Ext w w':=by
 go_enter Tryz.func220,Tryz.ntmps220
 go_wp2
 go_ret
 exact ⟨rfl,(Ext.refl w).alloc _⟩
set_option maxRecDepth 100000 in
set_option maxHeartbeats 600000 in
theorem rcheck_1_s (s:ByteArray) (w:World) (hz : ¬ s=⟨#[]⟩):Calls Tryz.prog 220 #[.agg #[.int .u8 1, .bool false, .int .i64 0, .string s]] w fun e w'=>e = .returned (.int .i64 13)∧Ext w w':=by
 have hz2 : ¬ s.toList=[]:=fun h=>hz (empty_iff.1 h)
 have hz3:s.toList.isEmpty=false:=by simpa using hz2
 clear hz
 go_enter Tryz.func220,Tryz.ntmps220
 go_wp2
 go_ret
 exact ⟨rfl,(Ext.refl w).alloc _⟩
set_option maxRecDepth 100000 in
set_option maxHeartbeats 600000 in
theorem rcheck_1_on  (w:World)  : Calls Tryz.prog 220 #[.agg #[.int .u8 1, .bool false, .int .i64 0, .string ⟨#[]⟩]] w fun e w'=>e = .returned (.int .i64 0)∧Ext w w':=by
 have HR:Hid (runesT ⟨#[]⟩=0):=Lib.hid runes_empty
 go_enter Tryz.func220,Tryz.ntmps220
 go_wp2_with (go_at_call 254;refine (runes_at _ _ HR (by simp [ByteArray.size])).mono ?_;rintro e w1 ⟨rfl,rfl⟩)
 go_ret
 exact ⟨rfl,(Ext.refl w).alloc _⟩
set_option maxRecDepth 100000 in
set_option maxHeartbeats 600000 in
theorem rcheck_2_n (b:Bool) (n:Int) (s:ByteArray) (w:World) (hn:(n != 0)=true):Calls Tryz.prog 220 #[.agg #[.int .u8 2, .bool b, .int .i64 n, .string s]] w fun e w'=>e = .returned (.int .i64 13)∧Ext w w':=by
 go_enter Tryz.func220,Tryz.ntmps220
 go_wp2
 go_ret
 exact ⟨rfl,(Ext.refl w).alloc _⟩
set_option maxRecDepth 100000 in
set_option maxHeartbeats 600000 in
theorem rcheck_2_s (b:Bool) (s:ByteArray) (w:World) (hz : ¬ s=⟨#[]⟩):Calls Tryz.prog 220 #[.agg #[.int .u8 2, .bool b, .int .i64 0, .string s]] w fun e w'=>e = .returned (.int .i64 13)∧Ext w w':=by
 have hz2 : ¬ s.toList=[]:=fun h=>hz (empty_iff.1 h)
 have hz3:s.toList.isEmpty=false:=by simpa using hz2
 clear hz
 go_enter Tryz.func220,Tryz.ntmps220
 go_wp2
 go_ret
 exact ⟨rfl,(Ext.refl w).alloc _⟩
set_option maxRecDepth 100000 in
set_option maxHeartbeats 600000 in
theorem rcheck_2_on (b:Bool)  (w:World)  : Calls Tryz.prog 220 #[.agg #[.int .u8 2, .bool b, .int .i64 0, .string ⟨#[]⟩]] w fun e w'=>e = .returned (.int .i64 0)∧Ext w w':=by
 have HR:Hid (runesT ⟨#[]⟩=0):=Lib.hid runes_empty
 go_enter Tryz.func220,Tryz.ntmps220
 go_wp2_with (go_at_call 254;refine (runes_at _ _ HR (by simp [ByteArray.size])).mono ?_;rintro e w1 ⟨rfl,rfl⟩)
 go_ret
 exact ⟨rfl,(Ext.refl w).alloc _⟩
set_option maxRecDepth 100000 in
set_option maxHeartbeats 600000 in
theorem rcheck_3_b (n:Int) (s:ByteArray) (w:World)  : Calls Tryz.prog 220 #[.agg #[.int .u8 3, .bool true, .int .i64 n, .string s]] w fun e w'=>e = .returned (.int .i64 13)∧Ext w w':=by
 go_enter Tryz.func220,Tryz.ntmps220
 go_wp2
 go_ret
 exact ⟨rfl,(Ext.refl w).alloc _⟩
set_option maxRecDepth 100000 in
set_option maxHeartbeats 600000 in
theorem rcheck_3_s (n:Int) (s:ByteArray) (w:World) (hz : ¬ s=⟨#[]⟩):Calls Tryz.prog 220 #[.agg #[.int .u8 3, .bool false, .int .i64 n, .string s]] w fun e w'=>e = .returned (.int .i64 13)∧Ext w w':=by
 have hz2 : ¬ s.toList=[]:=fun h=>hz (empty_iff.1 h)
 have hz3:s.toList.isEmpty=false:=by simpa using hz2
 clear hz
 go_enter Tryz.func220,Tryz.ntmps220
 go_wp2
 go_ret
 exact ⟨rfl,(Ext.refl w).alloc _⟩
set_option maxRecDepth 100000 in
set_option maxHeartbeats 600000 in
theorem rcheck_3_on (n:Int)  (w:World)  : Calls Tryz.prog 220 #[.agg #[.int .u8 3, .bool false, .int .i64 n, .string ⟨#[]⟩]] w fun e w'=>e = .returned (.int .i64 0)∧Ext w w':=by
 have HR:Hid (runesT ⟨#[]⟩=0):=Lib.hid runes_empty
 go_enter Tryz.func220,Tryz.ntmps220
 go_wp2_with (go_at_call 254;refine (runes_at _ _ HR (by simp [ByteArray.size])).mono ?_;rintro e w1 ⟨rfl,rfl⟩)
 go_ret
 exact ⟨rfl,(Ext.refl w).alloc _⟩
set_option maxRecDepth 100000 in
set_option maxHeartbeats 600000 in
theorem rcheck_4_b (n:Int) (s:ByteArray) (w:World)  : Calls Tryz.prog 220 #[.agg #[.int .u8 4, .bool true, .int .i64 n, .string s]] w fun e w'=>e = .returned (.int .i64 13)∧Ext w w':=by
 go_enter Tryz.func220,Tryz.ntmps220
 go_wp2
 go_ret
 exact ⟨rfl,(Ext.refl w).alloc _⟩
set_option maxRecDepth 100000 in
set_option maxHeartbeats 600000 in
theorem rcheck_4_n (n:Int) (s:ByteArray) (w:World) (hn:(n != 0)=true):Calls Tryz.prog 220 #[.agg #[.int .u8 4, .bool false, .int .i64 n, .string s]] w fun e w'=>e = .returned (.int .i64 13)∧Ext w w':=by
 go_enter Tryz.func220,Tryz.ntmps220
 go_wp2
 go_ret
 exact ⟨rfl,(Ext.refl w).alloc _⟩
set_option maxRecDepth 100000 in
set_option maxHeartbeats 600000 in
theorem rcheck_4_bad (r:Int) (s:ByteArray) (w:World) (hr:runesT s=r) (hs:s.size≤140737488355328) (h:r<0):Calls Tryz.prog 220 #[.agg #[.int .u8 4, .bool false, .int .i64 0, .string s]] w fun e w'=>e = .returned (.int .i64 13)∧Ext w w':=by
 have HR:=Lib.hid hr
 clear hr
 go_enter Tryz.func220,Tryz.ntmps220
 go_wp2_with (go_at_call 254;refine (runes_at _ _ HR hs).mono ?_;rintro e w1 ⟨rfl,rfl⟩)
 go_ret
 exact ⟨rfl,(Ext.refl w).alloc _⟩
set_option maxRecDepth 100000 in
set_option maxHeartbeats 600000 in
theorem rcheck_4_long (r:Int) (s:ByteArray) (w:World) (hr:runesT s=r) (hs:s.size≤140737488355328) (h:0≤r) (hl:1000<s.size):Calls Tryz.prog 220 #[.agg #[.int .u8 4, .bool false, .int .i64 0, .string s]] w fun e w'=>e = .returned (.int .i64 12)∧Ext w w':=by
 have HR:=Lib.hid hr
 clear hr
 go_enter Tryz.func220,Tryz.ntmps220
 go_wp2_with (go_at_call 254;refine (runes_at _ _ HR hs).mono ?_;rintro e w1 ⟨rfl,rfl⟩)
 go_ret
 exact ⟨rfl,(Ext.refl w).alloc _⟩
set_option maxRecDepth 100000 in
set_option maxHeartbeats 600000 in
theorem rcheck_4_on (r:Int) (s:ByteArray) (w:World) (hr:runesT s=r) (hs:s.size≤140737488355328) (h:0≤r) (hl:s.size≤1000):Calls Tryz.prog 220 #[.agg #[.int .u8 4, .bool false, .int .i64 0, .string s]] w fun e w'=>e = .returned (.int .i64 0)∧Ext w w':=by
 have HR:=Lib.hid hr
 clear hr
 go_enter Tryz.func220,Tryz.ntmps220
 go_wp2_with (go_at_call 254;refine (runes_at _ _ HR hs).mono ?_;rintro e w1 ⟨rfl,rfl⟩)
 go_ret
 exact ⟨rfl,(Ext.refl w).alloc _⟩
theorem rcheck_any (k:Int) (b:Bool) (n:Int) (s:ByteArray) (w:World) (hs:s.size≤140737488355328) :
  Calls Tryz.prog 220 #[.agg #[.int .u8 k, .bool b, .int .i64 n, .string s]] w fun e w'=>e = .returned (.int .i64 (checkT k b n s))∧Ext w w':=by
 by_cases h2:k=2
 ·subst h2
  by_cases hn:n=0
  ·subst hn
   by_cases hz:s=⟨#[]⟩
   ·subst hz
    rw [checkT_on (by simp),valid_empty]
    exact rcheck_2_on b w
   ·rw [checkT_off (by simp [hz])];exact rcheck_2_s b s w hz
  ·rw [checkT_off (by simp [hn])];exact rcheck_2_n b n s w (by simpa using hn)
 by_cases h3:k=3
 ·subst h3
  cases b
  ·by_cases hz:s=⟨#[]⟩
   ·subst hz
    rw [checkT_on (by simp),valid_empty]
    exact rcheck_3_on n w
   ·rw [checkT_off (by simp [hz])];exact rcheck_3_s n s w hz
  ·rw [checkT_off (by simp)];exact rcheck_3_b n s w
 by_cases h4:k=4
 ·subst h4
  cases b
  ·by_cases hn:n=0
   ·subst hn
    rw [checkT_on (by simp)]
    by_cases hr:runesT s<0
    ·rw [(runesT_neg s).1 hr];exact rcheck_4_bad _ s w rfl hs hr
    ·have hv:validB s=true:=by
      cases hv:validB s
      ·exact absurd ((runesT_neg s).2 hv) hr
      ·rfl
     rw [hv,if_pos rfl]
     by_cases hl:1000<s.size
     ·rw [if_pos hl];exact rcheck_4_long _ s w rfl hs (by omega) hl
     ·rw [if_neg hl];exact rcheck_4_on _ s w rfl hs (by omega) (by omega)
   ·rw [checkT_off (by simp [hn])];exact rcheck_4_n n s w (by simpa using hn)
  ·rw [checkT_off (by simp)];exact rcheck_4_b n s w
 by_cases h1:k=1
 ·subst h1
  cases b
  ·by_cases hn:n=0
   ·subst hn
    by_cases hz:s=⟨#[]⟩
    ·subst hz
     rw [checkT_on (by simp),valid_empty]
     exact rcheck_1_on w
    ·rw [checkT_off (by simp [hz])];exact rcheck_1_s s w hz
   ·rw [checkT_off (by simp [hn])];exact rcheck_1_n n s w (by simpa using hn)
  ·rw [checkT_off (by simp)];exact rcheck_1_b n s w
 ·rw [checkT_off (by simp [h1,h2,h3,h4])]
  rcases Int.lt_or_le k 1 with h | h
  ·exact rcheck_lo k n b s w h
  ·exact rcheck_hi k n b s w (by omega)
theorem rcheck_at {c:Int} (k:Int) (b:Bool) (n:Int) (s:ByteArray) (w:World) (h:Hid (checkT k b n s=c)) (hs:s.size≤140737488355328) :
  Calls Tryz.prog 220 #[.agg #[.int .u8 k, .bool b, .int .i64 n, .string s]] w fun e w'=>e = .returned (.int .i64 c)∧Ext w w':=h.out ▸ rcheck_any k b n s w hs
open Go.RowKit
set_option maxRecDepth 100000 in
set_option maxHeartbeats 2000000 in
theorem refCheckZ_any (A:Option Addr) (c n:Nat) (l:List Dat) (w:World) (e1:n=l.length) (h1:Rw w A c l) (ht : ∀ d∈l,d.s.size≤140737488355328) :
  Calls Tryz.prog 168 #[.slice A n c] w fun e w'=>e = .returned (.int .i64 (checkR l))∧Ext w w':=by
 have E1:=Lib.hid e1
 have hl1:=h1.le
 rw [← e1] at hl1
 have H1:=Lib.hid h1
 have HT:=Lib.hid ht
 clear e1 h1 ht
 by_cases h32:32<n
 ·have HR:Hid (checkR l=20):=Lib.hid (by unfold checkR;rw [if_pos (by rw [← E1.out];exact h32)])
  go_enter Tryz.func168,Tryz.ntmps168
  go_wp2
  go_ret
  exact ⟨(by rw [HR.out];rfl),Ext.refl w⟩
 have HR:Hid (checkR l=checkL l):=Lib.hid (by unfold checkR;rw [if_neg (by rw [← E1.out];exact h32)])
 go_enter Tryz.func168,Tryz.ntmps168
 go_wp2
 go_loopw [3] (fun v wr => ∃ i:Nat,i≤n∧v = .int .i64 i∧Hid (checkL (l.drop i)=checkL l)∧Ext w wr) (fun v _=>n - (intOf v).toNat)
 case atStart=>exact ⟨0,Nat.zero_le _,rfl,Lib.hid rfl,Ext.refl _⟩
 case round =>
  obtain ⟨i,hi,rfl,hr,er⟩:=hrel
  have hsz:=er.size
  by_cases hlt:i<n
  ·have hil:i<l.length:=by rw [← E1.out];exact hlt
   obtain ⟨a1,rfl,p0,p1,p2,p3⟩:=(H1.out.ext er).at hil
   have hts:(l.getD i Dat.zero).s.size≤140737488355328:=HT.out _ (by rw [List.getD_eq_getElem?_getD,List.getElem?_eq_getElem hil];exact List.getElem_mem hil)
   have HS0:=Lib.hid (checkL_drop hil)
   obtain ⟨d,hd⟩ : ∃ d,l.getD i Dat.zero=d:=⟨_,rfl⟩
   rw [hd] at p0 p1 p2 p3 hts HS0
   clear hil hd
   obtain ⟨v,hv⟩ : ∃ v,d.check=v:=⟨_,rfl⟩
   have HS:Hid (checkL l=if v=0 then checkL (l.drop (i+1)) else v):=Lib.hid (by rw [← hr.out,HS0.out,hv])
   clear HS0 hr
   obtain ⟨ka,ba,na,sa⟩:=d
   simp only at p0 p1 p2 p3 hts
   have HV:=Lib.hid hv
   clear hv
   by_cases hv0:v=0
   ·subst hv0
    go_wp2_with (go_at_call 220;refine (rcheck_at ka ba na sa _ HV (Nat.le_trans hts (by decide))).mono ?_;rintro e w1 ⟨rfl,x1⟩)
    go_roundw
    case rel=>exact ⟨i+1,by omega,by go_num,Lib.hid (by rw [HS.out];simp),er.trans x1⟩
    case measure=>simp [intOf];omega
   ·have z:(v != 0)=true:=by simpa using hv0
    have HZ:=Lib.hid hv0
    clear hv0
    go_wp2_with (go_at_call 220;refine (rcheck_at ka ba na sa _ HV (Nat.le_trans hts (by decide))).mono ?_;rintro e w1 ⟨rfl,x1⟩)
    go_ret
    exact ⟨(by rw [HR.out,HS.out,if_neg HZ.out];rfl),er.trans x1⟩
  ·obtain rfl:i=n:=by omega
   have HT2:Hid (checkL l=0):=Lib.hid (by rw [← hr.out,List.drop_eq_nil_of_le (by rw [← E1.out];exact Nat.le_refl _)];rfl)
   clear hr
   go_wp2
   go_ret
   exact ⟨(by rw [HR.out,HT2.out];rfl),er⟩
theorem refCheckZ_lit {v:Int} (A:Option Addr) (c n:Nat) (l:List Dat) (w:World) (hv:Hid (checkR l=v)) (e1:Hid (n=l.length)) (h1:Hid (Rw w A c l)) (ht:Hid (∀ d∈l,d.s.size≤140737488355328)) :
  Calls Tryz.prog 168 #[.slice A n c] w fun e w'=>e = .returned (.int .i64 v)∧Ext w w':=hv.out ▸ refCheckZ_any A c n l w e1.out h1.out ht.out
end Go.Proofs.YtdgbkpoickbidaaGreatDoor
