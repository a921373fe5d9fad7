/- Parts of the proof. Conditions: as stated. -/
import Derived.Test.YtdgbkpoickbidaaGreatDoorHx17
set_option maxRecDepth 100000
set_option maxHeartbeats 4000000
open Go.RowKit Go.Proofs.Tryz
set_option linter.defProp false
namespace Go.Proofs.YtdgbkpoickbidaaGreatDoor
variable{l:List Int}{c5 g gs gt hg i m:Nat}{KS KT R S:Nat->Prop}{A5:Option Addr}{w w' w0 w1 w2 w5 wh:World}
def Gi(g:Nat)(e:Int):Hv:=⟨g,e,e,false,false⟩
def a0w(w:World)(R:Nat->Prop)(gt:Nat)(t:TrV)(n:Int)(e:Ending)(w':World):Prop :=
 (n<t.least/\e=.returned (.tuple #[.pointer none,.int .u16 121])/\Dj w R gt t w') \/
 (¬n<t.least/\∃g,w.heap.size<=g/\e=.returned (.tuple #[.pointer (some ⟨g,0,none⟩),.int .u16 0])/\Dj w R gt { t with hs:=t.hs++[Gi g n] } w')
def ShR.add{t:ShM}(h:ShR w R gt t)(x1:Ext w w1){n:Int}(h2:w2=w1.alloc (.cells ((Gi w1.heap.size n).cs gt) 215))(hm:PM w' t.bm (t.L++[⟨w1.heap.size,t.clock⟩]) (t.clock+1))(gr:w2.grownBy w' (some t.bm))(hz:w'.heap.size=w2.heap.size) :
  Dj w R gt { t.v with hs:=t.v.hs++[Gi w1.heap.size n] } w':=by
 have x2:Ext w1 w2:=h2▸(Ext.refl w1).alloc _;have z2:w2.heap.size=w1.heap.size+1:=by rw[h2];simp
 have z1:=x1.size;have hh:=h.ext (x1.trans x2);have u:Upd (λk=>k=t.bm) w2 w':=⟨gr.os,gr.tape,gr.output,gr.size,λk hk hn=>gr.block k hk (λe=>hn (by injection e))⟩;have bg:Bk w2 w1.heap.size 215 ((Gi w1.heap.size n).cs gt):=h2▸Bk.new w1 _ _;have d:=hh.pm.lt;have f:=h.low _ h.rb;have bn:w1.heap.size≠t.bm:=by omega
 have nR:∀k,R k->k≠w1.heap.size:=λk hk e=>by have:=h.low k hk;omega
 refine⟨{ t with L:=t.L++[⟨w1.heap.size,t.clock⟩],clock:=t.clock+1,H:=t.H++[Gi w1.heap.size n] },⟨hh.bk.upd u h.bm_ne,.inl h.rg,hh.sp.upd u (λk hk e=>h.nb (e▸hk)),λk hk=>.inl (h.sub k hk),hm,.inl h.rb,λy hy=>?_,h.nt,h.nb,?_,λy hy=>?_,λy hy he=>?_,λk hk=>?_⟩,rfl,(Upd.ext (x1.trans x2)).trans (u.mono λk _ e=>e▸h.rb)⟩
 ·rcases AQ.1 hy with hy|hy
  ·have⟨b,r,q⟩:=hh.hs y hy;exact⟨b.upd u (h.hd_ne hy).2,.inl r,q⟩
  ·rw[AE.1 hy];exact⟨bg.upd u bn,.inr ⟨z1,by show w1.heap.size<_;omega⟩,λq=>nR _ (h.sub _ q) rfl⟩
 ·show((t.H++[Gi w1.heap.size n]).map Hv.g).Nodup;rw[AI];refine EY.2 ⟨h.nd,by simp,λa ha c hc=>?_⟩;obtain⟨y,hy,rfl⟩:=AP.1 ha;rw[AE.1 (show c∈[w1.heap.size]from hc)];exact nR _ (h.hs y hy).2.1
 ·rcases AQ.1 hy with hy|hy
  ·have⟨z,hz,q⟩:=h.le y hy;exact⟨z,BE _ hz,q⟩
  ·rw[AE.1 hy];exact⟨Gi w1.heap.size n,by simp,rfl,rfl⟩
 ·rcases AQ.1 hy with hy|hy
  ·have⟨z,hz,q⟩:=h.lh y hy he;exact⟨z,BE _ hz,q⟩
  ·rw[AE.1 hy];exact⟨⟨w1.heap.size,t.clock⟩,by simp,rfl⟩
 ·rcases hk with hk|hk
  ·have:=h.low k hk;omega
  ·exact hk.2
def iO(gt:Nat)(t:ShM)(R:Nat->Prop)(n:Int)(w:World)(h:H0 (ShR w R gt t)) :
  C3 74 #[.pointer (some ⟨gt,0,none⟩),.int .u64 n] w (a0w w R gt t.v n):=by
 have⟨ln,hl⟩:=tz (Ia t.lets t.H);have d:H0 (∀W:World,C3 175 #[.pointer (some ⟨gt,0,none⟩)] w λe w'=>e=.returned (.int .u64 ln)/\Ext w w'):=j6 (λ_=>hl▸Nh gt t R w h);have HV:H0 (t.v.least=ln):=j6 hl;have⟨bm,c⟩:=tz t.bm;have a:=j6 c;have f:H0 (∀W,Ext w W->W.cell? ⟨gt,2,none⟩=some (.map (some bm))):=j6 (λW x=>c▸(h.o.bk.ext x).cell 2);clear hl c;by_cases hlt:n<ln
 ·go_enter func74,ntmps74;go_wp2_with (go_at_call 175;refine(d.o w).mono ?_;rintro r w1 ⟨rfl,x1⟩;have X1:=j6 x1;clear x1)
  go_returns;exact .inl ⟨by rw[HV.o];exact hlt,rfl,Dj.stay h.o X1.o⟩
 ·go_enter func74,ntmps74;have m1:=TI;go_wp2_with (first
   | (go_at_call 175;clear m1;refine(d.o w).mono ?_;rintro r w1 ⟨rfl,x1⟩;have X1:=j6 x1;have XA:H0 (Ext w1 (w1.alloc (.cells #[.pointer (some ⟨gt,0,none⟩),.int .u64 n,.int .u64 n,.bool false,.bool false] 215))):=j6 ((Ext.refl _).alloc _);have BG:H0 (Bk (w1.alloc (.cells #[.pointer (some ⟨gt,0,none⟩),.int .u64 n,.int .u64 n,.bool false,.bool false] 215)) w1.heap.size 215 #[.pointer (some ⟨gt,0,none⟩),.int .u64 n,.int .u64 n,.bool false,.bool false]):=j6 (Bk.new _ _ _);have c2:=f.o _ (X1.o.trans XA.o);have j:H0 (PM (w1.alloc (.cells #[.pointer (some ⟨gt,0,none⟩),.int .u64 n,.int .u64 n,.bool false,.bool false] 215)) bm t.L t.clock):=j6 (by rw[<-a.o];exact h.o.pm.ext (X1.o.trans XA.o));have i:H0 (∀x∈t.L,x.g≠w1.heap.size):=j6 (λx hx e=>by have⟨y,hy,q,_⟩:=h.o.le x hx;have:=h.o.low _ (h.o.hs y hy).2.1;have:=X1.o.size;omega);clear x1)
   | (at_mapUpdate;refine Wi rfl _ _ _ rfl rfl w1.heap.size rfl rfl j.o _ BG.o i.o ?_;intro w3 p3 g3 z3;have P3:=j6 p3;have G3:=j6 g3;have Z3:=j6 z3;clear p3 g3 z3)
   | fail)
  go_returns;refine .inr ⟨by rw[HV.o];omega,w1.heap.size,X1.o.size,rfl,?_⟩;exact h.o.add X1.o rfl (by rw[a.o];exact P3.o) (by rw[a.o];exact G3.o) Z3.o
def iQ(gt:Nat)(t:ShM)(R:Nat->Prop)(w:World)(h:H0 (ShR w R gt t)):C3 91 #[.pointer (some ⟨gt,0,none⟩)] w λe w'=>e=.returned (.int .i64 t.L.length)/\Ext w w':=by
 have⟨bm,a⟩:=tz t.bm;have c2:w.cell? ⟨gt,2,none⟩=some (.map (some bm)):=a▸h.o.bk.cell 2;have hb:PM w bm t.L t.clock:=a▸h.o.pm;have c:=hb.len 3;clear a;go_enter func91,ntmps91;go_wp2;go_ret;exact⟨rfl,Ext.refl _⟩
def kL(gt:Nat)(t:ShM)(R:Nat->Prop)(x:Hv)(w:World)(h:H0 (ShR w R gt t))(hx:H0 (x∈t.H)):C3 93 #[.pointer (some ⟨x.g,0,none⟩)] w λe w'=>e=.returned (.int .u64 x.hold)/\w'=w:=by
 have⟨g,hg⟩:=tz x.g;have c1:w.cell? ⟨g,1,none⟩=some (.int .u64 x.hold):=hg▸(h.o.hs x hx.o).1.cell 1;rw[hg];clear hg;go_enter func93,ntmps93;go_wp2;go_ret;exact⟨rfl,rfl⟩
def Bx(t:TrV)(x:Hv)(n:Int):Int×TrV:=if x.ended=true then (7,t) else if n<x.hold\/(if x.begun=true then x.seen-1 else x.seen)<n then (120,t) else (0,Aj { t with hs:=Bl t.hs { x with hold:=n } })
def Tl{t:TrV}(h:OkT t){x:Hv}(hx:x∈t.hs)(nd:(t.hs.map Hv.g).Nodup)(he:x.ended=false){n:Int}(h1:x.hold<=n)(h2:n<=(if x.begun=true then x.seen-1 else x.seen)):OkT { t with hs:=Bl t.hs { x with hold:=n } }:=by
 have c:=h.hs x hx;refine⟨h.ok,h.S,h.U,h.lets,λy hy=>?_,?_⟩
 ·rcases Ga hy with e|⟨hy,_⟩
  ·rw[e];refine⟨⟨by show 0<=n;omega,?_,c.1.2.2⟩,λhb=>⟨?_,(c.2 hb).2⟩⟩
   ·show n<=x.seen;split at h2<;>omega
   ·have d:x.begun=true:=hb;rw[if_pos d]at h2;show n+1<=x.seen;omega
  ·exact h.hs y hy
 ·refine DJ h.low ?_;show Kc t.lets _<=Kc t.lets _;have a:=Hh ((t.hs.filter λh=>!h.ended).map Hv.hold) t.lets;have b:=Hh (((Bl t.hs { x with hold:=n }).filter λh=>!h.ended).map Hv.hold) t.lets;rcases b.2.2 with q|q
  ·rw[q];exact a.1
  ·have⟨y,hy,e⟩:=AP.1 q;have⟨hy,f⟩:=BI.1 hy;rw[<-e];rcases Ga hy with e2|⟨hy,_⟩
   ·rw[e2];exact DJ (a.2.1 x.hold (AP.2 ⟨x,BI.2 ⟨hx,by simp[he]⟩,rfl⟩)) h1
   ·exact a.2.1 y.hold (AP.2 ⟨y,BI.2 ⟨hy,f⟩,rfl⟩)
def kN{q:Int×TrV}(gt:Nat)(t:ShM)(R:Nat->Prop)(x:Hv)(n:Int)(w:World)(hq:H0 (Bx t.v x n=q))(h:H0 (ShR w R gt t))(ok:H0 (OkT t.v))(hx:H0 (x∈t.H))(hn:0<=n) :
  C3 76 #[.pointer (some ⟨x.g,0,none⟩),.int .u64 n] w λe w'=>e=.returned (.int .u16 q.1)/\Dj w R gt q.2 w':=by
 have i:=ok.o.hs x hx.o;have E:H0 (x.ended=false->x.hold<=n->n<=(if x.begun=true then x.seen-1 else x.seen)->OkT { t.v with hs:=Bl t.v.hs { x with hold:=n } }):=j6 (λa b c=>Tl ok.o hx.o h.o.nd a b c);have B:H0 (∀w1,Ext w w1->ShR (w1.setCell ⟨x.g,1,none⟩ (.int .u64 n)) R gt { t with H:=Bl t.H { x with hold:=n } }/\Upd R w (w1.setCell ⟨x.g,1,none⟩ (.int .u64 n))):=j6 (λw1 x1=>by
  have hb:=(h.o.ext x1).hs x hx.o;have u:Upd (λk=>k=x.g) w1 (w1.setCell ⟨x.g,1,none⟩ (.int .u64 n)):=(Upd.refl (λk=>k=x.g) w1).setCell (p:=⟨x.g,1,none⟩) (.inl rfl) _;exact⟨(h.o.ext x1).hd (x':={ x with hold:=n }) hx.o rfl rfl u (hb.1.set 1 _),(Upd.ext x1).trans (u.mono λk _ e=>e▸hb.2.1)⟩)
 have hb:=(h.o.hs x hx.o).1;obtain⟨g,hold,seen,begun,ended⟩:=x;replace hb:Bk w g 215 #[.pointer (some ⟨gt,0,none⟩),.int .u64 hold,.int .u64 seen,.bool begun,.bool ended]:=hb;replace i:(0<=hold/\hold<=seen/\seen<=18446744073709551615)/\(begun=true->hold+1<=seen/\seen<=t.v.up):=i;have c0:=hb.cell 0;have c1:=hb.cell 1;have c2:=hb.cell 2;have c3:=hb.cell 3;have c4:=hb.cell 4;have f1:=hb.free 1;have l1:=hb.lt;simp at c0 c1 c2 c3 c4;clear hb;have l:=j6 i.2;have G:=i.1;clear i;have D:H0 (∀w1,Ext w w1->ShR (w1.setCell ⟨g,1,none⟩ (.int .u64 n)) R gt { t with H:=Bl t.H ⟨g,n,seen,begun,ended⟩ }/\Upd R w (w1.setCell ⟨g,1,none⟩ (.int .u64 n))):=B;have z:H0 (ended=false->hold<=n->n<=(if begun=true then seen-1 else seen)->OkT ⟨t.m.v,t.lets,Bl t.H ⟨g,n,seen,begun,ended⟩⟩):=E;clear B E;cases ended with
 | true =>
  have d:q=(7,t.v):=by rw[<-hq.o];rfl
  subst d;cases begun with
  | true =>
   have C:=(l.o rfl).1;have hw:IntKind.u64.wrap (seen-1)=seen-1:=by rw[EQ];omega
   go_enter func76,ntmps76;go_wp2;go_ret;exact⟨rfl,Dj.stay h.o (Ext.refl _)⟩
  | false =>
   go_enter func76,ntmps76;go_wp2;go_ret;exact⟨rfl,Dj.stay h.o (Ext.refl _)⟩
 | false =>
  have⟨mo,y⟩:=tz ((if begun=true then seen-1 else seen));have he:Bx t.v ⟨g,hold,seen,begun,false⟩ n=if n<hold\/mo<n then (120,t.v) else (0,Aj ⟨t.m.v,t.lets,Bl t.H ⟨g,n,seen,begun,false⟩⟩):=by rw[<-y];rfl
  have HQ:=j6 (he.symm.trans hq.o);rw[y]at z;have j:=j6 y;clear he hq y;by_cases h1:n<hold
  ·have d:q=(120,t.v):=by have:=HQ.o;rw[if_pos (.inl h1)]at this;exact this.symm
   subst d;cases begun with
   | true =>
    have C:=(l.o rfl).1;have hw:IntKind.u64.wrap (seen-1)=seen-1:=by rw[EQ];omega
    go_enter func76,ntmps76;go_wp2;go_ret;exact⟨rfl,Dj.stay h.o (Ext.refl _)⟩
   | false =>
    go_enter func76,ntmps76;go_wp2;go_ret;exact⟨rfl,Dj.stay h.o (Ext.refl _)⟩
  ·by_cases h2:mo<n
   ·have d:q=(120,t.v):=by have:=HQ.o;rw[if_pos (.inr h2)]at this;exact this.symm
    subst d;cases begun with
    | true =>
     have C:=(l.o rfl).1;have hw:IntKind.u64.wrap (seen-1)=seen-1:=by rw[EQ];omega
     obtain rfl:seen-1=mo:=j.o;go_enter func76,ntmps76;go_wp2;go_ret;exact⟨rfl,Dj.stay h.o (Ext.refl _)⟩
    | false =>
     obtain rfl:seen=mo:=j.o;go_enter func76,ntmps76;go_wp2;go_ret;exact⟨rfl,Dj.stay h.o (Ext.refl _)⟩
   ·have d:q=(0,Aj ⟨t.m.v,t.lets,Bl t.H ⟨g,n,seen,begun,false⟩⟩):=by have:=HQ.o;rw[if_neg (λe=>e.elim h1 h2)]at this;exact this.symm
    subst d;have A:=j6 (z.o rfl (by omega) (by omega));have f:=j6 (D.o w (Ext.refl _));cases begun with
    | true =>
     have C:=(l.o rfl).1;have hw:IntKind.u64.wrap (seen-1)=seen-1:=by rw[EQ];omega
     obtain rfl:seen-1=mo:=j.o;have F:(w.setCell ⟨g,1,none⟩ (.int .u64 n)).cell? ⟨g,0,none⟩=some (.pointer (some ⟨gt,0,none⟩)):=(f.o.1.hs _ (Ph (x:=⟨g,n,seen,true,false⟩) hx.o rfl)).1.cell 0;go_enter func76,ntmps76;go_wp2_with (go_at_call 174;refine(Im gt { t with H:=Bl t.H ⟨g,n,seen,true,false⟩ } R _ (j6 f.o.1) A).mono ?_;rintro r w2 ⟨rfl,k2⟩;have K2:H0 (Dj w R gt (Aj ⟨t.m.v,t.lets,Bl t.H ⟨g,n,seen,true,false⟩⟩) w2):=j6 (Dj.next f.o.2 k2);clear k2)
     go_ret;exact⟨rfl,K2.o⟩
    | false =>
     obtain rfl:seen=mo:=j.o;have F:(w.setCell ⟨g,1,none⟩ (.int .u64 n)).cell? ⟨g,0,none⟩=some (.pointer (some ⟨gt,0,none⟩)):=(f.o.1.hs _ (Ph (x:=⟨g,n,seen,false,false⟩) hx.o rfl)).1.cell 0;go_enter func76,ntmps76;go_wp2_with (go_at_call 174;refine(Im gt { t with H:=Bl t.H ⟨g,n,seen,false,false⟩ } R _ (j6 f.o.1) A).mono ?_;rintro r w2 ⟨rfl,k2⟩;have K2:H0 (Dj w R gt (Aj ⟨t.m.v,t.lets,Bl t.H ⟨g,n,seen,false,false⟩⟩) w2):=j6 (Dj.next f.o.2 k2);clear k2)
     go_ret;exact⟨rfl,K2.o⟩
def Lj(x:Hv):Hv:={ x with ended:=true }
def Xf(t:TrV)(x:Hv):TrV:=Aj { t with hs:=Bl t.hs (Lj x) }
def vQ{m:List Int}{n:Int}(h:∀x∈m,x∈l):Kc n l<=Kc n m:=by
 have a:=Hh l n;have b:=Hh m n;rcases b.2.2 with q|q
 ·rw[q];exact a.1
 ·exact a.2.1 _ (h _ q)
def Tn{t:TrV}(h:OkT t){x:Hv}(hx:x∈t.hs):OkT { t with hs:=Bl t.hs (Lj x) }:=by
 refine⟨h.ok,h.S,h.U,h.lets,λy hy=>?_,DJ h.low (vQ λk hk=>?_)⟩
 ·rcases Ga hy with e|⟨hy,_⟩
  ·rw[e];exact h.hs x hx
  ·exact h.hs y hy
 ·have⟨y,hy,e⟩:=AP.1 hk;have⟨hy,a⟩:=BI.1 hy;rcases Ga hy with e2|⟨hy,_⟩
  ·rw[e2]at a;exact absurd a (by simp[Lj])
  ·exact AP.2 ⟨y,BI.2 ⟨hy,a⟩,e⟩
def ShR.drop{t:ShM}(h:ShR w R gt t){x:Hv}(hx:x∈t.H)(p:PM w2 t.bm (t.L.filter λy=>!(y.g==x.g)) t.clock)(gr:(w.setCell ⟨x.g,4,none⟩ (.bool true)).grownBy w2 (some t.bm)) :
  ShR w2 R gt { t with L:=t.L.filter λy=>!(y.g==x.g),H:=Bl t.H (Lj x) }/\Upd R w w2:=by
 have⟨hb,hr,hn⟩:=h.hs x hx;have a:=hb.set 4 (.bool true);have n2:=h.hd_ne hx;have u1:Upd (λk=>k=x.g\/k=t.bm) w (w.setCell ⟨x.g,4,none⟩ (.bool true)):=(Upd.refl (λk=>k=x.g\/k=t.bm) w).setCell (p:=⟨x.g,4,none⟩) (.inl (.inl rfl)) _;have u2:Upd (λk=>k=t.bm) (w.setCell ⟨x.g,4,none⟩ (.bool true)) w2:=⟨gr.os,gr.tape,gr.output,gr.size,λk hk hn=>gr.block k hk (λe=>hn (by injection e))⟩;have u:Upd (λk=>k=x.g\/k=t.bm) w w2:=u1.trans (u2.mono λk _ e=>.inr e);have bx:Bk w2 x.g 215 ((Lj x).cs gt):=a.upd u2 n2.2;refine⟨⟨h.bk.upd u (λe=>e.elim (λe=>n2.1 e.symm) h.bm_ne),h.rg,h.sp.upd u (λk hk e=>e.elim (λe=>hn (e▸hk)) λe=>h.nb (e▸hk)),h.sub,p,h.rb,λy hy=>?_,h.nt,h.nb,by show((Bl t.H (Lj x)).map Hv.g).Nodup;rw[Sz];exact h.nd,λy hy=>?_,λy hy he=>?_,λk hk=>AZ (h.low k hk) u.size⟩,u.mono λk _ e=>e.elim (λe=>e▸hr) λe=>e▸h.rb⟩
 ·rcases Ga hy with e|⟨hy,hn'⟩
  ·rw[e];exact⟨bx,hr,hn⟩
  ·have⟨b2,r2,q2⟩:=h.hs y hy;exact⟨b2.upd u (λe=>e.elim hn' (h.hd_ne hy).2),r2,q2⟩
 ·have⟨hy,d⟩:=BI.1 hy;have⟨z,hz,e,he⟩:=h.le y hy;exact⟨z,cR hz (by show z.g≠x.g;rw[e];simpa using d),e,he⟩
 ·rcases Ga hy with e|⟨hy,hn'⟩
  ·rw[e]at he;cases he
  ·have⟨z,hz,q⟩:=h.lh y hy he;exact⟨z,BI.2 ⟨hz,by rw[q];have c:y.g≠x.g:=hn';simpa using c⟩,q⟩
def qJ(gt:Nat)(t:ShM)(R:Nat->Prop)(x:Hv)(w:World)(h:H0 (ShR w R gt t))(ok:H0 (OkT t.v))(hx:H0 (x∈t.H)) :
  C3 85 #[.pointer (some ⟨x.g,0,none⟩)] w λe w'=>e=.returned (.tuple #[])/\Dj w R gt (Xf t.v x) w':=by
 have hb:=(h.o.hs x hx.o).1;have d:=hb.set 4 (.bool true);have⟨g,hg⟩:=tz x.g;have⟨bm,a⟩:=tz t.bm;have n1:=(h.o.hd_ne hx.o).1;have n2:=(h.o.hd_ne hx.o).2;have m:=(h.o.hs x hx.o).2.1;have u1:Upd (λk=>k=x.g) w (w.setCell ⟨x.g,4,none⟩ (.bool true)):=(Upd.refl (λk=>k=x.g) w).setCell (p:=⟨x.g,4,none⟩) (.inl rfl) _;have c4:w.cell? ⟨x.g,4,none⟩=some (.bool x.ended):=hb.cell 4;have f4:=hb.free 4;have l4:=hb.lt;have i:=h.o.bk.upd u1 (λe=>n1 e.symm);have q2:(w.setCell ⟨g,4,none⟩ (.bool true)).cell? ⟨gt,2,none⟩=some (.map (some bm)):=by rw[<-hg,<-a];exact i.cell 2
 have q0:(w.setCell ⟨g,4,none⟩ (.bool true)).cell? ⟨g,0,none⟩=some (.pointer (some ⟨gt,0,none⟩)):=by rw[<-hg];exact d.cell 0
 have l:H0 (PM (w.setCell ⟨g,4,none⟩ (.bool true)) bm t.L t.clock):=j6 (by
  rw[<-hg,<-a];refine⟨(u1.block t.bm h.o.pm.lt (λe=>n2 e.symm)).trans h.o.pm.bk,h.o.pm.st,h.o.pm.nb,h.o.pm.ng,λy hy=>?_⟩;have⟨c,hc⟩:=h.o.pm.hb y hy;by_cases q:y.g=x.g
  ·exact⟨(x.cs gt).setIfInBounds 4 (.bool true),by rw[q];exact d⟩
  ·exact⟨c,hc.upd u1 q⟩)
 have BH:H0 (Bk (w.setCell ⟨g,4,none⟩ (.bool true)) g 215 ((x.cs gt).setIfInBounds 4 (.bool true))):=j6 (by rw[<-hg];exact d);have HD:H0 (∀w2,PM w2 bm (t.L.filter λy=>!(y.g==g)) t.clock->(w.setCell ⟨g,4,none⟩ (.bool true)).grownBy w2 (some bm)->ShR w2 R gt { t with L:=t.L.filter λy=>!(y.g==g),H:=Bl t.H (Lj x) }/\Upd R w w2):=j6 (λw2 p gr=>by
  rw[<-hg,<-a]at *;exact h.o.drop hx.o p gr)
 have j:=j6 (Tn ok.o hx.o);have HG:=j6 hg;rw[hg]at c4 f4 l4 ⊢;clear hb d n1 n2 m u1 i a hg;go_enter func85,ntmps85;have m1:=TI;go_wp2_with (first
  | (at_delete;refine Wj rfl _ _ rfl rfl g rfl l.o _ BH.o ?_;intro w2 p2 g2 z2;have f:=j6 (HD.o w2 p2 g2);have k0:w2.cell? ⟨g,0,none⟩=some (.pointer (some ⟨gt,0,none⟩)):=(by have q:=(f.o.1.hs _ (Ph (x:=Lj x) hx.o rfl)).1.cell 0;rw[show(Lj x).g=g from HG.o]at q;exact q);clear p2 g2 z2)
  | (go_at_call 174;clear m1;refine(Im gt { t with L:=t.L.filter λy=>!(y.g==g),H:=Bl t.H (Lj x) } R _ (j6 f.o.1) j).mono ?_;rintro r w3 ⟨rfl,k3⟩;have K3:H0 (Dj w R gt (Xf t.v x) w3):=j6 (Dj.next f.o.2 k3);clear k3)
  | fail)
 go_returns;exact⟨rfl,K3.o⟩
def Uz(x:V):∀R:List V,(addV R x).length<=R.length+1
 | []=>by simp[addV]
 | y::R=>by
  unfold addV;split
  ·have:=Uz x R;simp only[AJ];omega
  ·split<;>simp
def Ju(L:List V):(sumAll L).length<=L.length:=by
 refine Jg (p:=λL=>(sumAll L).length<=L.length) (AD _) (λL x ih=>?_) L;have e:sumAll (L++[x])=addV (sumAll L) x:=by unfold sumAll;rw[DU];rfl
 rw[e,AA];have:=Uz x (sumAll L);simp only[AO];omega
def bX(B:List (List Dat×Int))(e:Int):List UV:=B.map λx=>((x.1,(e,[])),x.2)
def cB(e:Int)(u:UV):Bool:=decide (e<=u.1.2.1)
def Kk(all:List UV)(begun:Bool)(seen:Int):List UV:=(if begun=true then [] else bX (sumV (atV all (seen,[]))) seen)++all.filter (cB (if begun=true then seen else seen+1))
def Cj(x:Hv)(up:Int):Hv:={ x with begun:=true,seen:=up }
def Cl(t:TrV)(x:Hv):Int×List UV×Int×Hv :=
 if x.ended=true then (7,[],0,x) else if x.begun=false/\t.up<=x.seen then (0,[],x.seen,x) else (0,UdS.sumV (Kk (Dr t.s) x.begun x.seen),t.up,Cj x t.up)
def Nb{H:List Hv}(nd:(H.map Hv.g).Nodup){x:Hv}(hx:x∈H):Bl H x=H:=by
 unfold Bl;have:∀y∈H,(if y.g=x.g then x else y)=y:=λy hy=>by
  split
  ·rename_i h;exact(Iq nd hy hx h).symm
  ·rfl
 rw[DZ this,List.map_id']
def xO{all:List UV}(h:∀u∈all,Db u){e:Int}(he:0<=e/\e<=18446744073709551615):∀u∈bX (sumV (atV all (e,[]))) e,Db u:=λu hu=>by
 obtain⟨x,hx,rfl⟩:=AP.1 hu;obtain⟨h1,_,y,hy,e1⟩:=sumV_mem (λz hz=>by have⟨v,hv,q⟩:=aC h _ z hz;rw[q];exact(h v hv).1.num) hx;have⟨v,hv,q⟩:=aC h _ y hy;have⟨a,b,c⟩:=h v hv;have e2:v.1.1=x.1:=by rw[q]at e1;exact e1
 refine⟨⟨?_,?_,h1,?_,λy hy=>(nomatch hy),AG _,he⟩,rfl,?_⟩
 ·show Nr x.1;rw[<-e2];exact a.txt
 ·show Ns x.1;rw[<-e2];exact a.int
 ·show x.1.length<=_;rw[<-e2];exact a.len
 ·show Bh x.1=0;rw[<-e2];exact c
def Mc{s:SV}(h:OkV s){b:Bool}{e:Int}(he:0<=e/\e<=18446744073709551615):∀u∈Kk (Dr s) b e,Db u:=λu hu=>by
 rcases AQ.1 hu with hu|hu
 ·split at hu
  ·cases hu
  ·exact xO (Mj h) he u hu
 ·exact Mj h u (BI.1 hu).1
def Sg(all:List UV)(b:Bool)(e:Int):(Kk all b e).length<=2*all.length:=by
 unfold Kk;rw[AA];have h1:=DB (cB (if b=true then e else e+1)) all;have h2:(if b=true then [] else bX (sumV (atV all (e,[]))) e).length<=all.length:=by
  split
  ·exact AG _
  ·unfold bX;rw[AN];refine AR (AR (DB _ _) (Ju _)) ?_;unfold atV;rw[AN];exact DB _ _
 omega
def mQ:Gr prog 125 132 1 8 (.pointer none):=⟨by kernel_rfl,by kernel_rfl,rfl,by decide⟩
def Dw(g:Nat):Value:=.pointer (some ⟨g,0,none⟩)
def rhC(gr:Nat)(x:Hv)(f s:Int):Array Value:=#[Dw gr,.int .u64 x.hold,.int .u64 f,.int .u64 s,.bool (!x.begun),.bool x.ended]
def RhR(w:World)(gr g:Nat)(x:Hv):Prop:=∃f s,Bk w g 140 (rhC gr x f s)/\(x.begun=false->f=x.seen)/\(x.begun=true->s=x.seen)
def RhR.ext{gr:Nat}{x:Hv}(h:RhR w gr g x)(y:Ext w w'):RhR w' gr g x:=by
 obtain⟨f,s,b,k⟩:=h;exact⟨f,s,b.ext y,k⟩
def RhR.upd{gr:Nat}{x:Hv}(h:RhR w gr g x)(y:Upd S w w')(hS:¬S g):RhR w' gr g x:=by
 obtain⟨f,s,b,k⟩:=h;exact⟨f,s,b.upd y hS,k⟩
def RhR.ty{gr:Nat}{x:Hv}(h:RhR w gr g x):Ty w g 140:=by
 obtain⟨f,s,b,_⟩:=h;exact b.ty
structure RTM where
 gs:Nat
 q:RSM
 A:Option Addr
 c:Nat
 ps:List (Nat×Hv)
structure RTr (w0 w:World) (KS KT:Nat->Prop) (gr:Nat) (t:RTM) (v:TrV):Prop where
 bk:Bk w gr 128 #[Dw t.gs,.int .u64 v.lets,.slice t.A t.ps.length t.c]
 kg:KT gr
 lo:w0.heap.size<=gr
 rs:RSR w0 w KS t.gs t.q
 qv:t.q.v=v.s
 ow:Own w w0.heap.size 132 1 t.A t.ps.length t.c (t.ps.map λp=>Dw p.1)
 ko:∀k,blk t.A t.c=some k->KT k
 hv:t.ps.map (·.2)=v.hs
 hs:∀p∈t.ps,RhR w gr p.1 p.2
 hk:∀p∈t.ps,KT p.1/\w0.heap.size<=p.1
 nd:(t.ps.map (·.1)).Nodup
 ap:∀k,KS k->¬KT k
 low:∀k,KS k\/KT k->k<w.heap.size
section
variable{w0 w w':World}{KS KT KT' S:Nat->Prop}{gr:Nat}{t:RTM}{v:TrV}
def RTr.ext(h:RTr w0 w KS KT gr t v)(x:Ext w w'):RTr w0 w' KS KT gr t v:=⟨h.bk.ext x,h.kg,h.lo,h.rs.ext x,h.qv,h.ow.ext x,h.ko,h.hv,λp hp=>(h.hs p hp).ext x,h.hk,h.nd,h.ap,λk hk=>AZ (h.low k hk) x.size⟩
def RTr.upd(h:RTr w0 w KS KT gr t v)(x:Upd S w w')(hS:∀k,KS k->¬S k)(hT:∀k,KT k->¬S k)(hx:Ext w0 w'):RTr w0 w' KS KT gr t v :=
 ⟨h.bk.upd x (hT _ h.kg),h.kg,h.lo,h.rs.upd x hS hx,h.qv,h.ow.upd x λk hk=>hT k (h.ko k hk),h.ko,h.hv,λp hp=>(h.hs p hp).upd x (hT _ (h.hk p hp).1),h.hk,h.nd,h.ap,λk hk=>AZ (h.low k hk) x.size⟩
def RTr.spine{q':RSM}{s':SV}(h:RTr w0 w KS KT gr t v)(x:Upd KS w w')(r:RSR w0 w' (Rg KS w w') t.gs q')(hv:q'.v=s'):RTr w0 w' (Rg KS w w') KT gr { t with q:=q' } { v with s:=s' }:=
 have n:∀k,KT k->¬KS k:=λk a b=>h.ap k b a
 ⟨h.bk.upd x (n _ h.kg),h.kg,h.lo,r,hv,h.ow.upd x λk hk=>n k (h.ko k hk),h.ko,h.hv,λp hp=>(h.hs p hp).upd x (n _ (h.hk p hp).1),h.hk,h.nd,λk hk e=>hk.elim (λa=>h.ap k a e) (λa=>by have:=h.low k (.inr e);omega),λk hk=>hk.elim (λa=>a.elim (λa=>AZ (h.low k (.inl a)) x.size) λa=>a.2) λa=>AZ (h.low k (.inr a)) x.size⟩
def RTr.put_lets(h:RTr w0 w KS KT gr t v)(n:Int):RTr w0 (w.setCell ⟨gr,1,none⟩ (.int .u64 n)) KS KT gr t { v with lets:=n }:=by
 have u:Upd (λk=>k=gr) w (w.setCell ⟨gr,1,none⟩ (.int .u64 n)):=(Upd.refl (λk=>k=gr) w).setCell (p:=⟨gr,1,none⟩) (.inl rfl) _;exact⟨h.bk.set 1 _,h.kg,h.lo,h.rs.upd u (λk hk e=>by subst e;exact h.ap _ hk h.kg) (h.rs.b.ex.set (p:=⟨gr,1,none⟩) h.lo _),h.qv,h.ow.upd u λk hk e=>by subst e;exact absurd ((h.ow.ty hk).ne h.bk.ty) (by decide),h.ko,h.hv,
  λp hp=>(h.hs p hp).upd u λe=>by have:=(h.hs p hp).ty;rw[e]at this;exact absurd (this.ne h.bk.ty) (by decide),h.hk,h.nd,h.ap,λk hk=>AZ (h.low k hk) u.size⟩
def Ff(ps:List (Nat×Hv))(x:Hv):List (Nat×Hv):=ps.map λp=>if p.2.g=x.g then (p.1,x) else p
def Ma(ps:List (Nat×Hv))(x:Hv):(Ff ps x).map (·.1)=ps.map (·.1):=by
 unfold Ff;rw[CO];exact DZ λp _=>by show(if p.2.g=x.g then (p.1,x) else p).1=p.1;split<;>rfl
def uF(ps:List (Nat×Hv))(x:Hv):(Ff ps x).map (·.2)=Bl (ps.map (·.2)) x:=by
 unfold Ff Bl;rw[CO,CO];exact DZ λp _=>by show(if p.2.g=x.g then (p.1,x) else p).2=_;split<;>simp_all
def Pg(ps:List (Nat×Hv))(x:Hv):(Ff ps x).length=ps.length:=by unfold Ff;rw[AN]
def vS{ps:List (Nat×Hv)}(nd:(ps.map (·.1)).Nodup){a b:Nat×Hv}(ha:a∈ps)(hb:b∈ps)(e:a.1=b.1):a=b:=by
 induction ps with
 | nil=>cases ha
 | cons p l ih =>
  rw[CJ,FZ]at nd;rcases AY.1 ha with ea|ha2<;>rcases AY.1 hb with eb|hb2
  ·exact ea.trans eb.symm
  ·exact absurd (AP.2 ⟨b,hb2,by rw[<-e,ea]⟩) nd.1
  ·exact absurd (AP.2 ⟨a,ha2,by rw[e,eb]⟩) nd.1
  ·exact ih nd.2 ha2 hb2
def cN{ps:List (Nat×Hv)}(nd:((ps.map (·.2)).map Hv.g).Nodup){a b:Nat×Hv}(ha:a∈ps)(hb:b∈ps)(e:a.2.g=b.2.g):a=b:=by
 induction ps with
 | nil=>cases ha
 | cons p l ih =>
  rw[CJ,CJ,FZ]at nd;have k:∀{c:Nat×Hv},c∈l->c.2.g∈(l.map (·.2)).map Hv.g:=λhc=>AP.2 ⟨_,AP.2 ⟨_,hc,rfl⟩,rfl⟩;rcases AY.1 ha with ea|ha2<;>rcases AY.1 hb with eb|hb2
  ·exact ea.trans eb.symm
  ·exact absurd (by have:=k hb2;rwa [<-e,ea]at this) nd.1
  ·exact absurd (by have:=k ha2;rwa [e,eb]at this) nd.1
  ·exact ih nd.2 ha2 hb2
def RTr.handle{x x':Hv}(h:RTr w0 w KS KT gr t v)(ng:(v.hs.map Hv.g).Nodup)(hp:(g,x)∈t.ps)(u:Upd (λk=>k=g) w w')(hg:x'.g=x.g)(r:RhR w' gr g x'):RTr w0 w' KS KT gr { t with ps:=Ff t.ps x' } { v with hs:=Bl v.hs x' }:=by
 have f:=(h.hs _ hp).ty;have d:=h.hk _ hp;have ne:∀k e,Ty w k e->e≠140->¬k=g:=λk e a b c=>by subst c;exact b (a.ne f)
 have ex:=Hj h.rs.b.ex u λk hk=>by rw[hk];exact d.2
 refine⟨?_,h.kg,h.lo,h.rs.upd u (λk hk e=>by subst e;exact h.ap _ hk d.1) ex,h.qv,?_,h.ko,?_,λp hq=>?_,λp hq=>?_,?_,h.ap,λk hk=>AZ (h.low k hk) u.size⟩
 ·show Bk w' gr _ #[Dw t.gs,.int .u64 v.lets,.slice t.A (Ff t.ps x').length t.c];rw[Pg];exact h.bk.upd u (ne _ _ h.bk.ty (by decide))
 ·show Own w' w0.heap.size _ 1 t.A (Ff t.ps x').length t.c ((Ff t.ps x').map λp=>Dw p.1);have e:(Ff t.ps x').map (λp=>Dw p.1)=t.ps.map λp=>Dw p.1:=by
   have:=congrArg (List.map Dw) (Ma t.ps x')
   rwa [CO,CO]at this
  rw[Pg,e];exact h.ow.upd u λk hk=>ne _ _ (h.ow.ty hk) (by decide)
 ·show(Ff t.ps x').map (·.2)=Bl v.hs x';rw[uF,h.hv]
 ·have⟨p0,h0,e⟩:=AP.1 hq;have i:((t.ps.map (·.2)).map Hv.g).Nodup:=by rw[h.hv];exact ng
  split at e
  ·rename_i hc;have:p0=(g,x):=cN i h0 hp (hc.trans hg);subst e;rw[this];exact r
  ·rename_i hc;subst e;refine(h.hs p0 h0).upd u λe=>hc ?_;have:p0=(g,x):=vS h.nd h0 hp e;rw[this,hg]
 ·have⟨p0,h0,e⟩:=AP.1 hq;split at e
  ·subst e;exact h.hk p0 h0
  ·subst e;exact h.hk p0 h0
 ·show((Ff t.ps x').map (·.1)).Nodup;rw[Ma];exact h.nd
end
def RTo(w0 w:World)(KS KT:Nat->Prop)(gr:Nat)(ps:List (Nat×Hv))(v':TrV)(w':World):Prop:=∃t' KS' KT',RTr w0 w' KS' KT' gr t' v'/\t'.ps=ps/\(∀k,KS' k\/KT' k->(KS k\/KT k)\/(w.heap.size<=k/\k<w'.heap.size))/\Upd (λk=>KS k\/KT k) w w'
section
variable{w0 w w1 w':World}{KS KT:Nat->Prop}{gr:Nat}{t:RTM}{v:TrV}
def RTo.stay(h:RTr w0 w KS KT gr t v)(x:Ext w w'):RTo w0 w KS KT gr t.ps v w':=⟨t,KS,KT,h.ext x,rfl,λk hk=>.inl hk,Upd.ext x⟩
def RTo.spine{q':RSM}{s':SV}(h:RTr w0 w KS KT gr t v)(x:Ext w w1)(u:Upd KS w1 w')(r:RSR w0 w' (Rg KS w1 w') t.gs q')(hv:q'.v=s'):RTo w0 w KS KT gr t.ps { v with s:=s' } w':=by
 have z:=x.size;exact⟨_,_,KT,(h.ext x).spine u r hv,rfl,λk hk=>hk.elim (λa=>a.elim (λa=>.inl (.inl a)) λa=>.inr ⟨by omega,a.2⟩) λa=>.inl (.inr a),(Upd.ext x).trans (u.mono λk _ hk=>.inl hk)⟩
def kF{H:List Hv}(hi:i<H.length){n:Int}{x:Hv}(hx:H.getD i ⟨0,0,0,false,false⟩=x):Ia n (H.take (i+1))=if x.ended=true then Ia n (H.take i) else min (Ia n (H.take i)) x.hold:=by
 have e:H.take (i+1)=H.take i++[x]:=by
  rw[FM,AC hi,<-hx,AB,AC hi];rfl
 unfold Ia Kc;rw[e,CT,AI,DU];cases hb:x.ended with
 | true=>simp[hb]
 | false=>simp[hb]
def Np(H:List Hv):Nat:=(H.filter λh=>!h.ended).length
def pU{H:List Hv}(hi:i<H.length){x:Hv}(hx:H.getD i ⟨0,0,0,false,false⟩=x):Np (H.take (i+1))=if x.ended=true then Np (H.take i) else Np (H.take i)+1:=by
 have e:H.take (i+1)=H.take i++[x]:=by
  rw[FM,AC hi,<-hx,AB,AC hi];rfl
 unfold Np;rw[e,CT,AA];cases hb:x.ended with
 | true=>simp[hb]
 | false=>simp[hb]
def RTr.at(h:RTr w0 w KS KT gr t v){i:Nat}(hi:i<t.ps.length):∃ad g x,t.A=some ad/\w.cell? (ad.add i)=some (Dw g)/\(g,x)∈t.ps/\v.hs.getD i ⟨0,0,0,false,false⟩=x/\RhR w gr g x:=by
 obtain⟨ad,e,hc⟩:=h.ow.sl.2.2.2.2 (by omega);refine⟨ad,(t.ps[i]'hi).1,(t.ps[i]'hi).2,e,hc i _ ?_,BR hi,?_,h.hs _ (BR hi)⟩
 ·rw[CG,AC hi];rfl
 ·rw[<-h.hv,AB,CG,AC hi];rfl
end
def Jj{n:Int}(w0:World)(KS KT:Nat->Prop)(gr:Nat)(t:RTM)(v:TrV)(w:World)(hn:H0 (v.least=n))(h:H0 (RTr w0 w KS KT gr t v))(h9:t.ps.length<=1000000):C3 88 #[.pointer (some ⟨gr,0,none⟩)] w λe w'=>e=.returned (.int .u64 n)/\w=w':=by
 have⟨N,hN⟩:=E9 t.ps.length;have HN:=j6 hN;have c1:w.cell? ⟨gr,1,none⟩=some (.int .u64 v.lets):=h.o.bk.cell 1;have c2:w.cell? ⟨gr,2,none⟩=some (.slice t.A N t.c):=hN▸h.o.bk.cell 2;have j:H0 (v.hs.length=N):=j6 (by rw[<-h.o.hv,AN,hN]);rw[<-hN]at h9;have⟨tA,d⟩:=tz t.A;have l:=j6 d;rw[d]at c2;clear hN d;go_enter func88,ntmps88;go_wp2
 go_loopg [3,4] N (λz u k wr=>∃(i:Nat) (m:Int),z=N-i/\i<=N/\u=.int .u64 m/\k=.int .i64 i/\H0 (m=Ia v.lets (v.hs.take i))/\wr=w)
 case atStart=>exact⟨0,v.lets,rfl,AG _,rfl,rfl,j6 rfl,rfl⟩
 case round =>
  obtain⟨i,m,rfl,hi,rfl,rfl,HM,rfl⟩:=hrel;by_cases hlt:i<N
  ·obtain⟨ad,g,x,hA,p0,_,hx,f,s,b,_⟩:=h.o.at (i:=i) (by rw[<-HN.o];exact hlt);obtain rfl:tA=some ad:=l.o.symm.trans hA;have q1:wr.cell? ⟨g,1,none⟩=some (.int .u64 x.hold):=b.cell 1;have q5:wr.cell? ⟨g,5,none⟩=some (.bool x.ended):=b.cell 5;rw[show Dw g=.pointer (some ⟨g,0,none⟩)from rfl]at p0;have HL:=j6 (kF (H:=v.hs) (i:=i) (n:=v.lets) (by rw[j.o];exact hlt) hx);clear hA hx b;cases hb:x.ended with
   | true =>
    rw[hb]at q5;have HE:=j6 hb;clear hb;go_wp2
    go_roundg (N-(i+1))
    case measure=>omega
    case rel=>exact⟨i+1,m,by omega,by omega,rfl,by go_num,j6 (by rw[HL.o,if_pos HE.o];exact HM.o),rfl⟩
   | false =>
    rw[hb]at q5;have HE:=j6 hb;have⟨y,hy⟩:=tz (min m x.hold);have q:(if x.hold<m then x.hold else m)=y:=by rw[<-hy];split<;>omega
    have HY:=j6 hy;clear hb;go_wp2
    go_roundg (N-(i+1))
    case measure=>omega
    case rel=>exact⟨i+1,y,by omega,by omega,rfl,by go_num,j6 (by rw[HL.o,if_neg (by rw[HE.o];decide),<-HM.o];exact HY.o.symm),rfl⟩
  ·obtain rfl:i=N:=by omega
   go_wp2;go_ret;refine⟨?_,rfl⟩;have e:=HM.o;rw[AW (by rw[j.o];exact AD _)]at e;rw[e,<-hn.o];rfl
def Uy(w0:World)(KS KT:Nat->Prop)(gr:Nat)(t:RTM)(v:TrV)(w:World)(h:H0 (RTr w0 w KS KT gr t v))(h9:t.ps.length<=1000000):C3 92 #[.pointer (some ⟨gr,0,none⟩)] w λe w'=>e=.returned (.int .i64 (Np v.hs))/\w=w':=by
 have⟨N,hN⟩:=E9 t.ps.length;have HN:=j6 hN;have c2:w.cell? ⟨gr,2,none⟩=some (.slice t.A N t.c):=hN▸h.o.bk.cell 2;have j:H0 (v.hs.length=N):=j6 (by rw[<-h.o.hv,AN,hN]);rw[<-hN]at h9;have⟨tA,d⟩:=tz t.A;have l:=j6 d;rw[d]at c2;have⟨R,hR⟩:=tz (Np v.hs);have HR:=j6 hR;rw[hR];clear hN d hR;go_enter func92,ntmps92;go_wp2
 go_loopg [3,4] N (λz u k wr=>∃(i m:Nat),z=N-i/\i<=N/\m<=i/\u=.int .i64 m/\k=.int .i64 i/\H0 (m=Np (v.hs.take i))/\wr=w)
 case atStart=>exact⟨0,0,rfl,AG _,AD _,rfl,rfl,j6 rfl,rfl⟩
 case round =>
  obtain⟨i,m,rfl,hi,n,rfl,rfl,HM,rfl⟩:=hrel;by_cases hlt:i<N
  ·obtain⟨ad,g,x,hA,p0,_,hx,f,s,b,_⟩:=h.o.at (i:=i) (by rw[<-HN.o];exact hlt);obtain rfl:tA=some ad:=l.o.symm.trans hA;have q5:wr.cell? ⟨g,5,none⟩=some (.bool x.ended):=b.cell 5;rw[show Dw g=.pointer (some ⟨g,0,none⟩)from rfl]at p0;have HL:=j6 (pU (H:=v.hs) (i:=i) (by rw[j.o];exact hlt) hx);clear hA hx b;cases hb:x.ended with
   | true =>
    rw[hb]at q5;have HE:=j6 hb;clear hb;go_wp2
    go_roundg (N-(i+1))
    case measure=>omega
    case rel=>exact⟨i+1,m,by omega,by omega,by omega,rfl,by go_num,j6 (by rw[HL.o,if_pos HE.o];exact HM.o),rfl⟩
   | false =>
    rw[hb]at q5;have HE:=j6 hb;clear hb;go_wp2
    go_roundg (N-(i+1))
    case measure=>omega
    case rel=>exact⟨i+1,m+1,by omega,by omega,by omega,by go_num,by go_num,j6 (by rw[HL.o,if_neg (by rw[HE.o];decide),<-HM.o]),rfl⟩
  ·obtain rfl:i=N:=by omega
   go_wp2;go_ret;refine⟨?_,rfl⟩;have e:=HM.o;rw[AW (by rw[j.o];exact AD _),HR.o]at e;subst e;rfl
def Gy{n:Int}(w0:World)(KS KT:Nat->Prop)(gr:Nat)(t:RTM)(v:TrV)(w:World)(hn:H0 (v.up=n))(h:H0 (RTr w0 w KS KT gr t v))(ok:H0 (OkT v)):C3 90 #[.pointer (some ⟨gr,0,none⟩)] w λe w'=>e=.returned (.int .u64 n)/\w=w':=by
 have⟨u,hu⟩:=ok.o.U;have a:u=n:=by rw[<-hn.o];unfold TrV.up;rw[hu];rfl
 subst a;have hq:t.q.U.map Tm.v=[(u,[])]:=by rw[<-hu,<-h.o.qv];rfl
 have hl:t.q.U.length=1:=by have:=congrArg List.length hq;rwa [AN]at this
 obtain⟨ad,hA,p0,_⟩:=(h.o.rs.b.up.tin h.o.rs.b.ex).at (i:=0) (by omega);have he:(t.q.U.getD 0 Tm.zero).e=u:=by
  cases hU:t.q.U with
  | nil=>rw[hU]at hl;cases hl
  | cons y l =>
   rw[hU]at hq;have:=List.head_eq_of_cons_eq hq;exact congrArg Prod.fst this
 rw[he,show ad.add (0*2)=ad from by cases ad;rfl]at p0;have c0:w.cell? ⟨gr,0,none⟩=some (.pointer (some ⟨t.gs,0,none⟩)):=h.o.bk.cell 0;have c4:w.cell? ⟨t.gs,4,none⟩=some (.slice (some ad) 1 t.q.uc):=by have:=h.o.rs.bk.cell 4;rw[<-hA,<-hl];exact this
 go_enter func90,ntmps90;go_wp2;go_ret;exact⟨rfl,rfl⟩
section
variable{w0 w w1 w':World}{KS KT:Nat->Prop}{gr:Nat}{t:RTM}{v:TrV}
def tR{T:Nat->Prop}{a b c:World}(h:Upd S a b)(k:Upd T b c)(hs:∀q,q<a.heap.size->T q->S q):Upd S a c :=
 ⟨k.os.trans h.os,k.tape.trans h.tape,k.output.trans h.output,AR h.size k.size,λq hq hn=>(k.block q (AZ hq h.size) (λe=>hn (hs q hq e))).trans (h.block q hq hn)⟩
def RTr.rg(h:RTr w0 w KS KT gr t v)(x:Ext w w1):RTr w0 w1 (Rg KS w w1) KT gr t v:=by
 have y:=h.ext x;exact⟨y.bk,y.kg,y.lo,y.rs.wide λ_ _ hk=>.inl hk,y.qv,y.ow,y.ko,y.hv,y.hs,y.hk,y.nd,λk hk e=>hk.elim (λa=>h.ap k a e) (λa=>by have:=h.low k (.inr e);omega),λk hk=>hk.elim (λa=>a.elim (λa=>y.low k (.inl a)) λa=>a.2) λa=>y.low k (.inr a)⟩
def RTo.lit{q':RSM}{s':SV}(h:RTr w0 w KS KT gr t v)(x:Ext w w1)(u:Upd (Rg KS w w1) w1 w')(r:RSR w0 w' (Rg (Rg KS w w1) w1 w') t.gs q')(hv:q'.v=s'):RTo w0 w KS KT gr t.ps { v with s:=s' } w':=by
 have z:=x.size;have z1:=u.size;refine⟨_,_,KT,(h.rg x).spine u r hv,rfl,λk hk=>?_,tR (Upd.ext x) u λk lo hk=>hk.elim .inl λa=>by omega⟩;rcases hk with (a|a)|a
 ·exact a.elim (λa=>.inl (.inl a)) λa=>.inr ⟨a.1,AZ a.2 z1⟩
 ·exact .inr ⟨AR z a.1,a.2⟩
 ·exact .inl (.inr a)
def lS(hx:Ext w0 w)(n:Int):RtR w0 (w.alloc (.cells #[.int .u64 n,.slice none 0 0] 26)) (Rg KS w (w.alloc (.cells #[.int .u64 n,.slice none 0 0] 26))) (some ⟨w.heap.size,0,none⟩) 1 [⟨n,none,0,[]⟩]:=by
 refine .inr ⟨⟨rfl,.inr ⟨w.heap.size,_,rfl,hx.size,Bk.new w _ _,AD _,by decide,(by show 1*2<=2;omega),by rfl⟩⟩,λk hk=>?_,λx hx=>by rw[AE.1 hx];exact⟨rfl,rfl,rfl⟩⟩;injection hk with hk;have hk:w.heap.size=k:=hk;exact .inr ⟨by omega,by simp;omega⟩
def RTr.uS(h:RTr w0 w KS KT gr t v)(ok:OkT v){s:Int}(hs:Jp v.s.S=s):∃ad,t.q.sA=some ad/\t.q.S.length=1/\w.cell? ad=some (.int .u64 s):=by
 have⟨u,hu⟩:=ok.S;have a:u=s:=by rw[<-hs,hu];rfl
 subst a;have hq:t.q.S.map Tm.v=[(u,[])]:=by rw[<-hu,<-h.qv];rfl
 have hl:t.q.S.length=1:=by have:=congrArg List.length hq;rwa [AN]at this
 obtain⟨ad,hA,p0,_⟩:=(h.rs.b.sn.tin h.rs.b.ex).at (i:=0) (by omega);have he:(t.q.S.getD 0 Tm.zero).e=u:=by
  cases hU:t.q.S with
  | nil=>rw[hU]at hl;cases hl
  | cons y l =>
   rw[hU]at hq;have:=List.head_eq_of_cons_eq hq;exact congrArg Prod.fst this
 rw[he,show ad.add (0*2)=ad from by cases ad;rfl]at p0;exact⟨ad,hA,hl,p0⟩
end
def Nd(w0:World)(KS KT:Nat->Prop)(gr:Nat)(t:RTM)(v:TrV)(w:World)(h:H0 (RTr w0 w KS KT gr t v))(ok:H0 (OkT v))(h9:t.ps.length<=1000000):C3 176 #[.pointer (some ⟨gr,0,none⟩)] w λe w'=>e=.returned (.tuple #[])/\RTo w0 w KS KT gr t.ps (Aj v) w':=by
 have⟨s,he⟩:=tz (Jp v.s.S);have⟨n,hn⟩:=tz v.least;have⟨ad,hA,hl,p0⟩:=h.o.uS ok.o he;have HE:=j6 he;have HN:=j6 hn;have⟨gs,a⟩:=tz t.gs;have c0:w.cell? ⟨gr,0,none⟩=some (.pointer (some ⟨gs,0,none⟩)):=a▸h.o.bk.cell 0;have c3:w.cell? ⟨gs,3,none⟩=some (.slice (some ad) 1 t.q.sc):=by have:=h.o.rs.bk.cell 3;rw[<-hA,<-hl,<-a];exact this
 have d:=j6 a;clear a hA he;have f:=j6 (Jj (n:=n) w0 KS KT gr t v w HN h h9);by_cases hlt:s<n
 ·have hq:=Io ok.o (by rw[HE.o,HN.o];exact hlt);rw[HN.o]at hq;have HQ:H0 (Cy t.q.v ([(⟨n,none,0,[]⟩:Tm)].map Tm.v)=(0,(Aj v).s)):=j6 (by rw[h.o.qv];exact hq);clear hq hn;go_enter func176,ntmps176;go_wp2_with (first
   | (go_at_call 88;refine f.o.mono ?_;rintro r w1 ⟨rfl,rfl⟩)
   | (go_at_call 61;refine(aQ (q:=(0,(Aj v).s)) w0 gs t.q (Rg KS w (w.alloc (.cells #[.int .u64 n,.slice none 0 0] 26))) (some ⟨w.heap.size,0,none⟩) 1 1 [⟨n,none,0,[]⟩] _ HQ (j6 (d.o▸(h.o.rg ((Ext.refl w).alloc _)).rs)) (j6 rfl) (j6 (lS h.o.rs.b.ex n))).mono ?_;rintro r w2 c;have HR:=j6 c;obtain⟨m2,rfl,hx⟩:=c;clear hx)
   | fail)
  go_returns;have⟨m3,_,s5,v5,u5⟩:=HR.o;rw[<-d.o]at s5;exact⟨rfl,RTo.lit h.o ((Ext.refl w).alloc _) u5 s5 v5⟩
 ·have hq:=Hn (t:=v) (by rw[HE.o,HN.o];exact hlt);rw[hq];clear hq hn;go_enter func176,ntmps176;go_wp2_with (go_at_call 88;refine f.o.mono ?_;rintro r w1 ⟨rfl,rfl⟩)
  go_returns;exact⟨rfl,RTo.stay h.o (Ext.refl _)⟩
section
variable{w0 w w1 w':World}{KS KT:Nat->Prop}{gr:Nat}{t:RTM}{v v1 v':TrV}
def RTo.after{ps:List (Nat×Hv)}(u:Upd (λk=>KS k\/KT k) w w1)(r:RTo w0 w1 KS KT gr ps v' w'):RTo w0 w KS KT gr ps v' w':=by
 obtain⟨t',c,d,h1,h2,h3,h4⟩:=r;have z:=u.size;exact⟨t',c,d,h1,h2,λk hk=>(h3 k hk).imp id λa=>⟨AR z a.1,a.2⟩,u.trans h4⟩
end
def oJ{q:Int×TrV}(w0:World)(KS KT:Nat->Prop)(gr:Nat)(t:RTM)(v:TrV)(AL:Option Addr)(cL n:Nat)(L:List Ud)(u:Int)(w:World)(hq:H0 (Hp v (L.map Ud.uv) u=q))(x0:H0 (Ext w0 w))(h:H0 (RTr w0 w KS KT gr t v))(hn:H0 (n=L.length))(hL:H0 (Uin w0 AL cL L))(h9:n<=1000000)(hin:H0 (∀x∈L,InU x))(htx:H0 (∀x∈L,∀d∈x.l,d.s.size<=10000000000000))(hb9:t.q.bs.length<=1000000) :
  C3 78 #[.pointer (some ⟨gr,0,none⟩),.slice AL n cL,.int .u64 u] w λe w'=>e=.returned (.int .i64 q.1)/\RTo w0 w KS KT gr t.ps q.2 w':=by
 have⟨gs,a⟩:=tz t.gs;have c0:w.cell? ⟨gr,0,none⟩=some (.pointer (some ⟨gs,0,none⟩)):=a▸h.o.bk.cell 0;have f:=j6 a;have⟨s,hs⟩:=tz (Cd v.s (L.map Ud.uv) [(u,[])]);have HQ:H0 (Cd t.q.v (L.map Ud.uv) ([(⟨u,none,0,[]⟩:Tm)].map Tm.v)=s):=j6 (by rw[h.o.qv];exact hs);have i:q=(s.1,{ v with s:=s.2 }):=by rw[<-hq.o,<-hs];rfl
 subst i;clear a hs hq;go_enter func78,ntmps78;go_wp2_with (first
  | (go_at_call 57;refine(uM (q:=s) w0 gs t.q (Rg KS w (w.alloc (.cells #[.int .u64 u,.slice none 0 0] 26))) AL cL n L (some ⟨w.heap.size,0,none⟩) 1 1 [⟨u,none,0,[]⟩] _ HQ (j6 (x0.o.alloc _)) (j6 (f.o▸(h.o.rg ((Ext.refl w).alloc _)).rs)) hn hL h9 hin htx (j6 rfl) (j6 (lS h.o.rs.b.ex u)) hb9).mono ?_;rintro r w2 c;have HR:=j6 c;obtain⟨m2,rfl,hx⟩:=c;clear hx)
  | fail)
 go_ret;have⟨m3,_,s5,v5,u5⟩:=HR.o;rw[<-f.o]at s5;exact⟨rfl,RTo.lit h.o ((Ext.refl w).alloc _) u5 s5 v5⟩
def jT{q:Int×TrV}(w0:World)(KS KT:Nat->Prop)(gr:Nat)(t:RTM)(v:TrV)(n:Int)(w:World)(hq:H0 (Fw v n=q))(h:H0 (RTr w0 w KS KT gr t v))(ok:H0 (OkT v))(h9:t.ps.length<=1000000) :
  C3 79 #[.pointer (some ⟨gr,0,none⟩),.int .u64 n] w λe w'=>e=.returned (.int .i64 q.1)/\RTo w0 w KS KT gr t.ps q.2 w':=by
 have⟨lt,hl⟩:=tz v.lets;have⟨up,hu⟩:=tz v.up;have he:Fw v n=if n<lt\/up<n then (120,v) else (0,Aj { v with lets:=n }):=by rw[<-hl,<-hu];rfl
 have HQ:=j6 (he.symm.trans hq.o);have g:=j6 hl;have d:=j6 hu;have f:=j6 (Gy (n:=up) w0 KS KT gr t v w d h ok);have c1:w.cell? ⟨gr,1,none⟩=some (.int .u64 lt):=hl▸h.o.bk.cell 1;clear hl hu he hq;by_cases h1:n<lt
 ·have a:q=(120,v):=by have:=HQ.o;rw[if_pos (.inl h1)]at this;exact this.symm
  subst a;go_enter func79,ntmps79;go_wp2;go_ret;exact⟨rfl,RTo.stay h.o (Ext.refl _)⟩
 ·by_cases h2:up<n
  ·have a:q=(120,v):=by have:=HQ.o;rw[if_pos (.inr h2)]at this;exact this.symm
   subst a;go_enter func79,ntmps79;go_wp2_with (go_at_call 90;refine f.o.mono ?_;rintro r w1 ⟨rfl,rfl⟩)
   go_ret;exact⟨rfl,RTo.stay h.o (Ext.refl _)⟩
  ·have a:q=(0,Aj { v with lets:=n }):=by have:=HQ.o;rw[if_neg (λe=>e.elim h1 h2)]at this;exact this.symm
   subst a;have i:H0 (OkT { v with lets:=n }):=j6 (Tk ok.o (by rw[g.o];omega) (by have:=(Sr ok.o).2;have:=d.o;omega));have f1:=h.o.bk.free 1;have l1:=h.o.bk.lt;go_enter func79,ntmps79;go_wp2_with (first
    | (go_at_call 90;refine f.o.mono ?_;rintro r w1 ⟨rfl,rfl⟩)
    | (go_at_call 176;refine(Nd w0 KS KT gr t { v with lets:=n } _ (j6 (h.o.put_lets n)) i h9).mono ?_;rintro r w2 ⟨rfl,c⟩;replace c:=j6 c)
    | fail)
   go_ret;exact⟨rfl,RTo.after ((Upd.refl (λk=>KS k\/KT k) _).setCell (p:=⟨gr,1,none⟩) (.inl (.inr h.o.kg)) _) c.o⟩
def oQ(w0:World)(KS KT:Nat->Prop)(gr:Nat)(t:RTM)(v:TrV)(x:Hv)(g:Nat)(w:World)(h:H0 (RTr w0 w KS KT gr t v))(ok:H0 (OkT v))(nd:H0 ((v.hs.map Hv.g).Nodup))(hp:H0 ((g,x)∈t.ps))(h9:t.ps.length<=1000000) :
  C3 86 #[.pointer (some ⟨g,0,none⟩)] w λe w'=>e=.returned (.tuple #[])/\RTo w0 w KS KT gr (Ff t.ps (Lj x)) (Xf v x) w':=by
 have⟨f,s,b,hf⟩:=h.o.hs _ hp.o;have c0:w.cell? ⟨g,0,none⟩=some (.pointer (some ⟨gr,0,none⟩)):=b.cell 0;have c5:w.cell? ⟨g,5,none⟩=some (.bool x.ended):=b.cell 5;have U1:H0 (Upd (λk=>k=g) w (w.setCell ⟨g,5,none⟩ (.bool true))):=j6 ((Upd.refl (λk=>k=g) w).setCell (p:=⟨g,5,none⟩) (.inl rfl) _);have HT:H0 (RTr w0 (w.setCell ⟨g,5,none⟩ (.bool true)) KS KT gr { t with ps:=Ff t.ps (Lj x) } { v with hs:=Bl v.hs (Lj x) }):=
  j6 (h.o.handle (x':=Lj x) nd.o hp.o U1.o rfl ⟨f,s,b.set 5 _,hf⟩)
 have hx:x∈v.hs:=by rw[<-h.o.hv];exact AP.2 ⟨_,hp.o,rfl⟩
 have c:=j6 (Tn ok.o hx);have f5:=b.free 5;have l5:=b.lt;clear b hf hx;go_enter func86,ntmps86;go_wp2_with (first
  | (go_at_call 176;refine(Nd w0 KS KT gr { t with ps:=Ff t.ps (Lj x) } { v with hs:=Bl v.hs (Lj x) } _ HT c (by show(Ff t.ps (Lj x)).length<=1000000;rw[Pg];exact h9)).mono ?_;rintro r w2 ⟨rfl,a⟩;replace a:=j6 a)
  | fail)
 go_returns;exact⟨rfl,RTo.after (U1.o.mono λk _ hk=>.inr (hk▸(h.o.hk _ hp.o).1)) a.o⟩
def fG{q:Int×TrV}(w0:World)(KS KT:Nat->Prop)(gr:Nat)(t:RTM)(v:TrV)(x:Hv)(g:Nat)(n:Int)(w:World)(hq:H0 (Bx v x n=q))(h:H0 (RTr w0 w KS KT gr t v))(ok:H0 (OkT v))(nd:H0 ((v.hs.map Hv.g).Nodup))(hp:H0 ((g,x)∈t.ps))(h9:t.ps.length<=1000000)(hn:0<=n) :
  C3 84 #[.pointer (some ⟨g,0,none⟩),.int .u64 n] w λe w'=>e=.returned (.int .i64 q.1)/\RTo w0 w KS KT gr (if q.1=0 then Ff t.ps { x with hold:=n } else t.ps) q.2 w':=by
 have⟨f,s,b,hf,hs⟩:=h.o.hs _ hp.o;have c0:w.cell? ⟨g,0,none⟩=some (.pointer (some ⟨gr,0,none⟩)):=b.cell 0;have c1:w.cell? ⟨g,1,none⟩=some (.int .u64 x.hold):=b.cell 1;have c2:w.cell? ⟨g,2,none⟩=some (.int .u64 f):=b.cell 2;have c3:w.cell? ⟨g,3,none⟩=some (.int .u64 s):=b.cell 3;have c4:w.cell? ⟨g,4,none⟩=some (.bool (!x.begun)):=b.cell 4;have c5:w.cell? ⟨g,5,none⟩=some (.bool x.ended):=b.cell 5;have f1:=b.free 1;have l1:=b.lt;have hx:x∈v.hs:=by rw[<-h.o.hv];exact AP.2 ⟨_,hp.o,rfl⟩
 have j:=ok.o.hs x hx;cases he:x.ended with
 | true =>
  have a:q=(7,v):=by rw[<-hq.o];unfold Bx;rw[if_pos he]
  rw[he]at c5;subst a;clear hq hs hf b;go_enter func84,ntmps84;go_wp2;go_ret;exact⟨rfl,RTo.stay h.o (Ext.refl _)⟩
 | false =>
  rw[he]at c5;have U1:H0 (Upd (λk=>k=g) w (w.setCell ⟨g,1,none⟩ (.int .u64 n))):=j6 ((Upd.refl (λk=>k=g) w).setCell (p:=⟨g,1,none⟩) (.inl rfl) _);have HT:H0 (RTr w0 (w.setCell ⟨g,1,none⟩ (.int .u64 n)) KS KT gr { t with ps:=Ff t.ps { x with hold:=n } } { v with hs:=Bl v.hs { x with hold:=n } }):=
   j6 (h.o.handle (x':={ x with hold:=n }) nd.o hp.o U1.o rfl ⟨f,s,b.set 1 _,hf,hs⟩)
  have HG:H0 (KT g):=j6 (h.o.hk _ hp.o).1;have⟨y,hy⟩:=tz ((if x.begun=true then x.seen-1 else x.seen));have hh:Bx v x n=if n<x.hold\/y<n then (120,v) else (0,Aj { v with hs:=Bl v.hs { x with hold:=n } }):=by unfold Bx;rw[if_neg (by rw[he];decide),hy]
  have m:H0 (¬n<x.hold->¬y<n->OkT { v with hs:=Bl v.hs { x with hold:=n } }):=j6 λa1 a2=>Tl ok.o hx nd.o he (by omega) (by rw[hy];omega);have HQ:=j6 (hh.symm.trans hq.o);have z:H0 ((Ff t.ps { x with hold:=n }).length<=1000000):=j6 (by rw[Pg];exact h9);have⟨xh,c⟩:=tz x.hold;have l:=j6 c;rw[c]at c1;have A:0<=y/\y<=18446744073709551615:=by
   rw[<-hy];split
   ·rename_i e;have:=j.2 e;omega
   ·omega
  cases hb:x.begun with
  | true =>
   obtain rfl:=hs hb;have d:x.seen-1=y:=by rw[<-hy,if_pos hb]
   rw[hb]at c4;rw[show x.seen=y+1 from by omega]at c3;by_cases h1:n<xh
   ·have a:q=(120,v):=by have:=HQ.o;rw[if_pos (.inl (by rw[l.o];exact h1))]at this;exact this.symm
    subst a;clear hq hs hf b hy hh j c d hx;go_enter func84,ntmps84;go_wp2;go_ret;exact⟨rfl,RTo.stay h.o (Ext.refl _)⟩
   ·by_cases h2:y<n
    ·have a:q=(120,v):=by have:=HQ.o;rw[if_pos (.inr h2)]at this;exact this.symm
     subst a;clear hq hs hf b hy hh j c d hx;go_enter func84,ntmps84;go_wp2;go_ret;exact⟨rfl,RTo.stay h.o (Ext.refl _)⟩
    ·have a:q=(0,Aj { v with hs:=Bl v.hs { x with hold:=n } }):=by have:=HQ.o;rw[if_neg (λe=>e.elim (by rw[l.o];exact h1) h2)]at this;exact this.symm
     have HO:=j6 (m.o (by rw[l.o];exact h1) h2);subst a;clear hq hs hf b hy hh j c d hx;go_enter func84,ntmps84;go_wp2_with (first
      | (go_at_call 176;refine(Nd w0 KS KT gr { t with ps:=Ff t.ps { x with hold:=n } } { v with hs:=Bl v.hs { x with hold:=n } } _ HT HO z.o).mono ?_;rintro r w2 ⟨rfl,i⟩;have HR:=j6 i;clear i)
      | fail)
     go_ret;have k:=RTo.after (U1.o.mono λk _ hk=>.inr (hk▸HG.o)) HR.o;rw[hb,he]at k;exact⟨rfl,k⟩
  | false =>
   obtain rfl:=hf hb;have d:x.seen=y:=by rw[<-hy,if_neg (by rw[hb];decide)]
   rw[hb]at c4;rw[d]at c2;by_cases h1:n<xh
   ·have a:q=(120,v):=by have:=HQ.o;rw[if_pos (.inl (by rw[l.o];exact h1))]at this;exact this.symm
    subst a;clear hq hs hf b hy hh j c d hx;go_enter func84,ntmps84;go_wp2;go_ret;exact⟨rfl,RTo.stay h.o (Ext.refl _)⟩
   ·by_cases h2:y<n
    ·have a:q=(120,v):=by have:=HQ.o;rw[if_pos (.inr h2)]at this;exact this.symm
     subst a;clear hq hs hf b hy hh j c d hx;go_enter func84,ntmps84;go_wp2;go_ret;exact⟨rfl,RTo.stay h.o (Ext.refl _)⟩
    ·have a:q=(0,Aj { v with hs:=Bl v.hs { x with hold:=n } }):=by have:=HQ.o;rw[if_neg (λe=>e.elim (by rw[l.o];exact h1) h2)]at this;exact this.symm
     have HO:=j6 (m.o (by rw[l.o];exact h1) h2);subst a;clear hq hs hf b hy hh j c d hx;go_enter func84,ntmps84;go_wp2_with (first
      | (go_at_call 176;refine(Nd w0 KS KT gr { t with ps:=Ff t.ps { x with hold:=n } } { v with hs:=Bl v.hs { x with hold:=n } } _ HT HO z.o).mono ?_;rintro r w2 ⟨rfl,i⟩;have HR:=j6 i;clear i)
      | fail)
     go_ret;have k:=RTo.after (U1.o.mono λk _ hk=>.inr (hk▸HG.o)) HR.o;rw[hb,he]at k;exact⟨rfl,k⟩
def Oh(n:Int)(w:World):C3 177 #[.int .u64 n] w λe w'=>e=.returned (.agg #[.int .u64 n,.slice none 0 0])/\Ext w w':=by
 go_enter func177,ntmps177;go_wp2;have⟨w1,a⟩:=E9 (w.alloc (.cells #[.int .u64 n,.slice none 0 0] 26));have b1:Bk w1 w.heap.size 26 #[.int .u64 n,.slice none 0 0]:=by rw[a];exact Bk.new _ _ _
 have x1:Ext w w1:=by rw[a];exact(Ext.refl w).alloc _
 have q0:=b1.cell 0;have q1:=b1.cell 1;simp at q0 q1;rw[<-a];clear a;exact bodyPost_ret (v:=.agg #[.int .u64 n,.slice none 0 0]) (by simp[results,Tryz.results177,go_sem,q0,q1]) rfl ⟨rfl,x1⟩
def a1m(w0 w:World)(e:Ending)(w':World):Prop:=∃gr t KS KT,e=.returned (.pointer (some ⟨gr,0,none⟩))/\RTr w0 w' KS KT gr t Wb/\t.ps=[]/\(∀k,KS k\/KT k->w.heap.size<=k/\k<w'.heap.size)/\Ext w w'
def oH{m:RSM}(x0:Ext w0 w)(s:RSR w0 w1 (λk=>w.heap.size<=k/\k<w1.heap.size) gs m)(v:m.v=gX)(x:Ext w w1):a1m w0 w (.returned (.pointer (some ⟨w1.heap.size,0,none⟩))) (w1.alloc (.cells #[.pointer (some ⟨gs,0,none⟩),.int .u64 0,.slice none 0 0] 128)):=by
 have z:=x.size;have z0:=x0.size;have hb:Bk (w1.alloc (.cells #[.pointer (some ⟨gs,0,none⟩),.int .u64 0,.slice none 0 0] 128)) w1.heap.size 128 #[.pointer (some ⟨gs,0,none⟩),.int .u64 0,.slice none 0 0]:=Bk.new w1 _ _;have hl:w1.heap.size<(w1.alloc (.cells #[.pointer (some ⟨gs,0,none⟩),.int .u64 0,.slice none 0 0] 128)).heap.size:=hb.lt;refine⟨w1.heap.size,⟨gs,m,none,0,[]⟩,λk=>w.heap.size<=k/\k<w1.heap.size,λk=>k=w1.heap.size,rfl,⟨hb,rfl,by omega,s.ext ((Ext.refl w1).alloc _),v,Own.nil _ _ _ _,λk hk=>(by cases hk),rfl,λp hp=>(nomatch hp),λp hp=>(nomatch hp),GE,λk hk e=>?_,λk hk=>?_⟩,rfl,λk hk=>?_,x.alloc _⟩
 ·omega
 ·rcases hk with hk|hk<;>omega
 ·rcases hk with hk|hk<;>omega
def oI(w0 w:World)(x0:H0 (Ext w0 w)):C3 77 #[] w (a1m w0 w):=by
 go_enter func77,ntmps77;go_wp2_with (go_at_call 55;refine(jF w0 w x0).mono ?_;rintro r w1 a;have HR:=j6 a;obtain⟨gs,m,rfl,hx⟩:=a;clear hx)
 go_ret;have⟨c,m1,e1,s1,v1,x1⟩:=HR.o;injection e1 with e1;injection e1 with e1;injection e1 with e1;injection e1 with e1;subst e1;exact oH x0.o s1 v1 x1
def uJ{q:Int×List (List Dat×Int)}(w0:World)(KS KT:Nat->Prop)(gr:Nat)(t:RTM)(v:TrV)(n:Int)(w:World)(hq:H0 (atT v n=q))(h:H0 (RTr w0 w KS KT gr t v))(ok:H0 (OkT v))(h9:t.ps.length<=1000000) :
  C3 81 #[.pointer (some ⟨gr,0,none⟩),.int .u64 n] w (tJ w0 w q):=by
 have⟨ln,hl⟩:=tz v.least;have c:=j6 (Jj (n:=ln) w0 KS KT gr t v w (j6 hl) h h9);have he:atT v n=if n<ln then (121,[]) else atS v.s (n,[]):=by rw[<-hl];rfl
 have HQ:=j6 (he.symm.trans hq.o);have⟨gs,a⟩:=tz t.gs;have d:H0 (∀W,Ext w W->W.cell? ⟨gr,0,none⟩=some (.pointer (some ⟨gs,0,none⟩))):=j6 (λW x=>a▸(h.o.bk.ext x).cell 0);have HS:H0 (RSR w0 w KS gs t.q):=j6 (a▸h.o.rs);clear hl he a hq;by_cases hlt:n<ln
 ·have A:q=(121,[]):=by have:=HQ.o;rw[if_pos hlt]at this;exact this.symm
  subst A;go_enter func81,ntmps81;go_wp2_with (go_at_call 88;refine c.o.mono ?_;rintro r w1 ⟨rfl,rfl⟩)
  go_returns;exact⟨none,0,0,[],rfl,rfl,Own.nil _ _ _ _,λy hy=>(nomatch hy),rfl,Ext.refl _⟩
 ·have HA:H0 (atS t.q.v (n,[])=q):=j6 (by have:=HQ.o;rw[if_neg hlt]at this;rw[h.o.qv];exact this);have i:H0 (OkV t.q.v):=j6 (by rw[h.o.qv];exact ok.o.ok);go_enter func81,ntmps81
  go_upto_region 3 with (first
   | (go_at_call 88;refine c.o.mono ?_;rintro r w1 ⟨rfl,rfl⟩)
   | fail)
  have XD:Ext w w.drew:=(Ext.refl w).drew;have Q0:∀y:Xt w.drew,y.W.cell? ⟨gr,0,none⟩=some (.pointer (some ⟨gs,0,none⟩)):=λy=>d.o _ (XD.trans y.x);refine wro [0,1,3,7,0,16,63,127,127,511,1023] (.flo [0,1,2,3,4] (.ext 5 (.one 6 (.flo [7,8,9,10] (.fin))))) ?_
  (refine Aa (pks rfl) ?_;(repeat (go_big_quiet_step (fail)));refine oq ?_)
  refine Ar (pks rfl) ?_;intro K_ z;go_wp2_with (go_at_call 177;refine(Oh n _).mono ?_;rintro r w3 ⟨rfl,x3⟩;have X3:=j6 (XD.trans x3);replace x3:=j6 x3)
  refine An.mk x3.o ?_;refine Ac (pks rfl) ?_;intro K_ z;go_wp2_with (go_at_call 62;refine(oL w0 gs t.q KS n none 0 0 [] w3 HA (j6 (HS.o.ext X3.o)) i (j6 rfl) (j6 (Sl.nil _ _))).mono ?_;rintro r w4 ⟨A4,n4,c4,R4,rfl,a4,o4,r4,v4,x4⟩;have e:=j6 a4;have f:=j6 o4;have j:=j6 r4;have l:=j6 v4;have m:=j6 (X3.o.trans x4);clear a4 o4 r4 v4 x4)
  (refine Aa (pks rfl) ?_;(repeat (go_big_quiet_step (fail)));refine oq ?_)
  refine Ad ?_;go_wp2;go_returns;exact⟨A4,n4,c4,R4,rfl,e.o,f.o.mono X3.o.size,j.o,l.o,m.o⟩
def a0x(w0 w:World)(KS KT:Nat->Prop)(gr hg:Nat)(t:RTM)(v:TrV)(n:Int)(e:Ending)(w':World):Prop :=
 (n<v.least/\e=.returned (.tuple #[.pointer none,.int .i64 121])/\w=w') \/
 (¬n<v.least/\∃gh A c,w.heap.size<=gh/\e=.returned (.tuple #[.pointer (some ⟨gh,0,none⟩),.int .i64 0])/\RTr w0 w' KS (Rg KT w w') gr { t with A:=A,c:=c,ps:=t.ps++[(gh,Gi hg n)] } { v with hs:=v.hs++[Gi hg n] }/\Upd KT w w')
def RTr.add{gr:Nat}{t:RTM}{v:TrV}{n:Int}{ob:Obj}(h:RTr w0 w KS KT gr t v)(hm:t.ps.length=m)(XH:Ext w wh)(BH:Bk wh w.heap.size 140 (rhC gr (Gi hg n) n 0))
  (o5:Own w5 w0.heap.size 132 1 A5 (m+1) c5 (t.ps.map (λp=>Dw p.1)++[Dw w.heap.size])) (g5:(wh.alloc ob).grownBy w5 (blk t.A t.c)) (x5:(A5=t.A/\c5=t.c)\/(blk A5 c5=some (wh.alloc ob).heap.size/\Ext (wh.alloc ob) w5)) :
  RTr w0 (w5.setCell ⟨gr,2,none⟩ (.slice A5 (m+1) c5)) KS (Rg KT w (w5.setCell ⟨gr,2,none⟩ (.slice A5 (m+1) c5))) gr { t with A:=A5,c:=c5,ps:=t.ps++[(w.heap.size,Gi hg n)] } { v with hs:=v.hs++[Gi hg n] }/\Upd KT w (w5.setCell ⟨gr,2,none⟩ (.slice A5 (m+1) c5)):=by
 have i:blk t.A t.c≠some gr:=λz=>absurd ((h.ow.ty z).ne h.bk.ty) (by decide);have b5:Bk w5 gr 128 #[Dw t.gs,.int .u64 v.lets,.slice t.A t.ps.length t.c]:=Bk.grown ((h.bk.ext XH).alloc _) g5 i;have g:blk A5 c5≠some gr:=λz=>absurd ((o5.ty z).ne b5.ty) (by decide);have q:=XH.size;have l:w.heap.size<wh.heap.size:=BH.lt;have u1:Upd (λk=>k=gr\/blk t.A t.c=some k) wh (w5.setCell ⟨gr,2,none⟩ (.slice A5 (m+1) c5)):=
  ((Upd.ext ((Ext.refl wh).alloc ob)).trans ((Upd.refl _ _).grown g5 (λk hk=>.inl (.inr hk)))).trans ((Upd.refl (λk=>k=gr) w5).setCell (p:=⟨gr,2,none⟩) (.inl (Eq.refl gr)) _ |>.mono λ_ _ e=>.inl e)
 have u:Upd (λk=>k=gr\/blk t.A t.c=some k) w (w5.setCell ⟨gr,2,none⟩ (.slice A5 (m+1) c5)):=(Upd.ext XH).trans u1;have hK:∀k,(k=gr\/blk t.A t.c=some k)->KT k:=λk hk=>by
  rcases hk with rfl|hk
  ·exact h.kg
  ·exact h.ko k hk
 have hx:Ext w0 (w5.setCell ⟨gr,2,none⟩ (.slice A5 (m+1) c5)):=Hj h.rs.b.ex u λk hk=>by
  rcases hk with rfl|hk
  ·exact h.lo
  ·exact(h.ow.lt k hk).1
 have r:=u1.size;have j:=h.rs.b.ex.size;have f:∀k,Ty wh k 140->¬(k=gr\/blk t.A t.c=some k):=λk ht e=>by
  rcases e with rfl|e
  ·exact absurd (ht.ne (h.bk.ext XH).ty) (by decide)
  ·exact absurd (ht.ne ((h.ow.ext XH).ty e)) (by decide)
 refine⟨⟨?_,.inl h.kg,h.lo,h.rs.upd u (λk hk e=>h.ap k hk (hK k e)) hx,h.qv,?_,λk hk=>?_,?_,λp hp=>?_,λp hp=>?_,?_,λk hk e=>?_,λk hk=>?_⟩,u.mono λk _ hk=>hK k hk⟩
 ·show Bk _ gr _ #[Dw t.gs,.int .u64 v.lets,.slice A5 (t.ps++[(w.heap.size,Gi hg n)]).length c5];rw[AA,hm];exact b5.set 2 _
 ·show Own _ _ _ 1 A5 (t.ps++[(w.heap.size,Gi hg n)]).length c5 ((t.ps++[(w.heap.size,Gi hg n)]).map λp=>Dw p.1);rw[AA,hm,AI];exact o5.far g _
 ·have h1:=(o5.lt k hk).2;rcases x5 with ⟨e1,e2⟩|⟨e1,_⟩
  ·rw[show A5=t.A from e1,show c5=t.c from e2]at hk;exact .inl (h.ko k hk)
  ·have d:=hk;rw[show blk A5 c5=_ from e1]at d;injection d with d;simp at d;exact .inr ⟨by omega,by simpa using h1⟩
 ·show(t.ps++[(w.heap.size,Gi hg n)]).map (·.2)=v.hs++[Gi hg n];rw[AI,h.hv];rfl
 ·rcases AQ.1 hp with hp|hp
  ·exact((h.hs p hp).ext XH).upd u1 (f _ ((h.hs p hp).ext XH).ty)
  ·rw[AE.1 hp];exact⟨n,0,BH.upd u1 (f _ BH.ty),λ_=>rfl,λe=>(nomatch e)⟩
 ·rcases AQ.1 hp with hp|hp
  ·exact⟨.inl (h.hk p hp).1,(h.hk p hp).2⟩
  ·rw[AE.1 hp];exact⟨.inr ⟨AD _,by show w.heap.size<_;omega⟩,j⟩
 ·show((t.ps++[(w.heap.size,Gi hg n)]).map (·.1)).Nodup;rw[AI];refine EY.2 ⟨h.nd,by simp,λa ha c hc=>?_⟩;obtain⟨y,hy,rfl⟩:=AP.1 ha;rw[AE.1 (show c∈[w.heap.size]from hc)];have:=h.low _ (.inr (h.hk y hy).1);omega
 ·rcases e with e|e
  ·exact h.ap k hk e
  ·have:=h.low k (.inl hk);omega
 ·rcases hk with hk|hk|hk
  ·have:=h.low k (.inl hk);omega
  ·have:=h.low k (.inr hk);omega
  ·exact hk.2
def Rh(w0:World)(KS KT:Nat->Prop)(gr hg:Nat)(t:RTM)(v:TrV)(n:Int)(w:World)(h:H0 (RTr w0 w KS KT gr t v))(h9:t.ps.length<=1000000) :
  C3 82 #[.pointer (some ⟨gr,0,none⟩),.int .u64 n] w (a0x w0 w KS KT gr hg t v n):=by
 have⟨ln,hl⟩:=tz v.least;have e:=j6 (Jj (n:=ln) w0 KS KT gr t v w (j6 hl) h h9);replace hl:=j6 hl;by_cases hlt:n<ln
 ·go_enter func82,ntmps82;go_wp2_with (go_at_call 88;refine e.o.mono ?_;rintro r w1 ⟨rfl,rfl⟩)
  go_returns;exact .inl ⟨by rw[hl.o];exact hlt,rfl,rfl⟩
 ·have⟨m,hm⟩:=tz t.ps.length;have⟨gs,f⟩:=tz t.gs;have HM:=j6 hm;have HH:H0 (Bk w gr 128 #[Dw gs,.int .u64 v.lets,.slice t.A m t.c]):=j6 (by rw[<-hm,<-f];exact h.o.bk);have HO:H0 (Own w w0.heap.size 132 1 t.A m t.c (t.ps.map λp=>Dw p.1)):=j6 (by rw[<-hm];exact h.o.ow);rw[hm]at h9;clear hm f;have⟨wh,d⟩:=E9 (w.alloc (.cells #[.pointer (some ⟨gr,0,none⟩),.int .u64 n,.int .u64 n,.int .u64 0,.bool true,.bool false] 140));have XH:H0 (Ext w wh):=j6 (d▸(Ext.refl w).alloc _);have BH:H0 (Bk wh w.heap.size 140 #[.pointer (some ⟨gr,0,none⟩),.int .u64 n,.int .u64 n,.int .u64 0,.bool true,.bool false]):=j6 (by rw[d];exact Bk.new _ _ _);go_enter func82,ntmps82
  go_upto_region 4 with (first
   | (go_at_call 88;refine e.o.mono ?_;rintro r w1 ⟨rfl,rfl⟩)
   | fail)
  rw[<-d];clear d;have X0:=h.o.rs.b.ex;have bt:=HH.o.ext XH.o;have c2:=bt.cell 2;have l:H0 (Own (wh.alloc (.cells #[.pointer (some ⟨w.heap.size,0,none⟩)] 132)) w0.heap.size 132 1 t.A m t.c (t.ps.map λp=>Dw p.1)):=j6 ((HO.o.ext XH.o).alloc _);have y:=X0.size;have B:=XH.o.size;go_wp2_with (at_builtin;refine Ab _ mQ w0.heap.size _ _ rfl rfl t.A m t.c (t.ps.map λp=>Dw p.1) rfl l.o (some ⟨wh.heap.size,0,none⟩) 1 1 [.pointer (some ⟨w.heap.size,0,none⟩)] rfl (Sl.one wh #[.pointer (some ⟨w.heap.size,0,none⟩)] 132 1 rfl) (by intro u hu;simp at hu;subst hu;rfl) (by omega) (by decide) (by simp;omega) ?_;intro A5 c5 w5 o5 g5 x5;have j:=j6 o5;have i:=j6 g5;have q:=j6 x5;have a:Bk w5 gr 128 #[Dw gs,.int .u64 v.lets,.slice t.A m t.c]:=Bk.grown (bt.alloc _) g5 (λz=>absurd ((h.o.ow.ty z).ne h.o.bk.ty) (by decide));have x:=j6 a;have j2:=a.cell 2;have j3:=a.free 2;clear o5 g5 x5 a)
  go_returns;have HA:=RTr.add (hg:=hg) (n:=n) h.o HM.o XH.o BH.o j.o i.o q.o;exact .inr ⟨by rw[hl.o];omega,w.heap.size,A5,c5,AD _,rfl,HA.1,HA.2⟩
end Go.Proofs.YtdgbkpoickbidaaGreatDoor
