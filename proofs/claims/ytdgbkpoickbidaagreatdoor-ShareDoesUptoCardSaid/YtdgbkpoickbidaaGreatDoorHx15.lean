/- Parts of the proof. Conditions: as stated. -/
import Derived.Test.YtdgbkpoickbidaaGreatDoorHx14
import Derived.Deep.CutBlock
set_option maxRecDepth 100000
set_option maxHeartbeats 16000000
open Go.RowKit Go.Proofs.Tryz
set_option linter.defProp false
namespace Go.Proofs.YtdgbkpoickbidaaGreatDoor
variable{c d g i j m n nb nc q r r':Nat}{K:Nat->Prop}{A:Option Addr}{w w' w0 w1 w2 w3 w4:World}
def oT(k n:Int)(b:Bool)(s:ByteArray)(w:World)(h:k<1):C3 220 #[.agg #[.int .u8 k,.bool b,.int .i64 n,.string s]] w λe w'=>e=.returned (.int .i64 13)/\Ext w w':=by
 go_enter func220,ntmps220;go_wp2;go_ret;exact⟨rfl,(Ext.refl w).alloc _⟩
def oU(k n:Int)(b:Bool)(s:ByteArray)(w:World)(h:4<k):C3 220 #[.agg #[.int .u8 k,.bool b,.int .i64 n,.string s]] w λe w'=>e=.returned (.int .i64 13)/\Ext w w':=by
 go_enter func220,ntmps220;go_wp2;go_ret;exact⟨rfl,(Ext.refl w).alloc _⟩
def jS(n:Int)(s:ByteArray)(w:World)  : C3 220 #[.agg #[.int .u8 1,.bool true,.int .i64 n,.string s]] w λe w'=>e=.returned (.int .i64 13)/\Ext w w':=by
 go_enter func220,ntmps220;go_wp2;go_ret;exact⟨rfl,(Ext.refl w).alloc _⟩
def jR(n:Int)(s:ByteArray)(w:World)(hn:(n != 0)=true):C3 220 #[.agg #[.int .u8 1,.bool false,.int .i64 n,.string s]] w λe w'=>e=.returned (.int .i64 13)/\Ext w w':=by
 go_enter func220,ntmps220;go_wp2;go_ret;exact⟨rfl,(Ext.refl w).alloc _⟩
def jQ(s:ByteArray)(w:World)(hz:¬s=⟨#[]⟩):C3 220 #[.agg #[.int .u8 1,.bool false,.int .i64 0,.string s]] w λe w'=>e=.returned (.int .i64 13)/\Ext w w':=by
 have a:¬s.toList=[]:=λh=>hz (Iu.1 h);have c:s.toList.isEmpty=false:=by simpa using a
 clear hz;go_enter func220,ntmps220;go_wp2;go_ret;exact⟨rfl,(Ext.refl w).alloc _⟩
def fM(w:World)  : C3 220 #[.agg #[.int .u8 1,.bool false,.int .i64 0,.string ⟨#[]⟩]] w λe w'=>e=.returned (.int .i64 0)/\Ext w w':=by
 have HR:H0 (Dt ⟨#[]⟩=0):=j6 Mp;go_enter func220,ntmps220;go_wp2_with (go_at_call 254;refine(Ke _ _ HR (by simp[ByteArray.size])).mono ?_;rintro e w1 ⟨rfl,rfl⟩)
 go_ret;exact⟨rfl,(Ext.refl w).alloc _⟩
def jP(b:Bool)(n:Int)(s:ByteArray)(w:World)(hn:(n != 0)=true):C3 220 #[.agg #[.int .u8 2,.bool b,.int .i64 n,.string s]] w λe w'=>e=.returned (.int .i64 13)/\Ext w w':=by
 go_enter func220,ntmps220;go_wp2;go_ret;exact⟨rfl,(Ext.refl w).alloc _⟩
def jO(b:Bool)(s:ByteArray)(w:World)(hz:¬s=⟨#[]⟩):C3 220 #[.agg #[.int .u8 2,.bool b,.int .i64 0,.string s]] w λe w'=>e=.returned (.int .i64 13)/\Ext w w':=by
 have a:¬s.toList=[]:=λh=>hz (Iu.1 h);have c:s.toList.isEmpty=false:=by simpa using a
 clear hz;go_enter func220,ntmps220;go_wp2;go_ret;exact⟨rfl,(Ext.refl w).alloc _⟩
def fK(b:Bool)(w:World)  : C3 220 #[.agg #[.int .u8 2,.bool b,.int .i64 0,.string ⟨#[]⟩]] w λe w'=>e=.returned (.int .i64 0)/\Ext w w':=by
 have HR:H0 (Dt ⟨#[]⟩=0):=j6 Mp;go_enter func220,ntmps220;go_wp2_with (go_at_call 254;refine(Ke _ _ HR (by simp[ByteArray.size])).mono ?_;rintro e w1 ⟨rfl,rfl⟩)
 go_ret;exact⟨rfl,(Ext.refl w).alloc _⟩
def jN(n:Int)(s:ByteArray)(w:World)  : C3 220 #[.agg #[.int .u8 3,.bool true,.int .i64 n,.string s]] w λe w'=>e=.returned (.int .i64 13)/\Ext w w':=by
 go_enter func220,ntmps220;go_wp2;go_ret;exact⟨rfl,(Ext.refl w).alloc _⟩
def jM(n:Int)(s:ByteArray)(w:World)(hz:¬s=⟨#[]⟩):C3 220 #[.agg #[.int .u8 3,.bool false,.int .i64 n,.string s]] w λe w'=>e=.returned (.int .i64 13)/\Ext w w':=by
 have a:¬s.toList=[]:=λh=>hz (Iu.1 h);have c:s.toList.isEmpty=false:=by simpa using a
 clear hz;go_enter func220,ntmps220;go_wp2;go_ret;exact⟨rfl,(Ext.refl w).alloc _⟩
def fJ(n:Int)(w:World)  : C3 220 #[.agg #[.int .u8 3,.bool false,.int .i64 n,.string ⟨#[]⟩]] w λe w'=>e=.returned (.int .i64 0)/\Ext w w':=by
 have HR:H0 (Dt ⟨#[]⟩=0):=j6 Mp;go_enter func220,ntmps220;go_wp2_with (go_at_call 254;refine(Ke _ _ HR (by simp[ByteArray.size])).mono ?_;rintro e w1 ⟨rfl,rfl⟩)
 go_ret;exact⟨rfl,(Ext.refl w).alloc _⟩
def jL(n:Int)(s:ByteArray)(w:World)  : C3 220 #[.agg #[.int .u8 4,.bool true,.int .i64 n,.string s]] w λe w'=>e=.returned (.int .i64 13)/\Ext w w':=by
 go_enter func220,ntmps220;go_wp2;go_ret;exact⟨rfl,(Ext.refl w).alloc _⟩
def jK(n:Int)(s:ByteArray)(w:World)(hn:(n != 0)=true):C3 220 #[.agg #[.int .u8 4,.bool false,.int .i64 n,.string s]] w λe w'=>e=.returned (.int .i64 13)/\Ext w w':=by
 go_enter func220,ntmps220;go_wp2;go_ret;exact⟨rfl,(Ext.refl w).alloc _⟩
def aR(r:Int)(s:ByteArray)(w:World)(hr:Dt s=r)(hs:s.size<=140737488355328)(h:r<0):C3 220 #[.agg #[.int .u8 4,.bool false,.int .i64 0,.string s]] w λe w'=>e=.returned (.int .i64 13)/\Ext w w':=by
 replace hr:=j6 hr;go_enter func220,ntmps220;go_wp2_with (go_at_call 254;refine(Ke _ _ hr hs).mono ?_;rintro e w1 ⟨rfl,rfl⟩)
 go_ret;exact⟨rfl,(Ext.refl w).alloc _⟩
def Wm(r:Int)(s:ByteArray)(w:World)(hr:Dt s=r)(hs:s.size<=140737488355328)(h:0<=r)(hl:1000<s.size):C3 220 #[.agg #[.int .u8 4,.bool false,.int .i64 0,.string s]] w λe w'=>e=.returned (.int .i64 12)/\Ext w w':=by
 replace hr:=j6 hr;go_enter func220,ntmps220;go_wp2_with (go_at_call 254;refine(Ke _ _ hr hs).mono ?_;rintro e w1 ⟨rfl,rfl⟩)
 go_ret;exact⟨rfl,(Ext.refl w).alloc _⟩
def fI(r:Int)(s:ByteArray)(w:World)(hr:Dt s=r)(hs:s.size<=140737488355328)(h:0<=r)(hl:s.size<=1000):C3 220 #[.agg #[.int .u8 4,.bool false,.int .i64 0,.string s]] w λe w'=>e=.returned (.int .i64 0)/\Ext w w':=by
 replace hr:=j6 hr;go_enter func220,ntmps220;go_wp2_with (go_at_call 254;refine(Ke _ _ hr hs).mono ?_;rintro e w1 ⟨rfl,rfl⟩)
 go_ret;exact⟨rfl,(Ext.refl w).alloc _⟩
def jJ(k:Int)(b:Bool)(n:Int)(s:ByteArray)(w:World)(hs:s.size<=140737488355328) :
  C3 220 #[.agg #[.int .u8 k,.bool b,.int .i64 n,.string s]] w λe w'=>e=.returned (.int .i64 (Ib k b n s))/\Ext w w':=by
 by_cases h2:k=2
 ·subst h2;by_cases hn:n=0
  ·subst hn;by_cases hz:s=⟨#[]⟩
   ·subst hz;rw[Fm (by simp),Fn];exact fK b w
   ·rw[Aw (by simp[hz])];exact jO b s w hz
  ·rw[Aw (by simp[hn])];exact jP b n s w (by simpa using hn)
 by_cases h3:k=3
 ·subst h3;cases b
  ·by_cases hz:s=⟨#[]⟩
   ·subst hz;rw[Fm (by simp),Fn];exact fJ n w
   ·rw[Aw (by simp[hz])];exact jM n s w hz
  ·rw[Aw (by simp)];exact jN n s w
 by_cases h4:k=4
 ·subst h4;cases b
  ·by_cases hn:n=0
   ·subst hn;rw[Fm (by simp)];by_cases hr:Dt s<0
    ·rw[(Ut s).1 hr];exact aR _ s w rfl hs hr
    ·have hv:Ja s=true:=by
      cases hv:Ja s
      ·exact absurd ((Ut s).2 hv) hr
      ·rfl
     rw[hv,if_pos rfl];by_cases hl:1000<s.size
     ·rw[if_pos hl];exact Wm _ s w rfl hs (by omega) hl
     ·rw[if_neg hl];exact fI _ s w rfl hs (by omega) (by omega)
   ·rw[Aw (by simp[hn])];exact jK n s w (by simpa using hn)
  ·rw[Aw (by simp)];exact jL n s w
 by_cases h1:k=1
 ·subst h1;cases b
  ·by_cases hn:n=0
   ·subst hn;by_cases hz:s=⟨#[]⟩
    ·subst hz;rw[Fm (by simp),Fn];exact fM w
    ·rw[Aw (by simp[hz])];exact jQ s w hz
   ·rw[Aw (by simp[hn])];exact jR n s w (by simpa using hn)
  ·rw[Aw (by simp)];exact jS n s w
 ·rw[Aw (by simp[h1,h2,h3,h4])];rcases Int.lt_or_le k 1 with h|h
  ·exact oT k n b s w h
  ·exact oU k n b s w (by omega)
def Xw{c:Int}(k:Int)(b:Bool)(n:Int)(s:ByteArray)(w:World)(h:H0 (Ib k b n s=c))(hs:s.size<=140737488355328) :
  C3 220 #[.agg #[.int .u8 k,.bool b,.int .i64 n,.string s]] w λe w'=>e=.returned (.int .i64 c)/\Ext w w':=h.o▸jJ k b n s w hs
def aP(A:Option Addr)(c n:Nat)(l:List Dat)(w:World)(e1:n=l.length)(h1:Rw w A c l)(ht:∀d∈l,d.s.size<=10000000000000) :
  C3 168 #[.slice A n c] w λe w'=>e=.returned (.int .i64 (Bh l))/\Ext w w':=by
 have E1:=j6 e1;have j:=h1.le;rw[<-e1]at j;have H1:=j6 h1;have HT:=j6 ht;clear e1 h1 ht;by_cases h32:32<n
 ·have HR:H0 (Bh l=20):=j6 (by unfold Bh;rw[if_pos (by rw[<-E1.o];exact h32)]);go_enter func168,ntmps168;go_wp2;go_ret;exact⟨(by rw[HR.o];rfl),Ext.refl w⟩
 have HR:H0 (Bh l=Du l):=j6 (by unfold Bh;rw[if_neg (by rw[<-E1.o];exact h32)]);go_enter func168,ntmps168;go_wp2
 go_loopw [3] (λv wr=>∃i:Nat,i<=n/\v=.int .i64 i/\H0 (Du (l.drop i)=Du l)/\Ext w wr) (λv _=>n-(intOf v).toNat)
 case atStart=>exact⟨0,AG _,rfl,j6 rfl,Ext.refl _⟩
 case round =>
  obtain⟨i,hi,rfl,hr,er⟩:=hrel;have m:=er.size;by_cases hlt:i<n
  ·have a:i<l.length:=by rw[<-E1.o];exact hlt
   obtain⟨a1,rfl,p0,p1,p2,p3⟩:=(H1.o.ext er).at a;have f:(l.getD i Dat.zero).s.size<=10000000000000:=HT.o _ (by rw[AB,AC a];exact BR a);have g:=j6 (Rt a);have⟨d,hd⟩:=tz (l.getD i Dat.zero);rw[hd]at p0 p1 p2 p3 f g;clear a hd;have⟨v,hv⟩:=tz d.check;have HS:H0 (Du l=if v=0 then Du (l.drop (i+1)) else v):=j6 (by rw[<-hr.o,g.o,hv]);clear g hr;obtain⟨ka,ba,na,sa⟩:=d;simp only at p0 p1 p2 p3 f;replace hv:=j6 hv;by_cases hv0:v=0
   ·subst hv0;go_wp2_with (go_at_call 220;refine(Xw ka ba na sa _ hv (AR f (by decide))).mono ?_;rintro e w1 ⟨rfl,x1⟩)
    go_roundw
    case rel=>exact⟨i+1,by omega,by go_num,j6 (by rw[HS.o];simp),er.trans x1⟩
    case measure=>simp[intOf];omega
   ·have z:(v != 0)=true:=by simpa using hv0
    replace hv0:=j6 hv0;go_wp2_with (go_at_call 220;refine(Xw ka ba na sa _ hv (AR f (by decide))).mono ?_;rintro e w1 ⟨rfl,x1⟩)
    go_ret;exact⟨(by rw[HR.o,HS.o,if_neg hv0.o];rfl),er.trans x1⟩
  ·obtain rfl:i=n:=by omega
   have h:H0 (Du l=0):=j6 (by rw[<-hr.o,CV (by rw[<-E1.o];exact AD _)];rfl);clear hr;go_wp2;go_ret;exact⟨(by rw[HR.o,h.o];rfl),er⟩
def Pt{v:Int}(A:Option Addr)(c n:Nat)(l:List Dat)(w:World)(hv:H0 (Bh l=v))(e1:H0 (n=l.length))(h1:H0 (Rw w A c l))(ht:H0 (∀d∈l,d.s.size<=10000000000000)) :
  C3 168 #[.slice A n c] w λe w'=>e=.returned (.int .i64 v)/\Ext w w':=hv.o▸aP A c n l w e1.o h1.o ht.o
def Pd:Gr prog 47 22 1 24 (.slice none 0 0):=⟨by kernel_rfl,by kernel_rfl,rfl,by decide⟩
structure Rb where
 A:Option Addr
 c:Nat
 l:List Ud
def Rb.zero:Rb:=⟨none,0,[]⟩
abbrev Rb.s(b:Rb):Value:=.slice b.A b.l.length b.c
def Rb.v(b:Rb):List UV:=b.l.map Ud.uv
def Dy(l:List Rb)(i:Nat):Rb:=l.getD i Rb.zero
structure RbR (w0 w:World) (K:Nat->Prop) (b:Rb):Prop where
 own:Own w w0.heap.size 95 4 b.A b.l.length b.c (Ah b.l)
 k:∀k,blk b.A b.c=some k->K k
 ls:∀x∈b.l,UdR w0 x
def RtR(w0 w:World)(K:Nat->Prop)(A:Option Addr)(c:Nat)(L:List Tm):Prop :=
 Tin w0 A c L\/(Own w w0.heap.size 26 2 A L.length c (Gp L)/\(∀k,blk A c=some k->K k)/\∀x∈L,x.A=none/\x.c=0/\x.l=[])
structure RSM where
 A:Option Addr
 c:Nat
 bs:List Rb
 un:Option (Nat×Nat)
 lf:Int
 sA:Option Addr
 sc:Nat
 S:List Tm
 uA:Option Addr
 uc:Nat
 U:List Tm
def RSM.v(m:RSM):SV:=⟨m.bs.map Rb.v,m.un,m.S.map Tm.v,m.U.map Tm.v⟩
def lD:Option (Nat×Nat)->Int
 | none => -1
 | some p=>p.1
def a1i:Option (Nat×Nat)->Int->Int
 | none,x=>x
 | some p,_=>p.2
def Ld(m:RSM):Array Value:=#[.slice m.A m.bs.length m.c,.int .i64 (lD m.un),.int .i64 (a1i m.un m.lf),.slice m.sA m.S.length m.sc,.slice m.uA m.U.length m.uc]
structure RSB (w0 w:World) (K:Nat->Prop) (m:RSM):Prop where
 ow:Own w w0.heap.size 22 1 m.A m.bs.length m.c (m.bs.map Rb.s)
 ko:∀k,blk m.A m.c=some k->K k
 bt:∀b∈m.bs,RbR w0 w K b
 sn:RtR w0 w K m.sA m.sc m.S
 up:RtR w0 w K m.uA m.uc m.U
 ex:Ext w0 w
structure RSR (w0 w:World) (K:Nat->Prop) (gr:Nat) (m:RSM):Prop where
 bk:Bk w gr 107 (Ld m)
 kg:K gr
 lo:w0.heap.size<=gr
 b:RSB w0 w K m
section
variable{w0 w w':World}{K K' S:Nat->Prop}{gr:Nat}{m:RSM}{A:Option Addr}{c:Nat}{L:List Tm}{b:Rb}
def Tw{l:List Rb}(h:i<l.length):Dy l i∈l:=by
 unfold Dy;rw[AB,AC h];exact BR h
def a2i{l:List Rb}(h:i<l.length):(l.map Rb.s)[i]?=some (Dy l i).s:=by
 unfold Dy;rw[CG,AB,AC h];rfl
def Zg{l:List Rb}(h:i<l.length):(l.map Rb.v).getD i []=(Dy l i).v:=by
 unfold Dy;rw[AB,CG,AB,AC h];rfl
def Rb.len(b:Rb):b.v.length=b.l.length:=by unfold Rb.v;rw[AN]
def RbR.ext(h:RbR w0 w K b)(x:Ext w w'):RbR w0 w' K b:=⟨h.own.ext x,h.k,h.ls⟩
def RbR.upd(h:RbR w0 w K b)(x:Upd S w w')(hS:∀k,K k->¬S k):RbR w0 w' K b:=⟨h.own.upd x λk hk=>hS k (h.k k hk),h.k,h.ls⟩
def RbR.wide(h:RbR w0 w K b)(hR:∀k,k<w.heap.size->K k->K' k):RbR w0 w K' b:=⟨h.own,λk hk=>hR k (h.own.lt k hk).2 (h.k k hk),h.ls⟩
def RbR.safe(h:RbR w0 w K b)(x:Upd S w w')(hS:∀k,k<w.heap.size->S k->¬Ty w k 95):RbR w0 w' K b :=
 ⟨h.own.upd x λk hk q=>hS k (h.own.lt k hk).2 q (h.own.ty hk),h.k,h.ls⟩
def RbR.uin(h:RbR w0 w K b)(x:Ext w0 w):Uin w b.A b.c b.l:=⟨h.own.sl,λy hy=>(h.ls y hy).ext x⟩
def RtR.ext(h:RtR w0 w K A c L)(x:Ext w w'):RtR w0 w' K A c L:=h.imp id λq=>⟨q.1.ext x,q.2⟩
def RtR.upd(h:RtR w0 w K A c L)(x:Upd S w w')(hS:∀k,K k->¬S k):RtR w0 w' K A c L:=h.imp id λq=>⟨q.1.upd x λk hk=>hS k (q.2.1 k hk),q.2⟩
def RtR.wide(h:RtR w0 w K A c L)(hR:∀k,k<w.heap.size->K k->K' k):RtR w0 w K' A c L:=h.imp id λq=>⟨q.1,λk hk=>hR k (q.1.lt k hk).2 (q.2.1 k hk),q.2.2⟩
def RtR.safe(h:RtR w0 w K A c L)(x:Upd S w w')(hS:∀k,k<w.heap.size->S k->¬Ty w k 26):RtR w0 w' K A c L:=h.imp id λq=>⟨q.1.upd x λk hk r=>hS k (q.1.lt k hk).2 r (q.1.ty hk),q.2⟩
def RtR.tin(h:RtR w0 w K A c L)(x:Ext w0 w):Tin w A c L:=by
 rcases h with h|⟨h1,_,h3⟩
 ·exact h.ext x
 ·refine⟨h1.sl,λy hy=>?_⟩;have⟨e1,e2,e3⟩:=h3 y hy;rw[e1,e2,e3];exact Sl.nil _ _
def RSB.ext(h:RSB w0 w K m)(x:Ext w w'):RSB w0 w' K m:=⟨h.ow.ext x,h.ko,λb hb=>(h.bt b hb).ext x,h.sn.ext x,h.up.ext x,h.ex.trans x⟩
def RSB.upd(h:RSB w0 w K m)(x:Upd S w w')(hS:∀k,K k->¬S k)(hx:Ext w0 w'):RSB w0 w' K m :=
 ⟨h.ow.upd x λk hk=>hS k (h.ko k hk),h.ko,λb hb=>(h.bt b hb).upd x hS,h.sn.upd x hS,h.up.upd x hS,hx⟩
def RSB.wide(h:RSB w0 w K m)(hR:∀k,k<w.heap.size->K k->K' k):RSB w0 w K' m :=
 ⟨h.ow,λk hk=>hR k (h.ow.lt k hk).2 (h.ko k hk),λb hb=>(h.bt b hb).wide hR,h.sn.wide hR,h.up.wide hR,h.ex⟩
def RSB.head{cs:Array Value}(h:RSB w0 w K m)(hb:Bk w gr 107 cs)(lo:w0.heap.size<=gr)(i:Nat)(u:Value):RSB w0 (w.setCell ⟨gr,i,none⟩ u) K m:=by
 have x:Upd (λk=>k=gr) w (w.setCell ⟨gr,i,none⟩ u):=(Upd.refl (λk=>k=gr) w).setCell (p:=⟨gr,i,none⟩) (.inl rfl) u;refine⟨h.ow.upd x λk hk e=>?_,h.ko,λb hb'=>(h.bt b hb').safe x λk _ e q=>?_,h.sn.safe x λk _ e q=>?_,h.up.safe x λk _ e q=>?_,h.ex.set (p:=⟨gr,i,none⟩) lo u⟩
 ·subst e;exact absurd ((h.ow.ty hk).ne hb.ty) (by decide)
 ·subst e;exact absurd (q.ne hb.ty) (by decide)
 ·subst e;exact absurd (q.ne hb.ty) (by decide)
 ·subst e;exact absurd (q.ne hb.ty) (by decide)
def RSR.ext(h:RSR w0 w K gr m)(x:Ext w w'):RSR w0 w' K gr m:=⟨h.bk.ext x,h.kg,h.lo,h.b.ext x⟩
def RSR.upd(h:RSR w0 w K gr m)(x:Upd S w w')(hS:∀k,K k->¬S k)(hx:Ext w0 w'):RSR w0 w' K gr m:=⟨h.bk.upd x (hS _ h.kg),h.kg,h.lo,h.b.upd x hS hx⟩
def RSR.wide(h:RSR w0 w K gr m)(hR:∀k,k<w.heap.size->K k->K' k):RSR w0 w K' gr m:=⟨h.bk,hR _ h.bk.lt h.kg,h.lo,h.b.wide hR⟩
def RSB.at(h:RSB w0 w K m){i:Nat}(hi:i<m.bs.length):∃ad,m.A=some ad/\w.cell? (ad.add i)=some (Dy m.bs i).s:=by
 obtain⟨ad,h1,h2⟩:=h.ow.sl.2.2.2.2 (by omega);exact⟨ad,h1,h2 i _ (a2i hi)⟩
def RSB.uin(h:RSB w0 w K m){i:Nat}(hi:i<m.bs.length):Uin w (Dy m.bs i).A (Dy m.bs i).c (Dy m.bs i).l:=(h.bt _ (Tw hi)).uin h.ex
def RSR.put_s{B:Option Addr}{M:List Tm}(h:RSR w0 w K gr m)(t:RtR w0 w K B d M):RSR w0 (w.setCell ⟨gr,3,none⟩ (.slice B M.length d)) K gr { m with sA:=B,sc:=d,S:=M }:=by
 have k:RSB w0 w K { m with sA:=B,sc:=d,S:=M }:=⟨h.b.ow,h.b.ko,h.b.bt,t,h.b.up,h.b.ex⟩;exact⟨h.bk.set 3 _,h.kg,h.lo,k.head h.bk h.lo 3 _⟩
def RSR.put_u{B:Option Addr}{M:List Tm}(h:RSR w0 w K gr m)(t:RtR w0 w K B d M):RSR w0 (w.setCell ⟨gr,4,none⟩ (.slice B M.length d)) K gr { m with uA:=B,uc:=d,U:=M }:=by
 have k:RSB w0 w K { m with uA:=B,uc:=d,U:=M }:=⟨h.b.ow,h.b.ko,h.b.bt,h.b.sn,t,h.b.ex⟩;exact⟨h.bk.set 4 _,h.kg,h.lo,k.head h.bk h.lo 4 _⟩
def RSR.mk_l{B:Option Addr}{M:List Rb}(bk:Bk w gr 107 (Ld m))(kg:K gr)(lo:w0.heap.size<=gr)(sn:RtR w0 w K m.sA m.sc m.S)(up:RtR w0 w K m.uA m.uc m.U)(ex:Ext w0 w)(o:Own w w0.heap.size 22 1 B M.length d (M.map Rb.s))(ko:∀k,blk B d=some k->K k)(bt:∀b∈M,RbR w0 w K b) :
  RSR w0 (w.setCell ⟨gr,0,none⟩ (.slice B M.length d)) K gr { m with A:=B,c:=d,bs:=M }:=by
 have k:RSB w0 w K { m with A:=B,c:=d,bs:=M }:=⟨o,ko,bt,sn,up,ex⟩;exact⟨bk.set 0 _,kg,lo,k.head bk lo 0 _⟩
def RSR.put_l{B:Option Addr}{M:List Rb}(h:RSR w0 w K gr m)(o:Own w w0.heap.size 22 1 B M.length d (M.map Rb.s))(ko:∀k,blk B d=some k->K k)(bt:∀b∈M,RbR w0 w K b):RSR w0 (w.setCell ⟨gr,0,none⟩ (.slice B M.length d)) K gr { m with A:=B,c:=d,bs:=M }:=
 RSR.mk_l h.bk h.kg h.lo h.b.sn h.b.up h.b.ex o ko bt
def RSR.push{p:Nat}(x0:Ext w0 w)(h:RSR w0 w K gr m)(x:Ext w w3)(ob:Own w3 w.heap.size 95 4 b.A b.l.length b.c (Ah b.l))(hb:∀y∈b.l,UdR w0 y)(o:Own w4 w0.heap.size 22 1 A p c (m.bs.map Rb.s++[b.s]))(hp:p=m.bs.length+1)(g:w3.grownBy w4 (blk m.A m.c))(q:(A=m.A/\c=m.c)\/(blk A c=some w3.heap.size/\Ext w3 w4)) :
  RSR w0 (w4.setCell ⟨gr,0,none⟩ (.slice A p c)) (Rg K w (w4.setCell ⟨gr,0,none⟩ (.slice A p c))) gr { m with A:=A,c:=c,bs:=m.bs++[b] }/\Upd K w (w4.setCell ⟨gr,0,none⟩ (.slice A p c)):=by
 have u:Upd (λk=>blk m.A m.c=some k) w3 w4:=(Upd.refl _ w3).grown g λk e=>.inl e;have h3:=h.ext x;have z0:=x0.size;have z3:=x.size;have z4:=u.size;have hz:(w4.setCell ⟨gr,0,none⟩ (.slice A p c)).heap.size=w4.heap.size:=by simp
 have a:∀{e:TypeId},e≠22->∀k,k<w3.heap.size->blk m.A m.c=some k->¬Ty w3 k e:=λhe k _ e1 e2=>he (e2.ne (h3.b.ow.ty e1));have wd:∀k,k<w4.heap.size->K k->Rg K w w4 k:=λ_ _ hk=>.inl hk;have i:Bk w4 gr 107 (Ld m):=h3.bk.upd u λe=>a (by decide) gr h3.bk.lt e h3.bk.ty;have hl:(m.bs++[b]).length=p:=by rw[AA,hp];rfl
 have R:=RSR.mk_l (K:=Rg K w w4) (B:=A) (d:=c) (M:=m.bs++[b]) i (.inl h.kg) h.lo ((h3.b.sn.safe u (a (by decide))).wide wd) ((h3.b.up.safe u (a (by decide))).wide wd) (Hj h3.b.ex u λk hk=>(h3.b.ow.lt k hk).1)
  (by rw[hl,AI];exact o) (λk hk=>by
   rcases q with ⟨e1,e2⟩|⟨e1,_⟩
   ·rw[e1,e2]at hk;exact .inl (h.b.ko k hk)
   ·have h1:=(o.lt k hk).2;rw[e1]at hk;injection hk with hk;exact .inr ⟨by omega,h1⟩) (λr hr=>by
   rcases AQ.1 hr with hr|hr
   ·exact((h3.b.bt r hr).safe u (a (by decide))).wide wd
   ·rw[AE.1 hr];have f:Own w4 w.heap.size 95 4 b.A b.l.length b.c (Ah b.l):=ob.upd u λk hk e=>a (by decide) k (ob.lt k hk).2 e (ob.ty hk);exact⟨f.mono z0,λk hk=>.inr ⟨(f.lt k hk).1,(f.lt k hk).2⟩,hb⟩)
 rw[hl]at R;refine⟨R.wide λk _ hk=>hk.imp id λz=>⟨z.1,by rw[hz];exact z.2⟩,?_⟩;exact((Upd.ext x).trans (u.mono λk _ hk=>h.b.ko k hk)).setCell (.inl h.kg) _
end
def Jc(X:List TV):Bool:=X.any λt=>decide (0<t.2.length)
def Jv(X:List TV):Bg X=(decide (X.length<=1) && !Jc X):=rfl
def kC{L:List Tm}{k:Nat}(h:k<L.length):Jc ((L.map Tm.v).take (k+1))=(Jc ((L.map Tm.v).take k)||decide (0<(L.getD k Tm.zero).l.length)):=by
 unfold Jc;rw[FM,CG,AB,AC h,List.any_append];simp[Tm.v]
def Gv{b:Bool}(AL:Option Addr)(cL m:Nat)(L:List Tm)(w:World)(hb:H0 ((!Jc (L.map Tm.v))=b))(hm:H0 (m=L.length))(hL:H0 (Tin w AL cL L)) :
  C3 167 #[.slice AL m cL] w λr w'=>r=.returned (.bool b)/\w=w':=by
 have f:m<=9223372036854775807:=by rw[hm.o];exact hL.o.sl.le
 go_enter func167,ntmps167;go_wp2
 go_loopg [3] m (λz v wr=>∃k:Nat,z=m-k/\k<=m/\v=.int .i64 k/\H0 (Jc ((L.map Tm.v).take k)=false)/\wr=w)
 case atStart=>exact⟨0,rfl,AG _,rfl,j6 rfl,rfl⟩
 case round =>
  obtain⟨k,rfl,hk,rfl,HF,rfl⟩:=hrel;by_cases hlt:k<m
  ·have c:k<L.length:=by rw[<-hm.o];exact hlt
   obtain⟨ad,rfl,q0,q1⟩:=hL.o.at c;have⟨x,hx⟩:=tz (L.getD k Tm.zero);have⟨nx,d⟩:=E9 x.l.length;have a:=j6 (kC c);rw[hx]at q0 q1 a;rw[<-d]at q1 a;have g:=j6 c;clear c hx d;rcases CS nx with h0|h0
   ·subst h0;go_wp2
    go_roundg (m-(k+1))
    case measure=>omega
    case rel=>exact⟨k+1,by omega,by omega,by go_num,j6 (by rw[a.o,HF.o];rfl),rfl⟩
   ·have h1:(0:Int)<(nx:Int):=by omega
    have HD:H0 (decide (0<nx)=true):=j6 (decide_eq_true h0);go_wp2;go_ret;refine⟨Cm ?_,rfl⟩;rw[<-hb.o];have h2:Jc ((L.map Tm.v).take (k+1))=true:=by rw[a.o,HD.o,Bool.or_true]
    have h3:Jc (L.map Tm.v)=true:=by
     unfold Jc at h2 ⊢;have⟨y,hy,e⟩:=EI.1 h2;exact EI.2 ⟨y,CK hy,e⟩
    rw[h3];rfl
  ·obtain rfl:m=k:=by omega
   go_wp2;go_ret;refine⟨Cm ?_,rfl⟩;rw[<-hb.o];have:=HF.o;rw[AW (by rw[AN,hm.o];exact AD _)]at this;rw[this];rfl
def Xr(h:Bk w g 26 #[.int .u64 0,.slice none 0 0])(hB:w0.heap.size<=g):RtR w0 w (λk=>g<=k) (some ⟨g,0,none⟩) 1 [Tm.zero]:=
 .inr ⟨(Tj h hB).own,λk hk=>(by injection hk with hk;have hk:g=k:=hk;omega),λx hx=>by rw[AE.1 hx];exact⟨rfl,rfl,rfl⟩⟩
def uK(w0 w w1 w2 w3:World)(x0:Ext w0 w)(h1:w1=w.alloc (.cells #[.int .u64 0,.slice none 0 0] 26))(h2:w2=w1.alloc (.cells #[.int .u64 0,.slice none 0 0] 26))
  (h3:w3=w2.alloc (.cells #[.slice none 0 0,.int .i64 (-1),.int .i64 0,.slice (some ⟨w.heap.size,0,none⟩) 1 1,.slice (some ⟨w.heap.size+1,0,none⟩) 1 1] 107)) :
  RSR w0 w3 (λk=>w.heap.size<=k/\k<w3.heap.size) (w.heap.size+1+1) ⟨none,0,[],none,0,some ⟨w.heap.size,0,none⟩,1,[Tm.zero],some ⟨w.heap.size+1,0,none⟩,1,[Tm.zero]⟩/\Ext w w3:=by
 have z1:w1.heap.size=w.heap.size+1:=by rw[h1];simp
 have z2:w2.heap.size=w.heap.size+1+1:=by rw[h2];simp[z1]
 have z3:w3.heap.size=w.heap.size+1+1+1:=by rw[h3];simp[z2]
 have z0:=x0.size;have x1:Ext w w1:=h1▸(Ext.refl w).alloc _;have x2:Ext w1 w2:=h2▸(Ext.refl w1).alloc _;have x3:Ext w2 w3:=h3▸(Ext.refl w2).alloc _;have b1:Bk w3 w.heap.size 26 #[.int .u64 0,.slice none 0 0]:=Bk.ext (Bk.ext (h1▸Bk.new w _ _) x2) x3;have b2:Bk w3 (w.heap.size+1) 26 #[.int .u64 0,.slice none 0 0]:=Bk.ext (h2▸Bk.at z1.symm) x3;have b3:Bk w3 (w.heap.size+1+1) 107 #[.slice none 0 0,.int .i64 (-1),.int .i64 0,.slice (some ⟨w.heap.size,0,none⟩) 1 1,.slice (some ⟨w.heap.size+1,0,none⟩) 1 1]:=h3▸Bk.at z2.symm;refine⟨⟨b3,⟨by omega,by omega⟩,by omega,⟨Own.nil _ _ _ _,λk hk=>(nomatch hk),λb hb=>(nomatch hb),(Xr b1 z0).wide λk h1 h2=>⟨h2,h1⟩,(Xr b2 (by omega)).wide λk h1 h2=>⟨by omega,h1⟩,((x0.trans x1).trans x2).trans x3⟩⟩,(x1.trans x2).trans x3⟩
def a3t(w0 w:World)(e:Ending)(w':World):Prop:=∃gr m,e=.returned (.pointer (some ⟨gr,0,none⟩))/\RSR w0 w' (λk=>w.heap.size<=k/\k<w'.heap.size) gr m/\m.v=gX/\Ext w w'
def jF(w0 w:World)(x0:H0 (Ext w0 w)):C3 55 #[] w (a3t w0 w):=by
 go_enter func55,ntmps55;go_wp2;go_ret;have⟨h1,h2⟩:=uK w0 w _ _ _ x0.o rfl rfl rfl;refine⟨w.heap.size+1+1,⟨none,0,[],none,0,some ⟨w.heap.size,0,none⟩,1,[Tm.zero],some ⟨w.heap.size+1,0,none⟩,1,[Tm.zero]⟩,?_,?_,rfl,?_⟩
 ·simp
 ·simpa using h1
 ·simpa using h2
def Gm(w0 w:World)(K:Nat->Prop)(gr:Nat)(q:Int×SV)(e:Ending)(w':World):Prop:=∃m',e=.returned (.int .i64 q.1)/\RSR w0 w' (Rg K w w') gr m'/\m'.v=q.2/\Upd K w w'
def Gm.stay{gr:Nat}{m:RSM}{n:Int}{e:Ending}(h:RSR w0 w K gr m)(x:Ext w w')(he:e=.returned (.int .i64 n)):Gm w0 w K gr (n,m.v) e w':=⟨m,he,(h.ext x).wide λ_ _ hk=>.inl hk,rfl,Upd.ext x⟩
def Gm.put{gr:Nat}{m':RSM}{u:Value}{s:SV}{e:Ending}(x:Ext w w1)(hk:K gr)(h:RSR w0 (w1.setCell ⟨gr,i,none⟩ u) K gr m')(hv:m'.v=s)(he:e=.returned (.int .i64 0)):Gm w0 w K gr (0,s) e (w1.setCell ⟨gr,i,none⟩ u):=
 ⟨m',he,h.wide λ_ _ hk=>.inl hk,hv,(Upd.ext x).setCell (.inl hk) _⟩
def aQ{q:Int×SV}(w0:World)(gr:Nat)(m:RSM)(K:Nat->Prop)(AX:Option Addr)(cX nX:Nat)(X:List Tm)(w:World)(hq:H0 (Cy m.v (X.map Tm.v)=q))(HM:H0 (RSR w0 w K gr m))(hnX:H0 (nX=X.length))(hX:H0 (RtR w0 w K AX cX X)) :
  C3 61 #[.pointer (some ⟨gr,0,none⟩),.slice AX nX cX] w (Gm w0 w K gr q):=by
 have HX:H0 (∀W,Ext w W->Tin W AX cX X):=j6 λW x=>(hX.o.tin HM.o.b.ex).ext x;have HT:H0 (∀W,Ext w W->Tin W m.sA m.sc m.S):=j6 λW x=>(HM.o.b.sn.tin HM.o.b.ex).ext x;have⟨n,hn⟩:=E9 m.S.length;have HN:=j6 hn;have c3:w.cell? ⟨gr,3,none⟩=some (.slice m.sA n m.sc):=hn▸HM.o.bk.cell 3;have⟨b0,d⟩:=tz ((!Jc (X.map Tm.v)));have⟨b2,e⟩:=tz (Gq (m.S.map Tm.v) (X.map Tm.v));have a:=j6 d;have g:=j6 e;have h:Cy m.v (X.map Tm.v)=if (decide (nX<=1)&&b0)=false then (110,m.v) else if b2=false then (111,m.v) else (0,{ m.v with S:=ofV (X.map Tm.v) }):=by
  rw[<-d,<-e,hnX.o,<-AN (f:=Tm.v),<-Jv];rfl
 have j:H0 (nX<=1->b0=true->ofV (X.map Tm.v)=X.map Tm.v):=j6 λh1 h2=>Ii (by rw[Jv,d,h2,AN,<-hnX.o,decide_eq_true h1];rfl);have c:H0 (q=if (decide (nX<=1)&&b0)=false then (110,m.v) else if b2=false then (111,m.v) else (0,{ m.v with S:=ofV (X.map Tm.v) })):=j6 (hq.o.symm.trans h);clear d e h hq hn;cases b0 with
 | false =>
  go_enter func61,ntmps61;go_wp2_with (go_at_call 167;refine(Gv AX cX nX X _ a hnX (j6 (HX.o _ (Ext.refl _)))).mono ?_;rintro r w1 ⟨rfl,rfl⟩)
  go_ret;rw[c.o,Bool.and_false,if_pos rfl];exact Gm.stay HM.o (Ext.refl _) rfl
 | true =>
  by_cases h1:nX<=1
  ·have i:¬(1:Int)<(nX:Int):=by omega
   have hd:decide (nX<=1)=true:=decide_eq_true h1;cases b2 with
   | false =>
    go_enter func61,ntmps61;go_wp2_with (first
     | (go_at_call 167;refine(Gv AX cX nX X _ a hnX (j6 (HX.o _ (Ext.refl _)))).mono ?_;rintro r w1 ⟨rfl,rfl⟩)
     | (go_at_call 169;refine(Nf m.sA AX m.sc cX n nX m.S X _ g HN hnX (j6 (HT.o _ (Ext.refl _))) (j6 (HX.o _ (Ext.refl _)))).mono ?_;rintro r w2 ⟨rfl,x2⟩;have X2:=j6 x2;clear x2)
     | fail)
    go_ret;rw[c.o,hd,Bool.and_self,if_neg (by decide)];simp only[if_true];exact Gm.stay HM.o X2.o rfl
   | true =>
    go_enter func61,ntmps61;go_wp2_with (first
     | (go_at_call 167;refine(Gv AX cX nX X _ a hnX (j6 (HX.o _ (Ext.refl _)))).mono ?_;rintro r w1 ⟨rfl,rfl⟩)
     | (go_at_call 169;refine(Nf m.sA AX m.sc cX n nX m.S X _ g HN hnX (j6 (HT.o _ (Ext.refl _))) (j6 (HX.o _ (Ext.refl _)))).mono ?_;rintro r w2 ⟨rfl,x2⟩;have t:=(HM.o.bk.ext x2).lt;have f3:=(HM.o.bk.ext x2).free 3;have l:=(x2.cell c3);have X2:=j6 x2;clear x2)
     | fail)
    go_ret;rw[c.o,hd,Bool.and_self,if_neg (by decide),if_neg (by decide)];have HP:=(HM.o.ext X2.o).put_s (hX.o.ext X2.o);rw[<-hnX.o]at HP;exact Gm.put X2.o HM.o.kg HP (by show SV.mk _ _ _ _=_;rw[j.o h1 (by trivial)];rfl) rfl
  ·have i:(1:Int)<(nX:Int):=by omega
   have hd:decide (nX<=1)=false:=decide_eq_false h1;go_enter func61,ntmps61;go_wp2_with (go_at_call 167;refine(Gv AX cX nX X _ a hnX (j6 (HX.o _ (Ext.refl _)))).mono ?_;rintro r w1 ⟨rfl,rfl⟩)
   go_ret;rw[c.o,hd,Bool.false_and,if_pos rfl];exact Gm.stay HM.o (Ext.refl _) rfl
def iB{l:List Rb}(h:i<l.length):l.take (i+1)=l.take i++[Dy l i]:=by
 unfold Dy;rw[FM,AC h,AB,AC h];rfl
def Ds(l:List Rb):List Ud:=l.flatMap Rb.l
def Yw{l:List Rb}(h:i<l.length):Ds (l.take (i+1))=Ds (l.take i)++(Dy l i).l:=by
 unfold Ds;rw[iB h,DF];simp
def a0m(l:List Rb)(i:Nat):(Ds (l.take i)).length<=(Ds l).length:=by
 have:Ds l=Ds (l.take i)++Ds (l.drop i):=by
  unfold Ds;rw[<-DF,CF]
 rw[this,AA];omega
structure Qf (w wr:World) (l:List Rb) (i n c:Nat) (A:Option Addr):Prop where
 ln:n=(Ds (l.take i)).length
 ow:Own wr w.heap.size 95 4 A n c (Ah (Ds (l.take i)))
 ex:Ext w wr
def Qf.step{w wr w2:World}{l:List Rb}{i n c c2:Nat}{A A2:Option Addr}(h:Qf w wr l i n c A)(hi:i<l.length){k c0:Nat}{A0:Option Addr}{L:List Ud}(hk:k=L.length)(hL:Dy l i=⟨A0,c0,L⟩)(o:Own w2 w.heap.size 95 4 A2 (n+k) c2 (Ah (Ds (l.take i))++Ah L))(g:wr.grownBy w2 (blk A c)):Qf w w2 l (i+1) (n+k) c2 A2:=by
 have e:Ds (l.take (i+1))=Ds (l.take i)++L:=by rw[Yw hi,hL]
 refine⟨by rw[e,AA,h.ln,hk],?_,h.ex.grown g λk hk=>(h.ow.lt k hk).1⟩;rw[e,Au];exact o
def Nx(w0:World)(gr:Nat)(m:RSM)(K:Nat->Prop)(w:World)(HM:H0 (RSR w0 w K gr m))(h9:m.bs.length<=1000000)(hA:(Ds m.bs).length<=1000000):C3 170 #[.pointer (some ⟨gr,0,none⟩)] w (nA w (Ds m.bs)):=by
 have⟨n,hn⟩:=E9 m.bs.length;have⟨mA,t⟩:=tz m.A;have c0:w.cell? ⟨gr,0,none⟩=some (.slice mA n m.c):=t▸hn▸HM.o.bk.cell 0;rw[<-hn]at h9;have HN:=j6 hn;have j:H0 (Qf w w m.bs 0 0 0 none):=j6 ⟨rfl,Own.nil _ _ _ _,Ext.refl _⟩;have HB:=HM.o.b;have h:=j6 HB;clear hn HB;go_enter func170,ntmps170;go_wp2
 go_loopg [3,4] n (λz u v wr=>∃(i k c3:Nat) (A3:Option Addr),z=n-i/\i<=n/\k<=1000000/\u=.slice A3 k c3/\v=.int .i64 i/\H0 (Qf w wr m.bs i k c3 A3))
 case atStart=>exact⟨0,0,0,none,rfl,AG _,AG _,rfl,rfl,j⟩
 case round =>
  clear j;obtain⟨i,k,c3,A3,rfl,hi,F,rfl,rfl,HP⟩:=hrel;have c0:wr.cell? ⟨gr,0,none⟩=some (.slice mA n m.c):=HP.o.ex.cell c0;by_cases hlt:i<n
  ·have d:i<m.bs.length:=by rw[<-HN.o];exact hlt
   have⟨ad,r,p0⟩:=(h.o.ext HP.o.ex).at d;obtain rfl:mA=some ad:=t.symm.trans r;clear r;have g:=(h.o.ext HP.o.ex).uin d;obtain⟨⟨bA,bc,bl⟩,hb⟩:∃b,Dy m.bs i=b:=⟨_,rfl⟩;rw[hb]at p0 g;have⟨nb,f⟩:=E9 bl.length;replace p0:wr.cell? (ad.add i)=some (.slice bA nb bc):=f▸p0;have x:k+nb<=1000000:=by
    have q1:=a0m m.bs (i+1);rw[Yw d,AA,<-HP.o.ln,hb]at q1;simp only at q1;omega
   have D:H0 (Sl wr 4 bA nb bc (Ah bl)):=j6 (f▸g.sl);have B:=j6 f;have y:=j6 hb;have HI:=j6 d;have E:=HP.o.ex.size;clear hb f d g;go_wp2_with (first
    | (at_builtin;refine Ab _ Ao w.heap.size _ _ rfl rfl A3 k c3 (Ah (Ds (m.bs.take i))) rfl HP.o.ow bA nb bc (Ah bl) rfl D.o (Bz _) (by omega) (by decide) E ?_;intro A6 c6 w6 o6 g6 h6;clear h6;have C:H0 (Qf w w6 m.bs (i+1) (k+nb) c6 A6):=j6 (HP.o.step HI.o B.o y.o o6 g6);clear o6 g6)
    | fail)
   go_roundg (n-(i+1))
   case measure=>omega
   case rel=>exact⟨i+1,k+nb,c6,A6,rfl,by omega,x,rfl,by go_num,C⟩
  ·obtain rfl:i=n:=by omega
   go_wp2;go_ret;have hq:=HP.o;have e:m.bs.take i=m.bs:=AW (by rw[<-HN.o];exact AD _);have o:=hq.ow;have l:=hq.ln;rw[e]at o l;exact⟨_,_,_,rfl,l,o,hq.ex⟩
def De.det{s t t':SV}(h:De s n t r)(h':De s n t' r'):t=t'/\r=r':=by
 induction h with
 | done s =>
  cases h' with
  | done=>exact⟨rfl,rfl⟩
  | stop h _=>exact absurd h (by decide)
  | step h _ _ _=>exact absurd h (by decide)
 | stop h hb =>
  cases h' with
  | done=>exact absurd h (by decide)
  | stop _ hb' =>
   rw[hb]at hb';injection hb' with e;exact⟨e,rfl⟩
  | step _ hb' _ _=>rw[hb]at hb';injection hb' with _ e;cases e
 | step h hb hp k ih =>
  cases h' with
  | done=>exact absurd h (by decide)
  | stop _ hb'=>rw[hb]at hb';injection hb' with _ e;cases e
  | step _ hb' hp' k' =>
   rw[hb]at hb';injection hb' with e _;subst e;rw[hp]at hp';injection hp' with e1 e2;subst e1;subst e2;exact ih k'
def Lk(bs:List (List UV))(k:Nat):Option (Nat×Nat):=(Fe k bs).map λj=>(j,(bs.getD j []).length+(bs.getD (j+1) []).length)
def wZ(bs:List (List UV))(k:Nat):Lk bs (k+1)=if (bs.getD k []).length<=2*(bs.getD (k+1) []).length then some (k,(bs.getD k []).length+(bs.getD (k+1) []).length) else Lk bs k:=by
 unfold Lk;rw[Fe];split<;>rfl
def Yq{s:SV}(h:s.un=none):Bp s=match Lk s.bs (s.bs.length-1)with|some p=>({ s with un:=some p },true)|none=>(s,false):=by
 unfold Bp Lk;rw[h];cases Fe (s.bs.length-1) s.bs<;>rfl
section
variable{w0 w w':World}{K:Nat->Prop}{gr:Nat}{m:RSM}
def RSR.put_un{a:Int}(h:RSR w0 w K gr m)(i l:Nat)(ha:a=(i:Int)):RSR w0 ((w.setCell ⟨gr,1,none⟩ (.int .i64 a)).setCell ⟨gr,2,none⟩ (.int .i64 l)).drew K gr { m with un:=some (i,l) }:=by
 subst ha;have b1:=h.bk.set 1 (.int .i64 i);have k1:=h.b.head h.bk h.lo 1 (.int .i64 i);have k2:=k1.head b1 h.lo 2 (.int .i64 l);exact RSR.ext ⟨b1.set 2 _,h.kg,h.lo,⟨k2.ow,k2.ko,k2.bt,k2.sn,k2.up,k2.ex⟩⟩ (Ext.refl _).drew
def RSR.put_left{l:Nat}(h:RSR w0 w K gr m)(hu:m.un=some (i,l))(l':Nat):RSR w0 (w.setCell ⟨gr,2,none⟩ (.int .i64 l')) K gr { m with un:=some (i,l') }:=by
 have k1:=h.b.head h.bk h.lo 2 (.int .i64 l');refine⟨?_,h.kg,h.lo,⟨k1.ow,k1.ko,k1.bt,k1.sn,k1.up,k1.ex⟩⟩;have b:=h.bk.set 2 (.int .i64 l');have e:(Ld m).setIfInBounds 2 (.int .i64 l')=Ld { m with un:=some (i,l') }:=by
  unfold Ld;rw[hu];rfl
 rwa [e]at b
def RSR.put_none(h:RSR w0 w K gr m)(hu:m.un=some (i,0)):RSR w0 (w.setCell ⟨gr,1,none⟩ (.int .i64 (-1))) K gr { m with un:=none,lf:=0 }:=by
 have k1:=h.b.head h.bk h.lo 1 (.int .i64 (-1));refine⟨?_,h.kg,h.lo,⟨k1.ow,k1.ko,k1.bt,k1.sn,k1.up,k1.ex⟩⟩;have b:=h.bk.set 1 (.int .i64 (-1));have e:(Ld m).setIfInBounds 1 (.int .i64 (-1))=Ld { m with un:=none,lf:=0 }:=by
  unfold Ld;rw[hu];rfl
 rwa [e]at b
end
structure Lt (w0 w wr:World) (K:Nat->Prop) (gr n k:Nat) (s:SV) (m:RSM):Prop where
 sp:RSR w0 wr (Rg K w wr) gr m
 ok:OkV m.v
 up:Upd K w wr
 wk:∀t r,De m.v k t r->De s n t r
structure Kq (w0 w wr:World) (K:Nat->Prop) (gr n k:Nat) (s:SV) (m:RSM) (i l:Nat):Prop where
 sp:RSR w0 wr (Rg K w wr) gr m
 ok:OkV m.v
 up:Upd K w wr
 un:m.un=some (i,l)
 wk:∀s2 n2 t r,Hz m.v k=(s2,n2)->De s2 n2 t r->De s n t r
def tI(w0 w:World)(K:Nat->Prop)(gr:Nat)(s:SV)(z:Int)(e:Ending)(w':World):Prop:=∃(m':RSM) (r:Nat),e=.returned (.int .i64 r)/\RSR w0 w' (Rg K w w') gr m'/\((m'.v=s/\r=0/\z<1)\/∃n:Nat,z=n/\0<n/\De s n m'.v r)/\OkV m'.v/\Upd K w w'
section
variable{w0 w wr w':World}{K:Nat->Prop}{gr n k i l:Nat}{s:SV}{m m':RSM}
def Lt.due(h:Lt w0 w wr K gr n k s m)(hk:0<k)(hu:m.un=none){p:Nat×Nat}(hd:Lk m.v.bs (m.v.bs.length-1)=some p){m1:RSM}(hv:m1.v={ m.v with un:=some p })(sp:RSR w0 w' (Rg K w w') gr m1)(up:Upd K w w')(e:m1.un=some p):Kq w0 w w' K gr n k s m1 p.1 p.2:=by
 have hb:Bp m.v=({ m.v with un:=some p },true):=by rw[Yq (show m.v.un=none from hu),hd]
 refine⟨sp,?_,up,e,λs2 n2 t r hp hw=>h.wk _ _ (.step hk hb (by rw[<-hv];exact hp) hw)⟩;have:=Ki h.ok;rw[hb]at this;rw[hv];exact this
def Lt.on(h:Lt w0 w wr K gr n k s m)(hk:0<k)(hu:m.un=some (i,l)):Kq w0 w wr K gr n k s m i l:=by
 have hb:Bp m.v=(m.v,true):=by
  unfold Bp;rw[show m.v.un=some (i,l)from hu]
 exact⟨h.sp,h.ok,h.up,hu,λs2 n2 t r hp hw=>h.wk _ _ (.step hk hb hp hw)⟩
def Kq.pay(h:Kq w0 w wr K gr n k s m i l)(l':Nat):RSR w0 (wr.setCell ⟨gr,2,none⟩ (.int .i64 l')) (Rg K w (wr.setCell ⟨gr,2,none⟩ (.int .i64 l'))) gr { m with un:=some (i,l') }/\Upd K w (wr.setCell ⟨gr,2,none⟩ (.int .i64 l')):=by
 have kg:K gr\/w.heap.size<=gr:=h.sp.kg.imp id λz=>z.1;exact⟨(h.sp.put_left h.un l').wide λq _ hq=>hq.imp id λz=>⟨z.1,by simpa using z.2⟩,h.up.setCell (p:=⟨gr,2,none⟩) kg _⟩
def Kq.left(h:Kq w0 w wr K gr n k s m i l)(hl:l-min k l≠0)(sp:RSR w0 w' (Rg K w w') gr { m with un:=some (i,l-min k l) })(up:Upd K w w'):Lt w0 w w' K gr n (k-min k l) s { m with un:=some (i,l-min k l) }:=by
 have hu:=h.ok.un i l h.un;refine⟨sp,?_,up,λt r hw=>h.wk _ _ _ _ ?_ hw⟩
 ·have o:=h.ok;exact⟨o.nb,o.ins,o.pos,λi' l' e=>(by injection e with e;injection e with e1 e2;subst e1;subst e2;exact⟨hu.1,by omega,by omega⟩),o.fs,o.fu,o.es,o.eu⟩
 ·unfold Hz;rw[show m.v.un=some (i,l)from h.un];simp only;rw[if_neg hl];rfl
def Kq.zero(h:Kq w0 w wr K gr n k s m i l)(hl:l-min k l=0){m2:RSM}(hv:m2.v=Jo m.v)(sp:RSR w0 w' (Rg K w w') gr m2)(up:Upd K w w'):Lt w0 w w' K gr n (k-min k l) s m2:=by
 have he:Hz m.v k=(Jo { m.v with un:=some (i,0) },k-min k l):=by
  unfold Hz;rw[show m.v.un=some (i,l)from h.un];simp only;rw[if_pos hl,hl]
 have a:Jo { m.v with un:=some (i,0) }=Jo m.v:=by
  unfold Jo Cc;rw[show m.v.un=some (i,l)from h.un]
 have o:=Zn (k:=0) h.ok (show m.v.un=some (i,l)from h.un);refine⟨sp,?_,up,λt r hw=>h.wk _ _ _ _ he ?_⟩
 ·rw[hv];rw[a]at o;exact o
 ·rw[a,<-hv];exact hw
end
def lM{l:List Rb}(h:i+1<l.length):(Dy l i).l.length+(Dy l (i+1)).l.length<=(Ds l).length:=by
 have e:Ds l=Ds (l.take i)++((Dy l i).l++((Dy l (i+1)).l++Ds (l.drop (i+2)))):=by
  have e0:l=l.take (i+2)++l.drop (i+2):=(CF _ _).symm;have e1:l.take (i+2)=l.take i++[Dy l i]++[Dy l (i+1)]:=by rw[iB h,iB (by omega)]
  rw[e1]at e0;unfold Ds
  conv=>lhs;rw[e0]
  simp
 rw[e,AA,AA,AA];omega
def Zh(l:List Rb):(Ds l).map Ud.uv=(l.map Rb.v).flatten:=by
 unfold Ds Rb.v;rw[List.flatMap_def,List.map_flatten,CO];rfl
def Ih{m:RSM}(h:OkV m.v):(Ds m.bs).length+m.bs.length<=1000000:=by
 have h1:=h.nb;have e:m.v.bs.flatten.length=(Ds m.bs).length:=by
  have q:=congrArg List.length (Zh m.bs);rw[AN]at q;exact q.symm
 have e2:m.v.bs.length=m.bs.length:=by show(m.bs.map Rb.v).length=_;rw[AN]
 omega
def Zf{m:RSM}(h:OkV m.v):∀x∈Ds m.bs,InU x/\x.t.l=[]:=λx hx=>by
 have hu:x.uv∈m.v.bs.flatten:=by
  show x.uv∈(m.bs.map Rb.v).flatten;rw[<-Zh];exact AP.2 ⟨x,hx,rfl⟩
 exact⟨(h.ins _ hu).1.u,(h.ins _ hu).2.1⟩
def a1d{l:List Rb}{b:Rb}(h:b∈l):∀x∈b.l,x∈Ds l:=λx hx=>DC.2 ⟨b,h,hx⟩
def rZ(l:List Rb):∀u∈l.map Rb.s,u.oneCell'=true:=λu hu=>by
 obtain⟨b,_,rfl⟩:=AP.1 hu;rfl
def uB(h:Sl w 1 A 0 c (wds [])):Sl w' 1 A 0 c (wds []):=⟨h.1,h.2.1,h.2.2.1,h.2.2.2.1,λq=>absurd q (by omega)⟩
def cF{x y:Ud}(h:Ec w w' x y)(hx:UdR w0 x)(hy:y.t.l=[]):UdR w0 y:=by
 obtain⟨e1,e2,e3,e4⟩:=h;refine⟨by rw[e1,e2,e3];exact hx.r,?_⟩;rw[hy];rcases e4 with ⟨f1,f2,f3⟩|o
 ·have:=hx.t;rw[<-f1,<-f2,<-f3,hy]at this;exact this
 ·have:=o.sl;rw[hy]at this;exact uB this
def dU{gr:Nat}{m:RSM}{B:Option Addr}{p:Nat}{M:List Ud}{N:List Rb}(x0:Ext w0 w)(up:Upd K w w2)(h:RSR w0 w2 (Rg K w w2) gr m)(hu:m.un=some (i,0))(x:Ext w2 w')
  (hN:N=m.bs.take i++(if M=[] then [] else [⟨B,d,M⟩])++m.bs.drop (i+2)) (hp:p=N.length) (o:Own w' w2.heap.size 22 1 A p c (N.map Rb.s)) (hq:q=M.length) (b:Own w' w2.heap.size 95 4 B q d (Ah M)) (hM:∀y∈M,UdR w0 y) (hV:M.map Ud.uv=Cc m.v i) :
  ∃m2:RSM,RSR w0 ((w'.setCell ⟨gr,0,none⟩ (.slice A p c)).setCell ⟨gr,1,none⟩ (.int .i64 (-1))) (Rg K w ((w'.setCell ⟨gr,0,none⟩ (.slice A p c)).setCell ⟨gr,1,none⟩ (.int .i64 (-1)))) gr m2/\m2.v=Jo m.v/\Upd K w ((w'.setCell ⟨gr,0,none⟩ (.slice A p c)).setCell ⟨gr,1,none⟩ (.int .i64 (-1))):=by
 subst hp hq;have z2:=up.size;have z0:=x0.size;have zx:=x.size;have hw:∀k,k<w'.heap.size->Rg K w w2 k->Rg K w w' k:=λk _ hk=>hk.imp id λz=>⟨z.1,by omega⟩;have hK:∀k,w2.heap.size<=k->k<w'.heap.size->Rg K w w' k:=λk h1 h2=>.inr ⟨by omega,h2⟩;have h':=(h.ext x).wide hw;have P:=h'.put_l (B:=A) (d:=c) (M:=N) (o.mono (by omega)) (λk hk=>hK k (o.lt k hk).1 (o.lt k hk).2) (λr hr=>by
  rw[hN]at hr;rcases AQ.1 hr with hr|hr
  ·rcases AQ.1 hr with hr|hr
   ·exact h'.b.bt r (CK hr)
   ·split at hr
    ·cases hr
    ·rw[AE.1 hr];exact⟨b.mono (by omega),λk hk=>hK k (b.lt k hk).1 (b.lt k hk).2,hM⟩
  ·exact h'.b.bt r (CY hr))
 have P2:=P.put_none (show({ m with A:=A,c:=c,bs:=N }:RSM).un=some (i,0)from hu);have hz:((w'.setCell ⟨gr,0,none⟩ (.slice A N.length c)).setCell ⟨gr,1,none⟩ (.int .i64 (-1))).heap.size=w'.heap.size:=by simp
 refine⟨_,P2.wide λk _ hk=>hk.imp id λz=>⟨z.1,by rw[hz];exact z.2⟩,?_,?_⟩
 ·have e1:N.map Rb.v=m.v.bs.take i++(if Cc m.v i=[] then [] else [Cc m.v i])++m.v.bs.drop (i+2):=by
   rw[hN,AI,AI,EW,FG];have e2:(if M=[] then ([]:List Rb) else [⟨B,d,M⟩]).map Rb.v=if Cc m.v i=[] then [] else [Cc m.v i]:=by
    rw[<-hV];cases M with
    | nil=>rfl
    | cons a l=>rfl
   rw[e2];rfl
  unfold Jo;rw[show m.v.un=some (i,0)from hu];show SV.mk (N.map Rb.v) _ _ _=_;rw[e1];rfl
 ·have kg:K gr\/w.heap.size<=gr:=h.kg.imp id λz=>z.1;exact((up.trans (Upd.ext x)).setCell (p:=⟨gr,0,none⟩) kg _).setCell (p:=⟨gr,1,none⟩) kg _
def a2m{m:RSM}(h:j+1<m.bs.length)(h1:nb=(Dy m.bs j).l.length)(h2:nc=(Dy m.bs (j+1)).l.length):Lk m.v.bs (j+1)=if nb<=2*nc then some (j,nb+nc) else Lk m.v.bs j:=by
 have e1:(m.v.bs.getD j []).length=nb:=by show((m.bs.map Rb.v).getD j []).length=nb;rw[Zg (by omega),Rb.len,h1]
 have e2:(m.v.bs.getD (j+1) []).length=nc:=by show((m.bs.map Rb.v).getD (j+1) []).length=nc;rw[Zg h,Rb.len,h2]
 rw[wZ,e1,e2]
def dV(l:List Rb)(k:Nat):∀u∈(l.map Rb.s).drop k,u.oneCell'=true:=λu hu=>rZ l u (CY hu)
def tV(l:List Rb)(k:Nat):∀u∈(l.map Rb.s).take k,u.oneCell'=true:=λu hu=>rZ l u (CK hu)
def a0q{V:List UV}{L M:List Ud}{S:List TV}(hm:m=M.length)(v:M.map Ud.uv=V)(hV:UdS.sumV ((L.map Ud.uv).map (Bm S))=V)(hn:n=L.length):m<=n:=by
 have h1:=congrArg List.length v;have h2:=Gu ((L.map Ud.uv).map (Bm S));rw[AN]at h1;rw[hV,AN,AN]at h2;omega
def a0o{V:List UV}{L M:List Ud}{S:List TV}(hN:∀x∈(L.map Ud.uv).map (Bm S),UdS.InN x)(p:∀y∈M,∃x∈L,Ec w w' x y)(v:M.map Ud.uv=V)(hV:UdS.sumV ((L.map Ud.uv).map (Bm S))=V)(h:∀x∈L,x.t.l=[]/\UdR w0 x):∀y∈M,UdR w0 y:=λy hy=>by
 have⟨x,hx,f⟩:=p y hy;refine cF f (h x hx).2 ?_;have hu:y.uv∈V:=by rw[<-v];exact AP.2 ⟨y,hy,rfl⟩
 rw[<-hV]at hu;have⟨_,_,z,hz,e⟩:=UdS.sumV_mem hN hu;obtain⟨z1,a,rfl⟩:=AP.1 hz;obtain⟨z2,c,rfl⟩:=AP.1 a;have e2:y.t.l=(Ix S z2.t.v).2:=congrArg (λq:UK=>q.2.2) e.symm;apply AH;rw[e2,Pq];have:=(h z2 c).1;show z2.t.l.length=0;rw[this];rfl
def sW{m:RSM}{l:Nat}(h:m.un=some (i,l)):Jo ({ m with un:=some (i,0) }:RSM).v=Jo m.v:=by
 unfold Jo Cc;rw[show m.v.un=some (i,l)from h];rfl
def oE(w0:World)(gr n:Nat)(m:RSM)(K:Nat->Prop)(w:World)(x0:H0 (Ext w0 w))(HM:H0 (RSR w0 w K gr m))(ok:H0 (OkV m.v))(hn:0<n)(hn9:n<=9223372036854775807):C3 60 #[.pointer (some ⟨gr,0,none⟩),.int .i64 n] w (tI w0 w K gr m.v n):=by
 have h1:¬((n:Int)<1):=by omega
 have g0:H0 (Lt w0 w w K gr n n m.v m):=j6 ⟨HM.o.wide λ_ _ hk=>.inl hk,ok.o,Upd.refl K w,λt r h=>h⟩;have d7:=j6 hn9;go_enter func60,ntmps60;go_wp2
 go_loopg [1] n (λz u wr=>∃(k:Nat) (m':RSM),z=k/\k<=n/\u=.int .i64 k/\H0 (Lt w0 w wr K gr n k m.v m'))
 case atStart=>exact⟨n,m,rfl,AD _,rfl,g0⟩
 case round =>
  clear g0;obtain⟨k,m',hz,hk,rfl,HI⟩:=hrel;obtain⟨wa,i5⟩:∃W:World,W=wr:=⟨_,rfl⟩;rw[<-i5]at HI ⊢;clear i5;by_cases hk0:k=0
  ·subst hk0;go_wp2;go_ret;exact⟨m',0,rfl,HI.o.sp,.inr ⟨n,rfl,hn,HI.o.wk _ _ (.done _)⟩,HI.o.ok,HI.o.up⟩
  ·have m4:(0:Int)<(k:Int):=by omega
   have k8:0<k:=by omega
   have d6:=j6 k8;have⟨N,hN⟩:=E9 m'.bs.length;have HN:=j6 hN;have C:=Ih HI.o.ok;have g2:=j6 C;rw[<-hN]at C;have i3:N<=1000000:=by omega
   clear C;have⟨mA,f4⟩:=tz m'.A;have M:=j6 f4;have c0:wa.cell? ⟨gr,0,none⟩=some (.slice mA N m'.c):=f4▸hN▸HI.o.sp.bk.cell 0;have c1:wa.cell? ⟨gr,1,none⟩=some (.int .i64 (lD m'.un)):=HI.o.sp.bk.cell 1;clear f4 hN
   go_upto_if 17 with fail
   go_cut [1] (λu wx=>∃(m1:RSM) (i l:Nat),u=.int .i64 k/\H0 (Kq w0 w wx K gr n k m.v m1 i l))
   case first =>
    cases hun:m'.un with
    | some p =>
     obtain⟨i,l⟩:=p;rw[hun]at c1;replace c1:wa.cell? ⟨gr,1,none⟩=some (.int .i64 (i:Nat)):=c1;have HU:=j6 hun;clear hun;have k7:¬((i:Int)<0):=by omega
     go_wp2
     go_meet
     case rel=>exact⟨m',i,l,rfl,j6 (HI.o.on d6.o HU.o)⟩
    | none =>
     rw[hun]at c1;replace c1:wa.cell? ⟨gr,1,none⟩=some (.int .i64 (-1)):=c1;have HU:=j6 hun;have g3:H0 (RSR w0 wa (Rg K w wa) gr { m' with un:=Lk m'.v.bs 0,lf:=m'.lf }):=j6 (by
      have:({ m' with un:=Lk m'.v.bs 0,lf:=m'.lf }:RSM)=m':=by
       show({ m' with un:=none,lf:=m'.lf }:RSM)=m';rw[<-hun]
      rw[this];exact HI.o.sp)
     have h2:H0 (Upd K w wa):=j6 HI.o.up;clear hun;have e9:((-1:Int)<0):=by decide
     go_wp2
     go_loopg [5] N (λz u wq=>∃(j:Nat),z=N-j/\j<=N-1/\u=.int .i64 j/\H0 (RSR w0 wq (Rg K w wq) gr { m' with un:=Lk m'.v.bs j,lf:=m'.lf })/\H0 (Upd K w wq))
     case atStart=>exact⟨0,by omega,AG _,rfl,g3,h2⟩
     case round =>
      clear g3 h2;obtain⟨j,rfl,hj,rfl,HP,b7⟩:=hrel;have d0:wr.cell? ⟨gr,0,none⟩=some (.slice mA N m'.c):=M.o▸HN.o▸HP.o.bk.cell 0;by_cases I:j+1<N
      ·have i7:(j:Int)+1<(N:Int):=by omega
       have c4:j+1<m'.bs.length:=by rw[<-HN.o];exact I
       obtain⟨ad,hA,p0⟩:=HP.o.b.at (i:=j) (show j<m'.bs.length by omega);have⟨Z,g,p1⟩:=HP.o.b.at (i:=j+1) c4;replace hA:m'.A=some ad:=hA;replace g:m'.A=some Z:=g;obtain rfl:mA=some ad:=M.o.symm.trans hA;obtain rfl:ad=Z:=by rw[hA]at g;injection g
       clear hA g;have⟨b0,a5⟩:=tz (Dy m'.bs j);have⟨b1,a6⟩:=tz (Dy m'.bs (j+1));have⟨nb,B⟩:=E9 b0.l.length;have⟨nc,a8⟩:=E9 b1.l.length;replace p0:wr.cell? (ad.add j)=some (.slice b0.A nb b0.c):=by rw[B,<-a5];exact p0
       replace p1:wr.cell? ⟨ad.block,ad.off+(j+1),none⟩=some (.slice b1.A nc b1.c):=by rw[a8,<-a6];exact p1
       have f9:=j6 (a2m (m:=m') (nb:=nb) (nc:=nc) c4 (by rw[a5];exact B) (by rw[a6];exact a8));have i8:nb+nc<=1000000:=by have q:=lM c4;have q2:=g2.o;rw[a5,a6,<-B,<-a8]at q;omega
       have l3:IntKind.i64.wrap (2*(nc:Int))=2*(nc:Int):=CU _ (by omega);have X:Ext wr wr.drew:=(Ext.refl _).drew;have HB:=j6 (HP.o.ext X);have D0:∀y:Xt wr.drew,y.W.cell? ⟨gr,0,none⟩=some (.slice (some ad) N m'.c):=λy=>(X.trans y.x).cell d0;have P0:∀y:Xt wr.drew,y.W.cell? (ad.add j)=some (.slice b0.A nb b0.c):=λy=>(X.trans y.x).cell p0;have P1:∀y:Xt wr.drew,y.W.cell? ⟨ad.block,ad.off+(j+1),none⟩=some (.slice b1.A nc b1.c):=λy=>(X.trans y.x).cell p1;have j4:H0 ((Dy m'.bs j).s=.slice b0.A nb b0.c):=j6 (by rw[a5,B]);have j5:H0 ((Dy m'.bs (j+1)).s=.slice b1.A nc b1.c):=j6 (by rw[a6,a8]);clear a5 a6 B a8 c4
       go_upto_region 8 with fail
       refine wro [0,1,3,7,0,31,63,127,0,256,768,1792,0,4096,16128,32512,65280,130816,262143] (.flo [0,1,2,3,4,5,6,7,8,9,10,11,12,13,14,15,16,17,18] (.fin)) ?_
       (refine Aa (pks rfl) ?_;(repeat (go_big_quiet_step (fail)));refine oq ?_)
       refine Ad ?_;have⟨w8,d4⟩:=E9 wr.drew;rw[<-d4]at X HB ⊢;clear d4 D0 P0 P1;by_cases hdue:nb<=2*nc
       ·have f7:(nb:Int)<=2*(nc:Int):=by omega
        have hs:IntKind.i64.wrap ((nb:Int)+(nc:Int))=((nb+nc:Nat):Int):=by rw[<-Int.natCast_add];exact CU _ (by omega)
        have g4:=j6 (HB.o.put_un (a:=(j:Int)) j (nb+nc) rfl);have h7:H0 (Upd K w ((w8.setCell ⟨gr,1,none⟩ (.int .i64 (j:Int))).setCell ⟨gr,2,none⟩ (.int .i64 ((nb+nc:Nat):Int))).drew):=j6 (by
         have kg:K gr\/w.heap.size<=gr:=HB.o.kg.imp id λz=>z.1;exact(((b7.o.trans (Upd.ext X)).setCell (p:=⟨gr,1,none⟩) kg _).setCell (p:=⟨gr,2,none⟩) kg _).trans (Upd.ext ((Ext.refl _).drew)))
        have i6:wr.heap.size<=((w8.setCell ⟨gr,1,none⟩ (.int .i64 (j:Int))).setCell ⟨gr,2,none⟩ (.int .i64 ((nb+nc:Nat):Int))).drew.heap.size:=by
         have a1:=X.size;have a2:=(Ext.refl ((w8.setCell ⟨gr,1,none⟩ (.int .i64 (j:Int))).setCell ⟨gr,2,none⟩ (.int .i64 ((nb+nc:Nat):Int)))).drew.size;have a3:((w8.setCell ⟨gr,1,none⟩ (.int .i64 (j:Int))).setCell ⟨gr,2,none⟩ (.int .i64 ((nb+nc:Nat):Int))).heap.size=w8.heap.size:=by simp
         rw[a3]at a2;omega
        have g7:H0 (RSR w0 ((w8.setCell ⟨gr,1,none⟩ (.int .i64 (j:Int))).setCell ⟨gr,2,none⟩ (.int .i64 ((nb+nc:Nat):Int))).drew (Rg K w ((w8.setCell ⟨gr,1,none⟩ (.int .i64 (j:Int))).setCell ⟨gr,2,none⟩ (.int .i64 ((nb+nc:Nat):Int))).drew) gr { m' with un:=Lk m'.v.bs (j+1),lf:=m'.lf }):=j6 (by
         rw[f9.o,if_pos hdue];exact g4.o.wide λk _ hk=>hk.imp id λz=>⟨z.1,AZ z.2 i6⟩)
        have c3:=HB.o.bk.lt;have f1:=HB.o.bk.free 1;have e1:w8.cell? ⟨gr,1,none⟩=some (.int .i64 (lD (Lk m'.v.bs j))):=HB.o.bk.cell 1;have R:=HB.o.bk.set 1 (.int .i64 (j:Int));have d5:=HB.o.b.head HB.o.bk HB.o.lo 1 (.int .i64 (j:Int));obtain⟨i1,a0,q0⟩:=d5.at (i:=j) (show j<m'.bs.length by rw[<-HN.o];omega);obtain⟨i2,a4,q1⟩:=d5.at (i:=j+1) (show j+1<m'.bs.length by rw[<-HN.o];omega);replace a0:m'.A=some i1:=a0;replace a4:m'.A=some i2:=a4;obtain rfl:ad=i1:=by rw[M.o]at a0;injection a0
        obtain rfl:ad=i2:=by rw[M.o]at a4;injection a4
        have⟨w1,a9⟩:=E9 (w8.setCell ⟨gr,1,none⟩ (.int .i64 (j:Int)));rw[<-a9]at g7 h7 R q0 q1;clear g4 i6 a0 a4 d5
        go_upto_region 10 with fail
        rw[<-a9];have X1:Ext w1 w1.drew:=(Ext.refl _).drew;have D0:∀y:Xt w1.drew,y.W.cell? ⟨gr,0,none⟩=some (.slice (some ad) N m'.c):=λy=>by have:=(R.ext (X1.trans y.x)).cell 0;exact this.trans (by rw[<-M.o,HN.o];rfl)
        have P0:∀y:Xt w1.drew,y.W.cell? (ad.add j)=some (.slice b0.A nb b0.c):=λy=>(X1.trans y.x).cell (q0.trans (by rw[j4.o]));have P1:∀y:Xt w1.drew,y.W.cell? ⟨ad.block,ad.off+(j+1),none⟩=some (.slice b1.A nc b1.c):=λy=>(X1.trans y.x).cell (q1.trans (by rw[j5.o]));have l7:=(R.ext X1).lt;have f2:=(R.ext X1).free 2;have e2:w1.drew.cell? ⟨gr,2,none⟩=some (.int .i64 (a1i (Lk m'.v.bs j) m'.lf)):=(R.ext X1).cell 2;clear a9 q0 q1;refine wro [0,0,2,6,14,0,62,126,254,0,512,1536,3584,0,8192,32256,65024,130560,262142,524287,1048575,2097151] (.flo [0,1,2,3,4,5,6,7,8,9,10,11,12,13,14,15,16,17,18,19,20] (.one 21 (.fin))) ?_
        (refine Aa (pks rfl) ?_;(repeat (go_big_quiet_step (fail)));refine oq ?_)
        refine Ac (pks rfl) ?_;intro K_ H;go_wp2;refine Ad ?_;go_wp2
        go_roundg (N-(j+1))
        case measure=>omega
        case rel=>exact⟨j+1,rfl,by omega,by go_num,g7,h7⟩
       ·have f7:¬(nb:Int)<=2*(nc:Int):=by omega
        have j9:H0 (RSR w0 w8 (Rg K w w8) gr { m' with un:=Lk m'.v.bs (j+1),lf:=m'.lf }):=j6 (by rw[f9.o,if_neg hdue];exact HB.o.wide λk _ hk=>hk.imp id λz=>⟨z.1,AZ z.2 X.size⟩);have k3:H0 (Upd K w w8):=j6 (b7.o.trans (Upd.ext X));go_wp2
        go_roundg (N-(j+1))
        case measure=>omega
        case rel=>exact⟨j+1,rfl,by omega,by go_num,j9,k3⟩
      ·have i7:¬(j:Int)+1<(N:Int):=by omega
       obtain rfl:j=N-1:=by omega
       have⟨d,hd⟩:=tz (Lk m'.v.bs (N-1));rw[hd]at HP;have f8:H0 (Lk m'.v.bs (m'.v.bs.length-1)=d):=j6 (by rw[show m'.v.bs.length=N by rw[HN.o];exact AN ..];exact hd);have d1:wr.cell? ⟨gr,1,none⟩=some (.int .i64 (lD d)):=HP.o.bk.cell 1;clear hd;cases d with
       | none =>
        replace d1:wr.cell? ⟨gr,1,none⟩=some (.int .i64 (-1)):=d1;have d9:H0 (∀r,De m'.v k m'.v r->De m.v n m'.v r):=j6 (λr hw=>HI.o.wk _ _ hw);have j0:H0 (Bp m'.v=(m'.v,false)):=j6 (by rw[Yq (show m'.v.un=none from HU.o),f8.o]);go_wp2;go_ret;exact⟨_,k,rfl,HP.o,.inr ⟨n,rfl,hn,by rw[show({ m' with un:=none,lf:=m'.lf }:RSM).v=m'.v by unfold RSM.v;rw[HU.o]];exact d9.o _ (.stop d6.o j0.o)⟩,by rw[show({ m' with un:=none,lf:=m'.lf }:RSM).v=m'.v by unfold RSM.v;rw[HU.o]];exact HI.o.ok,b7.o⟩
       | some p =>
        obtain⟨pi,pl⟩:=p;replace d1:wr.cell? ⟨gr,1,none⟩=some (.int .i64 (pi:Nat)):=d1;have k7:¬((pi:Int)<0):=by omega
        go_wp2
        go_meet
        case rel=>exact⟨_,pi,pl,rfl,j6 (HI.o.due d6.o HU.o f8.o rfl HP.o b7.o rfl)⟩
   case rest =>
    clear HI HN g2 M c0 c1 i3;obtain⟨m1,i,l,rfl,HP⟩:=hcut;have⟨I,m5,m6⟩:=HP.o.ok.un i l HP.o.un;replace I:i+1<m1.bs.length:=by have e:m1.v.bs.length=m1.bs.length:=AN ..;omega
    have L:=j6 I;have c1:wc.cell? ⟨gr,1,none⟩=some (.int .i64 (i:Nat)):=by have:=HP.o.sp.bk.cell 1;unfold Ld at this;rw[HP.o.un]at this;exact this
    have c2:wc.cell? ⟨gr,2,none⟩=some (.int .i64 (l:Nat)):=by have:=HP.o.sp.bk.cell 2;unfold Ld at this;rw[HP.o.un]at this;exact this
    have c3:=HP.o.sp.bk.lt;have f2:=HP.o.sp.bk.free 2;have⟨q,hq⟩:=tz (min k l);have l1:q<=k:=by omega
    have l2:q<=l:=by omega
    have e9:min (k:Int) (l:Int)=(q:Int):=by omega
    have l0:(if (l:Int)<(k:Int) then (l:Int) else (k:Int))=(q:Int):=by split<;>omega
    have a9:IntKind.i64.wrap ((l:Int)-(q:Int))=((l-q:Nat):Int):=by rw[<-GS l2];exact CU _ (by omega)
    have l3:IntKind.i64.wrap ((k:Int)-(q:Int))=((k-q:Nat):Int):=by rw[<-GS l1];exact CU _ (by omega)
    have HQ:=j6 hq;have d8:=j6 (HP.o.pay (l-q));clear I;by_cases hz0:l-q=0
    ·have l4:¬(0:Int)<((l-q:Nat):Int):=by omega
     have k9:k-q<k:=by omega
     go_upto_region 18 with fail
     have b6:H0 (RSR w0 (wc.setCell ⟨gr,2,none⟩ (.int .i64 0)) (Rg K w (wc.setCell ⟨gr,2,none⟩ (.int .i64 0))) gr { m1 with un:=some (i,0) }/\Upd K w (wc.setCell ⟨gr,2,none⟩ (.int .i64 0))):=j6 (HP.o.pay 0);have⟨w2,f6⟩:=E9 (wc.setCell ⟨gr,2,none⟩ (.int .i64 0));rw[<-f6]at b6 ⊢;clear f6 c1 c2 c3 f2 a9 e9 l0 hq;have HS:H0 (RSR w0 w2 (Rg K w w2) gr { m1 with un:=some (i,0) }):=j6 b6.o.1;have HU:=j6 b6.o.2;clear d8 b6;have⟨N,hN⟩:=E9 m1.bs.length;have b5:=j6 hN.symm;have C:=Ih HP.o.ok;have I:=L.o;rw[<-hN]at C I;have i3:N<=1000000:=by omega
     have J:=lM L.o;obtain⟨ad,hA,p0⟩:=HS.o.b.at (i:=i) (show i<m1.bs.length by omega);have⟨Z,g,p1⟩:=HS.o.b.at (i:=i+1) L.o;replace hA:m1.A=some ad:=hA;replace g:m1.A=some Z:=g;obtain rfl:ad=Z:=by rw[hA]at g;injection g
     have P:=Tw (l:=m1.bs) (i:=i) (by omega);have Q:=Tw L.o;have U:=HS.o.b.uin (i:=i) (show i<m1.bs.length by omega);have Y:=HS.o.b.uin (i:=i+1) L.o;have b9:Cc m1.v i=UdS.sumV (((Dy m1.bs i).v++(Dy m1.bs (i+1)).v).map (Bm (m1.S.map Tm.v))):=by
      show UdS.sumV (((m1.bs.map Rb.v).getD i []++(m1.bs.map Rb.v).getD (i+1) []).map (Bm (m1.S.map Tm.v)))=_;rw[Zg (by omega),Zg L.o]
     have e7:=HS.o.b.bt _ P;have e8:=HS.o.b.bt _ Q;have D:∀x∈(Dy m1.bs i).l++(Dy m1.bs (i+1)).l,(InU x/\x.t.l=[])/\UdR w0 x:=λx hx=>by
      rcases AQ.1 hx with hx|hx
      ·exact⟨Zf HP.o.ok x (a1d P x hx),e7.ls x hx⟩
      ·exact⟨Zf HP.o.ok x (a1d Q x hx),e8.ls x hx⟩
     replace p0:w2.cell? (ad.add i)=some (Dy m1.bs i).s:=p0;replace p1:w2.cell? ⟨ad.block,ad.off+(i+1),none⟩=some (Dy m1.bs (i+1)).s:=p1;obtain⟨⟨aA,ac,al⟩,ha⟩:∃b,Dy m1.bs i=b:=⟨_,rfl⟩;obtain⟨⟨bA,bc,bl⟩,hb⟩:∃b,Dy m1.bs (i+1)=b:=⟨_,rfl⟩;rw[ha]at p0 U b9 D J;rw[hb]at p1 Y b9 D J;simp only at U Y D J;have⟨na,a7⟩:=E9 al.length;have⟨nb,B⟩:=E9 bl.length;have⟨nS,d2⟩:=E9 m1.S.length;replace p0:w2.cell? (ad.add i)=some (.slice aA na ac):=by rw[a7];exact p0
     replace p1:w2.cell? ⟨ad.block,ad.off+(i+1),none⟩=some (.slice bA nb bc):=by rw[B];exact p1
     have i8:na+nb<=1000000:=by rw[<-a7,<-B]at J;omega
     have m2:na<=1000000:=by omega
     have HC:H0 (∀W,Ext w2 W->W.cell? ⟨gr,0,none⟩=some (.slice (some ad) N m1.c)/\W.cell? ⟨gr,1,none⟩=some (.int .i64 (i:Nat))/\W.cell? ⟨gr,3,none⟩=some (.slice m1.sA nS m1.sc)):=j6 (λW x=>by
      have b:=HS.o.bk.ext x;refine⟨?_,b.cell 1,?_⟩
      ·rw[hN,<-hA];exact b.cell 0
      ·rw[d2];exact b.cell 3)
     have k0:H0 (∀W,Ext w2 W->Sl W 4 aA na ac (Ah al)):=j6 (λW x=>a7▸(U.ext x).sl);have k1:H0 (∀W,Ext w2 W->Sl W 4 bA nb bc (Ah bl)):=j6 (λW x=>B▸(Y.ext x).sl);have O:=HS.o.b.ow;replace O:Own w2 w0.heap.size 22 1 (some ad) N m1.c (m1.bs.map Rb.s):=by rw[hN,<-hA];exact O
     have l5:N<=m1.c/\m1.c<=9223372036854775807:=O.sl.cap;have d9:H0 (∀W,Ext w2 W->Sl W 1 (some ad) i m1.c ((m1.bs.map Rb.s).take i)):=j6 (λW x=>by have:=Sl.take (k:=i) (O.sl.ext x) (by omega);rwa [FA]at this);have h0:H0 (∀W,Ext w2 W->Sl W 1 (if m1.c=i+2 then some ad else some (ad.add (i+2))) (N-(i+2)) (m1.c-(i+2)) ((m1.bs.map Rb.s).drop (i+2))):=j6 (λW x=>by
      have:=Sl.drop (k:=i+2) (O.sl.ext x) (by omega);rw[FA]at this;exact this)
     have b4:H0 (na+nb=(al++bl).length):=j6 (by rw[AA,a7,B]);have e0:H0 (UdS.sumV (((al++bl).map Ud.uv).map (Bm (m1.S.map Tm.v)))=Cc m1.v i):=j6 (by rw[b9,AI];rfl);have g1:H0 (∀x∈al++bl,InU x):=j6 (λx hx=>(D x hx).1.1);have j7:H0 (∀x∈((al++bl).map Ud.uv).map (Bm (m1.S.map Tm.v)),UdS.InN x):=j6 (λx hx=>by
      obtain⟨u,hu,rfl⟩:=AP.1 hx;obtain⟨y,hy,rfl⟩:=AP.1 hu;exact(g1.o y hy).num)
     have j1:H0 (∀x∈al++bl,x.t.l=[]/\UdR w0 x):=j6 (λx hx=>⟨(D x hx).1.2,(D x hx).2⟩);have k4:H0 (∀W,Ext w2 W->∀x∈al++bl,UdR W x):=j6 (λW x y hy=>(AQ.1 hy).elim (λq=>(U.ls y q).ext x) (λq=>(Y.ls y q).ext x));have j8:=j6 d2;have j2:H0 (Su m1.S):=j6 (Ua HP.o.ok.fs);have j3:H0 (∀x∈al++bl,x.t.l=[]):=j6 (λx hx=>(D x hx).1.2);have m0:nS<=1:=by rw[d2];exact(Fk HP.o.ok.fs).2
     have k2:H0 (∀W,Ext w2 W->Tin W m1.sA m1.sc m1.S):=j6 (λW x=>(HS.o.b.sn.tin HS.o.b.ex).ext x);clear hN C J hA g P Q U Y b9 e7 e8 D ha hb a7 B d2 O;have X:Ext w2 w2.drew:=(Ext.refl _).drew;have D0:∀y:Xt w2.drew,y.W.cell? ⟨gr,0,none⟩=some (.slice (some ad) N m1.c):=λy=>(HC.o _ (X.trans y.x)).1;have D1:∀y:Xt w2.drew,y.W.cell? ⟨gr,1,none⟩=some (.int .i64 (i:Nat)):=λy=>(HC.o _ (X.trans y.x)).2.1;have P0:∀y:Xt w2.drew,y.W.cell? (ad.add i)=some (.slice aA na ac):=λy=>(X.trans y.x).cell p0;have E:w2.heap.size<=w2.drew.heap.size:=X.size;refine wro [0,0,2,6,14,0,32,96,224,510,1022,2047,4095] (.flo [0,1,2,3,4,5,6,7,8,9,10] (.one 11 (.flo [12] (.fin)))) ?_
     (refine Aa (pks rfl) ?_;(repeat (go_big_quiet_step (fail)));refine oq ?_)
     refine Ac (pks rfl) ?_;intro K_ H;go_wp2_with (at_builtin;refine Ab _ Ao w2.heap.size _ _ rfl rfl none 0 0 [] rfl (Own.nil _ _ _ _) aA na ac (Ah al) rfl (k0.o _ X) (Bz _) (by omega) (by decide) E ?_;intro A5 c5 w5 o5 g5 h5;clear h5;have X5:H0 (Ext w2 w5):=j6 (X.grown g5 (λk e=>nomatch e));have O5:H0 (Own w5 w2.heap.size 95 4 A5 na c5 (Ah al)):=j6 (by have:=o5;rwa [BV,BD]at this);clear o5 g5)
     go_simp
     (refine Aa (pks rfl) ?_;(repeat (go_big_quiet_step (fail)));refine oq ?_)
     refine Ad ?_;clear D0 D1 P0 X E;have X:Ext w5 w5.drew:=(Ext.refl _).drew;have D0:∀y:Xt w5.drew,y.W.cell? ⟨gr,0,none⟩=some (.slice (some ad) N m1.c):=λy=>(HC.o _ (X5.o.trans (X.trans y.x))).1;have D1:∀y:Xt w5.drew,y.W.cell? ⟨gr,1,none⟩=some (.int .i64 (i:Nat)):=λy=>(HC.o _ (X5.o.trans (X.trans y.x))).2.1;have P1:∀y:Xt w5.drew,y.W.cell? ⟨ad.block,ad.off+(i+1),none⟩=some (.slice bA nb bc):=λy=>(X5.o.trans (X.trans y.x)).cell p1;have E:w2.heap.size<=w5.drew.heap.size:=(X5.o.trans X).size
     go_upto_region 19 with fail
     refine wro [0,0,2,6,14,0,32,96,224,480,1022,2046,4095,8191] (.flo [0,1,2,3,4,5,6,7,8,9,10,11] (.one 12 (.flo [13] (.fin)))) ?_
     (refine Aa (pks rfl) ?_;(repeat (go_big_quiet_step (fail)));refine oq ?_)
     refine Ac (pks rfl) ?_;intro K_ H;go_wp2_with (at_builtin;refine Ab _ Ao w2.heap.size _ _ rfl rfl A5 na c5 (Ah al) rfl (O5.o.ext X) bA nb bc (Ah bl) rfl (k1.o _ (X5.o.trans X)) (Bz _) (by omega) (by decide) E ?_;intro A6 c6 w6 o6 g6 h6;clear h6;have X6:H0 (Ext w2 w6):=j6 ((X5.o.trans X).grown g6 (λk e=>(O5.o.lt k e).1));have O6:H0 (Own w6 w2.heap.size 95 4 A6 (na+nb) c6 (Ah (al++bl))):=j6 (by rw[Au];exact o6);clear o6 g6)
     go_simp
     (refine Aa (pks rfl) ?_;(repeat (go_big_quiet_step (fail)));refine oq ?_)
     refine Ad ?_;clear D0 D1 P1 X E;have d3:=(HC.o _ X6.o).2.2;have h3:H0 (Uin w6 A6 c6 (al++bl)):=j6 ⟨b4.o▸O6.o.sl,k4.o _ X6.o⟩
     go_upto_region 22 with (first
      | (go_at_call 27;refine(Nw (V:=Cc m1.v i) A6 c6 (na+nb) (al++bl) m1.sA m1.sc nS m1.S _ e0 b4 h3 (by omega) g1 j8 (j6 (k2.o _ X6.o)) j2 j3).mono ?_;rintro r w7 ⟨A7,m7,c7,M7,rfl,f3,o7,p7,v7,x7⟩;have l8:=a0q f3 v7 e0.o b4.o;have T:=j6 f3;have i0:=j6 v7;have X7:H0 (Ext w2 w7):=j6 (X6.o.trans x7);have O7:H0 (Own w7 w2.heap.size 95 4 A7 m7 c7 (Ah M7)):=j6 (o7.mono X6.o.size);have h4:H0 (∀y∈M7,UdR w0 y):=j6 (a0o j7.o p7 v7 e0.o j1.o);clear f3 o7 p7 v7 x7)
      | fail)
     clear d3 h3;have X:Ext w7 w7.drew:=(Ext.refl _).drew;have D0:∀y:Xt w7.drew,y.W.cell? ⟨gr,0,none⟩=some (.slice (some ad) N m1.c):=λy=>(HC.o _ (X7.o.trans (X.trans y.x))).1;have D1:∀y:Xt w7.drew,y.W.cell? ⟨gr,1,none⟩=some (.int .i64 (i:Nat)):=λy=>(HC.o _ (X7.o.trans (X.trans y.x))).2.1;have E:w2.heap.size<=w7.drew.heap.size:=(X7.o.trans X).size;refine wro [0,0,2,6,14,0,32,96,224,510,1023,2047] (.flo [0,1,2,3,4,5,6,7,8,9] (.one 10 (.flo [11] (.fin)))) ?_
     (refine Aa (pks rfl) ?_;(repeat (go_big_quiet_step (fail)));refine oq ?_)
     refine Ac (pks rfl) ?_;intro K_ H;go_wp2_with (at_builtin;refine Ab _ Pd w2.heap.size _ _ rfl rfl none 0 0 [] rfl (Own.nil _ _ _ _) (some ad) i m1.c ((m1.bs.map Rb.s).take i) rfl (d9.o _ (X7.o.trans X)) (tV _ _) (by omega) (by decide) E ?_;intro A8 c8 w8 o8 g8 h8;clear h8;have e5:Ext w7 w8:=X.grown g8 (λk e=>nomatch e);have X8:H0 (Ext w2 w8):=j6 (X7.o.trans e5);have O8:H0 (Own w8 w2.heap.size 22 1 A8 i c8 ((m1.bs.map Rb.s).take i)):=j6 (by have:=o8;rwa [BV,BD]at this);have b8:=j6 (O7.o.ext e5);clear o8 g8 e5)
     go_simp
     (refine Aa (pks rfl) ?_;(repeat (go_big_quiet_step (fail)));refine oq ?_)
     refine Ad ?_;clear D0 D1 X E;have d4:=X8.o.size
     go_upto_if 144 with fail
     go_cut [8] (λu wx=>∃(A9:Option Addr) (n9 c9:Nat),u=.slice A9 n9 c9/\n9<=i+1/\H0 (n9=(m1.bs.take i++(if M7=[] then [] else [(⟨A7,c7,M7⟩:Rb)])).length)/\H0 (Own wx w2.heap.size 22 1 A9 n9 c9 ((m1.bs.take i++(if M7=[] then [] else [(⟨A7,c7,M7⟩:Rb)])).map Rb.s))/\H0 (Ext w2 wx)/\H0 (Own wx w2.heap.size 95 4 A7 m7 c7 (Ah M7)))
     case first =>
      by_cases hm0:m7=0
      ·subst hm0;have he:M7=[]:=AH T.o.symm;go_wp2
       go_meet
       case rel =>
        refine⟨A8,i,c8,rfl,by omega,j6 ?_,j6 ?_,X8,b8⟩
        ·rw[if_pos he,AV,CE,b5.o];omega
        ·rw[if_pos he,AV,EW];exact O8.o
      ·have e9:(0:Int)<(m7:Int):=by omega
       have he:¬M7=[]:=λq=>hm0 (by rw[T.o,q];rfl);replace he:=j6 he;go_wp2_with (at_builtin;refine Ab _ Pd w2.heap.size _ _ rfl rfl A8 i c8 ((m1.bs.map Rb.s).take i) rfl (O8.o.alloc _) (some ⟨w8.heap.size,0,none⟩) 1 1 [.slice A7 m7 c7] rfl (Sl.one w8 #[.slice A7 m7 c7] 22 1 rfl) (by intro u hu;simp at hu;subst hu;rfl) (by omega) (by decide) (by simp;omega) ?_;intro A9 c9 w9 o9 g9 h9;clear h9;have X9:H0 (Ext w2 w9):=j6 ((X8.o.alloc _).grown g9 (λk e=>(O8.o.lt k e).1));have O9:=j6 o9;have F:H0 (Own w9 w2.heap.size 95 4 A7 m7 c7 (Ah M7)):=j6 ((b8.o.alloc _).kept g9 (by cases hb:blk A7 c7 with|none=>exact .inl rfl|some k=>exact .inr (λq=>Ca b8.o O8.o (by decide) hb q.symm)));clear o9 g9)
       go_meet
       case rel =>
        refine⟨A9,i+1,c9,rfl,AD _,j6 ?_,j6 ?_,X9,F⟩
        ·rw[if_neg he.o,AA,CE,b5.o];simp;omega
        ·rw[if_neg he.o,AI,EW,CA,show Rb.s ⟨A7,c7,M7⟩=.slice A7 m7 c7 by rw[T.o]];exact O9.o
     case rest =>
      clear O8 b8 X8 d4;obtain⟨A9,n9,c9,rfl,l9,d7,O9,X9,F⟩:=hcut;obtain⟨w9,i4⟩:∃W:World,W=wc:=⟨_,rfl⟩;rw[<-i4]at O9 X9 F ⊢;clear i4
      go_upto_region 25 with fail
      by_cases hci:m1.c=i+2
      ·have k6:N=i+2:=by omega
       have W1:Ext w9 w9.drew:=(Ext.refl _).drew;have D0:∀y:Xt w9.drew,y.W.cell? ⟨gr,0,none⟩=some (.slice (some ad) N m1.c):=λy=>(HC.o _ (X9.o.trans (W1.trans y.x))).1;have D1:∀y:Xt w9.drew,y.W.cell? ⟨gr,1,none⟩=some (.int .i64 (i:Nat)):=λy=>(HC.o _ (X9.o.trans (W1.trans y.x))).2.1;have f5:w2.heap.size<=w9.drew.heap.size:=(X9.o.trans W1).size;have SD:H0 (Sl w9.drew 1 (some ad) (i+2-(i+2)) (i+2-(i+2)) ((m1.bs.map Rb.s).drop (i+2))):=j6 (by have:=h0.o _ (X9.o.trans W1);rw[if_pos hci,k6,hci]at this;exact this);refine wro [0,0,0,4,12,28,0,64,192,448,960,2044,4094,8191,16383,32767] (.pur [0] (.flo [1,2,3,4,5,6,7,8,9,10,11] (.one 12 (.flo [13,14] (.one 15 (.fin)))))) ?_
       (refine Bi (pks rfl) ?_;(repeat (go_big_quiet_step (fail)));refine oq ?_)
       (refine Aa (pks rfl) ?_;(repeat (go_big_quiet_step (fail)));refine oq ?_)
       refine Ac (pks rfl) ?_;intro K_ H;go_wp2_with (at_builtin;refine Ab _ Pd w2.heap.size _ _ rfl rfl A9 n9 c9 _ rfl (O9.o.ext W1) (some ad) (i+2-(i+2)) (i+2-(i+2)) ((m1.bs.map Rb.s).drop (i+2)) rfl SD.o (dV _ _) (by omega) (by decide) f5 ?_;intro i9 k5 b3 b2 G e6;clear e6;have f:H0 (Ext w2 b3):=j6 ((X9.o.trans W1).grown G (λk e=>(O9.o.lt k e).1));have e3:=j6 b2;have e4:H0 (Own b3 w2.heap.size 95 4 A7 m7 c7 (Ah M7)):=j6 ((F.o.ext W1).kept G (by cases hb:blk A7 c7 with|none=>exact .inl rfl|some k=>exact .inr (λq=>Ca F.o O9.o (by decide) hb q.symm)));have c3:=(HS.o.bk.ext f.o).lt;have f0:=(HS.o.bk.ext f.o).free 0;have f1:=(HS.o.bk.ext f.o).free 1;have d0:=(HC.o _ f.o).1;have d1:=(HC.o _ f.o).2.1;clear b2 G)
       go_simp
       (refine Aa (pks rfl) ?_;(repeat (go_big_quiet_step (fail)));refine oq ?_)
       refine Ac (pks rfl) ?_;intro K_ H;go_wp2;refine Ad ?_;go_wp2
       go_roundg (k-q)
       case measure=>omega
       case rel =>
        obtain⟨m3,r1,r2,r3⟩:=dU x0.o HU.o HS.o rfl f.o (N:=m1.bs.take i++(if M7=[] then [] else [⟨A7,c7,M7⟩])++m1.bs.drop (i+2)) rfl (p:=n9) (by rw[AA,<-d7.o,CZ,b5.o];omega) (by have:=e3.o;rw[DQ,EH,<-FG,<-AI]at this;exact this) T.o e4.o h4.o i0.o;exact⟨k-q,m3,rfl,by omega,rfl,j6 (by have:=HP.o.zero (by rw[HQ.o];exact hz0) (r2.trans (sW HP.o.un)) r1 r3;rwa [HQ.o]at this)⟩
      ·have l6:0<m1.c-(i+2):=by omega
       have W1:Ext w9 w9.drew:=(Ext.refl _).drew;have D0:∀y:Xt w9.drew,y.W.cell? ⟨gr,0,none⟩=some (.slice (some ad) N m1.c):=λy=>(HC.o _ (X9.o.trans (W1.trans y.x))).1;have D1:∀y:Xt w9.drew,y.W.cell? ⟨gr,1,none⟩=some (.int .i64 (i:Nat)):=λy=>(HC.o _ (X9.o.trans (W1.trans y.x))).2.1;have f5:w2.heap.size<=w9.drew.heap.size:=(X9.o.trans W1).size;have SD:H0 (Sl w9.drew 1 (some (ad.add (i+2))) (N-(i+2)) (m1.c-(i+2)) ((m1.bs.map Rb.s).drop (i+2))):=j6 (by have:=h0.o _ (X9.o.trans W1);rw[if_neg hci]at this;exact this);refine wro [0,0,0,4,12,28,0,64,192,448,960,2044,4094,8191,16383,32767] (.pur [0] (.flo [1,2,3,4,5,6,7,8,9,10,11] (.one 12 (.flo [13,14] (.one 15 (.fin)))))) ?_
       (refine Bi (pks rfl) ?_;(repeat (go_big_quiet_step (fail)));refine oq ?_)
       (refine Aa (pks rfl) ?_;(repeat (go_big_quiet_step (fail)));refine oq ?_)
       refine Ac (pks rfl) ?_;intro K_ H;go_wp2_with (at_builtin;refine Ab _ Pd w2.heap.size _ _ rfl rfl A9 n9 c9 _ rfl (O9.o.ext W1) (some (ad.add (i+2))) (N-(i+2)) (m1.c-(i+2)) ((m1.bs.map Rb.s).drop (i+2)) rfl SD.o (dV _ _) (by omega) (by decide) f5 ?_;intro i9 k5 b3 b2 G e6;clear e6;have f:H0 (Ext w2 b3):=j6 ((X9.o.trans W1).grown G (λk e=>(O9.o.lt k e).1));have e3:=j6 b2;have e4:H0 (Own b3 w2.heap.size 95 4 A7 m7 c7 (Ah M7)):=j6 ((F.o.ext W1).kept G (by cases hb:blk A7 c7 with|none=>exact .inl rfl|some k=>exact .inr (λq=>Ca F.o O9.o (by decide) hb q.symm)));have c3:=(HS.o.bk.ext f.o).lt;have f0:=(HS.o.bk.ext f.o).free 0;have f1:=(HS.o.bk.ext f.o).free 1;have d0:=(HC.o _ f.o).1;have d1:=(HC.o _ f.o).2.1;clear b2 G)
       go_simp
       (refine Aa (pks rfl) ?_;(repeat (go_big_quiet_step (fail)));refine oq ?_)
       refine Ac (pks rfl) ?_;intro K_ H;go_wp2;refine Ad ?_;go_wp2
       go_roundg (k-q)
       case measure=>omega
       case rel =>
        obtain⟨m3,r1,r2,r3⟩:=dU x0.o HU.o HS.o rfl f.o (N:=m1.bs.take i++(if M7=[] then [] else [⟨A7,c7,M7⟩])++m1.bs.drop (i+2)) rfl (p:=n9+(N-(i+2))) (by rw[AA,<-d7.o,CZ,b5.o]) (by have:=e3.o;rw[<-FG,<-AI]at this;exact this) T.o e4.o h4.o i0.o;exact⟨k-q,m3,rfl,by omega,rfl,j6 (by have:=HP.o.zero (by rw[HQ.o];exact hz0) (r2.trans (sW HP.o.un)) r1 r3;rwa [HQ.o]at this)⟩
    ·have l4:(0:Int)<((l-q:Nat):Int):=by omega
     have k9:k-q<k:=by omega
     clear hq;go_wp2
     go_roundg (k-q)
     case measure=>omega
     case rel=>exact⟨k-q,_,rfl,by omega,rfl,j6 (by have:=HP.o.left (by rw[HQ.o];exact hz0) (by rw[HQ.o];exact d8.o.1) d8.o.2;rwa [HQ.o]at this)⟩
end Go.Proofs.YtdgbkpoickbidaaGreatDoor
