/- Parts of the proof. Conditions: as stated. -/
import Derived.Test.YtdgbkpoickbidaaGreatDoorHx13
set_option maxRecDepth 100000
set_option maxHeartbeats 8000000
open Go.RowKit Go.Proofs.Tryz
set_option linter.defProp false
namespace Go.Proofs.YtdgbkpoickbidaaGreatDoor
variable{gb:Nat}{R R' S:Nat->Prop}{w w' w3:World}
def Am(i:Int)(k:Nat):List Value:=[.int .u32 (IntKind.u32.wrap (i*1000+(k:Int)))]
def Di(i:Int)(k:Nat):(Am i k).length=1:=rfl
def Vy(i:Int)(k:Nat):∀u∈Am i k,u.oneCell'=true:=by intro u hu;simp[Am]at hu;rcases hu with rfl<;>rfl
def Mt:Gr prog 40 24 1 24 (.slice none 0 0):=⟨by kernel_rfl,by kernel_rfl,rfl,by decide⟩
def aU(OA:Option Addr)(oc m B:Nat)(L:List En)(f:Nat->List Value)(w:World)(hm:H0 (m=L.length))(hs:H0 (Sl w 1 OA m oc (El L)))(hl:H0 (Gn w B 180 1 L f))(hf:H0 (∀k,blk OA oc=some k->¬Cf L k/\k<w.heap.size))(hm9:m<=100000)(hn:H0 (∀i,i<L.length->(ena L i).n<=1000000))(hBw:H0 (B<=w.heap.size)) :
  C3 126 #[.slice OA m oc] w λe w'=>e=.returned (.bool true)/\Upd (Cf L) w w':=by
 have P:H0 (Ph1 Am w w B 180 1 L 0 f):=j6 ⟨hl.o,λj hj=>by omega,Upd.refl _ _⟩;have l:H0 (∀(wr:World) (i:Nat),Upd (Cf L) w wr->i<m->∃ad,OA=some ad/\wr.cell? (ad.add i)=some (ena L i).v):=j6 (λwr i hu hi=>Hu (hs.o.upd hu (λk hk=>(hf.o k hk).1)) hi);go_enter func126,ntmps126;go_wp2
 go_loopg [3] m (λz v wr=>∃(i:Nat) (f:Nat->List Value),z=m-i/\i<=m/\v=.int .i64 i/\H0 (Ph1 Am w wr B 180 1 L i f))
 case atStart=>exact⟨0,f,rfl,AG _,rfl,P⟩
 case round =>
  clear P;obtain⟨i,f,rfl,hi,rfl,HP⟩:=hrel;obtain⟨wo,a1⟩:∃wo:World,wo=wr:=⟨_,rfl⟩;rw[<-a1]at HP ⊢;clear a1;by_cases hlt:i<m
  ·have H:i<L.length:=by rw[<-hm.o];exact hlt
   obtain⟨ad,rfl,p0⟩:=l.o wo i HP.o.upd hlt;have a:=hn.o i H;have D:=j6 H;have⟨x,hx⟩:=tz (ena L i);rw[hx]at p0 a;obtain⟨A,n,c⟩:=x;have d:H0 ((ena L i).n=n):=j6 (by rw[hx]);have HX:=j6 hx;clear H hx;replace p0:wo.cell? (ad.add i)=some (.slice A n c):=p0;replace a:n<=1000000:=a;have HI:=j6 HP.o.enter;go_wp2
   go_loopg [4] n (λz v wi=>∃(k:Nat) (f:Nat->List Value),z=n-k/\k<=n/\v=.int .i64 k/\H0 (Kd Am w wi B 180 1 L i k f))
   case atStart=>exact⟨0,f,rfl,AG _,rfl,HI⟩
   case round =>
    clear HI;obtain⟨k,f,rfl,hk,rfl,HI⟩:=hrel;obtain⟨wi,a0⟩:∃wi:World,wi=wr:=⟨_,rfl⟩;rw[<-a0]at HI ⊢;clear a0;have⟨T,e2,p1⟩:=l.o wi i HI.o.ph.upd hlt;cases e2;rw[HX.o]at p1;replace p1:wi.cell? (ad.add i)=some (.slice A n c):=p1;by_cases hkn:k<n
    ·have o1:=HI.o.ph.ls.own i D.o;rw[HX.o]at o1;obtain⟨g,eA,hb,_,_,hc,X⟩:=o1.form (show 0<n by omega);have hA:(ena L i).A=some ⟨g,0,none⟩:=by rw[HX.o];exact eA
     have U:(ena L i).b=some g:=by unfold En.b;rw[HX.o];exact hb
     have b3:(f i).length=n*1:=o1.1;subst eA;have q0:wi.cell? ⟨g,k,none⟩=some ((f i)[k]'(by omega)):=hc _ _ (AC (by omega));have z0:=X (k);obtain⟨f',W⟩:=HI.o.put1 D.o (by rw[d.o];exact hkn) hA U (show Am i k=[.int .u32 ((i:Int)*1000+(k:Int))]from by show [Value.int .u32 (IntKind.u32.wrap ((i:Int)*1000+(k:Int)))]=_;rw[show IntKind.u32.wrap ((i:Int)*1000+(k:Int))=((i:Int)*1000+(k:Int))from by rw[ID];omega]);have M:IntKind.i64.wrap ((i:Int)*1000)=(i:Int)*1000:=by rw[BJ];omega
     have N:IntKind.i64.wrap ((i:Int)*1000+(k:Int))=(i:Int)*1000+(k:Int):=by rw[BJ];omega
     have HF:=j6 W;clear W o1 hc X hb hA U;go_wp2
     go_roundg (n-(k+1))
     case measure=>omega
     case rel=>exact⟨k+1,f',rfl,by omega,by go_num,HF⟩
    ·obtain rfl:k=n:=by omega
     go_wp2
     go_roundg (m-(i+1))
     case measure=>omega
     case rel=>exact⟨i+1,f,rfl,by omega,by go_num,j6 ((show Kd Am w wi B 180 1 L i (ena L i).n f from d.o▸HI.o).leave D.o)⟩
  ·obtain rfl:i=m:=by omega
   have F:=j6 HP.o.upd;have Q:H0 (Ph2 Am wo wo B 180 24 1 L 0 [] none 0):=j6 (Ph2.start 24 (show Ph1 Am w wo B 180 1 L L.length f from hm.o▸HP.o));have r:H0 (∀(wr:World) (j:Nat),Upd (Cf L) wo wr->j<i->∃ad,OA=some ad/\wr.cell? (ad.add j)=some (ena L j).v):=j6 (λwr j hu hj=>l.o wr j (F.o.trans hu) hj);clear HP;go_wp2
   go_loopg [5,6] i (λz u v wr=>∃(j:Nat) (G:List En) (LA:Option Addr) (lc:Nat),z=i-j/\j<=i/\v=.int .i64 j/\u=.slice LA j lc/\H0 (Ph2 Am wo wr B 180 24 1 L j G LA lc))
   case atStart=>exact⟨0,[],none,0,rfl,AG _,rfl,rfl,Q⟩
   case round =>
    clear Q;obtain⟨j,G,LA,lc,rfl,hj,rfl,rfl,HP⟩:=hrel;obtain⟨w2,Z⟩:∃w2:World,w2=wr:=⟨_,rfl⟩;rw[<-Z]at HP ⊢;clear Z;by_cases hlt2:j<i
    ·have I:j<L.length:=by rw[<-hm.o];exact hlt2
     obtain⟨ad,rfl,p0⟩:=r.o w2 j HP.o.upd hlt2;have a:=hn.o j I;have E:=j6 I;have⟨x,hx⟩:=tz (ena L j);rw[hx]at p0 a;obtain⟨A,n,c⟩:=x;have d:H0 ((ena L j).n=n):=j6 (by rw[hx]);have R:H0 ((ena L j).A=A/\(ena L j).c=c):=j6 (by rw[hx];exact⟨rfl,rfl⟩);clear I hx;replace p0:w2.cell? (ad.add j)=some (.slice A n c):=p0;replace a:n<=1000000:=a;have HI:H0 (Jy Am w2 w2 B 180 1 L j 0 A c):=j6 (by have:=HP.o.enter E.o;rwa [R.o.1,R.o.2]at this);go_wp2
     go_loopg [7,8] 8 (λz u v wi=>∃(k:Nat) (A':Option Addr) (c':Nat),z=8-k/\k<=8/\v=.int .i64 k/\u=.slice A' (n+k) c'/\H0 (Jy Am w2 wi B 180 1 L j k A' c'))
     case atStart=>exact⟨0,A,c,rfl,AG _,rfl,rfl,HI⟩
     case round =>
      clear HI;obtain⟨k,A',c',rfl,hk,rfl,rfl,HI⟩:=hrel;by_cases hk8:k<8
      ·have wy:IntKind.i64.wrap (-1-(j:Int)) = -1-(j:Int):=by rw[BJ];omega
       have M:IntKind.i64.wrap ((-1-(j:Int))*1000)=(-1-(j:Int))*1000:=by rw[BJ];omega
       have N:IntKind.i64.wrap ((-1-(j:Int))*1000+(k:Int))=(-1-(j:Int))*1000+(k:Int):=by rw[BJ];omega
       have HO:H0 (Own wr B 180 1 A' (n+k) c' (Av Am j (ena L j).n++Av Am (-1-j) k)):=j6 (by have:=HI.o.own;rwa [d.o]at this ⊢);have hB:B<=(wr.alloc (.cells (#[.int .u32 (IntKind.u32.wrap ((-1-(j:Int))*1000+(k:Int)))]:Array Value) 180)).heap.size:=by
        have h1:=HI.o.upd.size;have h2:=((Ext.refl wr).alloc (.cells (#[.int .u32 (IntKind.u32.wrap ((-1-(j:Int))*1000+(k:Int)))]:Array Value) 180)).size;have h3:=HP.o.upd.size;have h4:=F.o.size;have h5:=hBw.o;omega
       go_wp2_with (at_builtin;refine Ab _ Fl B _ _ rfl rfl A' (n+k) c' _ rfl (HO.o.alloc _) (some ⟨wr.heap.size,0,none⟩) 1 1 (Am (-1-(j:Int)) k) rfl (Sl.one wr #[.int .u32 (IntKind.u32.wrap ((-1-(j:Int))*1000+(k:Int)))] 180 1 rfl) (Vy _ _) (by omega) (by decide) hB ?_;intro A3 c3 w3 o3 g3 x3;have a4:H0 (Jy Am w2 w3 B 180 1 L j (k+1) A3 c3):=j6 (HI.o.step Di _ (by have:=o3;rwa [<-d.o]at this) g3 x3);clear o3 g3 x3)
       go_roundg (8-(k+1))
       case measure=>omega
       case rel=>exact⟨k+1,A3,c3,rfl,by omega,by go_num,rfl,a4⟩
      ·obtain rfl:k=8:=by omega
       have a3:∀wr:World,Jy Am w2 wr B 180 1 L j 8 A' c'->Own wr wo.heap.size 24 1 LA j lc (El G):=λwr h=>HP.o.lst.upd h.upd (λq hq e=>by
        have h1:=HP.o.foot q ⟨j,E.o,e⟩;have h2:=(HP.o.lst.lt q hq).1;omega)
       go_wp2_with (at_builtin;refine Ab _ Mt wo.heap.size _ _ rfl rfl LA j lc (El G) rfl ((a3 wr HI.o).alloc _) (some ⟨wr.heap.size,0,none⟩) 1 1 [.slice A' (n+8) c'] rfl (Sl.one wr #[.slice A' (n+8) c'] 24 1 rfl) (Hw [⟨A',n+8,c'⟩]) (by omega) (by decide) (by have h1:=HI.o.upd.size;have h2:=HP.o.upd.size;have h3:=((Ext.refl wr).alloc (.cells (#[.slice A' (n+8) c']:Array Value) 24)).size;omega) ?_;intro S a2 w4 o4 g4 x4;have a5:H0 (Ph2 Am wo w4 B 180 24 1 L (j+1) (G++[⟨A',(ena L j).n+8,c'⟩]) S a2):=j6 (HP.o.next E.o HI.o _ (by have:=o4;rwa [<-d.o]at this) g4 x4);clear o4 g4 x4)
       go_roundg (i-(j+1))
       case measure=>omega
       case rel=>exact⟨j+1,_,S,a2,rfl,by omega,by go_num,rfl,a5⟩
    ·obtain rfl:j=i:=by omega
     have b1:j=L.length:=hm.o;have hG:∀t,t<j->∃ad,LA=some ad/\w2.cell? (ad.add t)=some (ena G t).v:=λt ht=>Hu HP.o.lst.sl ht;have HG:=j6 hG;clear hG b1;go_wp2
     go_loopg [9] j (λz v wr=>∃t:Nat,z=j-t/\t<=j/\v=.int .i64 t/\H0 (wr=w2))
     case atStart=>exact⟨0,rfl,AG _,rfl,j6 rfl⟩
     case round =>
      obtain⟨t,rfl,ht,rfl,HW⟩:=hrel;have hW:=HW.o;subst hW;by_cases htj:t<j
      ·have Y:t<L.length:=by rw[<-hm.o];exact htj
       obtain⟨ad,rfl,p0⟩:=r.o wr t HP.o.upd htj;obtain⟨T,rfl,p1⟩:=HG.o t htj;have a:=hn.o t Y;have K:=HP.o.read t htj;have⟨J,C⟩:=HP.o.long t htj;have⟨x,hx⟩:=tz (ena L t);have⟨y,hy⟩:=tz (ena G t);rw[hx]at p0 a K J C;rw[hy]at p1 J C;obtain⟨A,n,c⟩:=x;obtain⟨A2,n2,c2⟩:=y;replace p0:wr.cell? (ad.add t)=some (.slice A n c):=p0;replace p1:wr.cell? (T.add t)=some (.slice A2 n2 c2):=p1;replace a:n<=1000000:=a;obtain rfl:n2=n+8:=J;have HR:H0 (Sl wr 1 A n c (Av Am t n)):=j6 K;have O:H0 (Sl wr 1 A2 (n+8) c2 (Av Am t n++Av Am (-1-t) 8)):=j6 C.sl;clear K C hx hy Y;go_wp2
       go_loopg [11] n (λz v wq=>∃k:Nat,z=n-k/\k<=n/\v=.int .i64 k/\H0 (wq=wr))
       case atStart=>exact⟨0,rfl,AG _,rfl,j6 rfl⟩
       case round =>
        obtain⟨k,rfl,hk,rfl,a6⟩:=hrel;have a9:=a6.o;subst a9;by_cases hkn:k<n
        ·obtain⟨b2,rfl,r0⟩:=Zm HR.o hkn (show Am t k=[.int .u32 ((t:Int)*1000+(k:Int))]from by show [Value.int .u32 (IntKind.u32.wrap ((t:Int)*1000+(k:Int)))]=_;rw[show IntKind.u32.wrap ((t:Int)*1000+(k:Int))=((t:Int)*1000+(k:Int))from by rw[ID];omega]) (λq hq=>Cq Di t hq n k hkn);obtain⟨a8,rfl,l0⟩:=Zm O.o (show k<n+8 by omega) (show Am t k=[.int .u32 ((t:Int)*1000+(k:Int))]from by show [Value.int .u32 (IntKind.u32.wrap ((t:Int)*1000+(k:Int)))]=_;rw[show IntKind.u32.wrap ((t:Int)*1000+(k:Int))=((t:Int)*1000+(k:Int))from by rw[ID];omega]) (λq hq=>by rw[BS (by rw[Cp Di];have:(k+1)*1<=n*1:=DG _ hkn;omega)];exact Cq Di t hq n k hkn);have M:IntKind.i64.wrap ((t:Int)*1000)=(t:Int)*1000:=by rw[BJ];omega
         have N:IntKind.i64.wrap ((t:Int)*1000+(k:Int))=(t:Int)*1000+(k:Int):=by rw[BJ];omega
         go_wp2
         go_roundg (n-(k+1))
         case measure=>omega
         case rel=>exact⟨k+1,rfl,by omega,by go_num,j6 rfl⟩
        ·obtain rfl:k=n:=by omega
         go_wp2
         go_loopg [12] 8 (λz v wq=>∃q:Nat,z=8-q/\q<=8/\v=.int .i64 q/\H0 (wq=wr))
         case atStart=>exact⟨0,rfl,AG _,rfl,j6 rfl⟩
         case round =>
          obtain⟨q,rfl,hq,rfl,a7⟩:=hrel;have b0:=a7.o;subst b0;by_cases hq8:q<8
          ·obtain⟨a8,rfl,l0⟩:=Zm O.o (show k+q<k+8 by omega) (show Am (-1-(t:Int)) q=[.int .u32 (IntKind.u32.wrap ((-1-(t:Int))*1000+(q:Int)))]from rfl) (λz hz=>by rw[show(k+q)*1+z=(Av Am (t:Int) k).length+(q*1+z)by rw[Cp Di,DM];omega,BF (GO _ _),DE];exact Cq Di _ hz 8 q hq8);have wy:IntKind.i64.wrap (-1-(t:Int)) = -1-(t:Int):=by rw[BJ];omega
           have M:IntKind.i64.wrap ((-1-(t:Int))*1000)=(-1-(t:Int))*1000:=by rw[BJ];omega
           have N:IntKind.i64.wrap ((-1-(t:Int))*1000+(q:Int))=(-1-(t:Int))*1000+(q:Int):=by rw[BJ];omega
           go_wp2
           go_roundg (8-(q+1))
           case measure=>omega
           case rel=>exact⟨q+1,rfl,by omega,by go_num,j6 rfl⟩
          ·obtain rfl:q=8:=by omega
           go_wp2
           go_roundg (j-(t+1))
           case measure=>omega
           case rel=>exact⟨t+1,rfl,by omega,by go_num,j6 rfl⟩
      ·obtain rfl:t=j:=by omega
       go_wp2;go_ret;exact⟨rfl,F.o.trans HP.o.upd⟩
def Bd(i:Int)(k:Nat):List Value:=[.int .u8 0,.bool false,.int .i64 (i*1000+(k:Int)),.string ⟨#[]⟩]
def Es(i:Int)(k:Nat):(Bd i k).length=4:=rfl
def bC(i:Int)(k:Nat):∀u∈Bd i k,u.oneCell'=true:=by intro u hu;simp[Bd]at hu;rcases hu with rfl|rfl|rfl|rfl<;>rfl
def Px:Gr prog 41 78 1 24 (.slice none 0 0):=⟨by kernel_rfl,by kernel_rfl,rfl,by decide⟩
def jV(OA:Option Addr)(oc m B:Nat)(L:List En)(f:Nat->List Value)(w:World)(hm:H0 (m=L.length))(hs:H0 (Sl w 1 OA m oc (El L)))(hl:H0 (Gn w B 204 4 L f))(hf:H0 (∀k,blk OA oc=some k->¬Cf L k/\k<w.heap.size))(hm9:m<=100000)(hn:H0 (∀i,i<L.length->(ena L i).n<=1000000))(hBw:H0 (B<=w.heap.size)) :
  C3 127 #[.slice OA m oc] w λe w'=>e=.returned (.bool true)/\Upd (Cf L) w w':=by
 have Q:H0 (Ph1 Bd w w B 204 4 L 0 f):=j6 ⟨hl.o,λj hj=>by omega,Upd.refl _ _⟩;have l:H0 (∀(wr:World) (i:Nat),Upd (Cf L) w wr->i<m->∃ad,OA=some ad/\wr.cell? (ad.add i)=some (ena L i).v):=j6 (λwr i hu hi=>Hu (hs.o.upd hu (λk hk=>(hf.o k hk).1)) hi);go_enter func127,ntmps127;go_wp2
 go_loopg [3] m (λz v wr=>∃(i:Nat) (f:Nat->List Value),z=m-i/\i<=m/\v=.int .i64 i/\H0 (Ph1 Bd w wr B 204 4 L i f))
 case atStart=>exact⟨0,f,rfl,AG _,rfl,Q⟩
 case round =>
  clear Q;obtain⟨i,f,rfl,hi,rfl,HP⟩:=hrel;obtain⟨wo,a1⟩:∃wo:World,wo=wr:=⟨_,rfl⟩;rw[<-a1]at HP ⊢;clear a1;by_cases hlt:i<m
  ·have I:i<L.length:=by rw[<-hm.o];exact hlt
   obtain⟨ad,rfl,p0⟩:=l.o wo i HP.o.upd hlt;have a:=hn.o i I;have E:=j6 I;have⟨x,hx⟩:=tz (ena L i);rw[hx]at p0 a;obtain⟨A,n,c⟩:=x;have d:H0 ((ena L i).n=n):=j6 (by rw[hx]);have HX:=j6 hx;clear I hx;replace p0:wo.cell? (ad.add i)=some (.slice A n c):=p0;replace a:n<=1000000:=a;have HI:=j6 HP.o.enter;go_wp2
   go_loopg [4] n (λz v wi=>∃(k:Nat) (f:Nat->List Value),z=n-k/\k<=n/\v=.int .i64 k/\H0 (Kd Bd w wi B 204 4 L i k f))
   case atStart=>exact⟨0,f,rfl,AG _,rfl,HI⟩
   case round =>
    clear HI;obtain⟨k,f,rfl,hk,rfl,HI⟩:=hrel;obtain⟨wi,a0⟩:∃wi:World,wi=wr:=⟨_,rfl⟩;rw[<-a0]at HI ⊢;clear a0;have⟨U,e2,p1⟩:=l.o wi i HI.o.ph.upd hlt;cases e2;rw[HX.o]at p1;replace p1:wi.cell? (ad.add i)=some (.slice A n c):=p1;by_cases hkn:k<n
    ·have o1:=HI.o.ph.ls.own i E.o;rw[HX.o]at o1;obtain⟨g,eA,hb,_,_,hc,C⟩:=o1.form (show 0<n by omega);have hA:(ena L i).A=some ⟨g,0,none⟩:=by rw[HX.o];exact eA
     have W:(ena L i).b=some g:=by unfold En.b;rw[HX.o];exact hb
     have b3:(f i).length=n*4:=o1.1;subst eA;have q0:wi.cell? ⟨g,k*4,none⟩=some ((f i)[k*4]'(by omega)):=hc _ _ (AC (by omega));have z0:=C (k*4);have q1:wi.cell? ⟨g,k*4+1,none⟩=some ((f i)[k*4+1]'(by omega)):=hc _ _ (AC (by omega));have z1:=C (k*4+1);have q2:wi.cell? ⟨g,k*4+2,none⟩=some ((f i)[k*4+2]'(by omega)):=hc _ _ (AC (by omega));have z2:=C (k*4+2);have q3:wi.cell? ⟨g,k*4+3,none⟩=some ((f i)[k*4+3]'(by omega)):=hc _ _ (AC (by omega));have z3:=C (k*4+3);obtain⟨f',X⟩:=HI.o.put4 E.o (by rw[d.o];exact hkn) hA W (show Bd i k=[.int .u8 0,.bool false,.int .i64 ((i:Int)*1000+(k:Int)),.string ⟨#[]⟩]from rfl);have N:IntKind.i64.wrap ((i:Int)*1000)=(i:Int)*1000:=by rw[BJ];omega
     have O:IntKind.i64.wrap ((i:Int)*1000+(k:Int))=(i:Int)*1000+(k:Int):=by rw[BJ];omega
     have HF:=j6 X;clear X o1 hc C hb hA W;go_wp2
     go_roundg (n-(k+1))
     case measure=>omega
     case rel=>exact⟨k+1,f',rfl,by omega,by go_num,HF⟩
    ·obtain rfl:k=n:=by omega
     go_wp2
     go_roundg (m-(i+1))
     case measure=>omega
     case rel=>exact⟨i+1,f,rfl,by omega,by go_num,j6 ((show Kd Bd w wi B 204 4 L i (ena L i).n f from d.o▸HI.o).leave E.o)⟩
  ·obtain rfl:i=m:=by omega
   have H:=j6 HP.o.upd;have R:H0 (Ph2 Bd wo wo B 204 78 4 L 0 [] none 0):=j6 (Ph2.start 78 (show Ph1 Bd w wo B 204 4 L L.length f from hm.o▸HP.o));have r:H0 (∀(wr:World) (j:Nat),Upd (Cf L) wo wr->j<i->∃ad,OA=some ad/\wr.cell? (ad.add j)=some (ena L j).v):=j6 (λwr j hu hj=>l.o wr j (H.o.trans hu) hj);clear HP;go_wp2
   go_loopg [5,6] i (λz u v wr=>∃(j:Nat) (G:List En) (LA:Option Addr) (lc:Nat),z=i-j/\j<=i/\v=.int .i64 j/\u=.slice LA j lc/\H0 (Ph2 Bd wo wr B 204 78 4 L j G LA lc))
   case atStart=>exact⟨0,[],none,0,rfl,AG _,rfl,rfl,R⟩
   case round =>
    clear R;obtain⟨j,G,LA,lc,rfl,hj,rfl,rfl,HP⟩:=hrel;obtain⟨w2,Z⟩:∃w2:World,w2=wr:=⟨_,rfl⟩;rw[<-Z]at HP ⊢;clear Z;by_cases hlt2:j<i
    ·have J:j<L.length:=by rw[<-hm.o];exact hlt2
     obtain⟨ad,rfl,p0⟩:=r.o w2 j HP.o.upd hlt2;have a:=hn.o j J;have F:=j6 J;have⟨x,hx⟩:=tz (ena L j);rw[hx]at p0 a;obtain⟨A,n,c⟩:=x;have d:H0 ((ena L j).n=n):=j6 (by rw[hx]);have S:H0 ((ena L j).A=A/\(ena L j).c=c):=j6 (by rw[hx];exact⟨rfl,rfl⟩);clear J hx;replace p0:w2.cell? (ad.add j)=some (.slice A n c):=p0;replace a:n<=1000000:=a;have HI:H0 (Jy Bd w2 w2 B 204 4 L j 0 A c):=j6 (by have:=HP.o.enter F.o;rwa [S.o.1,S.o.2]at this);go_wp2
     go_loopg [7,8] 8 (λz u v wi=>∃(k:Nat) (A':Option Addr) (c':Nat),z=8-k/\k<=8/\v=.int .i64 k/\u=.slice A' (n+k) c'/\H0 (Jy Bd w2 wi B 204 4 L j k A' c'))
     case atStart=>exact⟨0,A,c,rfl,AG _,rfl,rfl,HI⟩
     case round =>
      clear HI;obtain⟨k,A',c',rfl,hk,rfl,rfl,HI⟩:=hrel;by_cases hk8:k<8
      ·have wy:IntKind.i64.wrap (-1-(j:Int)) = -1-(j:Int):=by rw[BJ];omega
       have N:IntKind.i64.wrap ((-1-(j:Int))*1000)=(-1-(j:Int))*1000:=by rw[BJ];omega
       have O:IntKind.i64.wrap ((-1-(j:Int))*1000+(k:Int))=(-1-(j:Int))*1000+(k:Int):=by rw[BJ];omega
       have HO:H0 (Own wr B 204 4 A' (n+k) c' (Av Bd j (ena L j).n++Av Bd (-1-j) k)):=j6 (by have:=HI.o.own;rwa [d.o]at this ⊢);have hB:B<=(wr.alloc (.cells (#[.int .u8 0,.bool false,.int .i64 ((-1-(j:Int))*1000+(k:Int)),.string ⟨#[]⟩]:Array Value) 204)).heap.size:=by
        have h1:=HI.o.upd.size;have h2:=((Ext.refl wr).alloc (.cells (#[.int .u8 0,.bool false,.int .i64 ((-1-(j:Int))*1000+(k:Int)),.string ⟨#[]⟩]:Array Value) 204)).size;have h3:=HP.o.upd.size;have h4:=H.o.size;have h5:=hBw.o;omega
       go_wp2_with (at_builtin;refine Ab _ Jk B _ _ rfl rfl A' (n+k) c' _ rfl (HO.o.alloc _) (some ⟨wr.heap.size,0,none⟩) 1 1 (Bd (-1-(j:Int)) k) rfl (Sl.one wr #[.int .u8 0,.bool false,.int .i64 ((-1-(j:Int))*1000+(k:Int)),.string ⟨#[]⟩] 204 4 rfl) (bC _ _) (by omega) (by decide) hB ?_;intro A3 c3 w3 o3 g3 x3;have a4:H0 (Jy Bd w2 w3 B 204 4 L j (k+1) A3 c3):=j6 (HI.o.step Es _ (by have:=o3;rwa [<-d.o]at this) g3 x3);clear o3 g3 x3)
       go_roundg (8-(k+1))
       case measure=>omega
       case rel=>exact⟨k+1,A3,c3,rfl,by omega,by go_num,rfl,a4⟩
      ·obtain rfl:k=8:=by omega
       have a3:∀wr:World,Jy Bd w2 wr B 204 4 L j 8 A' c'->Own wr wo.heap.size 78 1 LA j lc (El G):=λwr h=>HP.o.lst.upd h.upd (λq hq e=>by
        have h1:=HP.o.foot q ⟨j,F.o,e⟩;have h2:=(HP.o.lst.lt q hq).1;omega)
       go_wp2_with (at_builtin;refine Ab _ Px wo.heap.size _ _ rfl rfl LA j lc (El G) rfl ((a3 wr HI.o).alloc _) (some ⟨wr.heap.size,0,none⟩) 1 1 [.slice A' (n+8) c'] rfl (Sl.one wr #[.slice A' (n+8) c'] 78 1 rfl) (Hw [⟨A',n+8,c'⟩]) (by omega) (by decide) (by have h1:=HI.o.upd.size;have h2:=HP.o.upd.size;have h3:=((Ext.refl wr).alloc (.cells (#[.slice A' (n+8) c']:Array Value) 78)).size;omega) ?_;intro T a2 w4 o4 g4 x4;have a5:H0 (Ph2 Bd wo w4 B 204 78 4 L (j+1) (G++[⟨A',(ena L j).n+8,c'⟩]) T a2):=j6 (HP.o.next F.o HI.o _ (by have:=o4;rwa [<-d.o]at this) g4 x4);clear o4 g4 x4)
       go_roundg (i-(j+1))
       case measure=>omega
       case rel=>exact⟨j+1,_,T,a2,rfl,by omega,by go_num,rfl,a5⟩
    ·obtain rfl:j=i:=by omega
     have b1:j=L.length:=hm.o;have hG:∀t,t<j->∃ad,LA=some ad/\w2.cell? (ad.add t)=some (ena G t).v:=λt ht=>Hu HP.o.lst.sl ht;have HG:=j6 hG;clear hG b1;go_wp2
     go_loopg [9] j (λz v wr=>∃t:Nat,z=j-t/\t<=j/\v=.int .i64 t/\H0 (wr=w2))
     case atStart=>exact⟨0,rfl,AG _,rfl,j6 rfl⟩
     case round =>
      obtain⟨t,rfl,ht,rfl,HW⟩:=hrel;have hW:=HW.o;subst hW;by_cases htj:t<j
      ·have Y:t<L.length:=by rw[<-hm.o];exact htj
       obtain⟨ad,rfl,p0⟩:=r.o wr t HP.o.upd htj;obtain⟨U,rfl,p1⟩:=HG.o t htj;have a:=hn.o t Y;have M:=HP.o.read t htj;have⟨K,D⟩:=HP.o.long t htj;have⟨x,hx⟩:=tz (ena L t);have⟨y,hy⟩:=tz (ena G t);rw[hx]at p0 a M K D;rw[hy]at p1 K D;obtain⟨A,n,c⟩:=x;obtain⟨A2,n2,c2⟩:=y;replace p0:wr.cell? (ad.add t)=some (.slice A n c):=p0;replace p1:wr.cell? (U.add t)=some (.slice A2 n2 c2):=p1;replace a:n<=1000000:=a;obtain rfl:n2=n+8:=K;have HR:H0 (Sl wr 4 A n c (Av Bd t n)):=j6 M;have P:H0 (Sl wr 4 A2 (n+8) c2 (Av Bd t n++Av Bd (-1-t) 8)):=j6 D.sl;clear M D hx hy Y;go_wp2
       go_loopg [11] n (λz v wq=>∃k:Nat,z=n-k/\k<=n/\v=.int .i64 k/\H0 (wq=wr))
       case atStart=>exact⟨0,rfl,AG _,rfl,j6 rfl⟩
       case round =>
        obtain⟨k,rfl,hk,rfl,a6⟩:=hrel;have a9:=a6.o;subst a9;by_cases hkn:k<n
        ·obtain⟨b2,rfl,r0,r1,r2,r3⟩:=Jq HR.o hkn (show Bd t k=[.int .u8 0,.bool false,.int .i64 ((t:Int)*1000+(k:Int)),.string ⟨#[]⟩]from rfl) (λq hq=>Cq Es t hq n k hkn);obtain⟨a8,rfl,l0,l1,l2,l3⟩:=Jq P.o (show k<n+8 by omega) (show Bd t k=[.int .u8 0,.bool false,.int .i64 ((t:Int)*1000+(k:Int)),.string ⟨#[]⟩]from rfl) (λq hq=>by rw[BS (by rw[Cp Es];have:(k+1)*4<=n*4:=DG _ hkn;omega)];exact Cq Es t hq n k hkn);have N:IntKind.i64.wrap ((t:Int)*1000)=(t:Int)*1000:=by rw[BJ];omega
         have O:IntKind.i64.wrap ((t:Int)*1000+(k:Int))=(t:Int)*1000+(k:Int):=by rw[BJ];omega
         go_wp2
         go_roundg (n-(k+1))
         case measure=>omega
         case rel=>exact⟨k+1,rfl,by omega,by go_num,j6 rfl⟩
        ·obtain rfl:k=n:=by omega
         go_wp2
         go_loopg [12] 8 (λz v wq=>∃q:Nat,z=8-q/\q<=8/\v=.int .i64 q/\H0 (wq=wr))
         case atStart=>exact⟨0,rfl,AG _,rfl,j6 rfl⟩
         case round =>
          obtain⟨q,rfl,hq,rfl,a7⟩:=hrel;have b0:=a7.o;subst b0;by_cases hq8:q<8
          ·obtain⟨a8,rfl,l0,l1,l2,l3⟩:=Jq P.o (show k+q<k+8 by omega) (show Bd (-1-(t:Int)) q=[.int .u8 0,.bool false,.int .i64 ((-1-(t:Int))*1000+(q:Int)),.string ⟨#[]⟩]from rfl) (λz hz=>by rw[show(k+q)*4+z=(Av Bd (t:Int) k).length+(q*4+z)by rw[Cp Es,DM];omega,BF (GO _ _),DE];exact Cq Es _ hz 8 q hq8);have wy:IntKind.i64.wrap (-1-(t:Int)) = -1-(t:Int):=by rw[BJ];omega
           have N:IntKind.i64.wrap ((-1-(t:Int))*1000)=(-1-(t:Int))*1000:=by rw[BJ];omega
           have O:IntKind.i64.wrap ((-1-(t:Int))*1000+(q:Int))=(-1-(t:Int))*1000+(q:Int):=by rw[BJ];omega
           go_wp2
           go_roundg (8-(q+1))
           case measure=>omega
           case rel=>exact⟨q+1,rfl,by omega,by go_num,j6 rfl⟩
          ·obtain rfl:q=8:=by omega
           go_wp2
           go_roundg (j-(t+1))
           case measure=>omega
           case rel=>exact⟨t+1,rfl,by omega,by go_num,j6 rfl⟩
      ·obtain rfl:t=j:=by omega
       go_wp2;go_ret;exact⟨rfl,H.o.trans HP.o.upd⟩
def Be(i:Int)(k:Nat):List Value:=[.slice none 0 0,.int .i64 (i*1000+(k:Int))]
def Et(i:Int)(k:Nat):(Be i k).length=2:=rfl
def bD(i:Int)(k:Nat):∀u∈Be i k,u.oneCell'=true:=by intro u hu;simp[Be]at hu;rcases hu with rfl|rfl<;>rfl
def Py:Gr prog 46 31 1 24 (.slice none 0 0):=⟨by kernel_rfl,by kernel_rfl,rfl,by decide⟩
def jW(OA:Option Addr)(oc m B:Nat)(L:List En)(f:Nat->List Value)(w:World)(hm:H0 (m=L.length))(hs:H0 (Sl w 1 OA m oc (El L)))(hl:H0 (Gn w B 154 2 L f))(hf:H0 (∀k,blk OA oc=some k->¬Cf L k/\k<w.heap.size))(hm9:m<=100000)(hn:H0 (∀i,i<L.length->(ena L i).n<=1000000))(hBw:H0 (B<=w.heap.size)) :
  C3 132 #[.slice OA m oc] w λe w'=>e=.returned (.bool true)/\Upd (Cf L) w w':=by
 have Q:H0 (Ph1 Be w w B 154 2 L 0 f):=j6 ⟨hl.o,λj hj=>by omega,Upd.refl _ _⟩;have l:H0 (∀(wr:World) (i:Nat),Upd (Cf L) w wr->i<m->∃ad,OA=some ad/\wr.cell? (ad.add i)=some (ena L i).v):=j6 (λwr i hu hi=>Hu (hs.o.upd hu (λk hk=>(hf.o k hk).1)) hi);go_enter func132,ntmps132;go_wp2
 go_loopg [3] m (λz v wr=>∃(i:Nat) (f:Nat->List Value),z=m-i/\i<=m/\v=.int .i64 i/\H0 (Ph1 Be w wr B 154 2 L i f))
 case atStart=>exact⟨0,f,rfl,AG _,rfl,Q⟩
 case round =>
  clear Q;obtain⟨i,f,rfl,hi,rfl,HP⟩:=hrel;obtain⟨wo,a1⟩:∃wo:World,wo=wr:=⟨_,rfl⟩;rw[<-a1]at HP ⊢;clear a1;by_cases hlt:i<m
  ·have I:i<L.length:=by rw[<-hm.o];exact hlt
   obtain⟨ad,rfl,p0⟩:=l.o wo i HP.o.upd hlt;have a:=hn.o i I;have D:=j6 I;have⟨x,hx⟩:=tz (ena L i);rw[hx]at p0 a;obtain⟨A,n,c⟩:=x;have d:H0 ((ena L i).n=n):=j6 (by rw[hx]);have HX:=j6 hx;clear I hx;replace p0:wo.cell? (ad.add i)=some (.slice A n c):=p0;replace a:n<=1000000:=a;have HI:=j6 HP.o.enter;go_wp2
   go_loopg [4] n (λz v wi=>∃(k:Nat) (f:Nat->List Value),z=n-k/\k<=n/\v=.int .i64 k/\H0 (Kd Be w wi B 154 2 L i k f))
   case atStart=>exact⟨0,f,rfl,AG _,rfl,HI⟩
   case round =>
    clear HI;obtain⟨k,f,rfl,hk,rfl,HI⟩:=hrel;obtain⟨wi,a0⟩:∃wi:World,wi=wr:=⟨_,rfl⟩;rw[<-a0]at HI ⊢;clear a0;have⟨U,e2,p1⟩:=l.o wi i HI.o.ph.upd hlt;cases e2;rw[HX.o]at p1;replace p1:wi.cell? (ad.add i)=some (.slice A n c):=p1;by_cases hkn:k<n
    ·have o1:=HI.o.ph.ls.own i D.o;rw[HX.o]at o1;obtain⟨g,eA,hb,_,_,hc,H⟩:=o1.form (show 0<n by omega);have hA:(ena L i).A=some ⟨g,0,none⟩:=by rw[HX.o];exact eA
     have W:(ena L i).b=some g:=by unfold En.b;rw[HX.o];exact hb
     have b3:(f i).length=n*2:=o1.1;subst eA;have q0:wi.cell? ⟨g,k*2,none⟩=some ((f i)[k*2]'(by omega)):=hc _ _ (AC (by omega));have z0:=H (k*2);have q1:wi.cell? ⟨g,k*2+1,none⟩=some ((f i)[k*2+1]'(by omega)):=hc _ _ (AC (by omega));have z1:=H (k*2+1);obtain⟨f',X⟩:=HI.o.put2 D.o (by rw[d.o];exact hkn) hA W (show Be i k=[.slice none 0 0,.int .i64 ((i:Int)*1000+(k:Int))]from rfl);have N:IntKind.i64.wrap ((i:Int)*1000)=(i:Int)*1000:=by rw[BJ];omega
     have O:IntKind.i64.wrap ((i:Int)*1000+(k:Int))=(i:Int)*1000+(k:Int):=by rw[BJ];omega
     have HF:=j6 X;clear X o1 hc H hb hA W;go_wp2
     go_roundg (n-(k+1))
     case measure=>omega
     case rel=>exact⟨k+1,f',rfl,by omega,by go_num,HF⟩
    ·obtain rfl:k=n:=by omega
     go_wp2
     go_roundg (m-(i+1))
     case measure=>omega
     case rel=>exact⟨i+1,f,rfl,by omega,by go_num,j6 ((show Kd Be w wi B 154 2 L i (ena L i).n f from d.o▸HI.o).leave D.o)⟩
  ·obtain rfl:i=m:=by omega
   have F:=j6 HP.o.upd;have R:H0 (Ph2 Be wo wo B 154 31 2 L 0 [] none 0):=j6 (Ph2.start 31 (show Ph1 Be w wo B 154 2 L L.length f from hm.o▸HP.o));have r:H0 (∀(wr:World) (j:Nat),Upd (Cf L) wo wr->j<i->∃ad,OA=some ad/\wr.cell? (ad.add j)=some (ena L j).v):=j6 (λwr j hu hj=>l.o wr j (F.o.trans hu) hj);clear HP;go_wp2
   go_loopg [5,6] i (λz u v wr=>∃(j:Nat) (G:List En) (LA:Option Addr) (lc:Nat),z=i-j/\j<=i/\v=.int .i64 j/\u=.slice LA j lc/\H0 (Ph2 Be wo wr B 154 31 2 L j G LA lc))
   case atStart=>exact⟨0,[],none,0,rfl,AG _,rfl,rfl,R⟩
   case round =>
    clear R;obtain⟨j,G,LA,lc,rfl,hj,rfl,rfl,HP⟩:=hrel;obtain⟨w2,Z⟩:∃w2:World,w2=wr:=⟨_,rfl⟩;rw[<-Z]at HP ⊢;clear Z;by_cases hlt2:j<i
    ·have J:j<L.length:=by rw[<-hm.o];exact hlt2
     obtain⟨ad,rfl,p0⟩:=r.o w2 j HP.o.upd hlt2;have a:=hn.o j J;have E:=j6 J;have⟨x,hx⟩:=tz (ena L j);rw[hx]at p0 a;obtain⟨A,n,c⟩:=x;have d:H0 ((ena L j).n=n):=j6 (by rw[hx]);have S:H0 ((ena L j).A=A/\(ena L j).c=c):=j6 (by rw[hx];exact⟨rfl,rfl⟩);clear J hx;replace p0:w2.cell? (ad.add j)=some (.slice A n c):=p0;replace a:n<=1000000:=a;have HI:H0 (Jy Be w2 w2 B 154 2 L j 0 A c):=j6 (by have:=HP.o.enter E.o;rwa [S.o.1,S.o.2]at this);go_wp2
     go_loopg [7,8] 8 (λz u v wi=>∃(k:Nat) (A':Option Addr) (c':Nat),z=8-k/\k<=8/\v=.int .i64 k/\u=.slice A' (n+k) c'/\H0 (Jy Be w2 wi B 154 2 L j k A' c'))
     case atStart=>exact⟨0,A,c,rfl,AG _,rfl,rfl,HI⟩
     case round =>
      clear HI;obtain⟨k,A',c',rfl,hk,rfl,rfl,HI⟩:=hrel;by_cases hk8:k<8
      ·have wy:IntKind.i64.wrap (-1-(j:Int)) = -1-(j:Int):=by rw[BJ];omega
       have N:IntKind.i64.wrap ((-1-(j:Int))*1000)=(-1-(j:Int))*1000:=by rw[BJ];omega
       have O:IntKind.i64.wrap ((-1-(j:Int))*1000+(k:Int))=(-1-(j:Int))*1000+(k:Int):=by rw[BJ];omega
       have HO:H0 (Own wr B 154 2 A' (n+k) c' (Av Be j (ena L j).n++Av Be (-1-j) k)):=j6 (by have:=HI.o.own;rwa [d.o]at this ⊢);have hB:B<=(wr.alloc (.cells (#[.slice none 0 0,.int .i64 ((-1-(j:Int))*1000+(k:Int))]:Array Value) 154)).heap.size:=by
        have h1:=HI.o.upd.size;have h2:=((Ext.refl wr).alloc (.cells (#[.slice none 0 0,.int .i64 ((-1-(j:Int))*1000+(k:Int))]:Array Value) 154)).size;have h3:=HP.o.upd.size;have h4:=F.o.size;have h5:=hBw.o;omega
       go_wp2_with (at_builtin;refine Ab _ Bo B _ _ rfl rfl A' (n+k) c' _ rfl (HO.o.alloc _) (some ⟨wr.heap.size,0,none⟩) 1 1 (Be (-1-(j:Int)) k) rfl (Sl.one wr #[.slice none 0 0,.int .i64 ((-1-(j:Int))*1000+(k:Int))] 154 2 rfl) (bD _ _) (by omega) (by decide) hB ?_;intro A3 c3 w3 o3 g3 x3;have a4:H0 (Jy Be w2 w3 B 154 2 L j (k+1) A3 c3):=j6 (HI.o.step Et _ (by have:=o3;rwa [<-d.o]at this) g3 x3);clear o3 g3 x3)
       go_roundg (8-(k+1))
       case measure=>omega
       case rel=>exact⟨k+1,A3,c3,rfl,by omega,by go_num,rfl,a4⟩
      ·obtain rfl:k=8:=by omega
       have a3:∀wr:World,Jy Be w2 wr B 154 2 L j 8 A' c'->Own wr wo.heap.size 31 1 LA j lc (El G):=λwr h=>HP.o.lst.upd h.upd (λq hq e=>by
        have h1:=HP.o.foot q ⟨j,E.o,e⟩;have h2:=(HP.o.lst.lt q hq).1;omega)
       go_wp2_with (at_builtin;refine Ab _ Py wo.heap.size _ _ rfl rfl LA j lc (El G) rfl ((a3 wr HI.o).alloc _) (some ⟨wr.heap.size,0,none⟩) 1 1 [.slice A' (n+8) c'] rfl (Sl.one wr #[.slice A' (n+8) c'] 31 1 rfl) (Hw [⟨A',n+8,c'⟩]) (by omega) (by decide) (by have h1:=HI.o.upd.size;have h2:=HP.o.upd.size;have h3:=((Ext.refl wr).alloc (.cells (#[.slice A' (n+8) c']:Array Value) 31)).size;omega) ?_;intro T a2 w4 o4 g4 x4;have a5:H0 (Ph2 Be wo w4 B 154 31 2 L (j+1) (G++[⟨A',(ena L j).n+8,c'⟩]) T a2):=j6 (HP.o.next E.o HI.o _ (by have:=o4;rwa [<-d.o]at this) g4 x4);clear o4 g4 x4)
       go_roundg (i-(j+1))
       case measure=>omega
       case rel=>exact⟨j+1,_,T,a2,rfl,by omega,by go_num,rfl,a5⟩
    ·obtain rfl:j=i:=by omega
     have b1:j=L.length:=hm.o;have hG:∀t,t<j->∃ad,LA=some ad/\w2.cell? (ad.add t)=some (ena G t).v:=λt ht=>Hu HP.o.lst.sl ht;have HG:=j6 hG;clear hG b1;go_wp2
     go_loopg [9] j (λz v wr=>∃t:Nat,z=j-t/\t<=j/\v=.int .i64 t/\H0 (wr=w2))
     case atStart=>exact⟨0,rfl,AG _,rfl,j6 rfl⟩
     case round =>
      obtain⟨t,rfl,ht,rfl,HW⟩:=hrel;have hW:=HW.o;subst hW;by_cases htj:t<j
      ·have Y:t<L.length:=by rw[<-hm.o];exact htj
       obtain⟨ad,rfl,p0⟩:=r.o wr t HP.o.upd htj;obtain⟨U,rfl,p1⟩:=HG.o t htj;have a:=hn.o t Y;have M:=HP.o.read t htj;have⟨K,C⟩:=HP.o.long t htj;have⟨x,hx⟩:=tz (ena L t);have⟨y,hy⟩:=tz (ena G t);rw[hx]at p0 a M K C;rw[hy]at p1 K C;obtain⟨A,n,c⟩:=x;obtain⟨A2,n2,c2⟩:=y;replace p0:wr.cell? (ad.add t)=some (.slice A n c):=p0;replace p1:wr.cell? (U.add t)=some (.slice A2 n2 c2):=p1;replace a:n<=1000000:=a;obtain rfl:n2=n+8:=K;have HR:H0 (Sl wr 2 A n c (Av Be t n)):=j6 M;have P:H0 (Sl wr 2 A2 (n+8) c2 (Av Be t n++Av Be (-1-t) 8)):=j6 C.sl;clear M C hx hy Y;go_wp2
       go_loopg [11] n (λz v wq=>∃k:Nat,z=n-k/\k<=n/\v=.int .i64 k/\H0 (wq=wr))
       case atStart=>exact⟨0,rfl,AG _,rfl,j6 rfl⟩
       case round =>
        obtain⟨k,rfl,hk,rfl,a6⟩:=hrel;have a9:=a6.o;subst a9;by_cases hkn:k<n
        ·obtain⟨b2,rfl,r0,r1⟩:=Pb HR.o hkn (show Be t k=[.slice none 0 0,.int .i64 ((t:Int)*1000+(k:Int))]from rfl) (λq hq=>Cq Et t hq n k hkn);obtain⟨a8,rfl,l0,l1⟩:=Pb P.o (show k<n+8 by omega) (show Be t k=[.slice none 0 0,.int .i64 ((t:Int)*1000+(k:Int))]from rfl) (λq hq=>by rw[BS (by rw[Cp Et];have:(k+1)*2<=n*2:=DG _ hkn;omega)];exact Cq Et t hq n k hkn);have N:IntKind.i64.wrap ((t:Int)*1000)=(t:Int)*1000:=by rw[BJ];omega
         have O:IntKind.i64.wrap ((t:Int)*1000+(k:Int))=(t:Int)*1000+(k:Int):=by rw[BJ];omega
         go_wp2
         go_roundg (n-(k+1))
         case measure=>omega
         case rel=>exact⟨k+1,rfl,by omega,by go_num,j6 rfl⟩
        ·obtain rfl:k=n:=by omega
         go_wp2
         go_loopg [12] 8 (λz v wq=>∃q:Nat,z=8-q/\q<=8/\v=.int .i64 q/\H0 (wq=wr))
         case atStart=>exact⟨0,rfl,AG _,rfl,j6 rfl⟩
         case round =>
          obtain⟨q,rfl,hq,rfl,a7⟩:=hrel;have b0:=a7.o;subst b0;by_cases hq8:q<8
          ·obtain⟨a8,rfl,l0,l1⟩:=Pb P.o (show k+q<k+8 by omega) (show Be (-1-(t:Int)) q=[.slice none 0 0,.int .i64 ((-1-(t:Int))*1000+(q:Int))]from rfl) (λz hz=>by rw[show(k+q)*2+z=(Av Be (t:Int) k).length+(q*2+z)by rw[Cp Et,DM];omega,BF (GO _ _),DE];exact Cq Et _ hz 8 q hq8);have wy:IntKind.i64.wrap (-1-(t:Int)) = -1-(t:Int):=by rw[BJ];omega
           have N:IntKind.i64.wrap ((-1-(t:Int))*1000)=(-1-(t:Int))*1000:=by rw[BJ];omega
           have O:IntKind.i64.wrap ((-1-(t:Int))*1000+(q:Int))=(-1-(t:Int))*1000+(q:Int):=by rw[BJ];omega
           go_wp2
           go_roundg (8-(q+1))
           case measure=>omega
           case rel=>exact⟨q+1,rfl,by omega,by go_num,j6 rfl⟩
          ·obtain rfl:q=8:=by omega
           go_wp2
           go_roundg (j-(t+1))
           case measure=>omega
           case rel=>exact⟨t+1,rfl,by omega,by go_num,j6 rfl⟩
      ·obtain rfl:t=j:=by omega
       go_wp2;go_ret;exact⟨rfl,F.o.trans HP.o.upd⟩
def Ap(i:Int)(k:Nat):List Value:=[.slice none 0 0,.int .u64 0,.slice none 0 0,.int .i64 (i*1000+(k:Int))]
def Dq(i:Int)(k:Nat):(Ap i k).length=4:=rfl
def Wp(i:Int)(k:Nat):∀u∈Ap i k,u.oneCell'=true:=by intro u hu;simp[Ap]at hu;rcases hu with rfl|rfl|rfl|rfl<;>rfl
def Oa:Gr prog 47 22 1 24 (.slice none 0 0):=⟨by kernel_rfl,by kernel_rfl,rfl,by decide⟩
def fO(OA:Option Addr)(oc m B:Nat)(L:List En)(f:Nat->List Value)(w:World)(hm:H0 (m=L.length))(hs:H0 (Sl w 1 OA m oc (El L)))(hl:H0 (Gn w B 95 4 L f))(hf:H0 (∀k,blk OA oc=some k->¬Cf L k/\k<w.heap.size))(hm9:m<=100000)(hn:H0 (∀i,i<L.length->(ena L i).n<=1000000))(hBw:H0 (B<=w.heap.size)) :
  C3 133 #[.slice OA m oc] w λe w'=>e=.returned (.bool true)/\Upd (Cf L) w w':=by
 have Q:H0 (Ph1 Ap w w B 95 4 L 0 f):=j6 ⟨hl.o,λj hj=>by omega,Upd.refl _ _⟩;have l:H0 (∀(wr:World) (i:Nat),Upd (Cf L) w wr->i<m->∃ad,OA=some ad/\wr.cell? (ad.add i)=some (ena L i).v):=j6 (λwr i hu hi=>Hu (hs.o.upd hu (λk hk=>(hf.o k hk).1)) hi);go_enter func133,ntmps133;go_wp2
 go_loopg [3] m (λz v wr=>∃(i:Nat) (f:Nat->List Value),z=m-i/\i<=m/\v=.int .i64 i/\H0 (Ph1 Ap w wr B 95 4 L i f))
 case atStart=>exact⟨0,f,rfl,AG _,rfl,Q⟩
 case round =>
  clear Q;obtain⟨i,f,rfl,hi,rfl,HP⟩:=hrel;obtain⟨wo,a1⟩:∃wo:World,wo=wr:=⟨_,rfl⟩;rw[<-a1]at HP ⊢;clear a1;by_cases hlt:i<m
  ·have I:i<L.length:=by rw[<-hm.o];exact hlt
   obtain⟨ad,rfl,p0⟩:=l.o wo i HP.o.upd hlt;have a:=hn.o i I;have E:=j6 I;have⟨x,hx⟩:=tz (ena L i);rw[hx]at p0 a;obtain⟨A,n,c⟩:=x;have d:H0 ((ena L i).n=n):=j6 (by rw[hx]);have HX:=j6 hx;clear I hx;replace p0:wo.cell? (ad.add i)=some (.slice A n c):=p0;replace a:n<=1000000:=a;have HI:=j6 HP.o.enter;go_wp2
   go_loopg [4] n (λz v wi=>∃(k:Nat) (f:Nat->List Value),z=n-k/\k<=n/\v=.int .i64 k/\H0 (Kd Ap w wi B 95 4 L i k f))
   case atStart=>exact⟨0,f,rfl,AG _,rfl,HI⟩
   case round =>
    clear HI;obtain⟨k,f,rfl,hk,rfl,HI⟩:=hrel;obtain⟨wi,a0⟩:∃wi:World,wi=wr:=⟨_,rfl⟩;rw[<-a0]at HI ⊢;clear a0;have⟨U,e2,p1⟩:=l.o wi i HI.o.ph.upd hlt;cases e2;rw[HX.o]at p1;replace p1:wi.cell? (ad.add i)=some (.slice A n c):=p1;by_cases hkn:k<n
    ·have o1:=HI.o.ph.ls.own i E.o;rw[HX.o]at o1;obtain⟨g,eA,hb,_,_,hc,C⟩:=o1.form (show 0<n by omega);have hA:(ena L i).A=some ⟨g,0,none⟩:=by rw[HX.o];exact eA
     have W:(ena L i).b=some g:=by unfold En.b;rw[HX.o];exact hb
     have b3:(f i).length=n*4:=o1.1;subst eA;have q0:wi.cell? ⟨g,k*4,none⟩=some ((f i)[k*4]'(by omega)):=hc _ _ (AC (by omega));have z0:=C (k*4);have q1:wi.cell? ⟨g,k*4+1,none⟩=some ((f i)[k*4+1]'(by omega)):=hc _ _ (AC (by omega));have z1:=C (k*4+1);have q2:wi.cell? ⟨g,k*4+2,none⟩=some ((f i)[k*4+2]'(by omega)):=hc _ _ (AC (by omega));have z2:=C (k*4+2);have q3:wi.cell? ⟨g,k*4+3,none⟩=some ((f i)[k*4+3]'(by omega)):=hc _ _ (AC (by omega));have z3:=C (k*4+3);obtain⟨f',X⟩:=HI.o.put4 E.o (by rw[d.o];exact hkn) hA W (show Ap i k=[.slice none 0 0,.int .u64 0,.slice none 0 0,.int .i64 ((i:Int)*1000+(k:Int))]from rfl);have N:IntKind.i64.wrap ((i:Int)*1000)=(i:Int)*1000:=by rw[BJ];omega
     have O:IntKind.i64.wrap ((i:Int)*1000+(k:Int))=(i:Int)*1000+(k:Int):=by rw[BJ];omega
     have HF:=j6 X;clear X o1 hc C hb hA W;go_wp2
     go_roundg (n-(k+1))
     case measure=>omega
     case rel=>exact⟨k+1,f',rfl,by omega,by go_num,HF⟩
    ·obtain rfl:k=n:=by omega
     go_wp2
     go_roundg (m-(i+1))
     case measure=>omega
     case rel=>exact⟨i+1,f,rfl,by omega,by go_num,j6 ((show Kd Ap w wi B 95 4 L i (ena L i).n f from d.o▸HI.o).leave E.o)⟩
  ·obtain rfl:i=m:=by omega
   have H:=j6 HP.o.upd;have R:H0 (Ph2 Ap wo wo B 95 22 4 L 0 [] none 0):=j6 (Ph2.start 22 (show Ph1 Ap w wo B 95 4 L L.length f from hm.o▸HP.o));have r:H0 (∀(wr:World) (j:Nat),Upd (Cf L) wo wr->j<i->∃ad,OA=some ad/\wr.cell? (ad.add j)=some (ena L j).v):=j6 (λwr j hu hj=>l.o wr j (H.o.trans hu) hj);clear HP;go_wp2
   go_loopg [5,6] i (λz u v wr=>∃(j:Nat) (G:List En) (LA:Option Addr) (lc:Nat),z=i-j/\j<=i/\v=.int .i64 j/\u=.slice LA j lc/\H0 (Ph2 Ap wo wr B 95 22 4 L j G LA lc))
   case atStart=>exact⟨0,[],none,0,rfl,AG _,rfl,rfl,R⟩
   case round =>
    clear R;obtain⟨j,G,LA,lc,rfl,hj,rfl,rfl,HP⟩:=hrel;obtain⟨w2,Z⟩:∃w2:World,w2=wr:=⟨_,rfl⟩;rw[<-Z]at HP ⊢;clear Z;by_cases hlt2:j<i
    ·have J:j<L.length:=by rw[<-hm.o];exact hlt2
     obtain⟨ad,rfl,p0⟩:=r.o w2 j HP.o.upd hlt2;have a:=hn.o j J;have F:=j6 J;have⟨x,hx⟩:=tz (ena L j);rw[hx]at p0 a;obtain⟨A,n,c⟩:=x;have d:H0 ((ena L j).n=n):=j6 (by rw[hx]);have S:H0 ((ena L j).A=A/\(ena L j).c=c):=j6 (by rw[hx];exact⟨rfl,rfl⟩);clear J hx;replace p0:w2.cell? (ad.add j)=some (.slice A n c):=p0;replace a:n<=1000000:=a;have HI:H0 (Jy Ap w2 w2 B 95 4 L j 0 A c):=j6 (by have:=HP.o.enter F.o;rwa [S.o.1,S.o.2]at this);go_wp2
     go_loopg [7,8] 8 (λz u v wi=>∃(k:Nat) (A':Option Addr) (c':Nat),z=8-k/\k<=8/\v=.int .i64 k/\u=.slice A' (n+k) c'/\H0 (Jy Ap w2 wi B 95 4 L j k A' c'))
     case atStart=>exact⟨0,A,c,rfl,AG _,rfl,rfl,HI⟩
     case round =>
      clear HI;obtain⟨k,A',c',rfl,hk,rfl,rfl,HI⟩:=hrel;by_cases hk8:k<8
      ·have wy:IntKind.i64.wrap (-1-(j:Int)) = -1-(j:Int):=by rw[BJ];omega
       have N:IntKind.i64.wrap ((-1-(j:Int))*1000)=(-1-(j:Int))*1000:=by rw[BJ];omega
       have O:IntKind.i64.wrap ((-1-(j:Int))*1000+(k:Int))=(-1-(j:Int))*1000+(k:Int):=by rw[BJ];omega
       have HO:H0 (Own wr B 95 4 A' (n+k) c' (Av Ap j (ena L j).n++Av Ap (-1-j) k)):=j6 (by have:=HI.o.own;rwa [d.o]at this ⊢);have hB:B<=(wr.alloc (.cells (#[.slice none 0 0,.int .u64 0,.slice none 0 0,.int .i64 ((-1-(j:Int))*1000+(k:Int))]:Array Value) 95)).heap.size:=by
        have h1:=HI.o.upd.size;have h2:=((Ext.refl wr).alloc (.cells (#[.slice none 0 0,.int .u64 0,.slice none 0 0,.int .i64 ((-1-(j:Int))*1000+(k:Int))]:Array Value) 95)).size;have h3:=HP.o.upd.size;have h4:=H.o.size;have h5:=hBw.o;omega
       go_wp2_with (at_builtin;refine Ab _ Ao B _ _ rfl rfl A' (n+k) c' _ rfl (HO.o.alloc _) (some ⟨wr.heap.size,0,none⟩) 1 1 (Ap (-1-(j:Int)) k) rfl (Sl.one wr #[.slice none 0 0,.int .u64 0,.slice none 0 0,.int .i64 ((-1-(j:Int))*1000+(k:Int))] 95 4 rfl) (Wp _ _) (by omega) (by decide) hB ?_;intro A3 c3 w3 o3 g3 x3;have a4:H0 (Jy Ap w2 w3 B 95 4 L j (k+1) A3 c3):=j6 (HI.o.step Dq _ (by have:=o3;rwa [<-d.o]at this) g3 x3);clear o3 g3 x3)
       go_roundg (8-(k+1))
       case measure=>omega
       case rel=>exact⟨k+1,A3,c3,rfl,by omega,by go_num,rfl,a4⟩
      ·obtain rfl:k=8:=by omega
       have a3:∀wr:World,Jy Ap w2 wr B 95 4 L j 8 A' c'->Own wr wo.heap.size 22 1 LA j lc (El G):=λwr h=>HP.o.lst.upd h.upd (λq hq e=>by
        have h1:=HP.o.foot q ⟨j,F.o,e⟩;have h2:=(HP.o.lst.lt q hq).1;omega)
       go_wp2_with (at_builtin;refine Ab _ Oa wo.heap.size _ _ rfl rfl LA j lc (El G) rfl ((a3 wr HI.o).alloc _) (some ⟨wr.heap.size,0,none⟩) 1 1 [.slice A' (n+8) c'] rfl (Sl.one wr #[.slice A' (n+8) c'] 22 1 rfl) (Hw [⟨A',n+8,c'⟩]) (by omega) (by decide) (by have h1:=HI.o.upd.size;have h2:=HP.o.upd.size;have h3:=((Ext.refl wr).alloc (.cells (#[.slice A' (n+8) c']:Array Value) 22)).size;omega) ?_;intro T a2 w4 o4 g4 x4;have a5:H0 (Ph2 Ap wo w4 B 95 22 4 L (j+1) (G++[⟨A',(ena L j).n+8,c'⟩]) T a2):=j6 (HP.o.next F.o HI.o _ (by have:=o4;rwa [<-d.o]at this) g4 x4);clear o4 g4 x4)
       go_roundg (i-(j+1))
       case measure=>omega
       case rel=>exact⟨j+1,_,T,a2,rfl,by omega,by go_num,rfl,a5⟩
    ·obtain rfl:j=i:=by omega
     have b1:j=L.length:=hm.o;have hG:∀t,t<j->∃ad,LA=some ad/\w2.cell? (ad.add t)=some (ena G t).v:=λt ht=>Hu HP.o.lst.sl ht;have HG:=j6 hG;clear hG b1;go_wp2
     go_loopg [9] j (λz v wr=>∃t:Nat,z=j-t/\t<=j/\v=.int .i64 t/\H0 (wr=w2))
     case atStart=>exact⟨0,rfl,AG _,rfl,j6 rfl⟩
     case round =>
      obtain⟨t,rfl,ht,rfl,HW⟩:=hrel;have hW:=HW.o;subst hW;by_cases htj:t<j
      ·have Y:t<L.length:=by rw[<-hm.o];exact htj
       obtain⟨ad,rfl,p0⟩:=r.o wr t HP.o.upd htj;obtain⟨U,rfl,p1⟩:=HG.o t htj;have a:=hn.o t Y;have M:=HP.o.read t htj;have⟨K,D⟩:=HP.o.long t htj;have⟨x,hx⟩:=tz (ena L t);have⟨y,hy⟩:=tz (ena G t);rw[hx]at p0 a M K D;rw[hy]at p1 K D;obtain⟨A,n,c⟩:=x;obtain⟨A2,n2,c2⟩:=y;replace p0:wr.cell? (ad.add t)=some (.slice A n c):=p0;replace p1:wr.cell? (U.add t)=some (.slice A2 n2 c2):=p1;replace a:n<=1000000:=a;obtain rfl:n2=n+8:=K;have HR:H0 (Sl wr 4 A n c (Av Ap t n)):=j6 M;have P:H0 (Sl wr 4 A2 (n+8) c2 (Av Ap t n++Av Ap (-1-t) 8)):=j6 D.sl;clear M D hx hy Y;go_wp2
       go_loopg [11] n (λz v wq=>∃k:Nat,z=n-k/\k<=n/\v=.int .i64 k/\H0 (wq=wr))
       case atStart=>exact⟨0,rfl,AG _,rfl,j6 rfl⟩
       case round =>
        obtain⟨k,rfl,hk,rfl,a6⟩:=hrel;have a9:=a6.o;subst a9;by_cases hkn:k<n
        ·obtain⟨b2,rfl,r0,r1,r2,r3⟩:=Jq HR.o hkn (show Ap t k=[.slice none 0 0,.int .u64 0,.slice none 0 0,.int .i64 ((t:Int)*1000+(k:Int))]from rfl) (λq hq=>Cq Dq t hq n k hkn);obtain⟨a8,rfl,l0,l1,l2,l3⟩:=Jq P.o (show k<n+8 by omega) (show Ap t k=[.slice none 0 0,.int .u64 0,.slice none 0 0,.int .i64 ((t:Int)*1000+(k:Int))]from rfl) (λq hq=>by rw[BS (by rw[Cp Dq];have:(k+1)*4<=n*4:=DG _ hkn;omega)];exact Cq Dq t hq n k hkn);have N:IntKind.i64.wrap ((t:Int)*1000)=(t:Int)*1000:=by rw[BJ];omega
         have O:IntKind.i64.wrap ((t:Int)*1000+(k:Int))=(t:Int)*1000+(k:Int):=by rw[BJ];omega
         go_wp2
         go_roundg (n-(k+1))
         case measure=>omega
         case rel=>exact⟨k+1,rfl,by omega,by go_num,j6 rfl⟩
        ·obtain rfl:k=n:=by omega
         go_wp2
         go_loopg [12] 8 (λz v wq=>∃q:Nat,z=8-q/\q<=8/\v=.int .i64 q/\H0 (wq=wr))
         case atStart=>exact⟨0,rfl,AG _,rfl,j6 rfl⟩
         case round =>
          obtain⟨q,rfl,hq,rfl,a7⟩:=hrel;have b0:=a7.o;subst b0;by_cases hq8:q<8
          ·obtain⟨a8,rfl,l0,l1,l2,l3⟩:=Jq P.o (show k+q<k+8 by omega) (show Ap (-1-(t:Int)) q=[.slice none 0 0,.int .u64 0,.slice none 0 0,.int .i64 ((-1-(t:Int))*1000+(q:Int))]from rfl) (λz hz=>by rw[show(k+q)*4+z=(Av Ap (t:Int) k).length+(q*4+z)by rw[Cp Dq,DM];omega,BF (GO _ _),DE];exact Cq Dq _ hz 8 q hq8);have wy:IntKind.i64.wrap (-1-(t:Int)) = -1-(t:Int):=by rw[BJ];omega
           have N:IntKind.i64.wrap ((-1-(t:Int))*1000)=(-1-(t:Int))*1000:=by rw[BJ];omega
           have O:IntKind.i64.wrap ((-1-(t:Int))*1000+(q:Int))=(-1-(t:Int))*1000+(q:Int):=by rw[BJ];omega
           go_wp2
           go_roundg (8-(q+1))
           case measure=>omega
           case rel=>exact⟨q+1,rfl,by omega,by go_num,j6 rfl⟩
          ·obtain rfl:q=8:=by omega
           go_wp2
           go_roundg (j-(t+1))
           case measure=>omega
           case rel=>exact⟨t+1,rfl,by omega,by go_num,j6 rfl⟩
      ·obtain rfl:t=j:=by omega
       go_wp2;go_ret;exact⟨rfl,H.o.trans HP.o.upd⟩
def bB(w:World):C3 123 #[.slice none 0 0] w λe w'=>e=.returned (.bool true)/\w=w':=by
 go_enter func123,ntmps123;go_wp2;refine wp_loop_rounds 1 ?_;rw[rounds_succ];go_wp2;refine wp_loop_rounds 1 ?_;rw[rounds_succ];go_wp2;refine wp_loop_rounds 1 ?_;rw[rounds_succ];go_wp2;go_ret;exact⟨rfl,rfl⟩
def aW(w:World):C3 124 #[.slice none 0 0] w λe w'=>e=.returned (.bool true)/\w=w':=by
 go_enter func124,ntmps124;go_wp2;refine wp_loop_rounds 1 ?_;rw[rounds_succ];go_wp2;refine wp_loop_rounds 1 ?_;rw[rounds_succ];go_wp2;refine wp_loop_rounds 1 ?_;rw[rounds_succ];go_wp2;go_ret;exact⟨rfl,rfl⟩
def fQ(w:World):C3 125 #[.slice none 0 0] w λe w'=>e=.returned (.bool true)/\w=w':=by
 go_enter func125,ntmps125;go_wp2;refine wp_loop_rounds 1 ?_;rw[rounds_succ];go_wp2;refine wp_loop_rounds 1 ?_;rw[rounds_succ];go_wp2;refine wp_loop_rounds 1 ?_;rw[rounds_succ];go_wp2;go_ret;exact⟨rfl,rfl⟩
def aX(w:World):C3 128 #[.slice none 0 0] w λe w'=>e=.returned (.bool true)/\w=w':=by
 go_enter func128,ntmps128;go_wp2;refine wp_loop_rounds 1 ?_;rw[rounds_succ];go_wp2;refine wp_loop_rounds 1 ?_;rw[rounds_succ];go_wp2;refine wp_loop_rounds 1 ?_;rw[rounds_succ];go_wp2;go_ret;exact⟨rfl,rfl⟩
def aY(w:World):C3 129 #[.slice none 0 0] w λe w'=>e=.returned (.bool true)/\w=w':=by
 go_enter func129,ntmps129;go_wp2;refine wp_loop_rounds 1 ?_;rw[rounds_succ];go_wp2;refine wp_loop_rounds 1 ?_;rw[rounds_succ];go_wp2;refine wp_loop_rounds 1 ?_;rw[rounds_succ];go_wp2;go_ret;exact⟨rfl,rfl⟩
def Wo(w:World):C3 130 #[.slice none 0 0] w λe w'=>e=.returned (.bool true)/\w=w':=by
 go_enter func130,ntmps130;go_wp2;refine wp_loop_rounds 1 ?_;rw[rounds_succ];go_wp2;refine wp_loop_rounds 1 ?_;rw[rounds_succ];go_wp2;refine wp_loop_rounds 1 ?_;rw[rounds_succ];go_wp2;go_ret;exact⟨rfl,rfl⟩
def Vx(w:World):C3 131 #[.slice none 0 0] w λe w'=>e=.returned (.bool true)/\w=w':=by
 go_enter func131,ntmps131;go_wp2;refine wp_loop_rounds 1 ?_;rw[rounds_succ];go_wp2;refine wp_loop_rounds 1 ?_;rw[rounds_succ];go_wp2;refine wp_loop_rounds 1 ?_;rw[rounds_succ];go_wp2;go_ret;exact⟨rfl,rfl⟩
def aV(w:World):C3 134 #[.slice none 0 0] w λe w'=>e=.returned (.bool true)/\w=w':=by
 go_enter func134,ntmps134;go_wp2;refine wp_loop_rounds 1 ?_;rw[rounds_succ];go_wp2;refine wp_loop_rounds 1 ?_;rw[rounds_succ];go_wp2;refine wp_loop_rounds 1 ?_;rw[rounds_succ];go_wp2;go_ret;exact⟨rfl,rfl⟩
def aZ(w:World):C3 135 #[.slice none 0 0] w λe w'=>e=.returned (.bool true)/\w=w':=by
 go_enter func135,ntmps135;go_wp2;refine wp_loop_rounds 1 ?_;rw[rounds_succ];go_wp2;refine wp_loop_rounds 1 ?_;rw[rounds_succ];go_wp2;refine wp_loop_rounds 1 ?_;rw[rounds_succ];go_wp2;go_ret;exact⟨rfl,rfl⟩
def fP(w:World):C3 136 #[.slice none 0 0] w λe w'=>e=.returned (.bool true)/\w=w':=by
 go_enter func136,ntmps136;go_wp2;refine wp_loop_rounds 1 ?_;rw[rounds_succ];go_wp2;refine wp_loop_rounds 1 ?_;rw[rounds_succ];go_wp2;refine wp_loop_rounds 1 ?_;rw[rounds_succ];go_wp2;go_ret;exact⟨rfl,rfl⟩
def Oy(w_ r_ c_ u_:Value):Array Value:=#[.slice none 0 0,.slice none 0 0,.slice none 0 0,w_,r_,.slice none 0 0,.slice none 0 0,.slice none 0 0,.slice none 0 0,c_,u_,.slice none 0 0,.slice none 0 0,.slice none 0 0]
structure Bc (w:World) (gb:Nat) (R:Nat->Prop) (Lw Lr Lc Lu:List En) (w_ r_ c_ u_:En):Prop where
 bk:Bk w gb 52 (Oy w_.v r_.v c_.v u_.v)
 rg:R gb
 ow:Own w 0 24 1 w_.A w_.n w_.c (El Lw)
 or:Own w 0 78 1 r_.A r_.n r_.c (El Lr)
 oc:Own w 0 31 1 c_.A c_.n c_.c (El Lc)
 ou:Own w 0 22 1 u_.A u_.n u_.c (El Lu)
 rw:∀k,w_.b=some k->R k/\k≠gb
 rr:∀k,r_.b=some k->R k/\k≠gb
 rc:∀k,c_.b=some k->R k/\k≠gb
 ru:∀k,u_.b=some k->R k/\k≠gb
 nw:w_.n=Lw.length
 nr:r_.n=Lr.length
 nc:c_.n=Lc.length
 nu:u_.n=Lu.length
 swr:∀k,w_.b=some k->r_.b≠some k
 swc:∀k,w_.b=some k->c_.b≠some k
 swu:∀k,w_.b=some k->u_.b≠some k
 src:∀k,r_.b=some k->c_.b≠some k
 sru:∀k,r_.b=some k->u_.b≠some k
 scu:∀k,c_.b=some k->u_.b≠some k
def Bc.ext{Lw Lr Lc Lu:List En}{w_ r_ c_ u_:En}(h:Bc w gb R Lw Lr Lc Lu w_ r_ c_ u_)(x:Ext w w'):Bc w' gb R Lw Lr Lc Lu w_ r_ c_ u_ :=
 ⟨h.bk.ext x,h.rg,h.ow.ext x,h.or.ext x,h.oc.ext x,h.ou.ext x,h.rw,h.rr,h.rc,h.ru,h.nw,h.nr,h.nc,h.nu,h.swr,h.swc,h.swu,h.src,h.sru,h.scu⟩
def Bc.upd{Lw Lr Lc Lu:List En}{w_ r_ c_ u_:En}(h:Bc w gb R Lw Lr Lc Lu w_ r_ c_ u_)(x:Upd S w w')(hS:∀k,R k->¬S k):Bc w' gb R Lw Lr Lc Lu w_ r_ c_ u_ :=
 ⟨(x.block gb (BP.1 h.bk).1 (hS _ h.rg)).trans h.bk,h.rg,h.ow.upd x (λk hk=>hS k (h.rw k hk).1),h.or.upd x (λk hk=>hS k (h.rr k hk).1),h.oc.upd x (λk hk=>hS k (h.rc k hk).1),h.ou.upd x (λk hk=>hS k (h.ru k hk).1),h.rw,h.rr,h.rc,h.ru,h.nw,h.nr,h.nc,h.nu,h.swr,h.swc,h.swu,h.src,h.sru,h.scu⟩
def Bc.wide{Lw Lr Lc Lu:List En}{w_ r_ c_ u_:En}(h:Bc w gb R Lw Lr Lc Lu w_ r_ c_ u_)(hR:∀k,k<w.heap.size->R k->R' k):Bc w gb R' Lw Lr Lc Lu w_ r_ c_ u_ :=
 ⟨h.bk,hR _ h.bk.lt h.rg,h.ow,h.or,h.oc,h.ou,λk hk=>⟨hR k (h.ow.lt k hk).2 (h.rw k hk).1,(h.rw k hk).2⟩,λk hk=>⟨hR k (h.or.lt k hk).2 (h.rr k hk).1,(h.rr k hk).2⟩,λk hk=>⟨hR k (h.oc.lt k hk).2 (h.rc k hk).1,(h.rc k hk).2⟩,λk hk=>⟨hR k (h.ou.lt k hk).2 (h.ru k hk).1,(h.ru k hk).2⟩,h.nw,h.nr,h.nc,h.nu,h.swr,h.swc,h.swu,h.src,h.sru,h.scu⟩
def rF(h:Bk w gb 52 #[.slice none 0 0,.slice none 0 0,.slice none 0 0,.slice none 0 0,.slice none 0 0,.slice none 0 0,.slice none 0 0,.slice none 0 0,.slice none 0 0,.slice none 0 0,.slice none 0 0,.slice none 0 0,.slice none 0 0,.slice none 0 0])(hR:R gb):Bc w gb R [] [] [] [] En.zero En.zero En.zero En.zero :=
 ⟨h,hR,Own.nil _ _ _ _,Own.nil _ _ _ _,Own.nil _ _ _ _,Own.nil _ _ _ _,(λk hk=>nomatch hk),(λk hk=>nomatch hk),(λk hk=>nomatch hk),(λk hk=>nomatch hk),rfl,rfl,rfl,rfl,(λk hk=>nomatch hk),(λk hk=>nomatch hk),(λk hk=>nomatch hk),(λk hk=>nomatch hk),(λk hk=>nomatch hk),(λk hk=>nomatch hk)⟩
def RN(R:Nat->Prop)(w w':World)(k:Nat):Prop:=R k\/(w.heap.size<=k/\k<w'.heap.size)
def RN.step{R:Nat->Prop}{a b c:World}(h:a.heap.size<=b.heap.size)(h2:b.heap.size<=c.heap.size):∀k,RN (RN R a b) b c k->RN R a c k:=λk hk=>by
 rcases hk with (hk|⟨h3,h4⟩)|⟨h3,h4⟩
 ·exact .inl hk
 ·exact .inr ⟨h3,by omega⟩
 ·exact .inr ⟨by omega,h4⟩
def Sx{a b c:World}(h:Upd R a b)(k:Upd (RN R a b) b c):Upd R a c :=
 ⟨k.os.trans h.os,k.tape.trans h.tape,k.output.trans h.output,AR h.size k.size,λq hq hn=>(k.block q (AZ hq h.size) (λe=>by
  rcases e with e|e
  ·exact hn e
  ·omega)).trans (h.block q hq hn)⟩
def Bc.put_w{Lw Lr Lc Lu:List En}{w_ r_ c_ u_:En}{x:En}(h:Bc w gb R Lw Lr Lc Lu w_ r_ c_ u_)(ob:Obj){A3:Option Addr}{c3:Nat}
  (o3:Own w3 0 24 1 A3 (w_.n+1) c3 (El Lw++[x.v])) (g3:(w.alloc ob).grownBy w3 (blk w_.A w_.c)) (x3:(A3=w_.A/\c3=w_.c)\/(blk A3 c3=some (w.alloc ob).heap.size/\Ext (w.alloc ob) w3)) :
  Bc (w3.setCell ⟨gb,3,none⟩ (.slice A3 (w_.n+1) c3)) gb (RN R w (w3.setCell ⟨gb,3,none⟩ (.slice A3 (w_.n+1) c3))) (Lw++[x]) Lr Lc Lu ⟨A3,w_.n+1,c3⟩ r_ c_ u_/\Upd R w (w3.setCell ⟨gb,3,none⟩ (.slice A3 (w_.n+1) c3)):=by
 have i:=((Ext.refl w).alloc ob).size;have f:=(BP.1 h.bk).1;have u3:Upd (λk=>blk w_.A w_.c=some k) w w3:=((Upd.refl _ w).alloc ob).grown g3 (λk hk=>.inl hk);have a:∀k,blk A3 c3=some k->blk w_.A w_.c=some k\/(w.heap.size<=k/\k<w3.heap.size):=λk hk=>by
  rcases x3 with ⟨rfl,rfl⟩|⟨h1,_⟩
  ·exact .inl hk
  ·have h2:=(o3.lt k hk).2;rw[h1]at hk;injection hk with hk;exact .inr ⟨by omega,h2⟩
 have g:blk A3 c3≠some gb:=λe=>by
  rcases a gb e with q|q
  ·exact(h.rw gb q).2 rfl
  ·omega
 have hR:∀k,R k->RN R w (w3.setCell ⟨gb,3,none⟩ (.slice A3 (w_.n+1) c3)) k:=λk hk=>.inl hk;have kr:Own w3 0 _ 1 r_.A r_.n r_.c _:=h.or.upd u3 (λk hk e=>h.swr k e hk);have kc:Own w3 0 _ 1 c_.A c_.n c_.c _:=h.oc.upd u3 (λk hk e=>h.swc k e hk);have ku:Own w3 0 _ 1 u_.A u_.n u_.c _:=h.ou.upd u3 (λk hk e=>h.swu k e hk);have d:Bk w3 gb 52 (Oy w_.v r_.v c_.v u_.v):=(u3.block gb f (λe=>(h.rw gb e).2 rfl)).trans h.bk;refine⟨⟨d.set 3 _,hR _ h.rg,?_,?_,?_,?_,?_,?_,?_,?_,?_,?_,?_,?_,?_,?_,?_,?_,?_,?_⟩,?_⟩
 ·rw[Hx];exact o3.far g _
 ·exact kr.far (show blk r_.A r_.c≠some gb from λe=>(h.rr gb e).2 rfl) _
 ·exact kc.far (show blk c_.A c_.c≠some gb from λe=>(h.rc gb e).2 rfl) _
 ·exact ku.far (show blk u_.A u_.c≠some gb from λe=>(h.ru gb e).2 rfl) _
 ·intro k hk;rcases a k hk with q|q
  ·exact⟨hR k (h.rw k q).1,(h.rw k q).2⟩
  ·exact⟨.inr ⟨q.1,by simpa using q.2⟩,by omega⟩
 ·exact λk hk=>⟨hR k (h.rr k hk).1,(h.rr k hk).2⟩
 ·exact λk hk=>⟨hR k (h.rc k hk).1,(h.rc k hk).2⟩
 ·exact λk hk=>⟨hR k (h.ru k hk).1,(h.ru k hk).2⟩
 ·show w_.n+1=_;rw[AA,h.nw];rfl
 ·exact h.nr
 ·exact h.nc
 ·exact h.nu
 ·intro k hk e;rcases a k hk with q|q
  ·exact h.swr k q e
  ·have:=(h.or.lt k e).2;omega
 ·intro k hk e;rcases a k hk with q|q
  ·exact h.swc k q e
  ·have:=(h.oc.lt k e).2;omega
 ·intro k hk e;rcases a k hk with q|q
  ·exact h.swu k q e
  ·have:=(h.ou.lt k e).2;omega
 ·exact h.src
 ·exact h.sru
 ·exact h.scu
 ·exact(u3.mono (λk _ hk=>(h.rw k hk).1)).setCell (.inl h.rg) _
def Ww(gb n ac:Nat)(R:Nat->Prop)(A:Option Addr)(Lw Lr Lc Lu:List En)(w_ r_ c_ u_:En)(w:World)(h:H0 (Bc w gb R Lw Lr Lc Lu w_ r_ c_ u_))(hl:Lw.length<=100000) :
  C3 116 #[.pointer (some ⟨gb,0,none⟩),.slice A n ac] w λe w'=>e=.returned (.tuple #[])/\∃x,Bc w' gb (RN R w w') (Lw++[⟨A,n,ac⟩]) Lr Lc Lu x r_ c_ u_/\Upd R w w':=by
 obtain⟨wA,wn,wc⟩:=w_;obtain⟨rA,rn,rc⟩:=r_;obtain⟨cA,cn,cc⟩:=c_;obtain⟨uA,un,uc⟩:=u_;have hn:wn<=100000:=by have:wn=Lw.length:=h.o.nw;omega
 have q:=h.o.bk.cell 3;have z:=h.o.bk.free 3;replace q:w.cell? ⟨gb,3,none⟩=some (.slice wA wn wc):=q;go_enter func116,ntmps116;go_wp2_with (at_builtin;refine Ab _ Mt 0 _ _ rfl rfl wA wn wc (El Lw) rfl (h.o.ow.alloc _) (some ⟨w.heap.size,0,none⟩) 1 1 [.slice A n ac] rfl (Sl.one w #[.slice A n ac] 24 1 rfl) (Hw [⟨A,n,ac⟩]) (by omega) (by decide) (AG _) ?_;intro A3 c3 w3 o3 g3 x3;have HP:=j6 (h.o.put_w (x:=⟨A,n,ac⟩) _ o3 g3 x3);have b3:Bk w3 gb 52 (Oy (.slice wA wn wc) (.slice rA rn rc) (.slice cA cn cc) (.slice uA un uc)):=(((Upd.refl (λk=>blk wA wc=some k) w).alloc _).grown g3 (λk hk=>.inl hk)).block gb (BP.1 h.o.bk).1 (λe=>(h.o.rw gb e).2 rfl) |>.trans h.o.bk;have q3:=b3.cell 3;have z3:=b3.free 3;clear b3 o3 g3 x3)
 go_returns;exact⟨rfl,_,HP.o.1,HP.o.2⟩
def Bc.put_r{Lw Lr Lc Lu:List En}{w_ r_ c_ u_:En}{x:En}(h:Bc w gb R Lw Lr Lc Lu w_ r_ c_ u_)(ob:Obj){A3:Option Addr}{c3:Nat}
  (o3:Own w3 0 78 1 A3 (r_.n+1) c3 (El Lr++[x.v])) (g3:(w.alloc ob).grownBy w3 (blk r_.A r_.c)) (x3:(A3=r_.A/\c3=r_.c)\/(blk A3 c3=some (w.alloc ob).heap.size/\Ext (w.alloc ob) w3)) :
  Bc (w3.setCell ⟨gb,4,none⟩ (.slice A3 (r_.n+1) c3)) gb (RN R w (w3.setCell ⟨gb,4,none⟩ (.slice A3 (r_.n+1) c3))) Lw (Lr++[x]) Lc Lu w_ ⟨A3,r_.n+1,c3⟩ c_ u_/\Upd R w (w3.setCell ⟨gb,4,none⟩ (.slice A3 (r_.n+1) c3)):=by
 have i:=((Ext.refl w).alloc ob).size;have f:=(BP.1 h.bk).1;have u3:Upd (λk=>blk r_.A r_.c=some k) w w3:=((Upd.refl _ w).alloc ob).grown g3 (λk hk=>.inl hk);have a:∀k,blk A3 c3=some k->blk r_.A r_.c=some k\/(w.heap.size<=k/\k<w3.heap.size):=λk hk=>by
  rcases x3 with ⟨rfl,rfl⟩|⟨h1,_⟩
  ·exact .inl hk
  ·have h2:=(o3.lt k hk).2;rw[h1]at hk;injection hk with hk;exact .inr ⟨by omega,h2⟩
 have g:blk A3 c3≠some gb:=λe=>by
  rcases a gb e with q|q
  ·exact(h.rr gb q).2 rfl
  ·omega
 have hR:∀k,R k->RN R w (w3.setCell ⟨gb,4,none⟩ (.slice A3 (r_.n+1) c3)) k:=λk hk=>.inl hk;have kw:Own w3 0 _ 1 w_.A w_.n w_.c _:=h.ow.upd u3 (λk hk e=>h.swr k hk e);have kc:Own w3 0 _ 1 c_.A c_.n c_.c _:=h.oc.upd u3 (λk hk e=>h.src k e hk);have ku:Own w3 0 _ 1 u_.A u_.n u_.c _:=h.ou.upd u3 (λk hk e=>h.sru k e hk);have d:Bk w3 gb 52 (Oy w_.v r_.v c_.v u_.v):=(u3.block gb f (λe=>(h.rr gb e).2 rfl)).trans h.bk;refine⟨⟨d.set 4 _,hR _ h.rg,?_,?_,?_,?_,?_,?_,?_,?_,?_,?_,?_,?_,?_,?_,?_,?_,?_,?_⟩,?_⟩
 ·exact kw.far (show blk w_.A w_.c≠some gb from λe=>(h.rw gb e).2 rfl) _
 ·rw[Hx];exact o3.far g _
 ·exact kc.far (show blk c_.A c_.c≠some gb from λe=>(h.rc gb e).2 rfl) _
 ·exact ku.far (show blk u_.A u_.c≠some gb from λe=>(h.ru gb e).2 rfl) _
 ·exact λk hk=>⟨hR k (h.rw k hk).1,(h.rw k hk).2⟩
 ·intro k hk;rcases a k hk with q|q
  ·exact⟨hR k (h.rr k q).1,(h.rr k q).2⟩
  ·exact⟨.inr ⟨q.1,by simpa using q.2⟩,by omega⟩
 ·exact λk hk=>⟨hR k (h.rc k hk).1,(h.rc k hk).2⟩
 ·exact λk hk=>⟨hR k (h.ru k hk).1,(h.ru k hk).2⟩
 ·exact h.nw
 ·show r_.n+1=_;rw[AA,h.nr];rfl
 ·exact h.nc
 ·exact h.nu
 ·intro k hk e;rcases a k e with q|q
  ·exact h.swr k hk q
  ·have:=(h.ow.lt k hk).2;omega
 ·exact h.swc
 ·exact h.swu
 ·intro k hk e;rcases a k hk with q|q
  ·exact h.src k q e
  ·have:=(h.oc.lt k e).2;omega
 ·intro k hk e;rcases a k hk with q|q
  ·exact h.sru k q e
  ·have:=(h.ou.lt k e).2;omega
 ·exact h.scu
 ·exact(u3.mono (λk _ hk=>(h.rr k hk).1)).setCell (.inl h.rg) _
def Ru(gb n ac:Nat)(R:Nat->Prop)(A:Option Addr)(Lw Lr Lc Lu:List En)(w_ r_ c_ u_:En)(w:World)(h:H0 (Bc w gb R Lw Lr Lc Lu w_ r_ c_ u_))(hl:Lr.length<=100000) :
  C3 115 #[.pointer (some ⟨gb,0,none⟩),.slice A n ac] w λe w'=>e=.returned (.tuple #[])/\∃x,Bc w' gb (RN R w w') Lw (Lr++[⟨A,n,ac⟩]) Lc Lu w_ x c_ u_/\Upd R w w':=by
 obtain⟨wA,wn,wc⟩:=w_;obtain⟨rA,rn,rc⟩:=r_;obtain⟨cA,cn,cc⟩:=c_;obtain⟨uA,un,uc⟩:=u_;have hn:rn<=100000:=by have:rn=Lr.length:=h.o.nr;omega
 have q:=h.o.bk.cell 4;have z:=h.o.bk.free 4;replace q:w.cell? ⟨gb,4,none⟩=some (.slice rA rn rc):=q;go_enter func115,ntmps115;go_wp2_with (at_builtin;refine Ab _ Px 0 _ _ rfl rfl rA rn rc (El Lr) rfl (h.o.or.alloc _) (some ⟨w.heap.size,0,none⟩) 1 1 [.slice A n ac] rfl (Sl.one w #[.slice A n ac] 78 1 rfl) (Hw [⟨A,n,ac⟩]) (by omega) (by decide) (AG _) ?_;intro A3 c3 w3 o3 g3 x3;have HP:=j6 (h.o.put_r (x:=⟨A,n,ac⟩) _ o3 g3 x3);have b3:Bk w3 gb 52 (Oy (.slice wA wn wc) (.slice rA rn rc) (.slice cA cn cc) (.slice uA un uc)):=(((Upd.refl (λk=>blk rA rc=some k) w).alloc _).grown g3 (λk hk=>.inl hk)).block gb (BP.1 h.o.bk).1 (λe=>(h.o.rr gb e).2 rfl) |>.trans h.o.bk;have q3:=b3.cell 4;have z3:=b3.free 4;clear b3 o3 g3 x3)
 go_returns;exact⟨rfl,_,HP.o.1,HP.o.2⟩
def Bc.put_c{Lw Lr Lc Lu:List En}{w_ r_ c_ u_:En}{x:En}(h:Bc w gb R Lw Lr Lc Lu w_ r_ c_ u_)(ob:Obj){A3:Option Addr}{c3:Nat}
  (o3:Own w3 0 31 1 A3 (c_.n+1) c3 (El Lc++[x.v])) (g3:(w.alloc ob).grownBy w3 (blk c_.A c_.c)) (x3:(A3=c_.A/\c3=c_.c)\/(blk A3 c3=some (w.alloc ob).heap.size/\Ext (w.alloc ob) w3)) :
  Bc (w3.setCell ⟨gb,9,none⟩ (.slice A3 (c_.n+1) c3)) gb (RN R w (w3.setCell ⟨gb,9,none⟩ (.slice A3 (c_.n+1) c3))) Lw Lr (Lc++[x]) Lu w_ r_ ⟨A3,c_.n+1,c3⟩ u_/\Upd R w (w3.setCell ⟨gb,9,none⟩ (.slice A3 (c_.n+1) c3)):=by
 have i:=((Ext.refl w).alloc ob).size;have f:=(BP.1 h.bk).1;have u3:Upd (λk=>blk c_.A c_.c=some k) w w3:=((Upd.refl _ w).alloc ob).grown g3 (λk hk=>.inl hk);have a:∀k,blk A3 c3=some k->blk c_.A c_.c=some k\/(w.heap.size<=k/\k<w3.heap.size):=λk hk=>by
  rcases x3 with ⟨rfl,rfl⟩|⟨h1,_⟩
  ·exact .inl hk
  ·have h2:=(o3.lt k hk).2;rw[h1]at hk;injection hk with hk;exact .inr ⟨by omega,h2⟩
 have g:blk A3 c3≠some gb:=λe=>by
  rcases a gb e with q|q
  ·exact(h.rc gb q).2 rfl
  ·omega
 have hR:∀k,R k->RN R w (w3.setCell ⟨gb,9,none⟩ (.slice A3 (c_.n+1) c3)) k:=λk hk=>.inl hk;have kw:Own w3 0 _ 1 w_.A w_.n w_.c _:=h.ow.upd u3 (λk hk e=>h.swc k hk e);have kr:Own w3 0 _ 1 r_.A r_.n r_.c _:=h.or.upd u3 (λk hk e=>h.src k hk e);have ku:Own w3 0 _ 1 u_.A u_.n u_.c _:=h.ou.upd u3 (λk hk e=>h.scu k e hk);have d:Bk w3 gb 52 (Oy w_.v r_.v c_.v u_.v):=(u3.block gb f (λe=>(h.rc gb e).2 rfl)).trans h.bk;refine⟨⟨d.set 9 _,hR _ h.rg,?_,?_,?_,?_,?_,?_,?_,?_,?_,?_,?_,?_,?_,?_,?_,?_,?_,?_⟩,?_⟩
 ·exact kw.far (show blk w_.A w_.c≠some gb from λe=>(h.rw gb e).2 rfl) _
 ·exact kr.far (show blk r_.A r_.c≠some gb from λe=>(h.rr gb e).2 rfl) _
 ·rw[Hx];exact o3.far g _
 ·exact ku.far (show blk u_.A u_.c≠some gb from λe=>(h.ru gb e).2 rfl) _
 ·exact λk hk=>⟨hR k (h.rw k hk).1,(h.rw k hk).2⟩
 ·exact λk hk=>⟨hR k (h.rr k hk).1,(h.rr k hk).2⟩
 ·intro k hk;rcases a k hk with q|q
  ·exact⟨hR k (h.rc k q).1,(h.rc k q).2⟩
  ·exact⟨.inr ⟨q.1,by simpa using q.2⟩,by omega⟩
 ·exact λk hk=>⟨hR k (h.ru k hk).1,(h.ru k hk).2⟩
 ·exact h.nw
 ·exact h.nr
 ·show c_.n+1=_;rw[AA,h.nc];rfl
 ·exact h.nu
 ·exact h.swr
 ·intro k hk e;rcases a k e with q|q
  ·exact h.swc k hk q
  ·have:=(h.ow.lt k hk).2;omega
 ·exact h.swu
 ·intro k hk e;rcases a k e with q|q
  ·exact h.src k hk q
  ·have:=(h.or.lt k hk).2;omega
 ·exact h.sru
 ·intro k hk e;rcases a k hk with q|q
  ·exact h.scu k q e
  ·have:=(h.ou.lt k e).2;omega
 ·exact(u3.mono (λk _ hk=>(h.rc k hk).1)).setCell (.inl h.rg) _
def Bc.put_u{Lw Lr Lc Lu:List En}{w_ r_ c_ u_:En}{x:En}(h:Bc w gb R Lw Lr Lc Lu w_ r_ c_ u_)(ob:Obj){A3:Option Addr}{c3:Nat}
  (o3:Own w3 0 22 1 A3 (u_.n+1) c3 (El Lu++[x.v])) (g3:(w.alloc ob).grownBy w3 (blk u_.A u_.c)) (x3:(A3=u_.A/\c3=u_.c)\/(blk A3 c3=some (w.alloc ob).heap.size/\Ext (w.alloc ob) w3)) :
  Bc (w3.setCell ⟨gb,10,none⟩ (.slice A3 (u_.n+1) c3)) gb (RN R w (w3.setCell ⟨gb,10,none⟩ (.slice A3 (u_.n+1) c3))) Lw Lr Lc (Lu++[x]) w_ r_ c_ ⟨A3,u_.n+1,c3⟩/\Upd R w (w3.setCell ⟨gb,10,none⟩ (.slice A3 (u_.n+1) c3)):=by
 have i:=((Ext.refl w).alloc ob).size;have f:=(BP.1 h.bk).1;have u3:Upd (λk=>blk u_.A u_.c=some k) w w3:=((Upd.refl _ w).alloc ob).grown g3 (λk hk=>.inl hk);have a:∀k,blk A3 c3=some k->blk u_.A u_.c=some k\/(w.heap.size<=k/\k<w3.heap.size):=λk hk=>by
  rcases x3 with ⟨rfl,rfl⟩|⟨h1,_⟩
  ·exact .inl hk
  ·have h2:=(o3.lt k hk).2;rw[h1]at hk;injection hk with hk;exact .inr ⟨by omega,h2⟩
 have g:blk A3 c3≠some gb:=λe=>by
  rcases a gb e with q|q
  ·exact(h.ru gb q).2 rfl
  ·omega
 have hR:∀k,R k->RN R w (w3.setCell ⟨gb,10,none⟩ (.slice A3 (u_.n+1) c3)) k:=λk hk=>.inl hk;have kw:Own w3 0 _ 1 w_.A w_.n w_.c _:=h.ow.upd u3 (λk hk e=>h.swu k hk e);have kr:Own w3 0 _ 1 r_.A r_.n r_.c _:=h.or.upd u3 (λk hk e=>h.sru k hk e);have kc:Own w3 0 _ 1 c_.A c_.n c_.c _:=h.oc.upd u3 (λk hk e=>h.scu k hk e);have d:Bk w3 gb 52 (Oy w_.v r_.v c_.v u_.v):=(u3.block gb f (λe=>(h.ru gb e).2 rfl)).trans h.bk;refine⟨⟨d.set 10 _,hR _ h.rg,?_,?_,?_,?_,?_,?_,?_,?_,?_,?_,?_,?_,?_,?_,?_,?_,?_,?_⟩,?_⟩
 ·exact kw.far (show blk w_.A w_.c≠some gb from λe=>(h.rw gb e).2 rfl) _
 ·exact kr.far (show blk r_.A r_.c≠some gb from λe=>(h.rr gb e).2 rfl) _
 ·exact kc.far (show blk c_.A c_.c≠some gb from λe=>(h.rc gb e).2 rfl) _
 ·rw[Hx];exact o3.far g _
 ·exact λk hk=>⟨hR k (h.rw k hk).1,(h.rw k hk).2⟩
 ·exact λk hk=>⟨hR k (h.rr k hk).1,(h.rr k hk).2⟩
 ·exact λk hk=>⟨hR k (h.rc k hk).1,(h.rc k hk).2⟩
 ·intro k hk;rcases a k hk with q|q
  ·exact⟨hR k (h.ru k q).1,(h.ru k q).2⟩
  ·exact⟨.inr ⟨q.1,by simpa using q.2⟩,by omega⟩
 ·exact h.nw
 ·exact h.nr
 ·exact h.nc
 ·show u_.n+1=_;rw[AA,h.nu];rfl
 ·exact h.swr
 ·exact h.swc
 ·intro k hk e;rcases a k e with q|q
  ·exact h.swu k hk q
  ·have:=(h.ow.lt k hk).2;omega
 ·exact h.src
 ·intro k hk e;rcases a k e with q|q
  ·exact h.sru k hk q
  ·have:=(h.or.lt k hk).2;omega
 ·intro k hk e;rcases a k e with q|q
  ·exact h.scu k hk q
  ·have:=(h.oc.lt k hk).2;omega
 ·exact(u3.mono (λk _ hk=>(h.ru k hk).1)).setCell (.inl h.rg) _
def bY(Lw Lr Lc Lu:List En)(k:Nat):Prop:=Cf Lw k\/Cf Lr k\/Cf Lc k\/Cf Lu k
def Few(L:List En):Prop:=L.length<=100000/\∀i,i<L.length->(ena L i).n<=1000000
def gT(gb B:Nat)(R:Nat->Prop)(Lw Lr Lc Lu:List En)(w_ r_ c_ u_:En)(fw fr fc fu:Nat->List Value)(w:World)(h:H0 (Bc w gb R Lw Lr Lc Lu w_ r_ c_ u_))(lsw:H0 (Gn w B 180 1 Lw fw))(lsr:H0 (Gn w B 204 4 Lr fr))(lsc:H0 (Gn w B 154 2 Lc fc))(lsu:H0 (Gn w B 95 4 Lu fu))
  (dwr:H0 (∀k,Cf Lw k->¬Cf Lr k)) (dwc:H0 (∀k,Cf Lw k->¬Cf Lc k)) (dwu:H0 (∀k,Cf Lw k->¬Cf Lu k)) (drc:H0 (∀k,Cf Lr k->¬Cf Lc k)) (dru:H0 (∀k,Cf Lr k->¬Cf Lu k)) (dcu:H0 (∀k,Cf Lc k->¬Cf Lu k)) (hlt:H0 (∀k,bY Lw Lr Lc Lu k->¬R k)) (feww:H0 (Few Lw)) (fewr:H0 (Few Lr)) (fewc:H0 (Few Lc)) (fewu:H0 (Few Lu)) (hw:H0 (B<=w.heap.size)) :
  C3 29 #[.pointer (some ⟨gb,0,none⟩)] w λe w'=>e=.returned (.bool true)/\Upd (bY Lw Lr Lc Lu) w w':=by
 have G:w_.n<=100000:=by rw[h.o.nw];exact feww.o.1
 have E:r_.n<=100000:=by rw[h.o.nr];exact fewr.o.1
 have D:c_.n<=100000:=by rw[h.o.nc];exact fewc.o.1
 have F:u_.n<=100000:=by rw[h.o.nu];exact fewu.o.1
 have U0:H0 (Upd (bY Lw Lr Lc Lu) w w):=j6 (Upd.refl _ _);have h0:=h;have x:=hw;have d:=j6 h.o.bk;have q0:w.cell? ⟨gb,0,none⟩=some (.slice none 0 0):=d.o.cell 0;have q1:w.cell? ⟨gb,1,none⟩=some (.slice none 0 0):=d.o.cell 1;have q2:w.cell? ⟨gb,2,none⟩=some (.slice none 0 0):=d.o.cell 2;have q3:w.cell? ⟨gb,3,none⟩=some (.slice w_.A w_.n w_.c):=d.o.cell 3;have q4:w.cell? ⟨gb,4,none⟩=some (.slice r_.A r_.n r_.c):=d.o.cell 4;have q5:w.cell? ⟨gb,5,none⟩=some (.slice none 0 0):=d.o.cell 5;have q6:w.cell? ⟨gb,6,none⟩=some (.slice none 0 0):=d.o.cell 6;have q7:w.cell? ⟨gb,7,none⟩=some (.slice none 0 0):=d.o.cell 7;have q8:w.cell? ⟨gb,8,none⟩=some (.slice none 0 0):=d.o.cell 8;have q9:w.cell? ⟨gb,9,none⟩=some (.slice c_.A c_.n c_.c):=d.o.cell 9;have t:w.cell? ⟨gb,10,none⟩=some (.slice u_.A u_.n u_.c):=d.o.cell 10;have l:w.cell? ⟨gb,11,none⟩=some (.slice none 0 0):=d.o.cell 11;have m:w.cell? ⟨gb,12,none⟩=some (.slice none 0 0):=d.o.cell 12;have r:w.cell? ⟨gb,13,none⟩=some (.slice none 0 0):=d.o.cell 13;go_enter func29,ntmps29;go_wp2_with (first
  | (go_at_call 126;refine(aU w_.A w_.c w_.n B Lw _ _ (j6 h0.o.nw) (j6 h0.o.ow.sl) lsw (j6 (λk hk=>⟨λq=>hlt.o k (.inl q) (h0.o.rw k hk).1,(h0.o.ow.lt k hk).2⟩)) G (j6 feww.o.2) x).mono ?_;rintro e w1 ⟨rfl,a⟩;have U1:H0 (Upd (bY Lw Lr Lc Lu) w w1):=j6 (U0.o.trans (a.mono (λk _ hk=>(.inl hk))));have h1:H0 (Bc w1 gb R Lw Lr Lc Lu w_ r_ c_ u_):=j6 (h0.o.upd a (λk hk q=>hlt.o k (.inl q) hk));replace lsr:=j6 (lsr.o.upd a (λk hk q=>dwr.o k q hk));replace lsc:=j6 (lsc.o.upd a (λk hk q=>dwc.o k q hk));replace lsu:=j6 (lsu.o.upd a (λk hk q=>dwu.o k q hk));have f:=j6 h1.o.bk;have q4:w1.cell? ⟨gb,4,none⟩=some (.slice r_.A r_.n r_.c):=f.o.cell 4;have q5:w1.cell? ⟨gb,5,none⟩=some (.slice none 0 0):=f.o.cell 5;have q6:w1.cell? ⟨gb,6,none⟩=some (.slice none 0 0):=f.o.cell 6;have q7:w1.cell? ⟨gb,7,none⟩=some (.slice none 0 0):=f.o.cell 7;have q8:w1.cell? ⟨gb,8,none⟩=some (.slice none 0 0):=f.o.cell 8;have q9:w1.cell? ⟨gb,9,none⟩=some (.slice c_.A c_.n c_.c):=f.o.cell 9;have t:w1.cell? ⟨gb,10,none⟩=some (.slice u_.A u_.n u_.c):=f.o.cell 10;have l:w1.cell? ⟨gb,11,none⟩=some (.slice none 0 0):=f.o.cell 11;have m:w1.cell? ⟨gb,12,none⟩=some (.slice none 0 0):=f.o.cell 12;have r:w1.cell? ⟨gb,13,none⟩=some (.slice none 0 0):=f.o.cell 13;have y:H0 (B<=w1.heap.size):=j6 (AR x.o a.size);clear a)
  | (go_at_call 127;refine(jV r_.A r_.c r_.n B Lr _ _ (j6 h1.o.nr) (j6 h1.o.or.sl) lsr (j6 (λk hk=>⟨λq=>hlt.o k (.inr (.inl q)) (h1.o.rr k hk).1,(h1.o.or.lt k hk).2⟩)) E (j6 fewr.o.2) y).mono ?_;rintro e w2 ⟨rfl,a⟩;have U2:H0 (Upd (bY Lw Lr Lc Lu) w w2):=j6 (U1.o.trans (a.mono (λk _ hk=>(.inr (.inl hk)))));have h2:H0 (Bc w2 gb R Lw Lr Lc Lu w_ r_ c_ u_):=j6 (h1.o.upd a (λk hk q=>hlt.o k (.inr (.inl q)) hk));replace lsc:=j6 (lsc.o.upd a (λk hk q=>drc.o k q hk));replace lsu:=j6 (lsu.o.upd a (λk hk q=>dru.o k q hk));have g:=j6 h2.o.bk;have q5:w2.cell? ⟨gb,5,none⟩=some (.slice none 0 0):=g.o.cell 5;have q6:w2.cell? ⟨gb,6,none⟩=some (.slice none 0 0):=g.o.cell 6;have q7:w2.cell? ⟨gb,7,none⟩=some (.slice none 0 0):=g.o.cell 7;have q8:w2.cell? ⟨gb,8,none⟩=some (.slice none 0 0):=g.o.cell 8;have q9:w2.cell? ⟨gb,9,none⟩=some (.slice c_.A c_.n c_.c):=g.o.cell 9;have t:w2.cell? ⟨gb,10,none⟩=some (.slice u_.A u_.n u_.c):=g.o.cell 10;have l:w2.cell? ⟨gb,11,none⟩=some (.slice none 0 0):=g.o.cell 11;have m:w2.cell? ⟨gb,12,none⟩=some (.slice none 0 0):=g.o.cell 12;have r:w2.cell? ⟨gb,13,none⟩=some (.slice none 0 0):=g.o.cell 13;have z:H0 (B<=w2.heap.size):=j6 (AR y.o a.size);clear a)
  | (go_at_call 132;refine(jW c_.A c_.c c_.n B Lc _ _ (j6 h2.o.nc) (j6 h2.o.oc.sl) lsc (j6 (λk hk=>⟨λq=>hlt.o k (.inr (.inr (.inl q))) (h2.o.rc k hk).1,(h2.o.oc.lt k hk).2⟩)) D (j6 fewc.o.2) z).mono ?_;rintro e w3 ⟨rfl,a⟩;have U3:H0 (Upd (bY Lw Lr Lc Lu) w w3):=j6 (U2.o.trans (a.mono (λk _ hk=>(.inr (.inr (.inl hk))))));have h3:H0 (Bc w3 gb R Lw Lr Lc Lu w_ r_ c_ u_):=j6 (h2.o.upd a (λk hk q=>hlt.o k (.inr (.inr (.inl q))) hk));replace lsu:=j6 (lsu.o.upd a (λk hk q=>dcu.o k q hk));have i:=j6 h3.o.bk;have t:w3.cell? ⟨gb,10,none⟩=some (.slice u_.A u_.n u_.c):=i.o.cell 10;have l:w3.cell? ⟨gb,11,none⟩=some (.slice none 0 0):=i.o.cell 11;have m:w3.cell? ⟨gb,12,none⟩=some (.slice none 0 0):=i.o.cell 12;have r:w3.cell? ⟨gb,13,none⟩=some (.slice none 0 0):=i.o.cell 13;have C:H0 (B<=w3.heap.size):=j6 (AR z.o a.size);clear a)
  | (go_at_call 133;refine(fO u_.A u_.c u_.n B Lu _ _ (j6 h3.o.nu) (j6 h3.o.ou.sl) lsu (j6 (λk hk=>⟨λq=>hlt.o k (.inr (.inr (.inr q))) (h3.o.ru k hk).1,(h3.o.ou.lt k hk).2⟩)) F (j6 fewu.o.2) C).mono ?_;rintro e w4 ⟨rfl,a⟩;have U4:H0 (Upd (bY Lw Lr Lc Lu) w w4):=j6 (U3.o.trans (a.mono (λk _ hk=>(.inr (.inr (.inr hk))))));have h4:H0 (Bc w4 gb R Lw Lr Lc Lu w_ r_ c_ u_):=j6 (h3.o.upd a (λk hk q=>hlt.o k (.inr (.inr (.inr q))) hk));have j:=j6 h4.o.bk;have l:w4.cell? ⟨gb,11,none⟩=some (.slice none 0 0):=j.o.cell 11;have m:w4.cell? ⟨gb,12,none⟩=some (.slice none 0 0):=j.o.cell 12;have r:w4.cell? ⟨gb,13,none⟩=some (.slice none 0 0):=j.o.cell 13;have H:H0 (B<=w4.heap.size):=j6 (AR C.o a.size);clear a)
  | (go_at_call 123;refine(bB _).mono ?_;rintro e w_ ⟨rfl,rfl⟩)
  | (go_at_call 124;refine(aW _).mono ?_;rintro e w_ ⟨rfl,rfl⟩)
  | (go_at_call 125;refine(fQ _).mono ?_;rintro e w_ ⟨rfl,rfl⟩)
  | (go_at_call 128;refine(aX _).mono ?_;rintro e w_ ⟨rfl,rfl⟩)
  | (go_at_call 129;refine(aY _).mono ?_;rintro e w_ ⟨rfl,rfl⟩)
  | (go_at_call 130;refine(Wo _).mono ?_;rintro e w_ ⟨rfl,rfl⟩)
  | (go_at_call 131;refine(Vx _).mono ?_;rintro e w_ ⟨rfl,rfl⟩)
  | (go_at_call 134;refine(aV _).mono ?_;rintro e w_ ⟨rfl,rfl⟩)
  | (go_at_call 135;refine(aZ _).mono ?_;rintro e w_ ⟨rfl,rfl⟩)
  | (go_at_call 136;refine(fP _).mono ?_;rintro e w_ ⟨rfl,rfl⟩)
  | fail)
 go_ret;exact⟨rfl,U4.o⟩
def enR(x:Ud):En:=⟨x.A,x.l.length,x.c⟩
def enW(x:Ud):En:=⟨x.t.A,x.t.l.length,x.t.c⟩
def Om(gb n ac:Nat)(R:Nat->Prop)(A:Option Addr)(Lw Lr Lc Lu:List En)(w_ r_ c_ u_:En)(w:World)(h:H0 (Bc w gb R Lw Lr Lc Lu w_ r_ c_ u_))(hl:Lr.length<=100000) :
  C3 115 #[.pointer (some ⟨gb,0,none⟩),.slice A n ac] w λe w'=>e=.returned (.tuple #[])/\∃x,Bc w' gb (RN R w w') Lw (Lr++[⟨A,n,ac⟩]) Lc Lu w_ x c_ u_/\Upd R w w':=Ru gb n ac R A Lw Lr Lc Lu w_ r_ c_ u_ w h hl
def Mv(gb n ac:Nat)(R:Nat->Prop)(A:Option Addr)(Lw Lr Lc Lu:List En)(w_ r_ c_ u_:En)(w:World)(h:H0 (Bc w gb R Lw Lr Lc Lu w_ r_ c_ u_))(hl:Lw.length<=100000) :
  C3 116 #[.pointer (some ⟨gb,0,none⟩),.slice A n ac] w λe w'=>e=.returned (.tuple #[])/\∃x,Bc w' gb (RN R w w') (Lw++[⟨A,n,ac⟩]) Lr Lc Lu x r_ c_ u_/\Upd R w w':=Ww gb n ac R A Lw Lr Lc Lu w_ r_ c_ u_ w h hl
def Sd(gb m ac:Nat)(R:Nat->Prop)(A:Option Addr)(Q:List Ud)(Lw Lr Lc Lu:List En)(w_ r_ c_ u_:En)(w:World)(h:H0 (Bc w gb R Lw Lr Lc Lu w_ r_ c_ u_))(hrr:Lr.length+m<=100000)(hrw:Lw.length+m<=100000)(hl:Lu.length<=100000)(hm:H0 (m=Q.length))(hs:H0 (Sl w 4 A m ac (Ah Q)))(hsep:H0 (∀k,blk A ac=some k->¬R k)) :
  C3 21 #[.pointer (some ⟨gb,0,none⟩),.slice A m ac] w λe w'=>e=.returned (.tuple #[])/\∃vr vw vu,Bc w' gb (RN R w w') (Lw++Q.map enW) (Lr++Q.map enR) Lc (Lu++[⟨A,m,ac⟩]) vw vr c_ vu/\Upd R w w':=by
 have r:H0 (Bc w gb (RN R w w) (Lw++(Q.take 0).map enW) (Lr++(Q.take 0).map enR) Lc Lu w_ r_ c_ u_/\Upd R w w):=j6 ⟨by simp only[List.take_zero,FO,AV];exact h.o.wide (λk _ hk=>.inl hk),Upd.refl _ _⟩;go_enter func21,ntmps21;go_wp2
 go_loopg [4] m (λz v wr=>∃(i:Nat) (vr vw:En),z=m-i/\i<=m/\v=.int .i64 i/\H0 (Bc wr gb (RN R w wr) (Lw++(Q.take i).map enW) (Lr++(Q.take i).map enR) Lc Lu vw vr c_ u_/\Upd R w wr))
 case atStart=>exact⟨0,r_,w_,rfl,AG _,rfl,r⟩
 case round =>
  clear r;obtain⟨i,vr,vw,rfl,hi,rfl,HP⟩:=hrel;by_cases hlt:i<m
  ·have f:i<Q.length:=by rw[<-hm.o];exact hlt
   have a:∀W,Upd R w W->∃ad,A=some ad/\W.cell? (ad.add (i*4))=some (.slice (Q.getD i Ud.zero).A (Q.getD i Ud.zero).l.length (Q.getD i Ud.zero).c)/\W.cell? ⟨(ad.add (i*4)).block,(ad.add (i*4)).off+1,none⟩=some (.int .u64 (Q.getD i Ud.zero).t.e)/\W.cell? ⟨(ad.add (i*4)).block,(ad.add (i*4)).off+2,none⟩=some (.slice (Q.getD i Ud.zero).t.A (Q.getD i Ud.zero).t.l.length (Q.getD i Ud.zero).t.c)/\W.cell? ⟨(ad.add (i*4)).block,(ad.add (i*4)).off+3,none⟩=some (.int .i64 (Q.getD i Ud.zero).d):=λW hW=>Jq (hs.o.upd hW hsep.o) hlt (show udC (Q.getD i Ud.zero)=[.slice (Q.getD i Ud.zero).A (Q.getD i Ud.zero).l.length (Q.getD i Ud.zero).c,.int .u64 (Q.getD i Ud.zero).t.e,.slice (Q.getD i Ud.zero).t.A (Q.getD i Ud.zero).t.l.length (Q.getD i Ud.zero).t.c,.int .i64 (Q.getD i Ud.zero).d]from rfl) (λq hq=>Em Q i q f hq);have HT:H0 (Q.take (i+1)=Q.take i++[(Q.getD i Ud.zero)]):=j6 (by rw[CC f,AB,AC f];rfl);have⟨x,hx⟩:=tz ((Q.getD i Ud.zero));rw[hx]at a HT;have⟨nr,g⟩:=tz x.l.length;have⟨nw,j⟩:=tz x.t.l.length;simp only[g,j]at a;have y:=j6 g;have B:=j6 j;have HA:=j6 a;have HB:=j6 HP.o.1;have HU:=j6 HP.o.2;obtain⟨ad,rfl,p0,_,p1,_⟩:=a wr HP.o.2;have D:(Lr++(Q.take i).map enR).length<=100000:=by rw[AA,AN,CE];omega
   have E:(Lw++(Q.take i).map enW).length<=100000:=by rw[AA,AN,CE];omega
   clear a hx g j f HP;have p1:=TI;go_wp2_with (first
    | (go_at_call 115;clear p1;refine(Om gb nr x.c _ x.A (Lw++(Q.take i).map enW) (Lr++(Q.take i).map enR) Lc Lu vw vr c_ u_ _ HB D).mono ?_;rintro e w1 ⟨rfl,yr,b1,u1⟩;replace HB:H0 (Bc w1 gb (RN R w w1) (Lw++(Q.take i).map enW) ((Lr++(Q.take i).map enR)++[⟨x.A,nr,x.c⟩]) Lc Lu vw yr c_ u_):=j6 (b1.wide (λk _ hk=>RN.step HU.o.size u1.size k hk));replace HU:H0 (Upd R w w1):=j6 (Sx HU.o u1);clear b1 u1;have p2:=TI;have⟨F,C,p0,_,p1,_⟩:=HA.o w1 HU.o;cases C)
    | (go_at_call 116;clear p2;refine(Mv gb nw x.t.c _ x.t.A (Lw++(Q.take i).map enW) ((Lr++(Q.take i).map enR)++[⟨x.A,nr,x.c⟩]) Lc Lu vw yr c_ u_ _ HB E).mono ?_;rintro e w2 ⟨rfl,yw,b1,u1⟩;replace HB:H0 (Bc w2 gb (RN R w w2) ((Lw++(Q.take i).map enW)++[⟨x.t.A,nw,x.t.c⟩]) ((Lr++(Q.take i).map enR)++[⟨x.A,nr,x.c⟩]) Lc Lu yw yr c_ u_):=j6 (b1.wide (λk _ hk=>RN.step HU.o.size u1.size k hk));replace HU:H0 (Upd R w w2):=j6 (Sx HU.o u1);clear b1 u1;have p3:=TI)
    | fail)
   go_roundg (m-(i+1))
   case measure=>omega
   case rel=>exact⟨i+1,yr,yw,rfl,by omega,by go_num,j6 ⟨by have:=HB.o;rw[HT.o];simp only[AI,<-AK];rw[<-y.o]at this;rw[<-B.o]at this;exact this,HU.o⟩⟩
  ·obtain rfl:i=m:=by omega
   have hb:=HP.o.1;rw[show Q.take i=Q from AW (by rw[<-hm.o];exact AD _)]at hb;have hn:u_.n<=100000:=by have:=hb.nu;omega
   have HB:=j6 hb;have HU:=j6 HP.o.2;have hq:=hb.bk.cell 10;have hz:=hb.bk.free 10;obtain⟨uA,un,uc⟩:=u_;replace hq:wr.cell? ⟨gb,10,none⟩=some (.slice uA un uc):=hq;replace hn:un<=100000:=hn;clear hb HP;go_wp2_with (at_builtin;refine Ab _ Oa 0 _ _ rfl rfl uA un uc (El Lu) rfl (HB.o.ou.alloc _) (some ⟨wr.heap.size,0,none⟩) 1 1 [.slice A i ac] rfl (Sl.one wr #[.slice A i ac] 22 1 rfl) (Hw [⟨A,i,ac⟩]) (by omega) (by decide) (AG _) ?_;intro A3 c3 w3 o3 g3 x3;have HP:=j6 (HB.o.put_u (x:=⟨A,i,ac⟩) _ o3 g3 x3);have b3:Bk w3 gb 52 (Oy vw.v vr.v c_.v (.slice uA un uc)):=(((Upd.refl (λk=>blk uA uc=some k) wr).alloc _).grown g3 (λk hk=>.inl hk)).block gb (BP.1 HB.o.bk).1 (λe=>(HB.o.ru gb e).2 rfl) |>.trans HB.o.bk;have q3:=b3.cell 10;have z3:=b3.free 10;clear b3 o3 g3 x3)
   go_returns;exact⟨rfl,_,_,_,HP.o.1.wide (λk _ hk=>RN.step HU.o.size HP.o.2.size k hk),Sx HU.o HP.o.2⟩
end Go.Proofs.YtdgbkpoickbidaaGreatDoor
