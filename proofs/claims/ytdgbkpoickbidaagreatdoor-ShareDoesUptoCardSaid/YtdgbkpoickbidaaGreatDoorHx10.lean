/- Parts of the proof. Conditions: as stated. -/
import Derived.Test.YtdgbkpoickbidaaGreatDoorHx9
set_option maxRecDepth 100000
set_option maxHeartbeats 16000000
open Go.RowKit Go.Proofs.Tryz
set_option linter.defProp false
namespace Go.Proofs.YtdgbkpoickbidaaGreatDoor.UdS
variable{mx:Int}{l zl:List Int}{B a c g i:Nat}{w w' w0 w1 w2 wr:World}
def Sorted(B g c:Nat)(L:List Ud)(w:World)(e:Ending)(w':World):Prop:=e=.returned (.tuple #[])/\∃L',Af cmpC L L'/\Arr w' B g c L'/\w.grownBy w' (some g)
def insSort_none(A:Option Addr)(n c a b:Nat)(w:World)(h:b<=a)(ha:a<=1000000000) :
  C3 222 #[.slice A n c,.int .i64 a,.int .i64 b,.func (.func 103) #[] #[]] w λe w'=>e=.returned (.tuple #[])/\w=w':=by
 have h1:¬(a:Int)+1<b:=by omega
 go_enter func222,ntmps222;go_wp2
 go_loop [8] (λv=>v=.int .i64 ((a:Int)+1)) (λ_=>0)
 case atStart=>rfl
 case round =>
  subst hrel;go_wp2
  go_end0
  exact⟨rfl,rfl⟩
def Pass1(B g c:Nat)(L:List Ud)(w wr:World)(a:Nat)(S T:List Ud):Prop :=
 S.length=a/\a+T.length=L.length/\(∀x∈T,x∈L)/\(∀T',Bks cmpC 20 T T'->Bks cmpC 20 L (S++T'))/\Arr wr B g c (S++T)/\w.grownBy wr (some g)
def Pass1.step{B g c a:Nat}{L:List Ud}{w wr w1:World}{S T1 T2 Z:List Ud}(h:Pass1 B g c L w wr a S (T1++T2))(h1:T1.length=20)(hz:Af cmpC T1 Z)(ha:Arr w1 B g c (S++(Z++T2)))(hg:wr.grownBy w1 (some g)):Pass1 B g c L w w1 (a+20) (S++Z) T2:=by
 obtain⟨q1,q2,q3,q4,q5,q6⟩:=h;have lz:=stable_len hz;rw[AA]at q2;refine⟨by rw[AA];omega,by omega,λx hx=>q3 x (CD _ hx),λT' hT=>?_,by rw[AK];exact ha,q6.trans hg⟩;rw[AK];exact q4 (Z++T') (.more T1 Z T2 T' h1 hz hT)
def Pass1.last{L:List Ud}{S T Z:List Ud}(h:Pass1 B g c L w wr a S T)(h1:T.length<=20)(hz:Af cmpC T Z)(ha:Arr w1 B g c (S++Z))(hg:wr.grownBy w1 (some g)):Bks cmpC 20 L (S++Z)/\Arr w1 B g c (S++Z)/\w.grownBy w1 (some g):=
 ⟨h.2.2.2.1 Z (.last T Z h1 hz),ha,h.2.2.2.2.2.trans hg⟩
def Pass2(B g c s:Nat)(L:List Ud)(w wr:World)(S:List Ud):Prop:=Bks cmpC s L S/\Arr wr B g c S/\w.grownBy wr (some g)
def Pass3(B g c s:Nat)(L:List Ud)(w wr:World)(a:Nat)(D O R:List Ud):Prop :=
 D.length=a/\a+R.length=L.length/\Bks cmpC s O R/\(∀x∈R,x∈L)/\(∀R',Bks cmpC (2*s) O R'->Bks cmpC (2*s) L (D++R'))/\Arr wr B g c (D++R)/\w.grownBy wr (some g)
def bks_len{s:Nat}{O S:List Ud}(h:Bks cmpC s O S):S.length=O.length:=h.len stable_len
def Pass2.start{s:Nat}{L:List Ud}{S:List Ud}(h:Pass2 B g c s L w wr S):Pass3 B g c s L w wr 0 [] L S :=
 ⟨rfl,by rw[bks_len h.1,BV],h.1,λx hx=>(h.1.mem cmpC_tot x).1 hx,λ_ h=>h,h.2.1,h.2.2⟩
def Pass3.step{B g c s a:Nat}{L:List Ud}{w wr w1:World}{D O1 O2 O3 S1 S2 S3 Z:List Ud}(h:Pass3 B g c s L w wr a D (O1++(O2++O3)) (S1++(S2++S3)))(l1:O1.length=s)(l2:O2.length=s)(s1:Af cmpC O1 S1)(s2:Af cmpC O2 S2)(h3:Bks cmpC s O3 S3)
  (hz:Af cmpC (S1++S2) Z) (ha:Arr w1 B g c (D++(Z++S3))) (hg:wr.grownBy w1 (some g)):Pass3 B g c s L w w1 (a+2*s) (D++Z) O3 S3:=by
 obtain⟨q1,q2,q3,q4,q5,q6,q7⟩:=h;have e1:=stable_len s1;have e2:=stable_len s2;have lz:=stable_len hz;rw[AA]at lz;simp only[AA]at q2;refine⟨by rw[AA];omega,by omega,h3,λx hx=>q4 x (CD _ (CD _ hx)),λR' hR=>?_,by rw[AK];exact ha,q7.trans hg⟩;have:=q5 (Z++R') (by
  rw[<-AK];exact .more (O1++O2) Z O3 R' (by rw[AA];omega) (Af.join s1 s2 hz) hR)
 rwa [AK]
def Pass3.rest{s:Nat}{L:List Ud}{D O1 O2 S1 S2 Z:List Ud}(h:Pass3 B g c s L w wr a D (O1++O2) (S1++S2))(hl:(O1++O2).length<=2*s)(s1:Af cmpC O1 S1)(s2:Af cmpC O2 S2)
  (hz:Af cmpC (S1++S2) Z) (ha:Arr w1 B g c (D++(Z++[]))) (hg:wr.grownBy w1 (some g)):Pass2 B g c (2*s) L w w1 (D++Z):=by
 obtain⟨q1,q2,q3,q4,q5,q6,q7⟩:=h;exact⟨q5 Z (.last _ Z hl (Af.join s1 s2 hz)),by rwa [AV]at ha,q7.trans hg⟩
def Pass3.none{s:Nat}{L:List Ud}{D O R:List Ud}(h:Pass3 B g c s L w wr a D O R)(hs:0<s)(hl:O.length<=s):Pass2 B g c (2*s) L w wr (D++R):=by
 obtain⟨q1,q2,q3,q4,q5,q6,q7⟩:=h;exact⟨q5 R (.last O R (by omega) (q3.all cmpC_tot hs hl)),q6,q7⟩
def stable_any(B g c n:Nat)(L:List Ud)(w:World)(hn:n=L.length)(hbig:n<=1000000000)(h:Arr w B g c L)(hr:Rws w g L) :
  C3 181 #[.slice (some ⟨g,0,none⟩) n c,.int .i64 n,.func (.func 103) #[] #[]] w (Sorted B g c L w):=by
 have HR:=j6 hr;have HN:=j6 hn;have r:H0 (Pass1 B g c L w w 0 [] L):=j6 ⟨rfl,BV _,λ_ h=>h,λ_ h=>h,h,CM w _⟩;clear h hr hn;go_enter func181,ntmps181;go_wp2
 go_loopg [7,8] n (λz u v wr=>∃(a:Nat) (S T:List Ud),z=n-a/\a<=n/\u=.int .i64 a/\v=.int .i64 ((a+20:Nat):Int)/\H0 (Pass1 B g c L w wr a S T))
 case atStart=>exact⟨0,[],L,rfl,AG _,rfl,by go_num,r⟩
 case round =>
  obtain⟨a,S,T,rfl,I,rfl,rfl,HJ⟩:=hrel;clear r;by_cases hlt:a+20<=n
  ·obtain⟨T1,T2,rfl,ht⟩:=cut_at T 20 (by have:=HJ.o.2.1;have:=HN.o;omega);obtain⟨x0,S0,rfl⟩:=cons_of (l:=T1) (by omega);have HT:=j6 ht;clear ht;have zl:((a+20:Nat):Int)<=(n:Int):=by omega
   go_wp2_with (go_at_call 222;refine(insSort_some B g c n a (a+20) S S0 T2 x0 _ HJ.o.1.symm (by have:=HJ.o.1;have:=HT.o;rw[AJ]at this;omega) (by have:=HJ.o;have e1:=this.1;have e2:=this.2.1;have e3:=HN.o;rw[AA,e1];omega) HJ.o.2.2.2.2.1 ((HR.o.upd HJ.o.2.2.2.2.2).sub λx hx=>HJ.o.2.2.1 x (BE _ hx))).mono ?_;rintro e w1 ⟨rfl,Z,s1,s2,s3⟩;have H:=j6 (HJ.o.step HT.o s1 s2 s3);clear s1 s2 s3)
   go_roundg (n-(a+20))
   case measure=>omega
   case rel=>exact⟨a+20,S++Z,T2,rfl,hlt,by go_num,by go_num,H⟩
  ·have zl:¬((a+20:Nat):Int)<=(n:Int):=by omega
   have HX:∃P:World->Prop,(∀w1,P w1->∃S1,Pass2 B g c 20 L w w1 S1)/\C3 222 #[.slice (some ⟨g,0,none⟩) n c,.int .i64 a,.int .i64 n,.func (.func 103) #[] #[]] wr λe w'=>e=.returned (.tuple #[])/\P w':=by
    refine⟨λw1=>∃S1,Pass2 B g c 20 L w w1 S1,λ_ h=>h,?_⟩;have hl:=HJ.o.2.1;rw[<-HN.o]at hl;by_cases ht:0<T.length
    ·obtain⟨x0,S0,rfl⟩:=cons_of ht;refine(insSort_some B g c n a n S S0 [] x0 wr HJ.o.1.symm (by have:=HJ.o.1;rw[AJ]at hl;omega) (by rw[AV,AA,HJ.o.1];exact hl.symm) (by rw[AV];exact HJ.o.2.2.2.2.1) ((HR.o.upd HJ.o.2.2.2.2.2).sub λx hx=>HJ.o.2.2.1 x hx)).mono ?_;rintro e w1 ⟨rfl,Z,s1,s2,s3⟩;rw[AV]at s2;exact⟨rfl,_,HJ.o.last (by omega) s1 s2 s3⟩
    ·have e:T=[]:=nil_or ht;subst e;refine(insSort_none _ n c a n wr (by rw[CB]at hl;omega) (by omega)).mono ?_;rintro e w1 ⟨rfl,rfl⟩;exact⟨rfl,_,HJ.o.last (AG _) Af.nil HJ.o.2.2.2.2.1 (CM _ _)⟩
   obtain⟨PP,E,F⟩:=HX;have y:=j6 E;have A:=j6 F;clear E F;go_wp2_with (go_at_call 222;refine A.o.mono ?_;rintro e w1 ⟨rfl,s1⟩;have⟨S1,s2⟩:=y.o _ s1;have HS:=j6 s2;clear s1 s2)
   clear y A
   go_loopg [6,7,8] (n-20) (λz u v t wr=>∃(s:Nat) (S:List Ud),z=n-s/\0<s/\s<=3000000000/\u=.int .i64 s/\H0 (Pass2 B g c s L w wr S))
   case atStart=>exact⟨20,S1,rfl,by omega,by omega,rfl,HS⟩
   case round =>
    obtain⟨s,S,rfl,j,M,rfl,HQ⟩:=hrel;clear HS HJ;obtain⟨wo,G⟩:∃wo:World,wo=wr:=⟨_,rfl⟩;rw[<-G]at HQ ⊢;clear G;by_cases hsn:s<n
    ·have C:=j6 HQ.o.start;go_wp2
     go_loopg [7,8] n (λz u v wr=>∃(a:Nat) (D O R:List Ud),z=n-a/\a<=n/\u=.int .i64 a/\v=.int .i64 ((a+2*s:Nat):Int)/\H0 (Pass3 B g c s L w wr a D O R))
     case atStart=>exact⟨0,[],L,S,rfl,AG _,rfl,by go_num,C⟩
     case round =>
      obtain⟨a,D,O,R,rfl,I,rfl,rfl,HI⟩:=hrel;clear C;have m:O.length=R.length:=(bks_len HI.o.2.2.1).symm;have i:a+R.length=n:=by rw[HN.o];exact HI.o.2.1
      by_cases hlt:a+2*s<=n
      ·obtain⟨O1,S1,O2,S2,O3,S3,rfl,rfl,l1,l2,s1,s2,s3⟩:=HI.o.2.2.1.two j (by omega);have⟨ms,d⟩:=E9 (a+s);have zm:(a:Int)+(s:Int)=(ms:Int):=by omega
       have e1:=stable_len s1;have e2:=stable_len s2;have HG:=j6 (And.intro l1 (And.intro l2 (And.intro s1 (And.intro s2 s3))));have HE:=j6 (And.intro e1 (And.intro e2 d));have K:ms<=n:=by omega
       clear l1 l2 s1 s2 s3 e1 e2 m i d;have zl:((a+2*s:Nat):Int)<=(n:Int):=by omega
       go_wp2_with (go_at_call 223;refine(symM_all (S1.length+S2.length) B g c n a ms (a+2*s) D S1 S2 S3 _ (AD _) (by have:=HE.o;have:=HG.o;omega) (by have:=HE.o;have:=HG.o;omega) HI.o.1.symm (by have:=HE.o;have:=HG.o;omega) (by have:=HE.o;have:=HG.o;omega) (by have:=HI.o.2.1;have:=HI.o.1;have:=HN.o;rw[AA];omega) HG.o.2.2.1.sorted HG.o.2.2.2.1.sorted HI.o.2.2.2.2.2.1 ((HR.o.upd HI.o.2.2.2.2.2.2).sub λx hx=>HI.o.2.2.2.1 x (by rcases AQ.1 hx with hx|hx<;>simp[hx])) hbig).mono ?_;rintro e w1 ⟨rfl,Z,z1,z2,z3⟩;have f:=j6 (HI.o.step HG.o.1 HG.o.2.1 HG.o.2.2.1 HG.o.2.2.2.1 HG.o.2.2.2.2 z1 z2 z3);clear z1 z2 z3)
       go_roundg (n-(a+2*s))
       case measure=>omega
       case rel=>exact⟨a+2*s,D++Z,O3,S3,rfl,hlt,by go_num,by go_num,f⟩
      ·have zl:¬((a+2*s:Nat):Int)<=(n:Int):=by omega
       have⟨ms,d⟩:=E9 (a+s);have zm:(a:Int)+(s:Int)=(ms:Int):=by omega
       by_cases hm:a+s<n
       ·obtain⟨O1,S1,O2,S2,rfl,rfl,l1,s1,s2⟩:=HI.o.2.2.1.rest cmpC_tot j (by omega) (by omega);have e1:=stable_len s1;have e2:=stable_len s2;have HO:H0 ((O1++O2).length<=2*s):=j6 (by omega);have HG:=j6 (And.intro l1 (And.intro s1 s2));have HE:=j6 (And.intro e1 (And.intro e2 (And.intro i d)));have zn:(ms:Int)<(n:Int):=by omega
        clear l1 s1 s2 e1 e2 m i d;go_wp2_with (go_at_call 223;refine(symM_all (S1.length+S2.length) B g c n a ms n D S1 S2 [] _ (AD _) (by have:=HE.o;have:=HG.o;omega) (by have:=HE.o;have:=HG.o;simp only[AA]at *;omega) HI.o.1.symm (by have:=HE.o;have:=HG.o;omega) (by have:=HE.o;have:=HG.o;simp only[AA]at *;omega) (by have:=HI.o.2.1;have:=HI.o.1;have:=HN.o;rw[AV,AA];omega) HG.o.2.1.sorted HG.o.2.2.sorted (by rw[AV];exact HI.o.2.2.2.2.2.1) ((HR.o.upd HI.o.2.2.2.2.2.2).sub λx hx=>HI.o.2.2.2.1 x hx) hbig).mono ?_;rintro e w1 ⟨rfl,Z,z1,z2,z3⟩;have f:=j6 (HI.o.rest HO.o HG.o.2.1 HG.o.2.2 z1 z2 z3);clear z1 z2 z3)
        go_roundg (n-2*s)
        case measure=>omega
        case rel=>exact⟨2*s,D++Z,rfl,by omega,by omega,by go_num,f⟩
       ·have zn:¬(ms:Int)<(n:Int):=by omega
        have f:=j6 (HI.o.none j (by omega));have J:ms<=2000000000:=by omega
        clear m i d;go_wp2
        go_roundg (n-2*s)
        case measure=>omega
        case rel=>exact⟨2*s,D++R,rfl,by omega,by omega,by go_num,f⟩
    ·have HE:H0 (Sorted B g c L w (.returned (.tuple #[])) wo):=j6 ⟨rfl,S,HQ.o.1.all cmpC_tot j (by rw[<-HN.o];omega),HQ.o.2.1,HQ.o.2.2⟩;go_wp2
     go_end0
     exact HE.o
def sortStable_any(B g c n:Nat)(L:List Ud)(w:World)(hn:n=L.length)(hbig:n<=1000000000)(h:Arr w B g c L)(hr:Rws w g L) :
  C3 102 #[.slice (some ⟨g,0,none⟩) n c,.func (.func 103) #[] #[]] w (Sorted B g c L w):=by
 have H:=j6 h;have HR:=j6 hr;have HN:=j6 hn;clear h hr hn;go_enter func102,ntmps102;go_wp2_with (go_at_call 181;refine(stable_any B g c n L _ HN.o hbig H.o HR.o).mono ?_;rintro e w1 ⟨rfl,s1⟩;replace s1:=j6 s1)
 go_end0
 exact⟨rfl,s1.o⟩
end Go.Proofs.YtdgbkpoickbidaaGreatDoor.UdS
namespace Go.Proofs.YtdgbkpoickbidaaGreatDoor
variable{mx:Int}{l zl:List Int}{B a c g i:Nat}{w w' w0 w1 w2 wr:World}
namespace UdS
def eF(A:Option Addr)(n c:Nat)(w:World)(hn:n<=c)(hc:c<=9223372036854775807) :
  C3 105 #[.slice A n c] w λe w'=>e=.returned (.slice A n n)/\w=w':=by
 go_enter func105,ntmps105;cases A with
 | none =>
  go_wp2;go_ret;exact⟨by simp,rfl⟩
 | some a =>
  go_wp2;go_ret;exact⟨by simp,rfl⟩
def aM(A:Option Addr)(c:Nat)(w:World) :
  C3 102 #[.slice A 0 c,.func (.func 103) #[] #[]] w λe w'=>e=.returned (.tuple #[])/\w=w':=by
 have hs:∀W:World,C3 181 #[.slice A 0 c,.int .i64 0,.func (.func 103) #[] #[]] W λe w'=>e=.returned (.tuple #[])/\W=w':=λW=>by
  go_enter func181,ntmps181;go_wp2
  go_loop [7,8] (λu v=>u=.int .i64 0/\v=.int .i64 20) (λ_ _=>0)
  case atStart=>exact⟨rfl,rfl⟩
  case round =>
   obtain⟨rfl,rfl⟩:=hrel;go_wp2_with (go_at_call 222;refine(insSort_none _ 0 c 0 0 _ (AD _) (by decide)).mono ?_;rintro e w1 ⟨rfl,rfl⟩)
   go_loop [6,7,8] (λu v z=>u=.int .i64 20) (λ_ _ _=>0)
   case atStart=>rfl
   case round =>
    subst hrel;go_wp2
    go_end0
    exact⟨rfl,rfl⟩
 go_enter func102,ntmps102;go_wp2_with (go_at_call 181;refine(hs _).mono ?_;rintro e w1 ⟨rfl,rfl⟩)
 go_end0
 exact⟨rfl,rfl⟩
def gJ(A:Option Addr)(c:Nat)(w:World) :
  C3 106 #[.slice A 0 c,.func (.func 107) #[] #[]] w λe w'=>e=.returned (.slice A 0 c)/\w=w':=by
 have hs:∀W:World,C3 185 #[.slice A 0 c,.func (.func 107) #[] #[]] W λe w'=>e=.returned (.int .i64 (-1))/\W=w':=λW=>by
  go_enter func185,ntmps185;go_wp2
  go_loop [8] (λv=>v=.int .i64 0) (λ_=>0)
  case atStart=>rfl
  case round =>
   subst hrel;go_wp2;go_ret;exact⟨rfl,rfl⟩
 go_enter func106,ntmps106;go_wp2_with (go_at_call 185;refine(hs _).mono ?_;rintro e w1 ⟨rfl,rfl⟩)
 go_ret;exact⟨rfl,rfl⟩
def qQ(A:Option Addr)(c:Nat)(w:World)(h:H0 (Uin w A c [])) :
  C3 16 #[.slice A 0 c] w (aF w []):=by
 have hn:H0 ((0:Nat)=([]:List Ud).length):=j6 rfl;go_enter func16,ntmps16;go_wp2_with (first
  | (go_at_call 101;refine(Ni A 0 c [] _ hn h (by decide)).mono ?_;rintro r w1 ⟨A1,c1,rfl,o1,x1⟩;have X1:=j6 x1;clear o1 x1)
  | (go_at_call 102;refine(aM A1 c1 _).mono ?_;rintro e w2 ⟨rfl,rfl⟩)
  | fail)
 go_loop [4,13] (λu v=>u=.slice none 0 0/\v=.int .i64 0) (λ_ _=>0)
 case atStart=>exact⟨rfl,rfl⟩
 case round =>
  obtain⟨rfl,rfl⟩:=hrel;go_wp2_with (first
   | (go_at_call 106;refine(gJ none 0 _).mono ?_;rintro e w2 ⟨rfl,rfl⟩)
   | (go_at_call 105;refine(eF none 0 0 _ (AD _) (by decide)).mono ?_;rintro e w3 ⟨rfl,rfl⟩)
   | fail)
  go_ret;exact⟨none,0,[],by simp,rfl,Bu.nil _ _,rfl,X1.o⟩
def qP(A:Option Addr)(c n:Nat)(L:List Ud)(w:World)(h0:0<n)(hn:H0 (n=L.length))(h:H0 (Uin w A c L))(h9:n<=1000000)(hin:H0 (∀x∈L,InN x.uv))(hr:H0 (∀x∈L,x.l.length<=1000000000/\x.t.l.length<=1000000000)) :
  C3 16 #[.slice A n c] w (aF w L):=by
 have m1:=TI;go_enter func16,ntmps16;go_wp2_with (first
  | (go_at_call 101;clear m1;refine(Ni A n c L _ hn h h9).mono ?_;rintro r w1 ⟨A1,c1,rfl,o1,x1⟩;have hf:=o1.form h0;obtain⟨g,eA,hb,a8,F,_,_⟩:=hf;subst eA;have e8:H0 (Arr w1 w.heap.size g c1 L):=j6 ⟨by rw[<-hn.o];exact o1,by have:=o1.le.1;omega⟩;have c9:H0 (Rws w1 g L):=j6 (Rws.of h.o.ls x1 a8);have X1:=j6 x1;have HG:=j6 a8;clear o1 x1 hb a8 F;have m2:=TI)
  | (go_at_call 102;clear m2;refine(sortStable_any w.heap.size g c1 n L _ hn.o (by omega) e8.o c9.o).mono ?_;rintro e w2 ⟨rfl,S,st,ar,up⟩;have a2:=j6 st;have a1:H0 (n=S.length):=j6 (by rw[stable_len st];exact hn.o);have H:H0 (∀x∈S,x∈L):=j6 (λx hx=>(st.mem cmpC_tot x).1 hx);have X2:H0 (Ext w w2):=j6 (X1.o.grown up (λk e=>by cases e;exact HG.o));have HS:H0 (Uin w2 (some ⟨g,0,none⟩) c1 S):=j6 ⟨ar.1.sl,λx hx=>((c9.o.upd up) x (H.o x hx)).1⟩;have d8:w.heap.size<=w2.heap.size:=X2.o.size;clear st ar up)
  | fail)
 have d0:H0 (∀x∈S,InN x.uv):=j6 (λx hx=>hin.o x (H.o x hx));have d1:H0 (∀x∈S,x.l.length<=1000000000/\x.t.l.length<=1000000000):=j6 (λx hx=>hr.o x (H.o x hx));have c7:H0 (Gt w w2 S w2 0 none 0 []):=j6 ⟨Bu.nil _ _,rfl,AD _,Ext.refl _,X2.o⟩;clear h hr
 go_loopg [4,13] n (λz u v wr=>∃(i m:Nat) (A2:Option Addr) (c2:Nat) (O:List Ud),z=n-i/\i<=n/\m<=i/\u=.slice A2 m c2/\v=.int .i64 i/\H0 (m=O.length)/\H0 (∀k,blk A2 c2=some k->w2.heap.size<=k)/\H0 (Gt w w2 S wr i A2 c2 O))
 case atStart=>exact⟨0,0,none,0,[],rfl,AG _,AD _,rfl,rfl,j6 rfl,j6 (λk hk=>nomatch hk),c7⟩
 case round =>
  clear c7;obtain⟨i,m,A2,c2,O,rfl,hi,g1,rfl,rfl,HM,C,HP⟩:=hrel;by_cases hlt:i<n
  ·have N:i<S.length:=by rw[<-a1.o];exact hlt
   have⟨ad,eA,p0,p1,p2,p3⟩:=(HS.o.ext HP.o.ext).at N;cases eA;rw[show(⟨g,0,none⟩:Addr).add (i*4)=⟨g,i*4,none⟩from by unfold Addr.add;split<;>simp_all]at p0 p1 p2 p3;have G:=As N;have⟨x,hx⟩:=tz (S.getD i Ud.zero);rw[hx]at p0 p1 p2 p3 G;have⟨nx,Q⟩:=E9 x.l.length;have⟨tx,R⟩:=E9 x.t.l.length;rw[<-Q]at p0;rw[<-R]at p2;have a:=j6 Q;have f:=j6 R;have HX:=j6 hx;have I:=j6 N;have b3:nx<=1000000000:=by rw[Q];exact(d1.o x G).1
   have b8:tx<=1000000000:=by rw[R];exact(d1.o x G).2
   have a4:H0 (∀W,Ext w2 W->UdR W x):=j6 (λW q=>(HS.o.ls x G).ext q);have⟨wb,T⟩:=E9 (wr.alloc (.cells #[.slice x.A nx x.c,.int .u64 x.t.e,.slice x.t.A tx x.t.c,.int .i64 x.d] 95));have XB:Ext wr wb:=by rw[T];exact(Ext.refl wr).alloc _
   have BX:H0 (Bk wb wr.heap.size 95 #[.slice x.A nx x.c,.int .u64 x.t.e,.slice x.t.A tx x.t.c,.int .i64 x.d]):=j6 (by rw[T];exact Bk.new _ _ _);have HB:H0 (Gt w w2 S wb i A2 c2 O):=j6 (HP.o.mono XB);clear N G hx Q R
   go_upto_region 7 with fail
   rw[<-T];clear T p0 p1 p2 p3;have⟨gu,d7⟩:=E9 wr.heap.size;rw[<-d7]at BX ⊢;clear d7;have X:Ext wb wb.drew:=(Ext.refl wb).drew;have q0:∀z:Xt wb.drew,z.W.cell? ⟨gu,0,none⟩=some (.slice x.A nx x.c):=λz=>(BX.o.ext (X.trans z.x)).cell 0;have q1:∀z:Xt wb.drew,z.W.cell? ⟨gu,1,none⟩=some (.int .u64 x.t.e):=λz=>(BX.o.ext (X.trans z.x)).cell 1;have q2:∀z:Xt wb.drew,z.W.cell? ⟨gu,2,none⟩=some (.slice x.t.A tx x.t.c):=λz=>(BX.o.ext (X.trans z.x)).cell 2;have q3:∀z:Xt wb.drew,z.W.cell? ⟨gu,3,none⟩=some (.int .i64 x.d):=λz=>(BX.o.ext (X.trans z.x)).cell 3;cases i with
   | zero =>
    have a0:H0 (O=[]\/∃M y,O=M++[y]/\¬Hy y.k x.k=0):=j6 (.inl (AH (by rw[<-HM.o];omega)));refine wro [0,1,3,7,7,23,63,127,7,511,1023,2047] (.flo [0,1,2,3,4,5,6,7,8] (.one 9 (.flo [10,11] (.fin)))) ?_
    (refine Aa (pks rfl) ?_;(repeat (go_big_quiet_step (fail)));refine oq ?_)
    refine Ac (pks rfl) ?_;intro K_ a7;go_wp2
    (refine Aa (pks rfl) ?_;(repeat (go_big_quiet_step (fail)));refine oq ?_)
    refine Ad ?_;have HB:=j6 (HB.o.mono X);have⟨w3,D⟩:=E9 wb.drew;have BX:=j6 (BX.o.ext X);rw[<-D]at HB BX ⊢;clear D q0 q1 q2 q3 X;have e4:=BX.o.cell 0;have e5:=BX.o.cell 1;have e6:=BX.o.cell 2;have e7:=BX.o.cell 3;have a3:=j6 (a4.o _ HB.o.ext);have D:w.heap.size<=w3.heap.size:=AR d8 HB.o.ext.size;have m5:=TI;go_wp2_with (first
     | (go_at_call 104;clear m5;refine(Rc x nx tx _ a f a3 b3 b8).mono ?_;rintro e w4 ⟨A4,c4,B4,b4,rfl,o4,t4,x4⟩;have O4:=j6 o4;have T4:=j6 t4;have X4:=j6 x4;have b9:w.heap.size<=(w4.alloc (.cells (#[.slice A4 nx c4,.int .u64 x.t.e,.slice B4 tx b4,.int .i64 x.d]:Array Value) 95)).heap.size:=(by have:=x4.size;simp;omega);clear o4 t4 x4;have m6:=TI)
     | (at_builtin;clear m6;refine Ab _ Ao w.heap.size _ _ rfl rfl A2 m c2 (Ah O) rfl (by have:=(HB.o.o.ext X4.o).own.alloc (.cells (#[.slice A4 nx c4,.int .u64 x.t.e,.slice B4 tx b4,.int .i64 x.d]:Array Value) 95);rwa [<-HM.o]at this) (some ⟨w4.heap.size,0,none⟩) 1 1 [.slice A4 nx c4,.int .u64 x.t.e,.slice B4 tx b4,.int .i64 x.d] rfl (Sl.one w4 #[.slice A4 nx c4,.int .u64 x.t.e,.slice B4 tx b4,.int .i64 x.d] 95 4 rfl) (by intro u hu;simp at hu;rcases hu with rfl|rfl|rfl|rfl<;>rfl) (by omega) (by decide) b9 ?_;intro A6 c6 w6 o6 g6 h6;have Z:H0 (Gt w w2 S w6 (0+1) A6 c6 (O++[⟨A4,c4,x.l,⟨x.t.e,B4,b4,x.t.l⟩,x.d⟩])):=j6 ⟨Bu.push HB.o.o X4.o (x:=⟨A4,c4,x.l,⟨x.t.e,B4,b4,x.t.l⟩,x.d⟩) (by have:=O4.o;rwa [a.o]at this) (by have:=T4.o;rwa [f.o]at this) D _ (by have:=o6;rw[HM.o,a.o,f.o]at this;exact this) g6,dW HB.o.is I.o HX.o a0.o rfl,by rw[AA,<-HM.o];show m+1<=_;omega,((HB.o.ext.trans X4.o).alloc _).grown g6 (λk hk=>C.o k hk),X2.o⟩;have Y:H0 (∀k,blk A6 c6=some k->w2.heap.size<=k):=j6 (λk hk=>by rcases h6 with ⟨e1,e2⟩|⟨e1,_⟩;(subst e1 e2;exact C.o k hk);(rw[e1]at hk;injection hk with hk;have q1:=HB.o.ext.size;have q2:=X4.o.size;have q3:=((Ext.refl w4).alloc (.cells (#[.slice A4 nx c4,.int .u64 x.t.e,.slice B4 tx b4,.int .i64 x.d]:Array Value) 95)).size;omega));clear o6 g6 h6)
     | fail)
    go_roundg (n-(0+1))
    case measure=>omega
    case rel=>exact⟨0+1,m+1,A6,c6,_,rfl,by omega,by omega,rfl,by go_num,j6 (by rw[AA,HM.o];rfl),Y,Z⟩
   | succ j =>
    have P:j<S.length:=by have:=I.o;omega
    have⟨ad,eA,s0,s1,s2,s3⟩:=(HS.o.ext (HB.o.ext.trans X)).at P;cases eA;rw[show(⟨g,0,none⟩:Addr).add (j*4)=⟨g,j*4,none⟩from by unfold Addr.add;split<;>simp_all]at s0 s1 s2 s3;have b1:=As P;have⟨M,y,E,a9⟩:=a1j a2.o.sorted d0.o HB.o.is P;have⟨s,hs⟩:=tz (S.getD j Ud.zero);rw[hs]at s0 s1 s2 s3 b1 a9;have⟨ns,b2⟩:=E9 s.l.length;have⟨ts,b7⟩:=E9 s.t.l.length;rw[<-b2]at s0;rw[<-b7]at s2;have c5:=j6 b2;have d2:=j6 b7;have f2:H0 (∀W,Ext w2 W->UdR W s):=j6 (λW q=>(HS.o.ls s b1).ext q);have S0:∀z:Xt wb.drew,z.W.cell? ⟨g,j*4,none⟩=some (.slice s.A ns s.c):=λz=>z.x.cell s0;have S1:∀z:Xt wb.drew,z.W.cell? ⟨g,j*4+1,none⟩=some (.int .u64 s.t.e):=λz=>z.x.cell s1;have S2:∀z:Xt wb.drew,z.W.cell? ⟨g,j*4+2,none⟩=some (.slice s.t.A ts s.t.c):=λz=>z.x.cell s2;have S3:∀z:Xt wb.drew,z.W.cell? ⟨g,j*4+3,none⟩=some (.int .i64 s.d):=λz=>z.x.cell s3;have⟨v,hv⟩:=tz (cmpC s x);have HV:=j6 hv;have U:H0 (Hy y.k x.k=0↔v=0):=j6 (by rw[<-hv];exact a9 x);have J:=j6 E;have d3:=j6 (f2.o _ (HB.o.ext.trans X));have d4:=j6 (a4.o _ (HB.o.ext.trans X));have za:decide ((0:Int)<(j:Int)+1)=true:=decide_eq_true (by omega);clear hs b1 b2 b7 hv E a9 P s0 s1 s2 s3;by_cases hv0:v=0
    ·have HC:H0 (Hy y.k x.k=0):=j6 (U.o.2 hv0);subst hv0;clear U;refine wro [0,1,3,7,7,23,63,127,7,511,1023,2047] (.flo [0,1,2,3,4,5,6,7,8] (.one 9 (.flo [10,11] (.fin)))) ?_
     (refine Aa (pks rfl) ?_;(repeat (go_big_quiet_step (fail)));refine oq ?_)
     refine Ac (pks rfl) ?_;intro K_ a7;go_wp2_with (go_at_call 103;refine(Cv s x ns nx ts tx 0 _ HV c5 a d2 f d3 d4).mono ?_;rintro e w3 ⟨rfl,x3⟩)
     (refine Aa (pks rfl) ?_;(repeat (go_big_quiet_step (fail)));refine oq ?_)
     refine Ad ?_;have HB:=j6 (HB.o.mono (X.trans x3));have BX:=j6 (BX.o.ext (X.trans x3));clear q0 q1 q2 q3 S0 S1 S2 S3 x3;have⟨p,hp⟩:=E9 M.length;have f8:m=p+1:=by rw[HM.o,J.o,AA,hp];rfl
     subst f8;have c8:=j6 hp;have B:=HB.o.o.own;have b5:=B.form (by rw[<-HM.o];omega);obtain⟨g2,a6,K,F,_,d5,d6⟩:=b5;subst a6;have f6:w2.heap.size<=g2:=C.o g2 K;have d9:(Ah O)[p*4+3]?=some (.int .i64 y.d):=by
      rw[Em O p 3 (by rw[<-HM.o];omega) (by omega),J.o,AB,BF (by rw[hp];exact AD _),hp,DQ];rfl
     have y3:=d5 _ _ d9;have f3:=d6 (p*4+3);have u3:=BX.o.cell 3;have⟨sm,b6⟩:=tz (w64 (y.d+x.d));have f9:IntKind.i64.wrap (y.d+x.d)=sm:=b6;have f1:=j6 b6;have X3:Ext w3 w3.drew:=(Ext.refl w3).drew;have Y3:∀z:Xt w3.drew,z.W.cell? ⟨g2,p*4+3,none⟩=some (.int .i64 y.d):=λz=>(X3.trans z.x).cell y3;have U3:∀z:Xt w3.drew,z.W.cell? ⟨gu,3,none⟩=some (.int .i64 x.d):=λz=>(X3.trans z.x).cell u3;have e9:H0 (Gt w w2 S (w3.setCell ⟨g2,p*4+3,none⟩ (.int .i64 sm)) (j+1+1) (some ⟨g2,0,none⟩) c2 (M++[⟨y.A,y.c,y.l,y.t,sm⟩])):=j6 (Gt.join (by have:=HB.o;rwa [J.o]at this) I.o HX.o HC.o c8.o f1.o f6);clear d9 hp b6 B d5 d6 K
     go_upto_region 8 with fail
     refine wro [0,0,2,6,15,31,63,0,128,511,1023,2047,4095] (.flo [0,1,2,3,4,5,6,7,8,9,10,11] (.one 12 (.fin))) ?_
     (refine Aa (pks rfl) ?_;(repeat (go_big_quiet_step (fail)));refine oq ?_)
     refine Ac (pks rfl) ?_;intro K_ a7;go_wp2;refine Ad ?_;go_wp2
     go_roundg (n-(j+1+1))
     case measure=>omega
     case rel=>exact⟨j+1+1,p+1,some ⟨g2,0,none⟩,c2,_,rfl,by omega,by omega,rfl,by go_num,j6 (by rw[AA,c8.o];rfl),C,j6 (e9.o.mono (Ext.refl _).drew)⟩
    ·have zv:(v==0)=false:=by simpa using hv0
     have a0:H0 (O=[]\/∃M y,O=M++[y]/\¬Hy y.k x.k=0):=j6 (.inr ⟨M,y,J.o,λq=>hv0 (U.o.1 q)⟩);refine wro [0,1,3,7,7,23,63,127,7,511,1023,2047] (.flo [0,1,2,3,4,5,6,7,8] (.one 9 (.flo [10,11] (.fin)))) ?_
     (refine Aa (pks rfl) ?_;(repeat (go_big_quiet_step (fail)));refine oq ?_)
     refine Ac (pks rfl) ?_;intro K_ a7;go_wp2_with (go_at_call 103;refine(Cv s x ns nx ts tx v _ HV c5 a d2 f d3 d4).mono ?_;rintro e w3 ⟨rfl,x3⟩)
     (refine Aa (pks rfl) ?_;(repeat (go_big_quiet_step (fail)));refine oq ?_)
     refine Ad ?_;have HB:=j6 (HB.o.mono (X.trans x3));have BX:=j6 (BX.o.ext (X.trans x3));clear q0 q1 q2 q3 S0 S1 S2 S3 x3 X;have e4:=BX.o.cell 0;have e5:=BX.o.cell 1;have e6:=BX.o.cell 2;have e7:=BX.o.cell 3;have a3:=j6 (a4.o _ HB.o.ext);have D:w.heap.size<=w3.heap.size:=AR d8 HB.o.ext.size;have m5:=TI;go_wp2_with (first
      | (go_at_call 104;clear m5;refine(Rc x nx tx _ a f a3 b3 b8).mono ?_;rintro e w4 ⟨A4,c4,B4,b4,rfl,o4,t4,x4⟩;have O4:=j6 o4;have T4:=j6 t4;have X4:=j6 x4;have b9:w.heap.size<=(w4.alloc (.cells (#[.slice A4 nx c4,.int .u64 x.t.e,.slice B4 tx b4,.int .i64 x.d]:Array Value) 95)).heap.size:=(by have:=x4.size;simp;omega);clear o4 t4 x4;have m6:=TI)
      | (at_builtin;clear m6;refine Ab _ Ao w.heap.size _ _ rfl rfl A2 m c2 (Ah O) rfl (by have:=(HB.o.o.ext X4.o).own.alloc (.cells (#[.slice A4 nx c4,.int .u64 x.t.e,.slice B4 tx b4,.int .i64 x.d]:Array Value) 95);rwa [<-HM.o]at this) (some ⟨w4.heap.size,0,none⟩) 1 1 [.slice A4 nx c4,.int .u64 x.t.e,.slice B4 tx b4,.int .i64 x.d] rfl (Sl.one w4 #[.slice A4 nx c4,.int .u64 x.t.e,.slice B4 tx b4,.int .i64 x.d] 95 4 rfl) (by intro u hu;simp at hu;rcases hu with rfl|rfl|rfl|rfl<;>rfl) (by omega) (by decide) b9 ?_;intro A6 c6 w6 o6 g6 h6;have Z:H0 (Gt w w2 S w6 ((j+1)+1) A6 c6 (O++[⟨A4,c4,x.l,⟨x.t.e,B4,b4,x.t.l⟩,x.d⟩])):=j6 ⟨Bu.push HB.o.o X4.o (x:=⟨A4,c4,x.l,⟨x.t.e,B4,b4,x.t.l⟩,x.d⟩) (by have:=O4.o;rwa [a.o]at this) (by have:=T4.o;rwa [f.o]at this) D _ (by have:=o6;rw[HM.o,a.o,f.o]at this;exact this) g6,dW HB.o.is I.o HX.o a0.o rfl,by rw[AA,<-HM.o];show m+1<=_;omega,((HB.o.ext.trans X4.o).alloc _).grown g6 (λk hk=>C.o k hk),X2.o⟩;have Y:H0 (∀k,blk A6 c6=some k->w2.heap.size<=k):=j6 (λk hk=>by rcases h6 with ⟨e1,e2⟩|⟨e1,_⟩;(subst e1 e2;exact C.o k hk);(rw[e1]at hk;injection hk with hk;have q1:=HB.o.ext.size;have q2:=X4.o.size;have q3:=((Ext.refl w4).alloc (.cells (#[.slice A4 nx c4,.int .u64 x.t.e,.slice B4 tx b4,.int .i64 x.d]:Array Value) 95)).size;omega));clear o6 g6 h6)
      | fail)
     go_roundg (n-((j+1)+1))
     case measure=>omega
     case rel=>exact⟨(j+1)+1,m+1,A6,c6,_,rfl,by omega,by omega,rfl,by go_num,j6 (by rw[AA,HM.o];rfl),Y,Z⟩
  ·obtain rfl:i=n:=by omega
   obtain⟨j,rfl⟩:∃j,i=j+1:=⟨i-1,by omega⟩;have⟨M,y,E,_⟩:=a1j a2.o.sorted d0.o HP.o.is (show j<S.length by rw[<-a1.o];omega);have f7:0<m:=by rw[HM.o,E];simp
   have B:=HP.o.o.own;have b5:=B.form (by rw[<-HM.o];exact f7);obtain⟨g2,a6,K,F,_,_,_⟩:=b5;subst a6;have g0:m<=c2:=by have:=B.le.1;rwa [<-HM.o]at this
   have f5:c2<=9223372036854775807:=B.le.2;have e0:H0 (Arr wr w.heap.size g2 c2 O):=j6 ⟨B,by omega⟩;have HV:H0 ((O.filter nzC).map Ud.uv=sumV (L.map Ud.uv)):=j6 (xB hin.o a2.o (by have:=HP.o.is;rwa [AW (by rw[<-a1.o];exact AD _)]at this));have f4:H0 (Ext w wr):=j6 (X2.o.trans HP.o.ext);have f0:=j6 F;clear E B K F;have m3:=TI;go_wp2_with (first
    | (go_at_call 106;clear m3;refine(deleteFunc_any w.heap.size g2 c2 m O _ HM.o e0.o).mono ?_;rintro e w5 ⟨m5,rfl,b0,a5,c0⟩;have HD:H0 (Bu w5 w.heap.size (some ⟨g2,0,none⟩) c2 (O.filter nzC)):=j6 (Bu.del HP.o.o nzC a5 c0);have X5:H0 (Ext w w5):=j6 (f4.o.grown c0 (λk e=>by cases e;exact f0.o));have c3:=j6 b0;have e3:m5<=c2:=(by rw[b0];exact a5.1.le.1);clear b0 a5 c0;have m4:=TI)
    | (go_at_call 105;clear m4;refine(eF (some ⟨g2,0,none⟩) m5 c2 _ e3 f5).mono ?_;rintro e w6 ⟨rfl,rfl⟩)
    | fail)
   go_ret;exact⟨some ⟨g2,0,none⟩,m5,O.filter nzC,by simp,c3.o,by have:=HD.o.clip;rwa [<-c3.o]at this,HV.o,X5.o⟩
def a3v(A:Option Addr)(c n:Nat)(L:List Ud)(w:World)(hn:H0 (n=L.length))(h:H0 (Uin w A c L))(h9:n<=1000000)(hin:H0 (∀x∈L,InN x.uv))(hr:H0 (∀x∈L,x.l.length<=1000000000/\x.t.l.length<=1000000000)) :
  C3 16 #[.slice A n c] w (aF w L):=by
 rcases CS n with h0|h0
 ·subst h0;have e:L=[]:=AH hn.o.symm;subst e;exact qQ A c w h
 ·exact qP A c n L w h0 hn h h9 hin hr
end UdS
def yB(L:List Tm):Prop:=∀x∈L,U32 x.l/\x.l.length<=100000
def zQ(e1 e2:Int)(A1 A2:Option Addr)(n c1 c2:Nat)(l1 l2:List Int)(w:World)(hm:H0 (max e1 e2=mx))(hz:H0 (List.zipWith max l1 l2=zl))(h1:Sl w 1 A1 n c1 (wds l1))(h2:Sl w 1 A2 n c2 (wds l2))(u1:U32 l1)(u2:U32 l2)(hn:n<=100000) :
  C3 191 #[.agg #[.int .u64 e1,.slice A1 n c1],.agg #[.int .u64 e2,.slice A2 n c2]] w λe w' =>
   ∃A c,e=.returned (.tuple #[.agg #[.int .u64 mx,.slice A n c],.int .u16 0])/\Own w' w.heap.size 180 1 A n c (wds zl)/\Ext w w':=by
 rw[<-hm.o,<-hz.o];exact qF e1 e2 A1 A2 n c1 c2 l1 l2 w h1 h2 u1 u2 (by omega)
def lL{m:List Int}(h:U32 l)(k:U32 m):U32 (List.zipWith max l m):=by
 intro x hx;obtain⟨i,hi,rfl⟩:=DK hx;rw[List.getElem_zipWith];rw[FX]at hi;have a:=h _ (BR (show i<l.length by omega));have b:=k _ (BR (show i<m.length by omega));omega
def yH{m:List Int}(h:U32 l)(k:U32 m):U32 (List.zipWith min l m):=by
 intro x hx;obtain⟨i,hi,rfl⟩:=DK hx;rw[List.getElem_zipWith];rw[FX]at hi;have a:=h _ (BR (show i<l.length by omega));have b:=k _ (BR (show i<m.length by omega));omega
def Xg(v:TV)(w:World)(r:Ending)(w':World):Prop:=∃A n c,r=.returned (.agg #[.int .u64 v.1,.slice A n c])/\n=v.2.length/\Own w' w.heap.size 180 1 A n c (wds v.2)/\Ext w w'
def Bm(S:List TV)(v:UV):UV:=((v.1.1,Ix S v.1.2),v.2)
def iL(K R:List Ud)(x:Ud)(f:Int)(A:Option Addr)(c:Nat)(l:List Int){i:Nat}(hi:i=K.length):((Ah (K++x::R)).set (i*4+1) (.int .u64 f)).set (i*4+2) (.slice A l.length c)=Ah (K++⟨x.A,x.c,x.l,⟨f,A,c,l⟩,x.d⟩::R):=by
 subst hi;have e:Ah (K++x::R)=Ah K++(udC x++Ah R):=by rw[Au];rfl
 rw[e,CL _ _ (by rw[Cx];omega),Cx,DE,CL _ _ (by rw[Cx];omega),Cx,DE,Au];rfl
structure Qu (w wr:World) (g c:Nat) (S:List TV) (L:List Ud) (i:Nat) (K:List Ud):Prop where
 own:Own wr w.heap.size 95 4 (some ⟨g,0,none⟩) L.length c (Ah (K++L.drop i))
 rws:UdS.Rws wr g (K++L.drop i)
 len:K.length=i
 vals:K.map Ud.uv=((L.take i).map Ud.uv).map (Bm S)
 ext:Ext w wr
 gl:w.heap.size<=g/\g<wr.heap.size
def Qu.mono{S:List TV}{L K:List Ud}(h:Qu w wr g c S L i K)(x:Ext wr w2):Qu w w2 g c S L i K :=
 ⟨h.own.ext x,h.rws.ext x,h.len,h.vals,h.ext.trans x,⟨h.gl.1,AZ h.gl.2 x.size⟩⟩
def Qu.step{w wr w2:World}{g c i:Nat}{S:List TV}{L K:List Ud}{x:Ud}{v:TV}{A:Option Addr}{nn cc:Nat}(h:Qu w wr g c S L i K)(hi:i<L.length)(hx:L.getD i Ud.zero=x)(hv:Ix S x.t.v=v)(q:Ext wr w2)(hn:nn=v.2.length)(o:Own w2 wr.heap.size 180 1 A nn cc (wds v.2)) :
  Qu w ((w2.setCell ⟨g,i*4+1,none⟩ (.int .u64 v.1)).setCell ⟨g,i*4+2,none⟩ (.slice A nn cc)) g c S L (i+1) (K++[⟨x.A,x.c,x.l,⟨v.1,A,cc,v.2⟩,x.d⟩]):=by
 subst hn;have h2:=h.mono q;have hd:L.drop i=x::L.drop (i+1):=by rw[Xe hi,hx]
 have a:w2.grownBy ((w2.setCell ⟨g,i*4+1,none⟩ (.int .u64 v.1)).setCell ⟨g,i*4+2,none⟩ (.slice A v.2.length cc)) (some g):=(Cn w2 g _ _).trans (Cn _ g _ _);have j:x∈K++L.drop i:=by rw[hd];simp
 refine⟨?_,?_,by rw[AA,h.len];rfl,?_,((h2.ext.set (p:=⟨g,_,none⟩) h.gl.1 _).set (p:=⟨g,_,none⟩) h.gl.1 _),⟨h.gl.1,by rw[EA,EA];exact h2.gl.2⟩⟩
 ·have:=(h2.own.put (i*4+1) (.int .u64 v.1)).put (i*4+2) (.slice A v.2.length cc);rw[hd,iL K (L.drop (i+1)) x v.1 A cc v.2 h.len.symm]at this
  rwa [AK]
 ·intro y hy;rw[AK]at hy;rcases AQ.1 hy with hy|hy
  ·exact(h2.rws.upd a) y (BE _ hy)
  ·rcases AY.1 hy with rfl|hy
   ·have f:=(h2.rws.upd a) x j;have ot:=o.kept a (by
     cases hb:blk A cc with
     | none=>exact .inl rfl
     | some k=>exact .inr (λe=>by injection e with e;have:=(o.lt k hb).1;have:=h.gl.2;omega))
    refine⟨⟨f.1.r,ot.sl⟩,f.2.1,λhn ad e=>?_⟩;have⟨k,e2,hb,hk,_⟩:=o.form hn;replace e:A=some ad:=e;rw[e2]at e;injection e with e;subst e;show k≠g;have:=h.gl.2;omega
   ·exact(h2.rws.upd a) y (CD _ (by rw[hd];exact BM _ hy))
 ·rw[Iy hi,hx,AI,AI,AI,h.vals]
  congr 1
  show [(((x.l,(v.1,v.2)),x.d):UV)]=[Bm S x.uv];unfold Bm;show _=[((x.l,Ix S x.t.v),x.d)];rw[hv]
def Dv(w:World)(V:List UV)(e:Ending)(w':World):Prop:=∃A m R,e=.returned (.slice A m m)/\m=R.length/\Bu w' w.heap.size A m R/\R.map Ud.uv=V/\Ext w w'
def Dv.of{L:List Ud}{V:List UV}{e:Ending}(h:UdS.aF w0 L e w')(x:Ext w w0)(hv:UdS.sumV (L.map Ud.uv)=V):Dv w V e w':=by
 obtain⟨A,m,R,e1,e2,o,v,x2⟩:=h;exact⟨A,m,R,e1,e2,o.mono x.size,by rw[v,hv],x.trans x2⟩
def mR{V:List UV}(A:Option Addr)(c n:Nat)(L:List Ud)(w:World)(hv:H0 (UdS.sumV (L.map Ud.uv)=V))(hn:H0 (n=L.length))(h:H0 (Uin w A c L))(h9:n<=1000000)(hin:H0 (∀x∈L,UdS.InN x.uv))(hr:H0 (∀x∈L,x.l.length<=1000000000/\x.t.l.length<=1000000000)) :
  C3 16 #[.slice A n c] w (Dv w V):=(UdS.a3v A c n L w hn h h9 hin hr).mono λe w' q=>Dv.of q (Ext.refl _) hv.o
def qS(A:Option Addr)(c:Nat)(S0:Value)(w:World)(h:H0 (Uin w A c [])) :
  C3 18 #[.slice A 0 c,S0] w (Dv w []):=by
 have hn:H0 ((0:Nat)=([]:List Ud).length):=j6 rfl;have d:H0 (∀x∈([]:List Ud),UdS.InN x.uv):=j6 (λx hx=>nomatch hx);have hr:H0 (∀x∈([]:List Ud),x.l.length<=1000000000/\x.t.l.length<=1000000000):=j6 (λx hx=>nomatch hx);go_enter func18,ntmps18;go_wp2_with (first
  | (go_at_call 101;refine(Ni A 0 c [] _ hn h (by decide)).mono ?_;rintro r w1 ⟨A1,c1,rfl,o1,x1⟩;have X1:=j6 x1;have HU:H0 (Uin w1 A1 c1 []):=j6 ⟨o1.sl,λx hx=>nomatch hx⟩;clear o1 x1)
  | fail)
 go_loop [12] (λu=>u=.int .i64 0) (λ_=>0)
 case atStart=>rfl
 case round =>
  subst hrel;go_wp2_with (first
   | (go_at_call 16;refine(UdS.a3v A1 c1 0 [] _ hn HU (by decide) d hr).mono ?_;rintro r w2 a;have HR:=j6 (Dv.of a X1.o rfl);obtain⟨A2,m2,R2,rfl,h2⟩:=a;clear h2)
   | fail)
  go_ret;exact HR.o
def qR(A:Option Addr)(c n:Nat)(L:List Ud)(AS:Option Addr)(cS nS:Nat)(S:List Tm)(w:World)(h0:0<n)(hn:H0 (n=L.length))(h:H0 (Uin w A c L))(h9:n<=1000000)(hin:H0 (∀x∈L,InU x))(hnS:H0 (nS=S.length))(hS:H0 (Tin w AS cS S))(HA:H0 (∀x∈L,∀W,Tin W AS cS S->Sl W 1 x.t.A x.t.l.length x.t.c (wds x.t.l)->C3 110 #[.slice AS nS cS,.agg #[.int .u64 x.t.e,.slice x.t.A x.t.l.length x.t.c]] W (Xg (Ix (S.map Tm.v) (x.t.e,x.t.l)) W))) :
  C3 18 #[.slice A n c,.slice AS nS cS] w (Dv w (UdS.sumV ((L.map Ud.uv).map (Bm (S.map Tm.v))))):=by
 go_enter func18,ntmps18;go_wp2_with (first
  | (go_at_call 101;refine(Ni A n c L _ hn h h9).mono ?_;rintro r w1 ⟨A1,c1,rfl,o1,x1⟩;have hf:=o1.form h0;obtain⟨g,eA,hb,B,G,_,_⟩:=hf;subst eA;have F:H0 (Qu w w1 g c1 (S.map Tm.v) L 0 []):=j6 ⟨by rw[<-hn.o];exact o1,UdS.Rws.of h.o.ls x1 B,rfl,rfl,x1,⟨B,G⟩⟩;clear o1 x1 hb B G)
  | fail)
 go_loopg [12] n (λz v wr=>∃(i:Nat) (K:List Ud),z=n-i/\i<=n/\v=.int .i64 i/\H0 (Qu w wr g c1 (S.map Tm.v) L i K))
 case atStart=>exact⟨0,[],rfl,AG _,rfl,F⟩
 case round =>
  clear F;obtain⟨i,K,rfl,hi,rfl,HP⟩:=hrel;by_cases hlt:i<n
  ·have f:i<L.length:=by rw[<-hn.o];exact hlt
   have a:(K++L.drop i).length=L.length:=by rw[AA,HP.o.len,CZ];omega
   have hU:Uin wr (some ⟨g,0,none⟩) c1 (K++L.drop i):=⟨by have:=HP.o.own.sl;rwa [<-a]at this,λy hy=>(HP.o.rws y hy).1⟩;have⟨ad,eA,p0,p1,p2,p3⟩:=hU.at (i:=i) (by rw[a];exact f);cases eA;rw[show(⟨g,0,none⟩:Addr).add (i*4)=⟨g,i*4,none⟩from by unfold Addr.add;split<;>simp_all]at p0 p1 p2 p3;have hm:=As f;have⟨x,hx⟩:=tz (L.getD i Ud.zero);have H:(K++L.drop i).getD i Ud.zero=x:=by
    rw[AB,BF (by rw[HP.o.len];exact AD _),HP.o.len,DQ,Xe f,hx];rfl
   have N:x∈K++L.drop i:=by rw[Xe f,hx];simp
   have M:=(HP.o.rws x N).1;rw[H]at p0 p1 p2 p3;rw[hx]at hm;have⟨nx,J⟩:=E9 x.l.length;have⟨tx,D⟩:=E9 x.t.l.length;rw[<-J]at p0;rw[<-D]at p2;have HX:=j6 hx;have E:=j6 f;have⟨v,hv⟩:=tz (Ix (S.map Tm.v) (x.t.e,x.t.l));have HV:=j6 hv;have XA:Ext wr (wr.alloc (.cells #[.slice x.A nx x.c,.int .u64 x.t.e,.slice x.t.A tx x.t.c,.int .i64 x.d] 95)):=(Ext.refl wr).alloc _;have O:H0 (∀W,Ext wr W->C3 110 #[.slice AS nS cS,.agg #[.int .u64 x.t.e,.slice x.t.A tx x.t.c]] W (Xg v W)):=j6 (λW q=>by rw[<-hv,D];exact HA.o x hm W ((hS.o.ext HP.o.ext).ext q) (M.t.ext q));have R:=HP.o.gl.2;clear f hm hx J D hv hU a H N M;go_wp2_with (first
    | (go_at_call 110;refine(O.o _ XA).mono ?_;rintro r w3 ⟨A3,n3,c3,rfl,I,o3,x3⟩;have P:=j6 I;have O3:H0 (Own w3 wr.heap.size 180 1 A3 n3 c3 (wds v.2)):=j6 (o3.mono XA.size);have X3:=j6 (XA.trans x3);have H3:=HP.o.mono X3.o;have⟨u1,y1⟩:=CQ.1 (show(w3.cell? ⟨g,i*4+1,none⟩).isSome=true by rw[X3.o.cell p1];rfl);have⟨u2,y2⟩:=CQ.1 (show(w3.cell? ⟨g,i*4+2,none⟩).isSome=true by rw[X3.o.cell p2];rfl);have Q:=(H3.own.form (show 0<L.length by have:=E.o;omega));obtain⟨g',eg,_,_,_,_,hf⟩:=Q;cases eg;have f1:=hf (i*4+1);have f2:=hf (i*4+2);clear hf H3 I o3 x3)
    | fail)
   go_roundg (n-(i+1))
   case measure=>omega
   case rel=>exact⟨i+1,_,rfl,by omega,by go_num,j6 (HP.o.step E.o HX.o HV.o X3.o P.o O3.o)⟩
  ·obtain rfl:i=n:=by omega
   have hd:L.drop i=[]:=DS (by rw[<-hn.o];exact AD _);have a:K.length=L.length:=by rw[HP.o.len];exact hn.o
   have HU:H0 (Uin wr (some ⟨g,0,none⟩) c1 K):=j6 ⟨by have:=HP.o.own.sl;rw[hd,AV]at this;rwa [a],λy hy=>(HP.o.rws y (BE _ hy)).1⟩;have m:K.map Ud.uv=(L.map Ud.uv).map (Bm (S.map Tm.v)):=by have:=HP.o.vals;rwa [AW (by rw[<-hn.o];exact AD _)]at this
   have HN:H0 (i=K.length):=j6 (by rw[a];exact hn.o);have j:∀y∈K,∃x∈L,y.uv=Bm (S.map Tm.v) x.uv:=λy hy=>by
    have:y.uv∈K.map Ud.uv:=AP.2 ⟨y,hy,rfl⟩;rw[m,CO]at this;have⟨x,hx,e⟩:=AP.1 this;exact⟨x,hx,e.symm⟩
   have HI:H0 (∀y∈K,UdS.InN y.uv):=j6 (λy hy=>by
    have⟨x,hx,e⟩:=j y hy;rw[e];exact(hin.o x hx).num)
   have HL:H0 (∀y∈K,y.l.length<=1000000000/\y.t.l.length<=1000000000):=j6 (λy hy=>by
    have⟨x,hx,e⟩:=j y hy;have e1:y.l=x.l:=congrArg (λq:UV=>q.1.1) e;have e2:y.t.l=(Ix (S.map Tm.v) x.t.v).2:=congrArg (λq:UV=>q.1.2.2) e;rw[e1,e2];refine⟨(hin.o x hx).lens.1,?_⟩;rw[Pq];exact(hin.o x hx).lens.2)
   have HX:=j6 HP.o.ext;have HV:=j6 (congrArg UdS.sumV m);clear hd a m j HP;go_wp2_with (first
    | (go_at_call 16;refine(UdS.a3v (some ⟨g,0,none⟩) c1 i K _ HN HU h9 HI HL).mono ?_;rintro r w2 C;have HR:=j6 (Dv.of C HX.o HV.o);obtain⟨A2,m2,R2,rfl,h2⟩:=C;clear h2)
    | fail)
   go_ret;exact HR.o
def a0b{V:List UV}(A:Option Addr)(c n:Nat)(L:List Ud)(AS:Option Addr)(cS nS:Nat)(S:List Tm)(w:World)(hV:H0 (UdS.sumV ((L.map Ud.uv).map (Bm (S.map Tm.v)))=V))(hn:H0 (n=L.length))(h:H0 (Uin w A c L))(h9:n<=1000000)(hin:H0 (∀x∈L,InU x))(hnS:H0 (nS=S.length))(hS:H0 (Tin w AS cS S))(HA:H0 (∀x∈L,∀W,Tin W AS cS S->Sl W 1 x.t.A x.t.l.length x.t.c (wds x.t.l)->C3 110 #[.slice AS nS cS,.agg #[.int .u64 x.t.e,.slice x.t.A x.t.l.length x.t.c]] W (Xg (Ix (S.map Tm.v) (x.t.e,x.t.l)) W))) :
  C3 18 #[.slice A n c,.slice AS nS cS] w (Dv w V):=by
 rw[<-hV.o];rcases CS n with h0|h0
 ·subst h0;have e:L=[]:=AH hn.o.symm;subst e;exact qS A c _ w h
 ·exact qR A c n L AS cS nS S w h0 hn h h9 hin hnS hS HA
def wS(ad:Addr)(cL:Nat)(x:Tm)(e:Int)(A:Option Addr)(c:Nat)(w:World)(hL:H0 (Tin w (some ad) cL [x]))(hx:x.l=[])(ht:H0 (Sl w 1 A 0 c (wds []))) :
  C3 110 #[.slice (some ad) 1 cL,.agg #[.int .u64 e,.slice A 0 c]] w (Xg (max e x.e,[]) w):=by
 obtain⟨f,Ax,cx,lx⟩:=x;obtain rfl:lx=[]:=hx;have⟨mx,g⟩:=tz (max e f);have j:=j6 g;rw[show max e (⟨f,Ax,cx,[]⟩:Tm).e=mx from g];clear g;go_enter func110,ntmps110;go_wp2;have⟨w0,a⟩:=E9 ((w.alloc (Obj.cells #[Value.int IntKind.u64 e,Value.slice A 0 c] 26)).alloc (Obj.cells #[Value.int IntKind.u64 0,Value.slice none 0 0] 26));have x0:Ext w w0:=a▸((Ext.refl w).alloc _).alloc _;have b0:Bk w0 w.heap.size 26 #[Value.int IntKind.u64 e,Value.slice A 0 c]:=by subst a;exact(Bk.new _ _ _).alloc _
 have r0:Bk w0 (w.heap.size+1) 26 #[Value.int IntKind.u64 0,Value.slice none 0 0]:=by subst a;exact Bk.at (by simp)
 rw[<-a];clear a;have n:H0 (Sl w0 1 Ax 0 cx (wds [])):=j6 ((hL.o.ext x0).ls ⟨f,Ax,cx,[]⟩ (AE.2 rfl));have⟨q,e1,p0,p1⟩:=(hL.o.ext x0).at (i:=0) (by show 0<1;decide);cases e1;replace p0:w0.cell? ad=some (.int .u64 f):=by rw[show ad.add (0*2)=ad from by cases ad;rfl]at p0;exact p0
 replace p1:w0.cell? ⟨ad.block,ad.off+1,none⟩=some (.slice Ax 0 cx):=by rw[show ad.add (0*2)=ad from by cases ad;rfl]at p1;exact p1
 have q0:=(b0.alloc (.cells #[.int .u64 f,.slice Ax 0 cx] 26)).cell 0;have q1:=(b0.alloc (.cells #[.int .u64 f,.slice Ax 0 cx] 26)).cell 1;have X0:=j6 x0;have R0:=j6 r0;clear x0 b0 r0;refine wp_loop_rounds 2 ?_;rw[rounds_succ];go_wp2_with (go_at_call 191;refine(zQ e f A Ax 0 c cx [] [] _ j (j6 rfl) (ht.o.ext (X0.o.alloc _)) (n.o.ext ((Ext.refl _).alloc _)) (λx hx=>nomatch hx) (λx hx=>nomatch hx) (by decide)).mono ?_;rintro r w3 ⟨A3,c3,rfl,o3,x3⟩;have m:=j6 o3;have X3:=j6 (((Ext.refl w0).alloc _).trans x3);clear o3 x3)
 have⟨w5,d⟩:=E9 ((w3.alloc (.cells #[.int .u64 mx,.slice A3 0 c3] 26)).alloc (.cells #[.int .u64 mx,.slice A3 0 c3] 26));have x5:Ext w3 w5:=by rw[d];exact((Ext.refl _).alloc _).alloc _
 have j5:Bk w5 (w3.heap.size+1) 26 #[.int .u64 mx,.slice A3 0 c3]:=by rw[d];exact Bk.at (by simp)
 have r5:=R0.o.ext (X3.o.trans x5);have y:=X3.o.size;have t:=R0.o.lt;have h:=j6 x5;rw[<-d];clear d q0 q1 p0 p1;have y0:=j5.cell 0;have y1:=j5.cell 1;have z2:=r5.cell 0;have z3:=r5.cell 1;have z4:=r5.free 0;have z5:=r5.free 1;have bb:=r5.set2 (.int .u64 mx) (.slice A3 0 c3);clear j5 r5 x5;rw[rounds_succ];go_wp2;refine bodyPost_ret (v:=.agg #[.int .u64 mx,.slice A3 0 c3]) (by simp[results,Tryz.results110,go_sem,bb.1,bb.2]) rfl ⟨A3,0,c3,rfl,rfl,?_,?_⟩
 ·have o:=m.o;have hb:w.heap.size+1<(w0.alloc (.cells #[.int .u64 f,.slice Ax 0 cx] 26)).heap.size:=by simp;omega
  have hm:w.heap.size<=(w0.alloc (.cells #[.int .u64 f,.slice Ax 0 cx] 26)).heap.size:=by omega
  have o5:=o.ext h.o;exact(((o5.far (p:=⟨w.heap.size+1,0,none⟩) (o5.ne hb) _).far (p:=⟨w.heap.size+1,1,none⟩) (o5.ne hb) _).mono hm)
 ·exact((((X0.o.trans X3.o).trans h.o).set (by simp) _).set (by simp) _)
def wT(AL:Option Addr)(cL:Nat)(e:Int)(A:Option Addr)(c:Nat)(w:World)(ht:H0 (Sl w 1 A 0 c (wds []))) :
  C3 110 #[.slice AL 0 cL,.agg #[.int .u64 e,.slice A 0 c]] w (Xg (e,[]) w):=by
 go_enter func110,ntmps110;go_wp2;have⟨w0,a⟩:=E9 ((w.alloc (Obj.cells #[Value.int IntKind.u64 e,Value.slice A 0 c] 26)).alloc (Obj.cells #[Value.int IntKind.u64 0,Value.slice none 0 0] 26));have X0:H0 (Ext w w0):=j6 (a▸((Ext.refl w).alloc _).alloc _);have b0:Bk w0 w.heap.size 26 #[Value.int IntKind.u64 e,Value.slice A 0 c]:=by subst a;exact(Bk.new _ _ _).alloc _
 have R0:H0 (Bk w0 (w.heap.size+1) 26 #[Value.int IntKind.u64 0,Value.slice none 0 0]):=j6 (by subst a;exact Bk.at (by simp));rw[<-a];clear a;have q0:=b0.cell 0;have q1:=b0.cell 1;clear b0;refine wp_loop_rounds 1 ?_;rw[rounds_succ];go_wp2_with (go_at_call 142;refine(Vh e A 0 c [] _ (j6 (ht.o.ext X0.o)) (by decide)).mono ?_;rintro r w4 ⟨A4,c4,rfl,o4,x4⟩;have d:=j6 o4;have X4:=j6 x4;have RB:=R0.o.ext x4;have z2:=RB.cell 0;have z3:=RB.cell 1;have z4:=RB.free 0;have z5:=RB.free 1;have f:=j6 RB;clear o4 x4 RB)
 have bb:=f.o.set2 (.int .u64 e) (.slice A4 0 c4);have hb:w.heap.size+1<w0.heap.size:=R0.o.lt;refine bodyPost_ret (v:=.agg #[.int .u64 e,.slice A4 0 c4]) (by simp[results,Tryz.results110,go_sem,bb.1,bb.2]) rfl ⟨A4,0,c4,rfl,rfl,?_,?_⟩
 ·exact(((d.o.far (p:=⟨w.heap.size+1,0,none⟩) (d.o.ne hb) _).far (p:=⟨w.heap.size+1,1,none⟩) (d.o.ne hb) _).mono (by omega))
 ·exact(((X0.o.trans X4.o).set (by simp) _).set (by simp) _)
def Su(L:List Tm):Prop:=L.length<=1/\∀y∈L,y.l=[]
def bV{v:TV}(AL:Option Addr)(cL m:Nat)(L:List Tm)(e:Int)(A:Option Addr)(n c:Nat)(l:List Int)(w:World)(hv:H0 (Ix (L.map Tm.v) (e,l)=v))(hm:H0 (m=L.length))(hL:H0 (Tin w AL cL L))(fL:H0 (Su L))(ht:H0 (Sl w 1 A n c (wds l)))(hl:l=[]) :
  C3 110 #[.slice AL m cL,.agg #[.int .u64 e,.slice A n c]] w (Xg v w):=by
 subst hl;obtain rfl:n=0:=ht.o.wlen.symm;rw[<-hv.o];have⟨f1,f2⟩:=fL.o
 match L,hm,hL,f1,f2 with
 | [],hm,_,_,_ =>
  obtain rfl:m=0:=hm.o;exact wT AL cL e A c w ht
 | [x],hm,hL,_,f2 =>
  obtain rfl:m=1:=hm.o;have hx:=f2 x (AE.2 rfl);obtain⟨ad,rfl,_⟩:=hL.o.at (i:=0) (by show 0<1;decide);have e2:Ix ([x].map Tm.v) (e,[])=(max e x.e,[]):=by
   obtain⟨f,Ax,cx,lx⟩:=x;obtain rfl:lx=[]:=hx;rfl
  rw[e2];exact wS ad cL x e A c w hL hx ht
 | _::_::_,_,_,f1,_=>exact absurd f1 (by simp)
def Yj{V:List UV}(A:Option Addr)(c n:Nat)(L:List Ud)(AS:Option Addr)(cS nS:Nat)(S:List Tm)(w:World)(hV:H0 (UdS.sumV ((L.map Ud.uv).map (Bm (S.map Tm.v)))=V))(hn:H0 (n=L.length))(h:H0 (Uin w A c L))(h9:n<=1000000)(hin:H0 (∀x∈L,InU x))(hnS:H0 (nS=S.length))(hS:H0 (Tin w AS cS S))(fS:H0 (Su S))(fl:H0 (∀x∈L,x.t.l=[])) :
  C3 18 #[.slice A n c,.slice AS nS cS] w (Dv w V):=
 a0b A c n L AS cS nS S w hV hn h h9 hin hnS hS (j6 λx hx W h1 h2=>bV AS cS nS S x.t.e x.t.A x.t.l.length x.t.c x.t.l W (j6 rfl) hnS (j6 h1) fS (j6 h2) (fl.o x hx))
def Zi(l:List Bt):(Dz l).map Ud.uv=(l.map Bt.v).flatten:=by
 induction l with
 | nil=>rfl
 | cons b l ih =>
  show(b.l++Dz l).map Ud.uv=b.v++(l.map Bt.v).flatten;rw[AI,ih];rfl
structure rR (m:SpM):Prop where
 nb:m.bs.length<=1000000
 na:(Dz m.bs).length<=1000000
 ins:∀x∈Dz m.bs,InU x
 fs:m.S.length<=1000000
 fu:m.U.length<=1000000
 ss:yB m.S
 uu:yB m.U
 fl:Su m.S
 ft:∀x∈Dz m.bs,x.t.l=[]
def atS(s:SV)(t:TV):Int×List (List Dat×Int):=if 0<t.2.length then (110,[]) else if Ak s.S t=false then (111,[]) else if Ak s.U t=true then (111,[]) else (0,sumV (atV s.bs.flatten t))
def aE(w:World)(q:Int×List (List Dat×Int))(e:Ending)(w':World):Prop:=∃A n c,e=.returned (.tuple #[.slice A n c,.int .u16 q.1])/\Ly w q.2 (.returned (.slice A n c)) w'
def Sj(x:Ext w w'):Ly w [] (.returned (.slice none 0 0)) w':=⟨none,0,0,[],rfl,rfl,Own.nil _ _ _ _,λy hy=>(nomatch hy),List.Pairwise.nil,rfl,x⟩
def dX{U:List V}{e:Ending}(h:Ly w1 U e w')(x:Ext w w1):Ly w U e w':=by
 obtain⟨A,m,c,R,e1,e2,o,r,a,v,x2⟩:=h;exact⟨A,m,c,R,e1,e2,o.mono x.size,λy hy=>⟨(r y hy).1,λad q=>⟨AR x.size ((r y hy).2 ad q).1,((r y hy).2 ad q).2⟩⟩,a,v,x.trans x2⟩
def tY{q:Int×List (List Dat×Int)}(gs:Nat)(m:SpM)(R:Nat->Prop)(e:Int)(A:Option Addr)(n c:Nat)(l:List Int)(w:World)(hq:H0 (atS m.v (e,l)=q))(HM:H0 (SpR w R gs m))(ok:H0 (rR m))(hn:H0 (n=l.length))(ht:H0 (Sl w 1 A n c (wds l)))(G:Good w) :
  C3 46 #[.pointer (some ⟨gs,0,none⟩),.agg #[.int .u64 e,.slice A n c]] w (aE w q):=by
 have⟨nS,B⟩:=E9 m.S.length;have⟨nU,C⟩:=E9 m.U.length;have F:=j6 B;have K:=j6 C;have HC:H0 (∀W,Ext w W->W.cell? ⟨gs,2,none⟩=some (.slice m.sA nS m.sc)/\W.cell? ⟨gs,3,none⟩=some (.slice m.uA nU m.uc)):=j6 (λW x=>⟨by have:=(HM.o.bk.ext x).cell 2;rw[B];exact this,by have:=(HM.o.bk.ext x).cell 3;rw[C];exact this⟩);have H:H0 (Tin w m.sA m.sc m.S):=j6 HM.o.b.sn.t.tin;have M:H0 (Tin w m.uA m.uc m.U):=j6 HM.o.b.up.t.tin;have GG:=j6 G;clear B C G;by_cases h0:0<n
 ·have N:(0:Int)<(n:Int):=by omega
  have f:atS m.v (e,l)=(110,[]):=by unfold atS;rw[if_pos (by show 0<l.length;rw[<-hn.o];exact h0)]
  have HA:H0 (q=(110,[])):=j6 (hq.o.symm.trans f);clear f hq;go_enter func46,ntmps46;go_wp2;go_returns;rw[HA.o];exact⟨_,_,_,rfl,Sj ((Ext.refl w).alloc _)⟩
 ·have N:¬(0:Int)<(n:Int):=by omega
  have⟨b1,j⟩:=tz (Ak (m.S.map Tm.v) (e,l));have⟨b2,z⟩:=tz (Ak (m.U.map Tm.v) (e,l));have E:=j6 j;have J:=j6 z;have f:atS m.v (e,l)=if b1=false then (111,[]) else if b2=true then (111,[]) else (0,sumV (atV (m.v.bs.flatten) (e,l))):=by
   unfold atS;rw[if_neg (by show ¬ 0<l.length;have:=hn.o;omega),<-j,<-z];rfl
  have HA:H0 (q=if b1=false then (111,[]) else if b2=true then (111,[]) else (0,sumV (atV (m.v.bs.flatten) (e,l)))):=j6 (hq.o.symm.trans f);clear f j z hq;go_enter func46,ntmps46
  go_upto_region 3 with fail
  have⟨wb,g⟩:=E9 (w.alloc (.cells #[.int .u64 e,.slice A n c] 26));have XB:H0 (Ext w wb):=j6 (by rw[g];exact(Ext.refl _).alloc _);have BT:H0 (Bk wb w.heap.size 26 #[.int .u64 e,.slice A n c]):=j6 (by rw[g];exact Bk.new _ _ _);rw[<-g];clear g;have⟨gt,I⟩:=E9 w.heap.size;rw[<-I]at BT ⊢;clear I;have X:Ext wb wb.drew:=(Ext.refl wb).drew;have P2:∀y:Xt wb.drew,y.W.cell? ⟨gs,2,none⟩=some (.slice m.sA nS m.sc):=λy=>(HC.o _ ((XB.o.trans X).trans y.x)).1;have P3:∀y:Xt wb.drew,y.W.cell? ⟨gs,3,none⟩=some (.slice m.uA nU m.uc):=λy=>(HC.o _ ((XB.o.trans X).trans y.x)).2;have Q0:∀y:Xt wb.drew,y.W.cell? ⟨gt,0,none⟩=some (.int .u64 e):=λy=>(BT.o.ext (X.trans y.x)).cell 0;have Q1:∀y:Xt wb.drew,y.W.cell? ⟨gt,1,none⟩=some (.slice A n c):=λy=>(BT.o.ext (X.trans y.x)).cell 1;cases b1 with
  | false =>
   refine wro [0,1,3,7,0,31,63,127,255,511,1023,2047,255,8191,16383,32767] (.flo [0,1,2,3,4] (.one 5 (.flo [6,7,8,9,10,11,12] (.one 13 (.flo [14,15] (.fin)))))) ?_
   (refine Aa (pks rfl) ?_;(repeat (go_big_quiet_step (fail)));refine oq ?_)
   refine Ac (pks rfl) ?_;intro K_ d;go_wp2_with (go_at_call 140;refine(Er m.sA m.sc nS m.S e A n c l _ E F (j6 (H.o.ext (XB.o.trans X))) (j6 (ht.o.ext (XB.o.trans X)))).mono ?_;rintro r w1 ⟨rfl,x1⟩;have X1:=j6 (X.trans x1))
   clear P2 P3 Q0 Q1
   (refine Aa (pks rfl) ?_;(repeat (go_big_quiet_step (fail)));refine oq ?_)
   refine Ac (pks rfl) ?_;intro K_ d;go_wp2
   (refine Aa (pks rfl) ?_;(repeat (go_big_quiet_step (fail)));refine oq ?_)
   refine Ad ?_;go_wp2;go_returns;have hA:q=(111,[]):=by have:=HA.o;simpa using this
   rw[hA];exact⟨_,_,_,rfl,Sj (XB.o.trans X1.o)⟩
  | true =>
   refine wro [0,1,3,7,0,31,63,127,255,511,1023,2047,255,8191,16383,32767] (.flo [0,1,2,3,4] (.one 5 (.flo [6,7,8,9,10,11,12] (.one 13 (.flo [14,15] (.fin)))))) ?_
   (refine Aa (pks rfl) ?_;(repeat (go_big_quiet_step (fail)));refine oq ?_)
   refine Ac (pks rfl) ?_;intro K_ d;go_wp2_with (go_at_call 140;refine(Er m.sA m.sc nS m.S e A n c l _ E F (j6 (H.o.ext (XB.o.trans X))) (j6 (ht.o.ext (XB.o.trans X)))).mono ?_;rintro r w1 ⟨rfl,x1⟩;have X1:=j6 (X.trans x1))
   have P3:∀y:Xt w1,y.W.cell? ⟨gs,3,none⟩=some (.slice m.uA nU m.uc):=λy=>(HC.o _ ((XB.o.trans X1.o).trans y.x)).2;have Q0:∀y:Xt w1,y.W.cell? ⟨gt,0,none⟩=some (.int .u64 e):=λy=>(BT.o.ext (X1.o.trans y.x)).cell 0;have Q1:∀y:Xt w1,y.W.cell? ⟨gt,1,none⟩=some (.slice A n c):=λy=>(BT.o.ext (X1.o.trans y.x)).cell 1
   (refine Aa (pks rfl) ?_;(repeat (go_big_quiet_step (fail)));refine oq ?_)
   refine Ac (pks rfl) ?_;intro K_ d;go_wp2_with (go_at_call 140;refine(Er m.uA m.uc nU m.U e A n c l _ J K (j6 (M.o.ext (XB.o.trans X1.o))) (j6 (ht.o.ext (XB.o.trans X1.o)))).mono ?_;rintro r w2 ⟨rfl,x2⟩;have X2:=j6 (X1.o.trans x2))
   (refine Aa (pks rfl) ?_;(repeat (go_big_quiet_step (fail)));refine oq ?_)
   refine Ad ?_;clear P2 P3 Q0 Q1;cases b2 with
   | true =>
    go_wp2;go_returns;have hA:q=(111,[]):=by have:=HA.o;simpa using this
    rw[hA];exact⟨_,_,_,rfl,Sj (XB.o.trans X2.o)⟩
   | false =>
    go_wp2;have X3:Ext wb w2.drew:=X2.o.drew;have a:=j6 X3;have Q0:∀y:Xt w2.drew,y.W.cell? ⟨gt,0,none⟩=some (.int .u64 e):=λy=>(BT.o.ext (X3.trans y.x)).cell 0;have Q1:∀y:Xt w2.drew,y.W.cell? ⟨gt,1,none⟩=some (.slice A n c):=λy=>(BT.o.ext (X3.trans y.x)).cell 1;refine wro [0,1,0,7,15,31] (.flo [0,2] (.ext 1 (.one 3 (.flo [4,5] (.fin))))) ?_
    (refine Aa (pks rfl) ?_;(repeat (go_big_quiet_step (fail)));refine oq ?_)
    refine Ar (pks rfl) ?_;intro K_ d;go_wp2_with (go_at_call 159;refine(Pz gs m R _ (j6 (HM.o.ext (XB.o.trans a.o))) ok.o.nb ok.o.na).mono ?_;rintro r w4 ⟨A4,n4,c4,rfl,e4,o4,x4⟩;have i:=j6 e4;have L:=j6 o4;have X4:=j6 x4;clear e4 o4 x4)
    refine An.mk X4.o ?_;have hU:H0 (Uin w4 A4 c4 (Dz m.bs)):=j6 ⟨i.o▸L.o.sl,λx hx=>by
     have⟨b,hb,O⟩:=DC.1 hx;exact(((HM.o.b.bt b hb).u.uin.ls x O).ext (XB.o.trans a.o)).ext X4.o⟩
    refine Ac (pks rfl) ?_;intro K_ d;go_wp2_with (go_at_call 17;refine(mT A4 c4 n4 (Dz m.bs) e A n c l _ i hU (by rw[i.o];exact ok.o.na) (j6 ok.o.ins) (j6 (ht.o.ext ((XB.o.trans a.o).trans X4.o))) (GG.o.ext ((XB.o.trans a.o).trans X4.o))).mono ?_;rintro r w5 D;have HR:=j6 D;obtain⟨A5,m5,c5,R5,rfl,h5⟩:=D;clear h5)
    (refine Aa (pks rfl) ?_;(repeat (go_big_quiet_step (fail)));refine oq ?_)
    refine Ad ?_;go_wp2;go_returns;have hA:q=(0,sumV (atV (m.v.bs.flatten) (e,l))):=by have:=HA.o;simpa using this
    rw[hA];refine⟨_,_,_,rfl,?_⟩;have h:=dX HR.o ((XB.o.trans a.o).trans X4.o);rw[Zi]at h;exact h
def Lq(g:Nat)(lb:Array Value)(p:Ud->Bool)(L:List Ud)(w:World):Prop:=∀(W:World) (x:Ud),x∈L->Ext w W->C3 g #[udV x] W λe w'=>e=.returned (.bool (p x))/\Ext W w'
def xV(p:Ud->Bool)(L:List Ud)(w:World)(e:Ending)(w':World):Prop:=∃r:Int,e=.returned (.int .i64 r)/\decide (0<=r)=L.any p/\Ext w w'
def lK{L:List Ud}{p:Ud->Bool}{k:Nat}(h:k<L.length)(hp:p (L.getD k Ud.zero)=true):L.any p=true:=EI.2 ⟨_,As h,hp⟩
def Xk{L:List Ud}{p:Ud->Bool}(h:∀j,j<L.length->p (L.getD j Ud.zero)=false):L.any p=false:=by
 rw[FL];intro x hx;obtain⟨j,hj,rfl⟩:=DK hx;have:=h j hj;rw[AB,AC hj]at this;simpa using this
def kJ(p:Ud->Bool)(g:Nat)(eg:∀args w,(callFunc g args).run prog w=.ok (.enter g args) w)(AL:Option Addr)(cL m:Nat)(L:List Ud)(w:World)(hm:H0 (m=L.length))(hL:H0 (Uin w AL cL L))(hp:H0 (Lq g #[] p L w)) :
  C3 185 #[.slice AL m cL,.func (.func g) #[] #[]] w (xV p L w):=by
 have d:m<=9223372036854775807:=by rw[hm.o];exact hL.o.sl.le
 go_enter func185,ntmps185;go_wp2
 go_loopg [5,8] m (λgg _ s8 wr=>∃kk:Nat,kk<=m/\m-kk<=gg/\s8=.int .i64 kk/\H0 (Ext w wr)/\H0 (∀j,j<kk->p (L.getD j Ud.zero)=false))
 case atStart=>exact⟨0,AG _,by omega,rfl,j6 (Ext.refl w),j6 (λj hj=>absurd hj (DR _))⟩
 case round =>
  obtain⟨kk,h,hg,rfl,BW,AF⟩:=hrel;by_cases hlt:kk<m
  ·have f:(kk:Int)<(m:Int):=by omega
   obtain⟨ad,rfl,q0,q1,q2,q3⟩:=(hL.o.ext BW.o).at (i:=kk) (by rw[<-hm.o];exact hlt);have a:=hp.o wr (L.getD kk Ud.zero) (As (by rw[<-hm.o];exact hlt)) BW.o;have⟨x,hx⟩:=tz (L.getD kk Ud.zero);rw[hx]at q0 q1 q2 q3 a;replace hx:=j6 hx;unfold udV at a;cases hq:p x with
   | true =>
    rw[hq]at a;have HQ:=j6 hq;clear hq;go_wp2_with (go_at_fn g;refine a.mono ?_;rintro e w' ⟨rfl,c⟩)
    go_ret;exact⟨_,rfl,by rw[lK (by rw[<-hm.o];exact hlt) (by rw[hx.o];exact HQ.o)];simp,BW.o.trans c⟩
   | false =>
    rw[hq]at a;have HQ:=j6 hq;clear hq;go_wp2_with (go_at_fn g;refine a.mono ?_;rintro e w' ⟨rfl,c⟩)
    go_roundg (m-(kk+1))
    case measure=>omega
    case rel =>
     refine⟨kk+1,by omega,by omega,by go_num,j6 (BW.o.trans c),j6 (λj hj=>?_)⟩;by_cases hjk:j<kk
     ·exact AF.o j hjk
     ·obtain rfl:j=kk:=by omega
      rw[hx.o];exact HQ.o
  ·obtain rfl:kk=m:=by omega
   go_wp2;go_ret;exact⟨_,rfl,by rw[Xk (λj hj=>AF.o j (by rw[hm.o];exact hj))];rfl,BW.o⟩
def Fd(p:Ud->Bool)(g:Nat)(eg:∀args w,(callFunc g args).run prog w=.ok (.enter g args) w)(AL:Option Addr)(cL m:Nat)(L:List Ud)(w:World)(hm:H0 (m=L.length))(hL:H0 (Uin w AL cL L))(hp:H0 (Lq g #[] p L w)) :
  C3 157 #[.slice AL m cL,.func (.func g) #[] #[]] w λe w'=>e=.returned (.bool (L.any p))/\Ext w w':=by
 go_enter func157,ntmps157;go_wp2_with (go_at_call 185;refine(kJ p g  eg AL cL m L _ hm hL hp).mono ?_;rintro e w1 ⟨r,rfl,hr,x1⟩;replace hr:=j6 hr)
 go_ret;exact⟨by rw[<-hr.o];rfl,x1⟩
def Lp(g:Nat)(lb:Array Value)(p:Ud->Bool)(L:List Ud)(w:World):Prop:=∀(W:World) (x:Ud),x∈L->Ext w W->C3 g #[udV x,lb[0]!,lb[1]!] W λe w'=>e=.returned (.bool (p x))/\Ext W w'
def xU(p:Ud->Bool)(L:List Ud)(w:World)(e:Ending)(w':World):Prop:=∃r:Int,e=.returned (.int .i64 r)/\decide (0<=r)=L.any p/\Ext w w'
def kI(p:Ud->Bool)(g:Nat)(v0 v1:Value)(eg:∀args w,(callFunc g args).run prog w=.ok (.enter g args) w)(AL:Option Addr)(cL m:Nat)(L:List Ud)(w:World)(hm:H0 (m=L.length))(hL:H0 (Uin w AL cL L))(hp:H0 (Lp g #[v0,v1] p L w)) :
  C3 185 #[.slice AL m cL,.func (.func g) #[] #[v0,v1]] w (xU p L w):=by
 have d:m<=9223372036854775807:=by rw[hm.o];exact hL.o.sl.le
 go_enter func185,ntmps185;go_wp2
 go_loopg [5,8] m (λgg _ s8 wr=>∃kk:Nat,kk<=m/\m-kk<=gg/\s8=.int .i64 kk/\H0 (Ext w wr)/\H0 (∀j,j<kk->p (L.getD j Ud.zero)=false))
 case atStart=>exact⟨0,AG _,by omega,rfl,j6 (Ext.refl w),j6 (λj hj=>absurd hj (DR _))⟩
 case round =>
  obtain⟨kk,h,hg,rfl,BW,AF⟩:=hrel;by_cases hlt:kk<m
  ·have f:(kk:Int)<(m:Int):=by omega
   obtain⟨ad,rfl,q0,q1,q2,q3⟩:=(hL.o.ext BW.o).at (i:=kk) (by rw[<-hm.o];exact hlt);have a:=hp.o wr (L.getD kk Ud.zero) (As (by rw[<-hm.o];exact hlt)) BW.o;have⟨x,hx⟩:=tz (L.getD kk Ud.zero);rw[hx]at q0 q1 q2 q3 a;replace hx:=j6 hx;unfold udV at a;cases hq:p x with
   | true =>
    rw[hq]at a;have HQ:=j6 hq;clear hq;go_wp2_with (go_at_fn g;refine a.mono ?_;rintro e w' ⟨rfl,c⟩)
    go_ret;exact⟨_,rfl,by rw[lK (by rw[<-hm.o];exact hlt) (by rw[hx.o];exact HQ.o)];simp,BW.o.trans c⟩
   | false =>
    rw[hq]at a;have HQ:=j6 hq;clear hq;go_wp2_with (go_at_fn g;refine a.mono ?_;rintro e w' ⟨rfl,c⟩)
    go_roundg (m-(kk+1))
    case measure=>omega
    case rel =>
     refine⟨kk+1,by omega,by omega,by go_num,j6 (BW.o.trans c),j6 (λj hj=>?_)⟩;by_cases hjk:j<kk
     ·exact AF.o j hjk
     ·obtain rfl:j=kk:=by omega
      rw[hx.o];exact HQ.o
  ·obtain rfl:kk=m:=by omega
   go_wp2;go_ret;exact⟨_,rfl,by rw[Xk (λj hj=>AF.o j (by rw[hm.o];exact hj))];rfl,BW.o⟩
def Hm(p:Ud->Bool)(g:Nat)(v0 v1:Value)(eg:∀args w,(callFunc g args).run prog w=.ok (.enter g args) w)(AL:Option Addr)(cL m:Nat)(L:List Ud)(w:World)(hm:H0 (m=L.length))(hL:H0 (Uin w AL cL L))(hp:H0 (Lp g #[v0,v1] p L w)) :
  C3 157 #[.slice AL m cL,.func (.func g) #[] #[v0,v1]] w λe w'=>e=.returned (.bool (L.any p))/\Ext w w':=by
 go_enter func157,ntmps157;go_wp2_with (go_at_call 185;refine(kI p g v0 v1 eg AL cL m L _ hm hL hp).mono ?_;rintro e w1 ⟨r,rfl,hr,x1⟩;replace hr:=j6 hr)
 go_ret;exact⟨by rw[<-hr.o];rfl,x1⟩
def Cb(u:UV):Bool:=decide (0<u.1.2.2.length)||decide (Bh u.1.1≠0)
def Br(U X:List TV)(u:UV):Bool:=!Ak U u.1.2||Ak X u.1.2
def It(x:Ud)(w:World)(hx:H0 (UdR w x))(hi:H0 (InU x))(G:Good w):C3 153 #[udV x] w λr w'=>r=.returned (.bool (Cb x.uv))/\Ext w w':=by
 obtain⟨A,c,l,⟨te,tA,tc,tl⟩,d⟩:=x;have⟨n,hn⟩:=E9 l.length;have⟨t,ht⟩:=E9 tl.length;have HR:H0 (∀W,Ext w W->Rw W A c l):=j6 (λW q=>hx.o.r.ext q);have HN:=j6 hn;have HT:H0 (Nr l):=j6 hi.o.row.txt;unfold udV;rw[<-hn,<-ht];have hq:Cb (Ud.uv ⟨A,c,l,⟨te,tA,tc,tl⟩,d⟩)=(decide (0<t)||decide (Bh l≠0)):=by rw[ht];rfl
 rw[hq];clear hn ht hq hx hi;have⟨k,hk⟩:=tz (Bh l);rw[hk];replace hk:=j6 hk;replace G:=j6 G;by_cases h0:0<t
 ·have f:(0:Int)<(t:Int):=by omega
  have a:decide (0<t)=true:=decide_eq_true h0;rw[a];clear a;go_enter func153,ntmps153;go_wp2;go_ret;exact⟨rfl,(Ext.refl w).alloc _⟩
 ·have f:¬(0:Int)<(t:Int):=by omega
  have a:decide (0<t)=false:=decide_eq_false h0;rw[a];clear a;have XA:H0 (Ext w (w.alloc (.cells #[.slice A n c,.int .u64 te,.slice tA t tc,.int .i64 d] 95))):=j6 ((Ext.refl w).alloc _);by_cases hk0:k=0
  ·subst hk0;go_enter func153,ntmps153;go_wp2_with (go_at_call 154;refine(Gf A c n l _ hk HN (j6 (HR.o _ XA.o)) HT (G.o.ext XA.o)).mono ?_;rintro r w1 ⟨rfl,x1⟩)
   go_ret;exact⟨rfl,XA.o.trans x1⟩
  ·have e:decide (k≠0)=true:=decide_eq_true hk0;have g:¬k=0:=hk0;rw[e];clear e hk0;go_enter func153,ntmps153;go_wp2_with (go_at_call 154;refine(Gf A c n l _ hk HN (j6 (HR.o _ XA.o)) HT (G.o.ext XA.o)).mono ?_;rintro r w1 ⟨rfl,x1⟩)
   go_ret;exact⟨by simp[g],XA.o.trans x1⟩
def Gg:∀args w,(callFunc 153 args).run prog w=.ok (.enter 153 args) w:=enters_of func153 (by kernel_rfl) rfl
def Hf(x:Ud)(gp gq gs:Nat)(AU:Option Addr)(nU cU:Nat)(U:List Tm)(AX:Option Addr)(nX cX:Nat)(X:List Tm)(w:World)(hx:H0 (UdR w x))(hp:H0 (Bk w gp 76 #[.pointer (some ⟨gs,0,none⟩)]))(hq:H0 (Bk w gq 27 #[.slice AX nX cX]))(hs:H0 (w.cell? ⟨gs,3,none⟩=some (.slice AU nU cU)))
  (hnU:H0 (nU=U.length)) (hU:H0 (Tin w AU cU U)) (hnX:H0 (nX=X.length)) (hX:H0 (Tin w AX cX X)):C3 155 #[udV x,.pointer (some ⟨gp,0,none⟩),.pointer (some ⟨gq,0,none⟩)] w λr w'=>r=.returned (.bool (Br (U.map Tm.v) (X.map Tm.v) x.uv))/\Ext w w':=by
 obtain⟨A,c,l,⟨te,tA,tc,tl⟩,d⟩:=x;have⟨n,hn⟩:=E9 l.length;have⟨t,ht⟩:=E9 tl.length;have HT:H0 (∀W,Ext w W->Sl W 1 tA t tc (wds tl)):=j6 (λW q=>by rw[ht];exact hx.o.t.ext q);unfold udV;rw[<-hn,<-ht];have hv:Br (U.map Tm.v) (X.map Tm.v) (Ud.uv ⟨A,c,l,⟨te,tA,tc,tl⟩,d⟩)=(!Ak (U.map Tm.v) (te,tl)||Ak (X.map Tm.v) (te,tl)):=rfl;rw[hv];clear hn ht hv hx;have⟨b1,f⟩:=tz (Ak (U.map Tm.v) (te,tl));have⟨b2,g⟩:=tz (Ak (X.map Tm.v) (te,tl));rw[f,g];have h:=j6 f;have j:=j6 g;clear f g;go_enter func155,ntmps155
 go_upto_region 1 with fail
 have⟨wb,a⟩:=E9 (w.alloc (.cells #[.slice A n c,.int .u64 te,.slice tA t tc,.int .i64 d] 95));have XB:H0 (Ext w wb):=j6 (by rw[a];exact(Ext.refl _).alloc _);have BT:H0 (Bk wb w.heap.size 95 #[.slice A n c,.int .u64 te,.slice tA t tc,.int .i64 d]):=j6 (by rw[a];exact Bk.new _ _ _);rw[<-a];clear a;have⟨gt,i⟩:=E9 w.heap.size;rw[<-i]at BT ⊢;clear i;have X_:Ext wb wb.drew:=(Ext.refl wb).drew;have P0:∀y:Xt wb.drew,y.W.cell? ⟨gp,0,none⟩=some (.pointer (some ⟨gs,0,none⟩)):=λy=>(hp.o.ext ((XB.o.trans X_).trans y.x)).cell 0;have P3:∀y:Xt wb.drew,y.W.cell? ⟨gs,3,none⟩=some (.slice AU nU cU):=λy=>((XB.o.trans X_).trans y.x).cell hs.o;have Q1:∀y:Xt wb.drew,y.W.cell? ⟨gt,1,none⟩=some (.int .u64 te):=λy=>(BT.o.ext (X_.trans y.x)).cell 1;have Q2:∀y:Xt wb.drew,y.W.cell? ⟨gt,2,none⟩=some (.slice tA t tc):=λy=>(BT.o.ext (X_.trans y.x)).cell 2;cases b1 with
 | false =>
  refine wro [0,1,3,7,0,16,63,127,255,511,511,1535,4095,8191,16383] (.flo [0,1,2,3,4,5] (.one 6 (.flo [7,8,9,10,11] (.one 12 (.flo [13,14] (.fin)))))) ?_
  (refine Aa (pks rfl) ?_;(repeat (go_big_quiet_step (fail)));refine oq ?_)
  refine Ac (pks rfl) ?_;intro K_ e;go_wp2_with (go_at_call 140;refine(Er AU cU nU U te tA t tc tl _ h hnU (j6 (hU.o.ext (XB.o.trans X_))) (j6 (HT.o _ (XB.o.trans X_)))).mono ?_;rintro r w1 ⟨rfl,x1⟩;have X1:=j6 (X_.trans x1))
  clear P0 P3 Q1 Q2
  (refine Aa (pks rfl) ?_;(repeat (go_big_quiet_step (fail)));refine oq ?_)
  refine Ac (pks rfl) ?_;intro K_ e;go_wp2
  (refine Aa (pks rfl) ?_;(repeat (go_big_quiet_step (fail)));refine oq ?_)
  refine Ad ?_;go_wp2;go_ret;exact⟨rfl,XB.o.trans X1.o⟩
 | true =>
  refine wro [0,1,3,7,0,16,63,127,255,511,511,1535,4095,8191,16383] (.flo [0,1,2,3,4,5] (.one 6 (.flo [7,8,9,10,11] (.one 12 (.flo [13,14] (.fin)))))) ?_
  (refine Aa (pks rfl) ?_;(repeat (go_big_quiet_step (fail)));refine oq ?_)
  refine Ac (pks rfl) ?_;intro K_ e;go_wp2_with (go_at_call 140;refine(Er AU cU nU U te tA t tc tl _ h hnU (j6 (hU.o.ext (XB.o.trans X_))) (j6 (HT.o _ (XB.o.trans X_)))).mono ?_;rintro r w1 ⟨rfl,x1⟩;have X1:=j6 (X_.trans x1))
  clear P0 P3 Q1 Q2;have P0:∀y:Xt w1,y.W.cell? ⟨gq,0,none⟩=some (.slice AX nX cX):=λy=>(hq.o.ext ((XB.o.trans X1.o).trans y.x)).cell 0;have Q1:∀y:Xt w1,y.W.cell? ⟨gt,1,none⟩=some (.int .u64 te):=λy=>(BT.o.ext (X1.o.trans y.x)).cell 1;have Q2:∀y:Xt w1,y.W.cell? ⟨gt,2,none⟩=some (.slice tA t tc):=λy=>(BT.o.ext (X1.o.trans y.x)).cell 2
  (refine Aa (pks rfl) ?_;(repeat (go_big_quiet_step (fail)));refine oq ?_)
  refine Ac (pks rfl) ?_;intro K_ e;go_wp2_with (go_at_call 140;refine(Er AX cX nX X te tA t tc tl _ j hnX (j6 (hX.o.ext (XB.o.trans X1.o))) (j6 (HT.o _ (XB.o.trans X1.o)))).mono ?_;rintro r w2 ⟨rfl,x2⟩;have X2:=j6 (X1.o.trans x2))
  (refine Aa (pks rfl) ?_;(repeat (go_big_quiet_step (fail)));refine oq ?_)
  refine Ad ?_;go_wp2;go_ret;exact⟨rfl,XB.o.trans X2.o⟩
def Hl:∀args w,(callFunc 155 args).run prog w=.ok (.enter 155 args) w:=enters_of func155 (by kernel_rfl) rfl
end Go.Proofs.YtdgbkpoickbidaaGreatDoor
