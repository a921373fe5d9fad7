/- Parts of the proof, put together. Conditions: each theorem states its own. -/
import Derived.Test.YtdgbkpoickbidaaGreatDoorHd9
set_option maxRecDepth 100000
set_option maxHeartbeats 16000000
open Go.RowKit
namespace Go.Proofs.YtdgbkpoickbidaaGreatDoor.UdS
def Pass1(B g c:Nat)(L:List Ud)(w wr:World)(a:Nat)(S T:List Ud):Prop :=
 S.length=a/\a+T.length=L.length/\(∀x∈T,x∈L)/\(∀T',Bks cmpC 20 T T'->Bks cmpC 20 L (S++T'))/\Arr wr B g c (S++T)/\w.grownBy wr (some g)
theorem Pass1.step{B g c a:Nat}{L:List Ud}{w wr w1:World}{S T1 T2 Z:List Ud}(h:Pass1 B g c L w wr a S (T1++T2))(h1:T1.length=20)(hz:Ae cmpC T1 Z)(ha:Arr w1 B g c (S++(Z++T2)))(hg:wr.grownBy w1 (some g)):Pass1 B g c L w w1 (a+20) (S++Z) T2:=by
 obtain⟨q1,q2,q3,q4,q5,q6⟩:=h;have lz:=stable_len hz;rw[AA]at q2;refine⟨by rw[AA];omega,by omega,fun x hx=>q3 x (CC _ hx),fun T' hT=>?_,by rw[AJ];exact ha,q6.trans hg⟩;rw[AJ];exact q4 (Z++T') (.more T1 Z T2 T' h1 hz hT)
theorem Pass1.last{B g c a:Nat}{L:List Ud}{w wr w1:World}{S T Z:List Ud}(h:Pass1 B g c L w wr a S T)(h1:T.length<=20)(hz:Ae cmpC T Z)(ha:Arr w1 B g c (S++Z))(hg:wr.grownBy w1 (some g)):Bks cmpC 20 L (S++Z)/\Arr w1 B g c (S++Z)/\w.grownBy w1 (some g):=
 ⟨h.2.2.2.1 Z (.last T Z h1 hz),ha,h.2.2.2.2.2.trans hg⟩
def Pass2(B g c s:Nat)(L:List Ud)(w wr:World)(S:List Ud):Prop:=Bks cmpC s L S/\Arr wr B g c S/\w.grownBy wr (some g)
def Pass3(B g c s:Nat)(L:List Ud)(w wr:World)(a:Nat)(D O R:List Ud):Prop :=
 D.length=a/\a+R.length=L.length/\Bks cmpC s O R/\(∀x∈R,x∈L)/\(∀R',Bks cmpC (2*s) O R'->Bks cmpC (2*s) L (D++R'))/\Arr wr B g c (D++R)/\w.grownBy wr (some g)
theorem bks_len{s:Nat}{O S:List Ud}(h:Bks cmpC s O S):S.length=O.length:=h.len stable_len
theorem Pass2.start{B g c s:Nat}{L:List Ud}{w wr:World}{S:List Ud}(h:Pass2 B g c s L w wr S):Pass3 B g c s L w wr 0 [] L S :=
 ⟨rfl,by rw[bks_len h.1,BR],h.1,fun x hx=>(h.1.mem cmpC_tot x).1 hx,fun _ h=>h,h.2.1,h.2.2⟩
theorem Pass3.step{B g c s a:Nat}{L:List Ud}{w wr w1:World}{D O1 O2 O3 S1 S2 S3 Z:List Ud}(h:Pass3 B g c s L w wr a D (O1++(O2++O3)) (S1++(S2++S3)))(l1:O1.length=s)(l2:O2.length=s)(s1:Ae cmpC O1 S1)(s2:Ae cmpC O2 S2)(h3:Bks cmpC s O3 S3)
  (hz:Ae cmpC (S1++S2) Z) (ha:Arr w1 B g c (D++(Z++S3))) (hg:wr.grownBy w1 (some g)):Pass3 B g c s L w w1 (a+2*s) (D++Z) O3 S3:=by
 obtain⟨q1,q2,q3,q4,q5,q6,q7⟩:=h;have e1:=stable_len s1;have e2:=stable_len s2;have lz:=stable_len hz;rw[AA]at lz;simp only[AA]at q2;refine⟨by rw[AA];omega,by omega,h3,fun x hx=>q4 x (CC _ (CC _ hx)),fun R' hR=>?_,by rw[AJ];exact ha,q7.trans hg⟩;have:=q5 (Z++R') (by
  rw[<-AJ];exact .more (O1++O2) Z O3 R' (by rw[AA];omega) (Ae.join s1 s2 hz) hR)
 rwa [AJ]
theorem Pass3.rest{B g c s a:Nat}{L:List Ud}{w wr w1:World}{D O1 O2 S1 S2 Z:List Ud}(h:Pass3 B g c s L w wr a D (O1++O2) (S1++S2))(hl:(O1++O2).length<=2*s)(s1:Ae cmpC O1 S1)(s2:Ae cmpC O2 S2)
  (hz:Ae cmpC (S1++S2) Z) (ha:Arr w1 B g c (D++(Z++[]))) (hg:wr.grownBy w1 (some g)):Pass2 B g c (2*s) L w w1 (D++Z):=by
 obtain⟨q1,q2,q3,q4,q5,q6,q7⟩:=h;exact⟨q5 Z (.last _ Z hl (Ae.join s1 s2 hz)),by rwa [AP]at ha,q7.trans hg⟩
theorem Pass3.none{B g c s a:Nat}{L:List Ud}{w wr:World}{D O R:List Ud}(h:Pass3 B g c s L w wr a D O R)(hs:0<s)(hl:O.length<=s):Pass2 B g c (2*s) L w wr (D++R):=by
 obtain⟨q1,q2,q3,q4,q5,q6,q7⟩:=h;exact⟨q5 R (.last O R (by omega) (q3.all cmpC_tot hs hl)),q6,q7⟩
theorem stable_any(B g c n:Nat)(L:List Ud)(w:World)(hn:n=L.length)(hbig:n<=1000000000)(h:Arr w B g c L)(hr:Rws w g L) :
  Calls Tryz.prog 181 #[.slice (some ⟨g,0,none⟩) n c,.int .i64 n,.func (.func 103) #[] #[]] w (Sorted B g c L w):=by
 have HR:=hid hr;have HN:=hid hn;have HP0:Hid (Pass1 B g c L w w 0 [] L):=hid ⟨rfl,BR _,fun _ h=>h,fun _ h=>h,h,CH w _⟩;clear h hr hn;go_enter Tryz.func181,Tryz.ntmps181;go_wp2
 go_loopg [7,8] n (fun z u v wr=>∃(a:Nat) (S T:List Ud),z=n-a/\a<=n/\u=.int .i64 a/\v=.int .i64 ((a+20:Nat):Int)/\Hid (Pass1 B g c L w wr a S T))
 case atStart=>exact⟨0,[],L,rfl,AE _,rfl,by go_num,HP0⟩
 case round =>
  obtain⟨a,S,T,rfl,han,rfl,rfl,HJ⟩:=hrel;clear HP0;by_cases hlt:a+20<=n
  ·obtain⟨T1,T2,rfl,ht⟩:=cut_at T 20 (by have:=HJ.out.2.1;have:=HN.out;omega);obtain⟨x0,S0,rfl⟩:=cons_of (l:=T1) (by omega);have HT:=hid ht;clear ht;have zl:((a+20:Nat):Int)<=(n:Int):=by omega
   go_wp2_with (go_at_call 222;refine(insSort_some B g c n a (a+20) S S0 T2 x0 _ HJ.out.1.symm (by have:=HJ.out.1;have:=HT.out;rw[AI]at this;omega) (by have:=HJ.out;have e1:=this.1;have e2:=this.2.1;have e3:=HN.out;rw[AA,e1];omega) HJ.out.2.2.2.2.1 ((HR.out.upd HJ.out.2.2.2.2.2).sub fun x hx=>HJ.out.2.2.1 x (BH _ hx))).mono ?_;rintro e w1 ⟨rfl,Z,s1,s2,s3⟩;have HJ1:=hid (HJ.out.step HT.out s1 s2 s3);clear s1 s2 s3)
   go_roundg (n-(a+20))
   case measure=>omega
   case rel=>exact⟨a+20,S++Z,T2,rfl,hlt,by go_num,by go_num,HJ1⟩
  ·have zl:¬((a+20:Nat):Int)<=(n:Int):=by omega
   have HX:∃P:World->Prop,(∀w1,P w1->∃S1,Pass2 B g c 20 L w w1 S1)/\Calls Tryz.prog 222 #[.slice (some ⟨g,0,none⟩) n c,.int .i64 a,.int .i64 n,.func (.func 103) #[] #[]] wr fun e w'=>e=.returned (.tuple #[])/\P w':=by
    refine⟨fun w1=>∃S1,Pass2 B g c 20 L w w1 S1,fun _ h=>h,?_⟩;have hl:=HJ.out.2.1;rw[<-HN.out]at hl;by_cases ht:0<T.length
    ·obtain⟨x0,S0,rfl⟩:=cons_of ht;refine(insSort_some B g c n a n S S0 [] x0 wr HJ.out.1.symm (by have:=HJ.out.1;rw[AI]at hl;omega) (by rw[AP,AA,HJ.out.1];exact hl.symm) (by rw[AP];exact HJ.out.2.2.2.2.1) ((HR.out.upd HJ.out.2.2.2.2.2).sub fun x hx=>HJ.out.2.2.1 x hx)).mono ?_;rintro e w1 ⟨rfl,Z,s1,s2,s3⟩;rw[AP]at s2;exact⟨rfl,_,HJ.out.last (by omega) s1 s2 s3⟩
    ·have e:T=[]:=nil_or ht;subst e;refine(insSort_none _ n c a n wr (by rw[CB]at hl;omega) (by omega)).mono ?_;rintro e w1 ⟨rfl,rfl⟩;exact⟨rfl,_,HJ.out.last (AE _) Ae.nil HJ.out.2.2.2.2.1 (CH _ _)⟩
   obtain⟨PP,hp1,hp2⟩:=HX;have HP1:=hid hp1;have HP2:=hid hp2;clear hp1 hp2;go_wp2_with (go_at_call 222;refine HP2.out.mono ?_;rintro e w1 ⟨rfl,s1⟩;obtain⟨S1,s2⟩:=HP1.out _ s1;have HS:=hid s2;clear s1 s2)
   clear HP1 HP2
   go_loopg [6,7,8] (n-20) (fun z u v t wr=>∃(s:Nat) (S:List Ud),z=n-s/\0<s/\s<=3000000000/\u=.int .i64 s/\Hid (Pass2 B g c s L w wr S))
   case atStart=>exact⟨20,S1,rfl,by omega,by omega,rfl,HS⟩
   case round =>
    obtain⟨s,S,rfl,hs0,hs9,rfl,HQ⟩:=hrel;clear HS HJ;obtain⟨wo,hwo⟩:∃wo:World,wo=wr:=⟨_,rfl⟩;rw[<-hwo]at HQ ⊢;clear hwo;by_cases hsn:s<n
    ·have HQ3:=hid HQ.out.start;go_wp2
     go_loopg [7,8] n (fun z u v wr=>∃(a:Nat) (D O R:List Ud),z=n-a/\a<=n/\u=.int .i64 a/\v=.int .i64 ((a+2*s:Nat):Int)/\Hid (Pass3 B g c s L w wr a D O R))
     case atStart=>exact⟨0,[],L,S,rfl,AE _,rfl,by go_num,HQ3⟩
     case round =>
      obtain⟨a,D,O,R,rfl,han,rfl,rfl,HI⟩:=hrel;clear HQ3;have hOl:O.length=R.length:=(bks_len HI.out.2.2.1).symm;have hRl:a+R.length=n:=by rw[HN.out];exact HI.out.2.1
      by_cases hlt:a+2*s<=n
      ·obtain⟨O1,S1,O2,S2,O3,S3,rfl,rfl,l1,l2,s1,s2,s3⟩:=HI.out.2.2.1.two hs0 (by omega);obtain⟨ms,hms⟩:∃q,q=a+s:=⟨_,rfl⟩;have zm:(a:Int)+(s:Int)=(ms:Int):=by omega
       have e1:=stable_len s1;have e2:=stable_len s2;have HG:=hid (And.intro l1 (And.intro l2 (And.intro s1 (And.intro s2 s3))));have HE:=hid (And.intro e1 (And.intro e2 hms));have hmn:ms<=n:=by omega
       clear l1 l2 s1 s2 s3 e1 e2 hOl hRl hms;have zl:((a+2*s:Nat):Int)<=(n:Int):=by omega
       go_wp2_with (go_at_call 223;refine(symM_all (S1.length+S2.length) B g c n a ms (a+2*s) D S1 S2 S3 _ (AD _) (by have:=HE.out;have:=HG.out;omega) (by have:=HE.out;have:=HG.out;omega) HI.out.1.symm (by have:=HE.out;have:=HG.out;omega) (by have:=HE.out;have:=HG.out;omega) (by have:=HI.out.2.1;have:=HI.out.1;have:=HN.out;rw[AA];omega) HG.out.2.2.1.sorted HG.out.2.2.2.1.sorted HI.out.2.2.2.2.2.1 ((HR.out.upd HI.out.2.2.2.2.2.2).sub fun x hx=>HI.out.2.2.2.1 x (by rcases AR.1 hx with hx|hx<;>simp[hx])) hbig).mono ?_;rintro e w1 ⟨rfl,Z,z1,z2,z3⟩;have HI1:=hid (HI.out.step HG.out.1 HG.out.2.1 HG.out.2.2.1 HG.out.2.2.2.1 HG.out.2.2.2.2 z1 z2 z3);clear z1 z2 z3)
       go_roundg (n-(a+2*s))
       case measure=>omega
       case rel=>exact⟨a+2*s,D++Z,O3,S3,rfl,hlt,by go_num,by go_num,HI1⟩
      ·have zl:¬((a+2*s:Nat):Int)<=(n:Int):=by omega
       obtain⟨ms,hms⟩:∃q,q=a+s:=⟨_,rfl⟩;have zm:(a:Int)+(s:Int)=(ms:Int):=by omega
       by_cases hm:a+s<n
       ·obtain⟨O1,S1,O2,S2,rfl,rfl,l1,s1,s2⟩:=HI.out.2.2.1.rest cmpC_tot hs0 (by omega) (by omega);have e1:=stable_len s1;have e2:=stable_len s2;have HO:Hid ((O1++O2).length<=2*s):=hid (by omega);have HG:=hid (And.intro l1 (And.intro s1 s2));have HE:=hid (And.intro e1 (And.intro e2 (And.intro hRl hms)));have zn:(ms:Int)<(n:Int):=by omega
        clear l1 s1 s2 e1 e2 hOl hRl hms;go_wp2_with (go_at_call 223;refine(symM_all (S1.length+S2.length) B g c n a ms n D S1 S2 [] _ (AD _) (by have:=HE.out;have:=HG.out;omega) (by have:=HE.out;have:=HG.out;simp only[AA]at *;omega) HI.out.1.symm (by have:=HE.out;have:=HG.out;omega) (by have:=HE.out;have:=HG.out;simp only[AA]at *;omega) (by have:=HI.out.2.1;have:=HI.out.1;have:=HN.out;rw[AP,AA];omega) HG.out.2.1.sorted HG.out.2.2.sorted (by rw[AP];exact HI.out.2.2.2.2.2.1) ((HR.out.upd HI.out.2.2.2.2.2.2).sub fun x hx=>HI.out.2.2.2.1 x hx) hbig).mono ?_;rintro e w1 ⟨rfl,Z,z1,z2,z3⟩;have HI1:=hid (HI.out.rest HO.out HG.out.2.1 HG.out.2.2 z1 z2 z3);clear z1 z2 z3)
        go_roundg (n-2*s)
        case measure=>omega
        case rel=>exact⟨2*s,D++Z,rfl,by omega,by omega,by go_num,HI1⟩
       ·have zn:¬(ms:Int)<(n:Int):=by omega
        have HI1:=hid (HI.out.none hs0 (by omega));have hmb:ms<=2000000000:=by omega
        clear hOl hRl hms;go_wp2
        go_roundg (n-2*s)
        case measure=>omega
        case rel=>exact⟨2*s,D++R,rfl,by omega,by omega,by go_num,HI1⟩
    ·have HE:Hid (Sorted B g c L w (.returned (.tuple #[])) wo):=hid ⟨rfl,S,HQ.out.1.all cmpC_tot hs0 (by rw[<-HN.out];omega),HQ.out.2.1,HQ.out.2.2⟩;go_wp2
     go_end0
     exact HE.out
theorem sortStable_any(B g c n:Nat)(L:List Ud)(w:World)(hn:n=L.length)(hbig:n<=1000000000)(h:Arr w B g c L)(hr:Rws w g L) :
  Calls Tryz.prog 102 #[.slice (some ⟨g,0,none⟩) n c,.func (.func 103) #[] #[]] w (Sorted B g c L w):=by
 have H:=hid h;have HR:=hid hr;have HN:=hid hn;clear h hr hn;go_enter Tryz.func102,Tryz.ntmps102;go_wp2_with (go_at_call 181;refine(stable_any B g c n L _ HN.out hbig H.out HR.out).mono ?_;rintro e w1 ⟨rfl,s1⟩;have S1:=hid s1;clear s1)
 go_end0
 exact⟨rfl,S1.out⟩
end Go.Proofs.YtdgbkpoickbidaaGreatDoor.UdS
namespace Go.Proofs.YtdgbkpoickbidaaGreatDoor
namespace UdS
theorem cY(A:Option Addr)(n c:Nat)(w:World)(hn:n<=c)(hc:c<=9223372036854775807) :
  Calls Tryz.prog 105 #[.slice A n c] w fun e w'=>e=.returned (.slice A n n)/\w=w':=by
 go_enter Tryz.func105,Tryz.ntmps105;cases A with
 | none =>
  go_wp2;go_ret;exact⟨by simp,rfl⟩
 | some a =>
  go_wp2;go_ret;exact⟨by simp,rfl⟩
theorem Zg(A:Option Addr)(c:Nat)(w:World) :
  Calls Tryz.prog 102 #[.slice A 0 c,.func (.func 103) #[] #[]] w fun e w'=>e=.returned (.tuple #[])/\w=w':=by
 have hs:∀W:World,Calls Tryz.prog 181 #[.slice A 0 c,.int .i64 0,.func (.func 103) #[] #[]] W fun e w'=>e=.returned (.tuple #[])/\W=w':=fun W=>by
  go_enter Tryz.func181,Tryz.ntmps181;go_wp2
  go_loop [7,8] (fun u v=>u=.int .i64 0/\v=.int .i64 20) (fun _ _=>0)
  case atStart=>exact⟨rfl,rfl⟩
  case round =>
   obtain⟨rfl,rfl⟩:=hrel;go_wp2_with (go_at_call 222;refine(insSort_none _ 0 c 0 0 _ (AD _) (by decide)).mono ?_;rintro e w1 ⟨rfl,rfl⟩)
   go_loop [6,7,8] (fun u v z=>u=.int .i64 20) (fun _ _ _=>0)
   case atStart=>rfl
   case round =>
    subst hrel;go_wp2
    go_end0
    exact⟨rfl,rfl⟩
 go_enter Tryz.func102,Tryz.ntmps102;go_wp2_with (go_at_call 181;refine(hs _).mono ?_;rintro e w1 ⟨rfl,rfl⟩)
 go_end0
 exact⟨rfl,rfl⟩
theorem eY(A:Option Addr)(c:Nat)(w:World) :
  Calls Tryz.prog 106 #[.slice A 0 c,.func (.func 107) #[] #[]] w fun e w'=>e=.returned (.slice A 0 c)/\w=w':=by
 have hs:∀W:World,Calls Tryz.prog 185 #[.slice A 0 c,.func (.func 107) #[] #[]] W fun e w'=>e=.returned (.int .i64 (-1))/\W=w':=fun W=>by
  go_enter Tryz.func185,Tryz.ntmps185;go_wp2
  go_loop [8] (fun v=>v=.int .i64 0) (fun _=>0)
  case atStart=>rfl
  case round =>
   subst hrel;go_wp2;go_ret;exact⟨rfl,rfl⟩
 go_enter Tryz.func106,Tryz.ntmps106;go_wp2_with (go_at_call 185;refine(hs _).mono ?_;rintro e w1 ⟨rfl,rfl⟩)
 go_ret;exact⟨rfl,rfl⟩
theorem nK(A:Option Addr)(c:Nat)(w:World)(h:Hid (Uin w A c [])) :
  Calls Tryz.prog 16 #[.slice A 0 c] w (Yz w []):=by
 have hn:Hid ((0:Nat)=([]:List Ud).length):=hid rfl;go_enter Tryz.func16,Tryz.ntmps16;go_wp2_with (first
  | (go_at_call 101;refine(Mn A 0 c [] _ hn h (by decide)).mono ?_;rintro r w1 ⟨A1,c1,rfl,o1,x1⟩;have X1:=hid x1;clear o1 x1)
  | (go_at_call 102;refine(Zg A1 c1 _).mono ?_;rintro e w2 ⟨rfl,rfl⟩)
  | fail)
 go_loop [4,13] (fun u v=>u=.slice none 0 0/\v=.int .i64 0) (fun _ _=>0)
 case atStart=>exact⟨rfl,rfl⟩
 case round =>
  obtain⟨rfl,rfl⟩:=hrel;go_wp2_with (first
   | (go_at_call 106;refine(eY none 0 _).mono ?_;rintro e w2 ⟨rfl,rfl⟩)
   | (go_at_call 105;refine(cY none 0 0 _ (AD _) (by decide)).mono ?_;rintro e w3 ⟨rfl,rfl⟩)
   | fail)
  go_ret;exact⟨none,0,[],by simp,rfl,Cl.nil _ _,rfl,X1.out⟩
theorem nJ(A:Option Addr)(c n:Nat)(L:List Ud)(w:World)(h0:0<n)(hn:Hid (n=L.length))(h:Hid (Uin w A c L))(h9:n<=1000000)(hin:Hid (∀x∈L,InN x.uv))(hr:Hid (∀x∈L,x.l.length<=1000000000/\x.t.l.length<=1000000000)) :
  Calls Tryz.prog 16 #[.slice A n c] w (Yz w L):=by
 have m1:True:=trivial;go_enter Tryz.func16,Tryz.ntmps16;go_wp2_with (first
  | (go_at_call 101;have mk:=m1;clear m1 mk;refine(Mn A n c L _ hn h h9).mono ?_;rintro r w1 ⟨A1,c1,rfl,o1,x1⟩;have hf:=o1.form h0;obtain⟨g,eA,hb,hg1,hg2,_,_⟩:=hf;subst eA;have HAr:Hid (Arr w1 w.heap.size g c1 L):=hid ⟨by rw[<-hn.out];exact o1,by have:=o1.le.1;omega⟩;have HRw:Hid (Rws w1 g L):=hid (Rws.of h.out.ls x1 hg1);have X1:=hid x1;have HG:=hid hg1;clear o1 x1 hb hg1 hg2;have m2:True:=trivial)
  | (go_at_call 102;have mk:=m2;clear m2 mk;refine(sortStable_any w.heap.size g c1 n L _ hn.out (by omega) HAr.out HRw.out).mono ?_;rintro e w2 ⟨rfl,S,st,ar,up⟩;have HST:=hid st;have HSL:Hid (n=S.length):=hid (by rw[stable_len st];exact hn.out);have HMem:Hid (∀x∈S,x∈L):=hid (fun x hx=>(st.mem cmpC_tot x).1 hx);have X2:Hid (Ext w w2):=hid (X1.out.grown up (fun k e=>by cases e;exact HG.out));have HS:Hid (Uin w2 (some ⟨g,0,none⟩) c1 S):=hid ⟨ar.1.sl,fun x hx=>((HRw.out.upd up) x (HMem.out x hx)).1⟩;have hgw:w.heap.size<=w2.heap.size:=X2.out.size;clear st ar up)
  | fail)
 have HSI:Hid (∀x∈S,InN x.uv):=hid (fun x hx=>hin.out x (HMem.out x hx));have HSR:Hid (∀x∈S,x.l.length<=1000000000/\x.t.l.length<=1000000000):=hid (fun x hx=>hr.out x (HMem.out x hx));have HP0:Hid (Gt w w2 S w2 0 none 0 []):=hid ⟨Cl.nil _ _,rfl,AD _,Ext.refl _,X2.out⟩;clear h hr
 go_loopg [4,13] n (fun z u v wr=>∃(i m:Nat) (A2:Option Addr) (c2:Nat) (O:List Ud),z=n-i/\i<=n/\m<=i/\u=.slice A2 m c2/\v=.int .i64 i/\Hid (m=O.length)/\Hid (∀k,blk A2 c2=some k->w2.heap.size<=k)/\Hid (Gt w w2 S wr i A2 c2 O))
 case atStart=>exact⟨0,0,none,0,[],rfl,AE _,AD _,rfl,rfl,hid rfl,hid (fun k hk=>nomatch hk),HP0⟩
 case round =>
  clear HP0;obtain⟨i,m,A2,c2,O,rfl,hi,hmi,rfl,rfl,HM,HLo,HP⟩:=hrel;by_cases hlt:i<n
  ·have hil:i<S.length:=by rw[<-HSL.out];exact hlt
   obtain⟨ad,eA,p0,p1,p2,p3⟩:=(HS.out.ext HP.out.ext).at hil;cases eA;rw[show(⟨g,0,none⟩:Addr).add (i*4)=⟨g,i*4,none⟩from by unfold Addr.add;split<;>simp_all]at p0 p1 p2 p3;have hmm:=Ar hil;obtain⟨x,hx⟩:∃x,S.getD i Ud.zero=x:=⟨_,rfl⟩;rw[hx]at p0 p1 p2 p3 hmm;obtain⟨nx,hnx⟩:∃nx,nx=x.l.length:=⟨_,rfl⟩;obtain⟨tx,htx⟩:∃tx,tx=x.t.l.length:=⟨_,rfl⟩;rw[<-hnx]at p0;rw[<-htx]at p2;have HNX:=hid hnx;have HTX:=hid htx;have HX:=hid hx;have HIL:=hid hil;have hnx9:nx<=1000000000:=by rw[hnx];exact(HSR.out x hmm).1
   have htx9:tx<=1000000000:=by rw[htx];exact(HSR.out x hmm).2
   have HUX:Hid (∀W,Ext w2 W->UdR W x):=hid (fun W q=>(HS.out.ls x hmm).ext q);obtain⟨wb,hwb⟩:∃z,z=wr.alloc (.cells #[.slice x.A nx x.c,.int .u64 x.t.e,.slice x.t.A tx x.t.c,.int .i64 x.d] 95):=⟨_,rfl⟩;have XB:Ext wr wb:=by rw[hwb];exact(Ext.refl wr).alloc _
   have BX:Hid (Bk wb wr.heap.size 95 #[.slice x.A nx x.c,.int .u64 x.t.e,.slice x.t.A tx x.t.c,.int .i64 x.d]):=hid (by rw[hwb];exact Bk.new _ _ _);have HB:Hid (Gt w w2 S wb i A2 c2 O):=hid (HP.out.mono XB);clear hil hmm hx hnx htx
   go_upto_region 7 with fail
   rw[<-hwb];clear hwb p0 p1 p2 p3;obtain⟨gu,hgu⟩:∃k,k=wr.heap.size:=⟨_,rfl⟩;rw[<-hgu]at BX ⊢;clear hgu;have X:Ext wb wb.drew:=(Ext.refl wb).drew;have q0:∀z:Xt wb.drew,z.W.cell? ⟨gu,0,none⟩=some (.slice x.A nx x.c):=fun z=>(BX.out.ext (X.trans z.x)).cell 0;have q1:∀z:Xt wb.drew,z.W.cell? ⟨gu,1,none⟩=some (.int .u64 x.t.e):=fun z=>(BX.out.ext (X.trans z.x)).cell 1;have q2:∀z:Xt wb.drew,z.W.cell? ⟨gu,2,none⟩=some (.slice x.t.A tx x.t.c):=fun z=>(BX.out.ext (X.trans z.x)).cell 2;have q3:∀z:Xt wb.drew,z.W.cell? ⟨gu,3,none⟩=some (.int .i64 x.d):=fun z=>(BX.out.ext (X.trans z.x)).cell 3;cases i with
   | zero =>
    have HOn:Hid (O=[]\/∃M y,O=M++[y]/\¬Hp y.k x.k=0):=hid (.inl (AG (by rw[<-HM.out];omega)));refine wro [0,1,3,7,7,23,63,127,7,511,1023,2047] (.flo [0,1,2,3,4,5,6,7,8] (.one 9 (.flo [10,11] (.fin)))) ?_
    (refine Aa (pks rfl) ?_;(repeat (go_big_quiet_step (fail)));refine oq ?_)
    refine Ac (pks rfl) ?_;intro K_ hK_;go_wp2
    (refine Aa (pks rfl) ?_;(repeat (go_big_quiet_step (fail)));refine oq ?_)
    refine Ad ?_;have HB:=hid (HB.out.mono X);obtain⟨w3,hw3⟩:∃w3,w3=wb.drew:=⟨_,rfl⟩;have BX:=hid (BX.out.ext X);rw[<-hw3]at HB BX ⊢;clear hw3 q0 q1 q2 q3 X;have BX0:=BX.out.cell 0;have BX1:=BX.out.cell 1;have BX2:=BX.out.cell 2;have BX3:=BX.out.cell 3;have HUW:=hid (HUX.out _ HB.out.ext);have hw3:w.heap.size<=w3.heap.size:=AQ hgw HB.out.ext.size;have m5:True:=trivial;go_wp2_with (first
     | (go_at_call 104;have mk:=m5;clear m5 mk;refine(Qj x nx tx _ HNX HTX HUW hnx9 htx9).mono ?_;rintro e w4 ⟨A4,c4,B4,b4,rfl,o4,t4,x4⟩;have O4:=hid o4;have T4:=hid t4;have X4:=hid x4;have hw4:w.heap.size<=(w4.alloc (.cells (#[.slice A4 nx c4,.int .u64 x.t.e,.slice B4 tx b4,.int .i64 x.d]:Array Value) 95)).heap.size:=(by have:=x4.size;simp;omega);clear o4 t4 x4;have m6:True:=trivial)
     | (at_builtin;have mk:=m6;clear m6 mk;refine Ab _ Aw w.heap.size _ _ rfl rfl A2 m c2 (Ah O) rfl (by have:=(HB.out.out.ext X4.out).own.alloc (.cells (#[.slice A4 nx c4,.int .u64 x.t.e,.slice B4 tx b4,.int .i64 x.d]:Array Value) 95);rwa [<-HM.out]at this) (some ⟨w4.heap.size,0,none⟩) 1 1 [.slice A4 nx c4,.int .u64 x.t.e,.slice B4 tx b4,.int .i64 x.d] rfl (Sl.one w4 #[.slice A4 nx c4,.int .u64 x.t.e,.slice B4 tx b4,.int .i64 x.d] 95 4 rfl) (by intro u hu;simp at hu;rcases hu with rfl|rfl|rfl|rfl<;>rfl) (by omega) (by decide) hw4 ?_;intro A6 c6 w6 o6 g6 h6;have HN6:Hid (Gt w w2 S w6 (0+1) A6 c6 (O++[⟨A4,c4,x.l,⟨x.t.e,B4,b4,x.t.l⟩,x.d⟩])):=hid ⟨Cl.push HB.out.out X4.out (x:=⟨A4,c4,x.l,⟨x.t.e,B4,b4,x.t.l⟩,x.d⟩) (by have:=O4.out;rwa [HNX.out]at this) (by have:=T4.out;rwa [HTX.out]at this) hw3 _ (by have:=o6;rw[HM.out,HNX.out,HTX.out]at this;exact this) g6,cP HB.out.is HIL.out HX.out HOn.out rfl,by rw[AA,<-HM.out];show m+1<=_;omega,((HB.out.ext.trans X4.out).alloc _).grown g6 (fun k hk=>HLo.out k hk),X2.out⟩;have HL6:Hid (∀k,blk A6 c6=some k->w2.heap.size<=k):=hid (fun k hk=>by rcases h6 with ⟨e1,e2⟩|⟨e1,_⟩;(subst e1 e2;exact HLo.out k hk);(rw[e1]at hk;injection hk with hk;have q1:=HB.out.ext.size;have q2:=X4.out.size;have q3:=((Ext.refl w4).alloc (.cells (#[.slice A4 nx c4,.int .u64 x.t.e,.slice B4 tx b4,.int .i64 x.d]:Array Value) 95)).size;omega));clear o6 g6 h6)
     | fail)
    go_roundg (n-(0+1))
    case measure=>omega
    case rel=>exact⟨0+1,m+1,A6,c6,_,rfl,by omega,by omega,rfl,by go_num,hid (by rw[AA,HM.out];rfl),HL6,HN6⟩
   | succ j =>
    have hjl:j<S.length:=by have:=HIL.out;omega
    obtain⟨ad,eA,s0,s1,s2,s3⟩:=(HS.out.ext (HB.out.ext.trans X)).at hjl;cases eA;rw[show(⟨g,0,none⟩:Addr).add (j*4)=⟨g,j*4,none⟩from by unfold Addr.add;split<;>simp_all]at s0 s1 s2 s3;have hms:=Ar hjl;obtain⟨M,y,hOM,hkk⟩:=xS HST.out.sorted HSI.out HB.out.is hjl;obtain⟨s,hs⟩:∃s,S.getD j Ud.zero=s:=⟨_,rfl⟩;rw[hs]at s0 s1 s2 s3 hms hkk;obtain⟨ns,hns⟩:∃ns,ns=s.l.length:=⟨_,rfl⟩;obtain⟨ts,hts⟩:∃ts,ts=s.t.l.length:=⟨_,rfl⟩;rw[<-hns]at s0;rw[<-hts]at s2;have HNS:=hid hns;have HTS:=hid hts;have HUS:Hid (∀W,Ext w2 W->UdR W s):=hid (fun W q=>(HS.out.ls s hms).ext q);have S0:∀z:Xt wb.drew,z.W.cell? ⟨g,j*4,none⟩=some (.slice s.A ns s.c):=fun z=>z.x.cell s0;have S1:∀z:Xt wb.drew,z.W.cell? ⟨g,j*4+1,none⟩=some (.int .u64 s.t.e):=fun z=>z.x.cell s1;have S2:∀z:Xt wb.drew,z.W.cell? ⟨g,j*4+2,none⟩=some (.slice s.t.A ts s.t.c):=fun z=>z.x.cell s2;have S3:∀z:Xt wb.drew,z.W.cell? ⟨g,j*4+3,none⟩=some (.int .i64 s.d):=fun z=>z.x.cell s3;obtain⟨v,hv⟩:∃v,cmpC s x=v:=⟨_,rfl⟩;have HV:=hid hv;have HKK:Hid (Hp y.k x.k=0↔v=0):=hid (by rw[<-hv];exact hkk x);have HOM:=hid hOM;have HU1:=hid (HUS.out _ (HB.out.ext.trans X));have HU2:=hid (HUX.out _ (HB.out.ext.trans X));have za:decide ((0:Int)<(j:Int)+1)=true:=decide_eq_true (by omega);clear hs hms hns hts hv hOM hkk hjl s0 s1 s2 s3;by_cases hv0:v=0
    ·have HC:Hid (Hp y.k x.k=0):=hid (HKK.out.2 hv0);subst hv0;clear HKK;refine wro [0,1,3,7,7,23,63,127,7,511,1023,2047] (.flo [0,1,2,3,4,5,6,7,8] (.one 9 (.flo [10,11] (.fin)))) ?_
     (refine Aa (pks rfl) ?_;(repeat (go_big_quiet_step (fail)));refine oq ?_)
     refine Ac (pks rfl) ?_;intro K_ hK_;go_wp2_with (go_at_call 103;refine(Cu s x ns nx ts tx 0 _ HV HNS HNX HTS HTX HU1 HU2).mono ?_;rintro e w3 ⟨rfl,x3⟩)
     (refine Aa (pks rfl) ?_;(repeat (go_big_quiet_step (fail)));refine oq ?_)
     refine Ad ?_;have HB:=hid (HB.out.mono (X.trans x3));have BX:=hid (BX.out.ext (X.trans x3));clear q0 q1 q2 q3 S0 S1 S2 S3 x3;obtain⟨p,hp⟩:∃p,p=M.length:=⟨_,rfl⟩;have hmp:m=p+1:=by rw[HM.out,HOM.out,AA,hp];rfl
     subst hmp;have HPL:=hid hp;have hob:=HB.out.out.own;have hof:=hob.form (by rw[<-HM.out];omega);obtain⟨g2,eA2,hb2,hg2,_,hc2,hf2⟩:=hof;subst eA2;have hg3:w2.heap.size<=g2:=HLo.out g2 hb2;have hyy:(Ah O)[p*4+3]?=some (.int .i64 y.d):=by
      rw[Eg O p 3 (by rw[<-HM.out];omega) (by omega),HOM.out,AB,BD (by rw[hp];exact AD _),hp,DG];rfl
     have y3:=hc2 _ _ hyy;have f3:=hf2 (p*4+3);have u3:=BX.out.cell 3;obtain⟨sm,hsm⟩:∃sm,w64 (y.d+x.d)=sm:=⟨_,rfl⟩;have hsm2:IntKind.i64.wrap (y.d+x.d)=sm:=hsm;have HSM:=hid hsm;have X3:Ext w3 w3.drew:=(Ext.refl w3).drew;have Y3:∀z:Xt w3.drew,z.W.cell? ⟨g2,p*4+3,none⟩=some (.int .i64 y.d):=fun z=>(X3.trans z.x).cell y3;have U3:∀z:Xt w3.drew,z.W.cell? ⟨gu,3,none⟩=some (.int .i64 x.d):=fun z=>(X3.trans z.x).cell u3;have HB3:Hid (Gt w w2 S (w3.setCell ⟨g2,p*4+3,none⟩ (.int .i64 sm)) (j+1+1) (some ⟨g2,0,none⟩) c2 (M++[⟨y.A,y.c,y.l,y.t,sm⟩])):=hid (Gt.join (by have:=HB.out;rwa [HOM.out]at this) HIL.out HX.out HC.out HPL.out HSM.out hg3);clear hyy hp hsm hob hc2 hf2 hb2
     go_upto_region 8 with fail
     refine wro [0,0,2,6,15,31,63,0,128,511,1023,2047,4095] (.flo [0,1,2,3,4,5,6,7,8,9,10,11] (.one 12 (.fin))) ?_
     (refine Aa (pks rfl) ?_;(repeat (go_big_quiet_step (fail)));refine oq ?_)
     refine Ac (pks rfl) ?_;intro K_ hK_;go_wp2;refine Ad ?_;go_wp2
     go_roundg (n-(j+1+1))
     case measure=>omega
     case rel=>exact⟨j+1+1,p+1,some ⟨g2,0,none⟩,c2,_,rfl,by omega,by omega,rfl,by go_num,hid (by rw[AA,HPL.out];rfl),HLo,hid (HB3.out.mono (Ext.refl _).drew)⟩
    ·have zv:(v==0)=false:=by simpa using hv0
     have HOn:Hid (O=[]\/∃M y,O=M++[y]/\¬Hp y.k x.k=0):=hid (.inr ⟨M,y,HOM.out,fun q=>hv0 (HKK.out.1 q)⟩);refine wro [0,1,3,7,7,23,63,127,7,511,1023,2047] (.flo [0,1,2,3,4,5,6,7,8] (.one 9 (.flo [10,11] (.fin)))) ?_
     (refine Aa (pks rfl) ?_;(repeat (go_big_quiet_step (fail)));refine oq ?_)
     refine Ac (pks rfl) ?_;intro K_ hK_;go_wp2_with (go_at_call 103;refine(Cu s x ns nx ts tx v _ HV HNS HNX HTS HTX HU1 HU2).mono ?_;rintro e w3 ⟨rfl,x3⟩)
     (refine Aa (pks rfl) ?_;(repeat (go_big_quiet_step (fail)));refine oq ?_)
     refine Ad ?_;have HB:=hid (HB.out.mono (X.trans x3));have BX:=hid (BX.out.ext (X.trans x3));clear q0 q1 q2 q3 S0 S1 S2 S3 x3 X;have BX0:=BX.out.cell 0;have BX1:=BX.out.cell 1;have BX2:=BX.out.cell 2;have BX3:=BX.out.cell 3;have HUW:=hid (HUX.out _ HB.out.ext);have hw3:w.heap.size<=w3.heap.size:=AQ hgw HB.out.ext.size;have m5:True:=trivial;go_wp2_with (first
      | (go_at_call 104;have mk:=m5;clear m5 mk;refine(Qj x nx tx _ HNX HTX HUW hnx9 htx9).mono ?_;rintro e w4 ⟨A4,c4,B4,b4,rfl,o4,t4,x4⟩;have O4:=hid o4;have T4:=hid t4;have X4:=hid x4;have hw4:w.heap.size<=(w4.alloc (.cells (#[.slice A4 nx c4,.int .u64 x.t.e,.slice B4 tx b4,.int .i64 x.d]:Array Value) 95)).heap.size:=(by have:=x4.size;simp;omega);clear o4 t4 x4;have m6:True:=trivial)
      | (at_builtin;have mk:=m6;clear m6 mk;refine Ab _ Aw w.heap.size _ _ rfl rfl A2 m c2 (Ah O) rfl (by have:=(HB.out.out.ext X4.out).own.alloc (.cells (#[.slice A4 nx c4,.int .u64 x.t.e,.slice B4 tx b4,.int .i64 x.d]:Array Value) 95);rwa [<-HM.out]at this) (some ⟨w4.heap.size,0,none⟩) 1 1 [.slice A4 nx c4,.int .u64 x.t.e,.slice B4 tx b4,.int .i64 x.d] rfl (Sl.one w4 #[.slice A4 nx c4,.int .u64 x.t.e,.slice B4 tx b4,.int .i64 x.d] 95 4 rfl) (by intro u hu;simp at hu;rcases hu with rfl|rfl|rfl|rfl<;>rfl) (by omega) (by decide) hw4 ?_;intro A6 c6 w6 o6 g6 h6;have HN6:Hid (Gt w w2 S w6 ((j+1)+1) A6 c6 (O++[⟨A4,c4,x.l,⟨x.t.e,B4,b4,x.t.l⟩,x.d⟩])):=hid ⟨Cl.push HB.out.out X4.out (x:=⟨A4,c4,x.l,⟨x.t.e,B4,b4,x.t.l⟩,x.d⟩) (by have:=O4.out;rwa [HNX.out]at this) (by have:=T4.out;rwa [HTX.out]at this) hw3 _ (by have:=o6;rw[HM.out,HNX.out,HTX.out]at this;exact this) g6,cP HB.out.is HIL.out HX.out HOn.out rfl,by rw[AA,<-HM.out];show m+1<=_;omega,((HB.out.ext.trans X4.out).alloc _).grown g6 (fun k hk=>HLo.out k hk),X2.out⟩;have HL6:Hid (∀k,blk A6 c6=some k->w2.heap.size<=k):=hid (fun k hk=>by rcases h6 with ⟨e1,e2⟩|⟨e1,_⟩;(subst e1 e2;exact HLo.out k hk);(rw[e1]at hk;injection hk with hk;have q1:=HB.out.ext.size;have q2:=X4.out.size;have q3:=((Ext.refl w4).alloc (.cells (#[.slice A4 nx c4,.int .u64 x.t.e,.slice B4 tx b4,.int .i64 x.d]:Array Value) 95)).size;omega));clear o6 g6 h6)
      | fail)
     go_roundg (n-((j+1)+1))
     case measure=>omega
     case rel=>exact⟨(j+1)+1,m+1,A6,c6,_,rfl,by omega,by omega,rfl,by go_num,hid (by rw[AA,HM.out];rfl),HL6,HN6⟩
  ·obtain rfl:i=n:=by omega
   obtain⟨j,rfl⟩:∃j,i=j+1:=⟨i-1,by omega⟩;obtain⟨M,y,hOM,_⟩:=xS HST.out.sorted HSI.out HP.out.is (show j<S.length by rw[<-HSL.out];omega);have hm0:0<m:=by rw[HM.out,hOM];simp
   have hob:=HP.out.out.own;have hof:=hob.form (by rw[<-HM.out];exact hm0);obtain⟨g2,eA2,hb2,hg2,_,_,_⟩:=hof;subst eA2;have hmc:m<=c2:=by have:=hob.le.1;rwa [<-HM.out]at this
   have hc9:c2<=9223372036854775807:=hob.le.2;have HArr:Hid (Arr wr w.heap.size g2 c2 O):=hid ⟨hob,by omega⟩;have HV:Hid ((O.filter nzC).map Ud.uv=sumV (L.map Ud.uv)):=hid (sZ hin.out HST.out (by have:=HP.out.is;rwa [AT (by rw[<-HSL.out];exact AD _)]at this));have HXE:Hid (Ext w wr):=hid (X2.out.trans HP.out.ext);have HG2:=hid hg2;clear hOM hob hb2 hg2;have m3:True:=trivial;go_wp2_with (first
    | (go_at_call 106;have mk:=m3;clear m3 mk;refine(deleteFunc_any w.heap.size g2 c2 m O _ HM.out HArr.out).mono ?_;rintro e w5 ⟨m5,rfl,hm5,ar5,up5⟩;have HD:Hid (Cl w5 w.heap.size (some ⟨g2,0,none⟩) c2 (O.filter nzC)):=hid (Cl.del HP.out.out nzC ar5 up5);have X5:Hid (Ext w w5):=hid (HXE.out.grown up5 (fun k e=>by cases e;exact HG2.out));have HM5:=hid hm5;have hm5c:m5<=c2:=(by rw[hm5];exact ar5.1.le.1);clear hm5 ar5 up5;have m4:True:=trivial)
    | (go_at_call 105;have mk:=m4;clear m4 mk;refine(cY (some ⟨g2,0,none⟩) m5 c2 _ hm5c hc9).mono ?_;rintro e w6 ⟨rfl,rfl⟩)
    | fail)
   go_ret;exact⟨some ⟨g2,0,none⟩,m5,O.filter nzC,by simp,HM5.out,by have:=HD.out.clip;rwa [<-HM5.out]at this,HV.out,X5.out⟩
theorem a0c(A:Option Addr)(c n:Nat)(L:List Ud)(w:World)(hn:Hid (n=L.length))(h:Hid (Uin w A c L))(h9:n<=1000000)(hin:Hid (∀x∈L,InN x.uv))(hr:Hid (∀x∈L,x.l.length<=1000000000/\x.t.l.length<=1000000000)) :
  Calls Tryz.prog 16 #[.slice A n c] w (Yz w L):=by
 rcases CL n with h0|h0
 ·subst h0;have e:L=[]:=AG hn.out.symm;subst e;exact nK A c w h
 ·exact nJ A c n L w h0 hn h h9 hin hr
end UdS
def Nx(L:List Tm):Prop:=∀x∈L,U32 x.l/\x.l.length<=100000
theorem jX{mx:Int}{zl:List Int}(e1 e2:Int)(A1 A2:Option Addr)(n c1 c2:Nat)(l1 l2:List Int)(w:World)(hm:Hid (max e1 e2=mx))(hz:Hid (List.zipWith max l1 l2=zl))(h1:Sl w 1 A1 n c1 (wds l1))(h2:Sl w 1 A2 n c2 (wds l2))(u1:U32 l1)(u2:U32 l2)(hn:n<=100000) :
  Calls Tryz.prog 191 #[.agg #[.int .u64 e1,.slice A1 n c1],.agg #[.int .u64 e2,.slice A2 n c2]] w fun e w' =>
   ∃A c,e=.returned (.tuple #[.agg #[.int .u64 mx,.slice A n c],.int .u16 0])/\Own w' w.heap.size 180 1 A n c (wds zl)/\Ext w w':=by
 rw[<-hm.out,<-hz.out];exact mZ e1 e2 A1 A2 n c1 c2 l1 l2 w h1 h2 u1 u2 (by omega)
theorem Rp{l m:List Int}(h:U32 l)(k:U32 m):U32 (List.zipWith max l m):=by
 intro x hx;obtain⟨i,hi,rfl⟩:=DI hx;rw[List.getElem_zipWith];rw[FT]at hi;have a:=h _ (BP (show i<l.length by omega));have b:=k _ (BP (show i<m.length by omega));omega
theorem Ro{l m:List Int}(h:U32 l)(k:U32 m):U32 (List.zipWith min l m):=by
 intro x hx;obtain⟨i,hi,rfl⟩:=DI hx;rw[List.getElem_zipWith];rw[FT]at hi;have a:=h _ (BP (show i<l.length by omega));have b:=k _ (BP (show i<m.length by omega));omega
theorem vM{mx:Int}{zl:List Int}(e1 e2:Int)(A1 A2:Option Addr)(n c1 c2:Nat)(l1 l2:List Int)(w:World)(hm:Hid (min e1 e2=mx))(hz:Hid (List.zipWith min l1 l2=zl))(h1:Sl w 1 A1 n c1 (wds l1))(h2:Sl w 1 A2 n c2 (wds l2))(u1:U32 l1)(u2:U32 l2)(hn:n<=100000) :
  Calls Tryz.prog 192 #[.agg #[.int .u64 e1,.slice A1 n c1],.agg #[.int .u64 e2,.slice A2 n c2]] w fun e w' =>
   ∃A c,e=.returned (.tuple #[.agg #[.int .u64 mx,.slice A n c],.int .u16 0])/\Own w' w.heap.size 180 1 A n c (wds zl)/\Ext w w':=by
 rw[<-hm.out,<-hz.out];exact mD e1 e2 A1 A2 n c1 c2 l1 l2 w h1 h2 u1 u2 (by omega)
def xU(v:TV)(w:World)(r:Ending)(w':World):Prop:=∃A n c,r=.returned (.agg #[.int .u64 v.1,.slice A n c])/\n=v.2.length/\Own w' w.heap.size 180 1 A n c (wds v.2)/\Ext w w'
structure oQ (w wr:World) (g:Nat) (A:Option Addr) (c n:Nat) (o:TV):Prop where
 bk:Bk wr g 26 #[.int .u64 o.1,.slice A n c]
 own:Own wr w.heap.size 180 1 A n c (wds o.2)
 u:U32 o.2
theorem oQ.grow{w wr w2:World}{g:Nat}{A:Option Addr}{c n:Nat}{o:TV}(h:oQ w wr g A c n o)(x:Ext wr w2):oQ w w2 g A c n o:=⟨h.bk.ext x,h.own.ext x,h.u⟩
theorem Eh{V:List TV}{t:TV}{k:Nat}(h:k<V.length):(V.take (k+1)).foldl (Cv t) none=Cv t ((V.take k).foldl (Cv t) none) V[k]:=by
 rw[BQ h,DT];rfl
def a0l(w wr:World)(v:Value)(n:Nat)(acc:Option TV):Prop:=(acc=none/\v=.slice none 0 0)\/∃g A c o,acc=some o/\v=.slice (some ⟨g,0,none⟩) 1 1/\oQ w wr g A c n o
theorem fK(AL:Option Addr)(cL m:Nat)(L:List Tm)(e:Int)(A:Option Addr)(n c:Nat)(l:List Int)(w:World)(hm:Hid (m=L.length))(hL:Hid (Tin w AL cL L))(fL:Hid (Nx L))(ht:Hid (Sl w 1 A n c (wds l)))(u:U32 l)(h9:m<=1000000)(hn:n<=100000) :
  Calls Tryz.prog 110 #[.slice AL m cL,.agg #[.int .u64 e,.slice A n c]] w (xU (Fg (L.map Tm.v) (e,l)) w):=by
 have HN:Hid (n=l.length):=hid ht.out.wlen.symm;have HU:=hid u;clear u;go_enter Tryz.func110,Tryz.ntmps110;go_wp2;obtain⟨w0,hw0⟩:∃w0,w0=(w.alloc (Obj.cells #[Value.int IntKind.u64 e,Value.slice A n c] 26)).alloc (Obj.cells #[Value.int IntKind.u64 0,Value.slice none 0 0] 26):=⟨_,rfl⟩;have x0:Ext w w0:=hw0▸((Ext.refl w).alloc _).alloc _;have b0:Bk w0 w.heap.size 26 #[Value.int IntKind.u64 e,Value.slice A n c]:=by subst hw0;exact(Bk.new _ _ _).alloc _
 have r0:Bk w0 (w.heap.size+1) 26 #[Value.int IntKind.u64 0,Value.slice none 0 0]:=by subst hw0;exact Bk.at (by simp)
 rw[<-hw0];clear hw0;have X0:=hid x0;have B0:=hid b0;have R0:=hid r0;clear x0 b0 r0
 go_loopg [5,12] m (fun z v5 v12 wr=>∃(k:Nat) (acc:Option TV),z=m-k/\k<=m/\v12=.int .i64 k/\Hid (((L.map Tm.v).take k).foldl (Cv (e,l)) none=acc)/\Hid (Ext w0 wr)/\a0l w0 wr v5 n acc)
 case atStart=>exact⟨0,none,rfl,AE _,rfl,hid rfl,hid (Ext.refl _),.inl ⟨rfl,rfl⟩⟩
 case round =>
  obtain⟨k,acc,rfl,hk,rfl,HF,HE,hacc⟩:=hrel;have b0:wr.cell? ⟨w.heap.size,0,none⟩=some (.int .u64 e):=(B0.out.ext HE.out).cell 0;have b1:wr.cell? ⟨w.heap.size,1,none⟩=some (.slice A n c):=(B0.out.ext HE.out).cell 1;by_cases hlt:k<m
  ·have hkL:k<L.length:=by rw[<-hm.out];exact hlt
   obtain⟨ad,rfl,q0,q1⟩:=(hL.out.ext (X0.out.trans HE.out)).at (i:=k) hkL;have HXS:Hid (Sl wr 1 (L.getD k Tm.zero).A (L.getD k Tm.zero).l.length (L.getD k Tm.zero).c (wds (L.getD k Tm.zero).l)):=hid ((hL.out.ext (X0.out.trans HE.out)).ls _ (Bj hkL));have hf:=fL.out _ (Bj hkL);have hkv:=Xy hkL;obtain⟨x,hx⟩:∃x,L.getD k Tm.zero=x:=⟨_,rfl⟩;rw[hx]at q0 q1 HXS hf hkv;have HKV:=hid hkv;have HG:=hid hf;clear hx hkv hkL hf;obtain⟨f,Ax,cx,lx⟩:=x;obtain⟨nx,hnx⟩:∃nx,lx.length=nx:=⟨_,rfl⟩;have HNX:=hid hnx;replace q0:wr.cell? (ad.add (k*2))=some (.int .u64 f):=q0;replace q1:wr.cell? ⟨(ad.add (k*2)).block,(ad.add (k*2)).off+1,none⟩=some (.slice Ax lx.length cx):=q1;replace HXS:Hid (Sl wr 1 Ax lx.length cx (wds lx)):=HXS;replace HG:Hid (U32 lx/\lx.length<=100000):=HG;rw[hnx]at q1 HXS;clear hnx;have XY:Hid (Ext wr (wr.alloc (.cells #[.int .u64 f,.slice Ax nx cx] 26))):=hid ((Ext.refl _).alloc _);have c0:(wr.alloc (.cells #[.int .u64 f,.slice Ax nx cx] 26)).cell? ⟨w.heap.size,0,none⟩=some (.int .u64 e):=(B0.out.ext (HE.out.trans XY.out)).cell 0;have c1:(wr.alloc (.cells #[.int .u64 f,.slice Ax nx cx] 26)).cell? ⟨w.heap.size,1,none⟩=some (.slice A n c):=(B0.out.ext (HE.out.trans XY.out)).cell 1;by_cases hs:n=nx
   ·subst hs;obtain⟨mx,hmx⟩:∃mx,max e f=mx:=⟨_,rfl⟩;obtain⟨zl,hzl⟩:∃zl,List.zipWith max l lx=zl:=⟨_,rfl⟩;have HMX:=hid hmx;have HZL:=hid hzl;clear hmx hzl;have HZU:Hid (U32 zl):=hid (HZL.out▸Rp HU.out HG.out.1);have HM:Hid (Rz (e,l) (f,lx)=(mx,zl)):=hid (by show(max e f,List.zipWith max l lx)=_;rw[HMX.out,HZL.out]);have HSM:Hid (same (e,l) (f,lx)=true):=hid (decide_eq_true (by have a:=HNX.out;have b:=HN.out;show l.length=lx.length;omega));rcases hacc with ⟨rfl,rfl⟩|⟨g,A1,c1_,o,rfl,rfl,hI⟩
    ·go_wp2_with (first
      | (go_at_call 191;refine(jX e f A Ax n c cx l lx _ HMX HZL (ht.out.ext ((X0.out.trans HE.out).trans XY.out)) (HXS.out.ext XY.out) HU.out HG.out.1 hn).mono ?_;rintro r w3 ⟨A3,c3,rfl,o3,x3⟩;have HO3:=hid o3;have X3:=hid x3;clear o3 x3))
     go_roundg (m-(k+1))
     case measure=>omega
     case rel =>
      have hs3:=X3.out.size;refine⟨k+1,some (mx,zl),by omega,by omega,by go_num,hid ?_,hid ((((HE.out.trans XY.out).trans X3.out).alloc _).alloc _),.inr ⟨w3.heap.size+1,A3,c3,(mx,zl),rfl,rfl,⟨Bk.at (by simp),?_,HZU.out⟩⟩⟩
      ·obtain⟨h1,h2⟩:=HKV.out;rw[Eh h1,HF.out,h2];show(if same (e,l) (f,lx)=true then some (Rz (e,l) (f,lx)) else none)=_;rw[if_pos HSM.out,HM.out]
      ·exact((HO3.out.mono (AQ HE.out.size XY.out.size)).alloc _).alloc _
    ·have HI:=hid hI;clear hI;obtain⟨mn,hmn⟩:∃mn,min o.1 mx=mn:=⟨_,rfl⟩;obtain⟨zn,hzn⟩:∃zn,List.zipWith min o.2 zl=zn:=⟨_,rfl⟩;have HMN:=hid hmn;have HZN:=hid hzn;clear hmn hzn;have HM2:Hid (aR o (mx,zl)=(mn,zn)):=hid (by show(min o.1 mx,List.zipWith min o.2 zl)=_;rw[HMN.out,HZN.out]);go_wp2_with (first
      | (go_at_call 191;refine(jX e f A Ax n c cx l lx _ HMX HZL (ht.out.ext ((X0.out.trans HE.out).trans XY.out)) (HXS.out.ext XY.out) HU.out HG.out.1 hn).mono ?_;rintro r w3 ⟨A3,c3,rfl,o3,x3⟩;have HO3:=hid o3;have X3:=hid x3;clear o3 x3))
     obtain⟨w8,hw8⟩:∃w8,w8=w3.alloc (Obj.cells #[Value.int IntKind.u64 mx,Value.slice A3 n c3] 26):=⟨_,rfl⟩;have x8:Ext w3 w8:=hw8▸(Ext.refl w3).alloc _;have j8:Bk w8 w3.heap.size 26 #[Value.int IntKind.u64 mx,Value.slice A3 n c3]:=by subst hw8;exact Bk.new _ _ _
     rw[<-hw8];clear hw8 c0 c1 b0 b1 q0 q1;have X:Ext w8 w8.drew:=(Ext.refl w8).drew;have I8:oQ w0 w8.drew g A1 c1_ n o:=HI.out.grow (((XY.out.trans X3.out).trans x8).trans X);have HI8:=hid I8;have HJ8:=hid j8;have HX8:=hid x8;have y1:∀y:Xt w8.drew,y.W.cell? ⟨g,0,none⟩=some (.int .u64 o.1):=fun y=>(HI8.out.bk.ext y.x).cell 0;have y2:∀y:Xt w8.drew,y.W.cell? ⟨g,1,none⟩=some (.slice A1 n c1_):=fun y=>(HI8.out.bk.ext y.x).cell 1;have y3:∀y:Xt w8.drew,y.W.cell? ⟨w3.heap.size,0,none⟩=some (.int .u64 mx):=fun y=>(HJ8.out.ext (X.trans y.x)).cell 0;have y4:∀y:Xt w8.drew,y.W.cell? ⟨w3.heap.size,1,none⟩=some (.slice A3 n c3):=fun y=>(HJ8.out.ext (X.trans y.x)).cell 1;clear I8 j8 x8;refine wro [0,1,3,0,15,31,63,63,127] (.flo [0,1,2,3] (.one 4 (.flo [5,6] (.pur [7] (.one 8 (.fin)))))) ?_
     (refine Aa (pks rfl) ?_;(repeat (go_big_quiet_step (fail)));refine oq ?_)
     refine Ac (pks rfl) ?_;intro K_ hK_;go_wp2_with (first
      | (go_at_call 192;refine(vM o.1 mx A1 A3 n c1_ c3 o.2 zl _ HMN HZN HI8.out.own.sl ((HO3.out.sl.ext HX8.out).ext X) HI8.out.u HZU.out hn).mono ?_;rintro r w5 ⟨A5,c5,rfl,o5,x5⟩;have HO5:=hid o5;have X5:=hid x5;clear o5 x5))
     have J5:=(HJ8.out.ext X).ext X5.out;have z0:=J5.cell 0;have z1:=J5.cell 1;have z2:=J5.free 0;have z3:=J5.free 1;have z4:=J5.set2 (.int .u64 mn) (.slice A5 n c5);have z5:=z4.1;have z6:=z4.2;clear z4;have HJ5:=hid J5;clear J5
     (refine Aa (pks rfl) ?_;(repeat (go_big_quiet_step (fail)));refine oq ?_)
     (refine Bv (pks rfl) ?_;(repeat (go_big_quiet_step (fail)));refine oq ?_)
     refine Ac (pks rfl) ?_;intro K_ hK_;go_wp2;refine Ad ?_;go_wp2
     go_roundg (m-(k+1))
     case measure=>omega
     case rel =>
      have hb5:w3.heap.size<w8.drew.heap.size:=HJ8.out.lt;have s8:w3.heap.size<=w5.heap.size:=AQ (Nat.le_of_lt hb5) X5.out.size;have e3:Ext w0 w3:=(HE.out.trans XY.out).trans X3.out;have e5:Ext w0 w5:=((e3.trans HX8.out).trans X).trans X5.out;refine⟨k+1,some (mn,zn),by omega,by omega,by go_num,hid ?_,hid (((e5.set e3.size _).set e3.size _).alloc _),.inr ⟨w5.heap.size,A5,c5,(mn,zn),rfl,rfl,⟨Bk.at (by simp),?_,HZN.out▸Ro HI8.out.u HZU.out⟩⟩⟩
      ·obtain⟨h1,h2⟩:=HKV.out;rw[Eh h1,HF.out,h2];show(if same (e,l) (f,lx)=true then some (aR o (Rz (e,l) (f,lx))) else _)=_;rw[if_pos HSM.out,HM.out,HM2.out]
      ·exact((((HO5.out.far (HO5.out.ne hb5) _).far (HO5.out.ne hb5) _).mono (AQ e3.size (Nat.le_of_lt hb5))).alloc _)
   ·have hne:((n:Int) != (nx:Int))=true:=by simp;omega
    have HS:=hid hs;clear hs;go_wp2_with (first
     | (go_at_call 191;refine(nA e f A Ax n nx c cx _ hne).mono ?_;rintro r w3 ⟨rfl,x3⟩;have X3:=hid x3;clear x3))
    go_roundg (m-(k+1))
    case measure=>omega
    case rel =>
     have XX:=(XY.out.trans X3.out).alloc (.cells #[.int .u64 0,.slice none 0 0] 26);refine⟨k+1,acc,by omega,by omega,by go_num,hid ?_,hid (HE.out.trans XX),?_⟩
     ·obtain⟨h1,h2⟩:=HKV.out;rw[Eh h1,HF.out,h2];unfold Cv;rw[if_neg (by have a:=HNX.out;have b:=HN.out;have cc:=HS.out;show ¬same (e,l) (f,lx)=true;unfold same;rw[decide_eq_true_iff];show ¬l.length=lx.length;omega)]
     ·rcases hacc with ⟨h1,h2⟩|⟨g,A1,c1_,o,h1,h2,hI⟩
      ·exact .inl ⟨h1,h2⟩
      ·exact .inr ⟨g,A1,c1_,o,h1,h2,hI.grow XX⟩
  ·obtain rfl:k=m:=by omega
   have HF2:Hid (oN (L.map Tm.v) (e,l)=acc):=hid (by have:=HF.out;rwa [show k=(L.map Tm.v).length by rw[AN];exact hm.out,DU]at this);have HR:=hid (R0.out.ext HE.out);rcases hacc with ⟨rfl,rfl⟩|⟨g,A1,c1_,o,rfl,rfl,hI⟩
   ·go_wp2_with (first
     | (go_at_call 142;refine(Un e A n c l _ (hid (ht.out.ext (X0.out.trans HE.out))) (by omega)).mono ?_;rintro r w4 ⟨A4,c4,rfl,o4,x4⟩;have HO4:=hid o4;have X4:=hid x4;clear o4 x4;have RB:=HR.out.ext X4.out;have z0:=RB.cell 0;have z1:=RB.cell 1;have z2:=RB.free 0;have z3:=RB.free 1;have HRB:=hid RB;clear RB))
    have bb:=HRB.out.set2 (.int .u64 e) (.slice A4 n c4);have hb:w.heap.size+1<wr.heap.size:=HR.out.lt;refine bodyPost_ret (v:=.agg #[.int .u64 e,.slice A4 n c4]) (by simp[results,Tryz.results110,go_sem,bb.1,bb.2]) rfl ⟨A4,n,c4,?_,?_,?_,?_⟩
    ·unfold Fg;rw[HF2.out];rfl
    ·unfold Fg;rw[HF2.out];exact HN.out
    ·have:(Fg (L.map Tm.v) (e,l)).2=l:=by unfold Fg;rw[HF2.out];rfl
     rw[this];exact(((HO4.out.far (HO4.out.ne hb) _).far (HO4.out.ne hb) _).mono (by omega))
    ·exact((((X0.out.trans HE.out).trans X4.out).set (by simp) _).set (by simp) _)
   ·have I:=hid hI;have z0:=I.out.bk.cell 0;have z1:=I.out.bk.cell 1;have z2:=HR.out.cell 0;have z3:=HR.out.cell 1;have z4:=HR.out.free 0;have z5:=HR.out.free 1;clear hI;replace z0:wr.cell? ⟨g,0,none⟩=some (.int .u64 o.1):=z0;replace z1:wr.cell? ⟨g,1,none⟩=some (.slice A1 n c1_):=z1;go_wp2;have bb:=HR.out.set2 (.int .u64 o.1) (.slice A1 n c1_);refine bodyPost_ret (v:=.agg #[.int .u64 o.1,.slice A1 n c1_]) (by simp[results,Tryz.results110,go_sem,bb.1,bb.2]) rfl ⟨A1,n,c1_,?_,?_,?_,?_⟩
    ·unfold Fg;rw[HF2.out];rfl
    ·have q:=Ln (L.map Tm.v) (e,l);rw[q];exact HN.out
    ·have:(Fg (L.map Tm.v) (e,l)).2=o.2:=by unfold Fg;rw[HF2.out];rfl
     rw[this];exact((I.out.own.far (I.out.own.ne R0.out.lt) _).far (I.out.own.ne R0.out.lt) _).mono X0.out.size
    ·exact(((X0.out.trans HE.out).set (by simp) _).set (by simp) _)
theorem dL{v:TV}(AL:Option Addr)(cL m:Nat)(L:List Tm)(e:Int)(A:Option Addr)(n c:Nat)(l:List Int)(w:World)(hv:Hid (Fg (L.map Tm.v) (e,l)=v))(hm:Hid (m=L.length))(hL:Hid (Tin w AL cL L))(fL:Hid (Nx L))(ht:Hid (Sl w 1 A n c (wds l)))(u:U32 l)(h9:m<=1000000)(hn:n<=100000) :
  Calls Tryz.prog 110 #[.slice AL m cL,.agg #[.int .u64 e,.slice A n c]] w (xU v w):=hv.out▸fK AL cL m L e A n c l w hm hL fL ht u h9 hn
def Bp(S:List TV)(v:UV):UV:=((v.1.1,Fg S v.1.2),v.2)
theorem gC(K R:List Ud)(x:Ud)(f:Int)(A:Option Addr)(c:Nat)(l:List Int){i:Nat}(hi:i=K.length):((Ah (K++x::R)).set (i*4+1) (.int .u64 f)).set (i*4+2) (.slice A l.length c)=Ah (K++⟨x.A,x.c,x.l,⟨f,A,c,l⟩,x.d⟩::R):=by
 subst hi;have e:Ah (K++x::R)=Ah K++(udC x++Ah R):=by rw[Bb];rfl
 rw[e,CG _ _ (by rw[Cw];omega),Cw,CR,CG _ _ (by rw[Cw];omega),Cw,CR,Bb];rfl
structure Qe (w wr:World) (g c:Nat) (S:List TV) (L:List Ud) (i:Nat) (K:List Ud):Prop where
 own:Own wr w.heap.size 95 4 (some ⟨g,0,none⟩) L.length c (Ah (K++L.drop i))
 rws:UdS.Rws wr g (K++L.drop i)
 len:K.length=i
 vals:K.map Ud.uv=((L.take i).map Ud.uv).map (Bp S)
 ext:Ext w wr
 gl:w.heap.size<=g/\g<wr.heap.size
theorem Qe.mono{w wr w2:World}{g c i:Nat}{S:List TV}{L K:List Ud}(h:Qe w wr g c S L i K)(x:Ext wr w2):Qe w w2 g c S L i K :=
 ⟨h.own.ext x,h.rws.ext x,h.len,h.vals,h.ext.trans x,⟨h.gl.1,BF h.gl.2 x.size⟩⟩
theorem Qe.step{w wr w2:World}{g c i:Nat}{S:List TV}{L K:List Ud}{x:Ud}{v:TV}{A:Option Addr}{nn cc:Nat}(h:Qe w wr g c S L i K)(hi:i<L.length)(hx:L.getD i Ud.zero=x)(hv:Fg S x.t.v=v)(q:Ext wr w2)(hn:nn=v.2.length)(o:Own w2 wr.heap.size 180 1 A nn cc (wds v.2)) :
  Qe w ((w2.setCell ⟨g,i*4+1,none⟩ (.int .u64 v.1)).setCell ⟨g,i*4+2,none⟩ (.slice A nn cc)) g c S L (i+1) (K++[⟨x.A,x.c,x.l,⟨v.1,A,cc,v.2⟩,x.d⟩]):=by
 subst hn;have h2:=h.mono q;have hd:L.drop i=x::L.drop (i+1):=by rw[Wf hi,hx]
 have hup:w2.grownBy ((w2.setCell ⟨g,i*4+1,none⟩ (.int .u64 v.1)).setCell ⟨g,i*4+2,none⟩ (.slice A v.2.length cc)) (some g):=(Cn w2 g _ _).trans (Cn _ g _ _);have hxm:x∈K++L.drop i:=by rw[hd];simp
 refine⟨?_,?_,by rw[AA,h.len];rfl,?_,((h2.ext.set (p:=⟨g,_,none⟩) h.gl.1 _).set (p:=⟨g,_,none⟩) h.gl.1 _),⟨h.gl.1,by rw[DA,DA];exact h2.gl.2⟩⟩
 ·have:=(h2.own.put (i*4+1) (.int .u64 v.1)).put (i*4+2) (.slice A v.2.length cc);rw[hd,gC K (L.drop (i+1)) x v.1 A cc v.2 h.len.symm]at this
  rwa [AJ]
 ·intro y hy;rw[AJ]at hy;rcases AR.1 hy with hy|hy
  ·exact(h2.rws.upd hup) y (BH _ hy)
  ·rcases AZ.1 hy with rfl|hy
   ·have hxx:=(h2.rws.upd hup) x hxm;have ot:=o.kept hup (by
     cases hb:blk A cc with
     | none=>exact .inl rfl
     | some k=>exact .inr (fun e=>by injection e with e;have:=(o.lt k hb).1;have:=h.gl.2;omega))
    refine⟨⟨hxx.1.r,ot.sl⟩,hxx.2.1,fun hn ad e=>?_⟩;obtain⟨k,e2,hb,hk,_⟩:=o.form hn;replace e:A=some ad:=e;rw[e2]at e;injection e with e;subst e;show k≠g;have:=h.gl.2;omega
   ·exact(h2.rws.upd hup) y (CC _ (by rw[hd];exact BN _ hy))
 ·rw[Ig hi,hx,AO,AO,AO,h.vals]
  congr 1
  show [(((x.l,(v.1,v.2)),x.d):UV)]=[Bp S x.uv];unfold Bp;show _=[((x.l,Fg S x.t.v),x.d)];rw[hv]
def Gc(w:World)(V:List UV)(e:Ending)(w':World):Prop:=∃A m R,e=.returned (.slice A m m)/\m=R.length/\Cl w' w.heap.size A m R/\R.map Ud.uv=V/\Ext w w'
theorem Gc.of{w w0 w':World}{L:List Ud}{V:List UV}{e:Ending}(h:UdS.Yz w0 L e w')(x:Ext w w0)(hv:UdS.sumV (L.map Ud.uv)=V):Gc w V e w':=by
 obtain⟨A,m,R,e1,e2,o,v,x2⟩:=h;exact⟨A,m,R,e1,e2,o.mono x.size,by rw[v,hv],x.trans x2⟩
theorem nO(A:Option Addr)(c:Nat)(S0:Value)(w:World)(h:Hid (Uin w A c [])) :
  Calls Tryz.prog 18 #[.slice A 0 c,S0] w (Gc w []):=by
 have hn:Hid ((0:Nat)=([]:List Ud).length):=hid rfl;have hin:Hid (∀x∈([]:List Ud),UdS.InN x.uv):=hid (fun x hx=>nomatch hx);have hr:Hid (∀x∈([]:List Ud),x.l.length<=1000000000/\x.t.l.length<=1000000000):=hid (fun x hx=>nomatch hx);go_enter Tryz.func18,Tryz.ntmps18;go_wp2_with (first
  | (go_at_call 101;refine(Mn A 0 c [] _ hn h (by decide)).mono ?_;rintro r w1 ⟨A1,c1,rfl,o1,x1⟩;have X1:=hid x1;have HU:Hid (Uin w1 A1 c1 []):=hid ⟨o1.sl,fun x hx=>nomatch hx⟩;clear o1 x1)
  | fail)
 go_loop [12] (fun u=>u=.int .i64 0) (fun _=>0)
 case atStart=>rfl
 case round =>
  subst hrel;go_wp2_with (first
   | (go_at_call 16;refine(UdS.a0c A1 c1 0 [] _ hn HU (by decide) hin hr).mono ?_;rintro r w2 hres;have HR:=hid (Gc.of hres X1.out rfl);obtain⟨A2,m2,R2,rfl,h2⟩:=hres;clear h2)
   | fail)
  go_ret;exact HR.out
theorem nN(A:Option Addr)(c n:Nat)(L:List Ud)(AS:Option Addr)(cS nS:Nat)(S:List Tm)(w:World)(h0:0<n)(hn:Hid (n=L.length))(h:Hid (Uin w A c L))(h9:n<=1000000)(hin:Hid (∀x∈L,InU x))(hnS:Hid (nS=S.length))(hS:Hid (Tin w AS cS S))(fS:Hid (Nx S))(h9S:nS<=1000000) :
  Calls Tryz.prog 18 #[.slice A n c,.slice AS nS cS] w (Gc w (UdS.sumV ((L.map Ud.uv).map (Bp (S.map Tm.v))))):=by
 go_enter Tryz.func18,Tryz.ntmps18;go_wp2_with (first
  | (go_at_call 101;refine(Mn A n c L _ hn h h9).mono ?_;rintro r w1 ⟨A1,c1,rfl,o1,x1⟩;have hf:=o1.form h0;obtain⟨g,eA,hb,hg1,hg2,_,_⟩:=hf;subst eA;have HP0:Hid (Qe w w1 g c1 (S.map Tm.v) L 0 []):=hid ⟨by rw[<-hn.out];exact o1,UdS.Rws.of h.out.ls x1 hg1,rfl,rfl,x1,⟨hg1,hg2⟩⟩;clear o1 x1 hb hg1 hg2)
  | fail)
 go_loopg [12] n (fun z v wr=>∃(i:Nat) (K:List Ud),z=n-i/\i<=n/\v=.int .i64 i/\Hid (Qe w wr g c1 (S.map Tm.v) L i K))
 case atStart=>exact⟨0,[],rfl,AE _,rfl,HP0⟩
 case round =>
  clear HP0;obtain⟨i,K,rfl,hi,rfl,HP⟩:=hrel;by_cases hlt:i<n
  ·have hil:i<L.length:=by rw[<-hn.out];exact hlt
   have hKl:(K++L.drop i).length=L.length:=by rw[AA,HP.out.len,CQ];omega
   have hU:Uin wr (some ⟨g,0,none⟩) c1 (K++L.drop i):=⟨by have:=HP.out.own.sl;rwa [<-hKl]at this,fun y hy=>(HP.out.rws y hy).1⟩;obtain⟨ad,eA,p0,p1,p2,p3⟩:=hU.at (i:=i) (by rw[hKl];exact hil);cases eA;rw[show(⟨g,0,none⟩:Addr).add (i*4)=⟨g,i*4,none⟩from by unfold Addr.add;split<;>simp_all]at p0 p1 p2 p3;have hm:=Ar hil;obtain⟨x,hx⟩:∃x,L.getD i Ud.zero=x:=⟨_,rfl⟩;have hgx:(K++L.drop i).getD i Ud.zero=x:=by
    rw[AB,BD (by rw[HP.out.len];exact AD _),HP.out.len,DG,Wf hil,hx];rfl
   have hxm:x∈K++L.drop i:=by rw[Wf hil,hx];simp
   have hux:=(HP.out.rws x hxm).1;rw[hgx]at p0 p1 p2 p3;rw[hx]at hm;obtain⟨nx,hnx⟩:∃nx,nx=x.l.length:=⟨_,rfl⟩;obtain⟨tx,htx⟩:∃tx,tx=x.t.l.length:=⟨_,rfl⟩;rw[<-hnx]at p0;rw[<-htx]at p2;have HX:=hid hx;have HIL:=hid hil;have HTX:Hid (∀W,Ext wr W->Sl W 1 x.t.A tx x.t.c (wds x.t.l)):=hid (fun W q=>by rw[htx];exact hux.t.ext q);have htx9:tx<=100000:=by rw[htx];exact(hin.out x hm).tn
   have UX:=hid (hin.out x hm).tu;obtain⟨v,hv⟩:∃v,Fg (S.map Tm.v) (x.t.e,x.t.l)=v:=⟨_,rfl⟩;have HV:=hid hv;have XA:Ext wr (wr.alloc (.cells #[.slice x.A nx x.c,.int .u64 x.t.e,.slice x.t.A tx x.t.c,.int .i64 x.d] 95)):=(Ext.refl wr).alloc _;have HST:Hid (∀W,Ext wr W->Tin W AS cS S):=hid (fun W q=>(hS.out.ext HP.out.ext).ext q);have hgw:=HP.out.gl.2;clear hil hm hx hnx htx hv hU hKl hgx hxm hux;go_wp2_with (first
    | (go_at_call 110;refine(dL AS cS nS S x.t.e x.t.A tx x.t.c x.t.l _ HV hnS (hid (HST.out _ XA)) fS (hid (HTX.out _ XA)) UX.out h9S htx9).mono ?_;rintro r w3 ⟨A3,n3,c3,rfl,hn3,o3,x3⟩;have HN3:=hid hn3;have O3:Hid (Own w3 wr.heap.size 180 1 A3 n3 c3 (wds v.2)):=hid (o3.mono XA.size);have X3:=hid (XA.trans x3);have H3:=HP.out.mono X3.out;obtain⟨u1,y1⟩:=CK.1 (show(w3.cell? ⟨g,i*4+1,none⟩).isSome=true by rw[X3.out.cell p1];rfl);obtain⟨u2,y2⟩:=CK.1 (show(w3.cell? ⟨g,i*4+2,none⟩).isSome=true by rw[X3.out.cell p2];rfl);have hfz:=(H3.own.form (show 0<L.length by have:=HIL.out;omega));obtain⟨g',eg,_,_,_,_,hf⟩:=hfz;cases eg;have f1:=hf (i*4+1);have f2:=hf (i*4+2);clear hf H3 hn3 o3 x3)
    | fail)
   go_roundg (n-(i+1))
   case measure=>omega
   case rel=>exact⟨i+1,_,rfl,by omega,by go_num,hid (HP.out.step HIL.out HX.out HV.out X3.out HN3.out O3.out)⟩
  ·obtain rfl:i=n:=by omega
   have hd:L.drop i=[]:=DN (by rw[<-hn.out];exact AD _);have hKl:K.length=L.length:=by rw[HP.out.len];exact hn.out
   have HU:Hid (Uin wr (some ⟨g,0,none⟩) c1 K):=hid ⟨by have:=HP.out.own.sl;rw[hd,AP]at this;rwa [hKl],fun y hy=>(HP.out.rws y (BH _ hy)).1⟩;have hvals:K.map Ud.uv=(L.map Ud.uv).map (Bp (S.map Tm.v)):=by have:=HP.out.vals;rwa [AT (by rw[<-hn.out];exact AD _)]at this
   have HN:Hid (i=K.length):=hid (by rw[hKl];exact hn.out);have hpick:∀y∈K,∃x∈L,y.uv=Bp (S.map Tm.v) x.uv:=fun y hy=>by
    have:y.uv∈K.map Ud.uv:=AW.2 ⟨y,hy,rfl⟩;rw[hvals,DD]at this;obtain⟨x,hx,e⟩:=AW.1 this;exact⟨x,hx,e.symm⟩
   have HI:Hid (∀y∈K,UdS.InN y.uv):=hid (fun y hy=>by
    obtain⟨x,hx,e⟩:=hpick y hy;rw[e];exact(hin.out x hx).num)
   have HL:Hid (∀y∈K,y.l.length<=1000000000/\y.t.l.length<=1000000000):=hid (fun y hy=>by
    obtain⟨x,hx,e⟩:=hpick y hy;have e1:y.l=x.l:=congrArg (fun q:UV=>q.1.1) e;have e2:y.t.l=(Fg (S.map Tm.v) x.t.v).2:=congrArg (fun q:UV=>q.1.2.2) e;rw[e1,e2];refine⟨(hin.out x hx).lens.1,?_⟩;rw[Ln];exact(hin.out x hx).lens.2)
   have HX:=hid HP.out.ext;have HV:=hid (congrArg UdS.sumV hvals);clear hd hKl hvals hpick HP;go_wp2_with (first
    | (go_at_call 16;refine(UdS.a0c (some ⟨g,0,none⟩) c1 i K _ HN HU h9 HI HL).mono ?_;rintro r w2 hres;have HR:=hid (Gc.of hres HX.out HV.out);obtain⟨A2,m2,R2,rfl,h2⟩:=hres;clear h2)
    | fail)
   go_ret;exact HR.out
theorem cQ{V:List UV}(A:Option Addr)(c n:Nat)(L:List Ud)(AS:Option Addr)(cS nS:Nat)(S:List Tm)(w:World)(hV:Hid (UdS.sumV ((L.map Ud.uv).map (Bp (S.map Tm.v)))=V))(hn:Hid (n=L.length))(h:Hid (Uin w A c L))(h9:n<=1000000)(hin:Hid (∀x∈L,InU x))(hnS:Hid (nS=S.length))(hS:Hid (Tin w AS cS S))(fS:Hid (Nx S))(h9S:nS<=1000000) :
  Calls Tryz.prog 18 #[.slice A n c,.slice AS nS cS] w (Gc w V):=by
 rw[<-hV.out];rcases CL n with h0|h0
 ·subst h0;have e:L=[]:=AG hn.out.symm;subst e;exact nO A c _ w h
 ·exact nN A c n L AS cS nS S w h0 hn h h9 hin hnS hS fS h9S
theorem Yd(l:List Bt):(Ep l).map Ud.uv=(l.map Bt.v).flatten:=by
 induction l with
 | nil=>rfl
 | cons b l ih =>
  show(b.l++Ep l).map Ud.uv=b.v++(l.map Bt.v).flatten;rw[AO,ih];rfl
structure oO (m:SpM):Prop where
 nb:m.bs.length<=1000000
 na:(Ep m.bs).length<=1000000
 ins:∀x∈Ep m.bs,InU x
 fs:m.S.length<=1000000
 fu:m.U.length<=1000000
 ss:Nx m.S
 uu:Nx m.U
def atS(s:SV)(t:TV):Int×List (List Dat×Int):=if 0<t.2.length then (110,[]) else if Aj s.S t=false then (111,[]) else if Aj s.U t=true then (111,[]) else (0,sumV (atV s.bs.flatten t))
def wZ(w:World)(q:Int×List (List Dat×Int))(e:Ending)(w':World):Prop:=∃A n c,e=.returned (.tuple #[.slice A n c,.int .u16 q.1])/\Lh w q.2 (.returned (.slice A n c)) w'
theorem Yx{w w':World}(x:Ext w w'):Lh w [] (.returned (.slice none 0 0)) w':=⟨none,0,0,[],rfl,rfl,Own.nil _ _ _ _,fun y hy=>(nomatch hy),List.Pairwise.nil,rfl,x⟩
theorem tF{w w1 w':World}{U:List V}{e:Ending}(h:Lh w1 U e w')(x:Ext w w1):Lh w U e w':=by
 obtain⟨A,m,c,R,e1,e2,o,r,a,v,x2⟩:=h;exact⟨A,m,c,R,e1,e2,o.mono x.size,fun y hy=>⟨(r y hy).1,fun ad q=>⟨AQ x.size ((r y hy).2 ad q).1,((r y hy).2 ad q).2⟩⟩,a,v,x.trans x2⟩
theorem Sn{q:Int×List (List Dat×Int)}(gs:Nat)(m:SpM)(R:Nat->Prop)(e:Int)(A:Option Addr)(n c:Nat)(l:List Int)(w:World)(hq:Hid (atS m.v (e,l)=q))(HM:Hid (SpR w R gs m))(ok:Hid (oO m))(hn:Hid (n=l.length))(ht:Hid (Sl w 1 A n c (wds l)))(G:Good w) :
  Calls Tryz.prog 46 #[.pointer (some ⟨gs,0,none⟩),.agg #[.int .u64 e,.slice A n c]] w (wZ w q):=by
 obtain⟨nS,hnS⟩:∃k,k=m.S.length:=⟨_,rfl⟩;obtain⟨nU,hnU⟩:∃k,k=m.U.length:=⟨_,rfl⟩;have HNS:=hid hnS;have HNU:=hid hnU;have HC:Hid (∀W,Ext w W->W.cell? ⟨gs,2,none⟩=some (.slice m.sA nS m.sc)/\W.cell? ⟨gs,3,none⟩=some (.slice m.uA nU m.uc)):=hid (fun W x=>⟨by have:=(HM.out.bk.ext x).cell 2;rw[hnS];exact this,by have:=(HM.out.bk.ext x).cell 3;rw[hnU];exact this⟩);have HTS:Hid (Tin w m.sA m.sc m.S):=hid HM.out.b.sn.t.tin;have HTU:Hid (Tin w m.uA m.uc m.U):=hid HM.out.b.up.t.tin;have GG:=hid G;clear hnS hnU G;by_cases h0:0<n
 ·have h0z:(0:Int)<(n:Int):=by omega
  have hat:atS m.v (e,l)=(110,[]):=by unfold atS;rw[if_pos (by show 0<l.length;rw[<-hn.out];exact h0)]
  have HA:Hid (q=(110,[])):=hid (hq.out.symm.trans hat);clear hat hq;go_enter Tryz.func46,Tryz.ntmps46;go_wp2;go_returns;rw[HA.out];exact⟨_,_,_,rfl,Yx ((Ext.refl w).alloc _)⟩
 ·have h0z:¬(0:Int)<(n:Int):=by omega
  obtain⟨b1,hb1⟩:∃b,Aj (m.S.map Tm.v) (e,l)=b:=⟨_,rfl⟩;obtain⟨b2,hb2⟩:∃b,Aj (m.U.map Tm.v) (e,l)=b:=⟨_,rfl⟩;have HB1:=hid hb1;have HB2:=hid hb2;have hat:atS m.v (e,l)=if b1=false then (111,[]) else if b2=true then (111,[]) else (0,sumV (atV (m.v.bs.flatten) (e,l))):=by
   unfold atS;rw[if_neg (by show ¬ 0<l.length;have:=hn.out;omega),<-hb1,<-hb2];rfl
  have HA:Hid (q=if b1=false then (111,[]) else if b2=true then (111,[]) else (0,sumV (atV (m.v.bs.flatten) (e,l)))):=hid (hq.out.symm.trans hat);clear hat hb1 hb2 hq;go_enter Tryz.func46,Tryz.ntmps46
  go_upto_region 3 with fail
  obtain⟨wb,hwb⟩:∃wb,wb=w.alloc (.cells #[.int .u64 e,.slice A n c] 26):=⟨_,rfl⟩;have XB:Hid (Ext w wb):=hid (by rw[hwb];exact(Ext.refl _).alloc _);have BT:Hid (Bk wb w.heap.size 26 #[.int .u64 e,.slice A n c]):=hid (by rw[hwb];exact Bk.new _ _ _);rw[<-hwb];clear hwb;obtain⟨gt,hgt⟩:∃k,k=w.heap.size:=⟨_,rfl⟩;rw[<-hgt]at BT ⊢;clear hgt;have X:Ext wb wb.drew:=(Ext.refl wb).drew;have P2:∀y:Xt wb.drew,y.W.cell? ⟨gs,2,none⟩=some (.slice m.sA nS m.sc):=fun y=>(HC.out _ ((XB.out.trans X).trans y.x)).1;have P3:∀y:Xt wb.drew,y.W.cell? ⟨gs,3,none⟩=some (.slice m.uA nU m.uc):=fun y=>(HC.out _ ((XB.out.trans X).trans y.x)).2;have Q0:∀y:Xt wb.drew,y.W.cell? ⟨gt,0,none⟩=some (.int .u64 e):=fun y=>(BT.out.ext (X.trans y.x)).cell 0;have Q1:∀y:Xt wb.drew,y.W.cell? ⟨gt,1,none⟩=some (.slice A n c):=fun y=>(BT.out.ext (X.trans y.x)).cell 1;cases b1 with
  | false =>
   refine wro [0,1,3,7,0,31,63,127,255,511,1023,2047,255,8191,16383,32767] (.flo [0,1,2,3,4] (.one 5 (.flo [6,7,8,9,10,11,12] (.one 13 (.flo [14,15] (.fin)))))) ?_
   (refine Aa (pks rfl) ?_;(repeat (go_big_quiet_step (fail)));refine oq ?_)
   refine Ac (pks rfl) ?_;intro K_ hK_;go_wp2_with (go_at_call 140;refine(Ek m.sA m.sc nS m.S e A n c l _ HB1 HNS (hid (HTS.out.ext (XB.out.trans X))) (hid (ht.out.ext (XB.out.trans X)))).mono ?_;rintro r w1 ⟨rfl,x1⟩;have X1:=hid (X.trans x1))
   clear P2 P3 Q0 Q1
   (refine Aa (pks rfl) ?_;(repeat (go_big_quiet_step (fail)));refine oq ?_)
   refine Ac (pks rfl) ?_;intro K_ hK_;go_wp2
   (refine Aa (pks rfl) ?_;(repeat (go_big_quiet_step (fail)));refine oq ?_)
   refine Ad ?_;go_wp2;go_returns;have hA:q=(111,[]):=by have:=HA.out;simpa using this
   rw[hA];exact⟨_,_,_,rfl,Yx (XB.out.trans X1.out)⟩
  | true =>
   refine wro [0,1,3,7,0,31,63,127,255,511,1023,2047,255,8191,16383,32767] (.flo [0,1,2,3,4] (.one 5 (.flo [6,7,8,9,10,11,12] (.one 13 (.flo [14,15] (.fin)))))) ?_
   (refine Aa (pks rfl) ?_;(repeat (go_big_quiet_step (fail)));refine oq ?_)
   refine Ac (pks rfl) ?_;intro K_ hK_;go_wp2_with (go_at_call 140;refine(Ek m.sA m.sc nS m.S e A n c l _ HB1 HNS (hid (HTS.out.ext (XB.out.trans X))) (hid (ht.out.ext (XB.out.trans X)))).mono ?_;rintro r w1 ⟨rfl,x1⟩;have X1:=hid (X.trans x1))
   have P3:∀y:Xt w1,y.W.cell? ⟨gs,3,none⟩=some (.slice m.uA nU m.uc):=fun y=>(HC.out _ ((XB.out.trans X1.out).trans y.x)).2;have Q0:∀y:Xt w1,y.W.cell? ⟨gt,0,none⟩=some (.int .u64 e):=fun y=>(BT.out.ext (X1.out.trans y.x)).cell 0;have Q1:∀y:Xt w1,y.W.cell? ⟨gt,1,none⟩=some (.slice A n c):=fun y=>(BT.out.ext (X1.out.trans y.x)).cell 1
   (refine Aa (pks rfl) ?_;(repeat (go_big_quiet_step (fail)));refine oq ?_)
   refine Ac (pks rfl) ?_;intro K_ hK_;go_wp2_with (go_at_call 140;refine(Ek m.uA m.uc nU m.U e A n c l _ HB2 HNU (hid (HTU.out.ext (XB.out.trans X1.out))) (hid (ht.out.ext (XB.out.trans X1.out)))).mono ?_;rintro r w2 ⟨rfl,x2⟩;have X2:=hid (X1.out.trans x2))
   (refine Aa (pks rfl) ?_;(repeat (go_big_quiet_step (fail)));refine oq ?_)
   refine Ad ?_;clear P2 P3 Q0 Q1;cases b2 with
   | true =>
    go_wp2;go_returns;have hA:q=(111,[]):=by have:=HA.out;simpa using this
    rw[hA];exact⟨_,_,_,rfl,Yx (XB.out.trans X2.out)⟩
   | false =>
    go_wp2;have X3:Ext wb w2.drew:=X2.out.drew;have XX3:=hid X3;have Q0:∀y:Xt w2.drew,y.W.cell? ⟨gt,0,none⟩=some (.int .u64 e):=fun y=>(BT.out.ext (X3.trans y.x)).cell 0;have Q1:∀y:Xt w2.drew,y.W.cell? ⟨gt,1,none⟩=some (.slice A n c):=fun y=>(BT.out.ext (X3.trans y.x)).cell 1;refine wro [0,1,0,7,15,31] (.flo [0,2] (.ext 1 (.one 3 (.flo [4,5] (.fin))))) ?_
    (refine Aa (pks rfl) ?_;(repeat (go_big_quiet_step (fail)));refine oq ?_)
    refine Bi (pks rfl) ?_;intro K_ hK_;go_wp2_with (go_at_call 159;refine(Pb gs m R _ (hid (HM.out.ext (XB.out.trans XX3.out))) ok.out.nb ok.out.na).mono ?_;rintro r w4 ⟨A4,n4,c4,rfl,e4,o4,x4⟩;have HN4:=hid e4;have HO4:=hid o4;have X4:=hid x4;clear e4 o4 x4)
    refine Aq.mk X4.out ?_;have hU:Hid (Uin w4 A4 c4 (Ep m.bs)):=hid ⟨HN4.out▸HO4.out.sl,fun x hx=>by
     obtain⟨b,hb,hxb⟩:=DH.1 hx;exact(((HM.out.b.bt b hb).u.uin.ls x hxb).ext (XB.out.trans XX3.out)).ext X4.out⟩
    refine Ac (pks rfl) ?_;intro K_ hK_;go_wp2_with (go_at_call 17;refine(wD A4 c4 n4 (Ep m.bs) e A n c l _ HN4 hU (by rw[HN4.out];exact ok.out.na) (hid ok.out.ins) (hid (ht.out.ext ((XB.out.trans XX3.out).trans X4.out))) (GG.out.ext ((XB.out.trans XX3.out).trans X4.out))).mono ?_;rintro r w5 hres;have HR:=hid hres;obtain⟨A5,m5,c5,R5,rfl,h5⟩:=hres;clear h5)
    (refine Aa (pks rfl) ?_;(repeat (go_big_quiet_step (fail)));refine oq ?_)
    refine Ad ?_;go_wp2;go_returns;have hA:q=(0,sumV (atV (m.v.bs.flatten) (e,l))):=by have:=HA.out;simpa using this
    rw[hA];refine⟨_,_,_,rfl,?_⟩;have h:=tF HR.out ((XB.out.trans XX3.out).trans X4.out);rw[Yd]at h;exact h
def Le(g:Nat)(lb:Array Value)(p:Ud->Bool)(L:List Ud)(w:World):Prop:=∀(W:World) (x:Ud),x∈L->Ext w W->Calls Tryz.prog g #[udV x] W fun e w'=>e=.returned (.bool (p x))/\Ext W w'
def tZ(p:Ud->Bool)(L:List Ud)(w:World)(e:Ending)(w':World):Prop:=∃r:Int,e=.returned (.int .i64 r)/\decide (0<=r)=L.any p/\Ext w w'
theorem jH{L:List Ud}{p:Ud->Bool}{k:Nat}(h:k<L.length)(hp:p (L.getD k Ud.zero)=true):L.any p=true:=ED.2 ⟨_,Ar h,hp⟩
theorem Wj{L:List Ud}{p:Ud->Bool}(h:∀j,j<L.length->p (L.getD j Ud.zero)=false):L.any p=false:=by
 rw[GA];intro x hx;obtain⟨j,hj,rfl⟩:=DI hx;have:=h j hj;rw[AB,AC hj]at this;simpa using this
theorem iO(p:Ud->Bool)(g:Nat)(eg:∀args w,(callFunc g args).run Tryz.prog w=.ok (.enter g args) w)(AL:Option Addr)(cL m:Nat)(L:List Ud)(w:World)(hm:Hid (m=L.length))(hL:Hid (Uin w AL cL L))(hp:Hid (Le g #[] p L w)) :
  Calls Tryz.prog 185 #[.slice AL m cL,.func (.func g) #[] #[]] w (tZ p L w):=by
 have hbig:m<=9223372036854775807:=by rw[hm.out];exact hL.out.sl.le
 go_enter Tryz.func185,Tryz.ntmps185;go_wp2
 go_loopg [5,8] m (fun gg _ s8 wr=>∃kk:Nat,kk<=m/\m-kk<=gg/\s8=.int .i64 kk/\Hid (Ext w wr)/\Hid (∀j,j<kk->p (L.getD j Ud.zero)=false))
 case atStart=>exact⟨0,AE _,by omega,rfl,hid (Ext.refl w),hid (fun j hj=>absurd hj (DQ _))⟩
 case round =>
  obtain⟨kk,hkk,hg,rfl,BW,AF⟩:=hrel;by_cases hlt:kk<m
  ·have hltz:(kk:Int)<(m:Int):=by omega
   obtain⟨ad,rfl,q0,q1,q2,q3⟩:=(hL.out.ext BW.out).at (i:=kk) (by rw[<-hm.out];exact hlt);have hcall:=hp.out wr (L.getD kk Ud.zero) (Ar (by rw[<-hm.out];exact hlt)) BW.out;obtain⟨x,hx⟩:∃x,L.getD kk Ud.zero=x:=⟨_,rfl⟩;rw[hx]at q0 q1 q2 q3 hcall;have HX:=hid hx;clear hx;unfold udV at hcall;cases hq:p x with
   | true =>
    rw[hq]at hcall;have HQ:=hid hq;clear hq;go_wp2_with (go_at_fn g;refine hcall.mono ?_;rintro e w' ⟨rfl,hb'⟩)
    go_ret;exact⟨_,rfl,by rw[jH (by rw[<-hm.out];exact hlt) (by rw[HX.out];exact HQ.out)];simp,BW.out.trans hb'⟩
   | false =>
    rw[hq]at hcall;have HQ:=hid hq;clear hq;go_wp2_with (go_at_fn g;refine hcall.mono ?_;rintro e w' ⟨rfl,hb'⟩)
    go_roundg (m-(kk+1))
    case measure=>omega
    case rel =>
     refine⟨kk+1,by omega,by omega,by go_num,hid (BW.out.trans hb'),hid (fun j hj=>?_)⟩;by_cases hjk:j<kk
     ·exact AF.out j hjk
     ·obtain rfl:j=kk:=by omega
      rw[HX.out];exact HQ.out
  ·obtain rfl:kk=m:=by omega
   go_wp2;go_ret;exact⟨_,rfl,by rw[Wj (fun j hj=>AF.out j (by rw[hm.out];exact hj))];rfl,BW.out⟩
theorem Fd(p:Ud->Bool)(g:Nat)(eg:∀args w,(callFunc g args).run Tryz.prog w=.ok (.enter g args) w)(AL:Option Addr)(cL m:Nat)(L:List Ud)(w:World)(hm:Hid (m=L.length))(hL:Hid (Uin w AL cL L))(hp:Hid (Le g #[] p L w)) :
  Calls Tryz.prog 157 #[.slice AL m cL,.func (.func g) #[] #[]] w fun e w'=>e=.returned (.bool (L.any p))/\Ext w w':=by
 go_enter Tryz.func157,Tryz.ntmps157;go_wp2_with (go_at_call 185;refine(iO p g  eg AL cL m L _ hm hL hp).mono ?_;rintro e w1 ⟨r,rfl,hr,x1⟩;have HR:=hid hr;clear hr)
 go_ret;exact⟨by rw[<-HR.out];rfl,x1⟩
def Ld(g:Nat)(lb:Array Value)(p:Ud->Bool)(L:List Ud)(w:World):Prop:=∀(W:World) (x:Ud),x∈L->Ext w W->Calls Tryz.prog g #[udV x,lb[0]!,lb[1]!] W fun e w'=>e=.returned (.bool (p x))/\Ext W w'
def tY(p:Ud->Bool)(L:List Ud)(w:World)(e:Ending)(w':World):Prop:=∃r:Int,e=.returned (.int .i64 r)/\decide (0<=r)=L.any p/\Ext w w'
theorem iN(p:Ud->Bool)(g:Nat)(v0 v1:Value)(eg:∀args w,(callFunc g args).run Tryz.prog w=.ok (.enter g args) w)(AL:Option Addr)(cL m:Nat)(L:List Ud)(w:World)(hm:Hid (m=L.length))(hL:Hid (Uin w AL cL L))(hp:Hid (Ld g #[v0,v1] p L w)) :
  Calls Tryz.prog 185 #[.slice AL m cL,.func (.func g) #[] #[v0,v1]] w (tY p L w):=by
 have hbig:m<=9223372036854775807:=by rw[hm.out];exact hL.out.sl.le
 go_enter Tryz.func185,Tryz.ntmps185;go_wp2
 go_loopg [5,8] m (fun gg _ s8 wr=>∃kk:Nat,kk<=m/\m-kk<=gg/\s8=.int .i64 kk/\Hid (Ext w wr)/\Hid (∀j,j<kk->p (L.getD j Ud.zero)=false))
 case atStart=>exact⟨0,AE _,by omega,rfl,hid (Ext.refl w),hid (fun j hj=>absurd hj (DQ _))⟩
 case round =>
  obtain⟨kk,hkk,hg,rfl,BW,AF⟩:=hrel;by_cases hlt:kk<m
  ·have hltz:(kk:Int)<(m:Int):=by omega
   obtain⟨ad,rfl,q0,q1,q2,q3⟩:=(hL.out.ext BW.out).at (i:=kk) (by rw[<-hm.out];exact hlt);have hcall:=hp.out wr (L.getD kk Ud.zero) (Ar (by rw[<-hm.out];exact hlt)) BW.out;obtain⟨x,hx⟩:∃x,L.getD kk Ud.zero=x:=⟨_,rfl⟩;rw[hx]at q0 q1 q2 q3 hcall;have HX:=hid hx;clear hx;unfold udV at hcall;cases hq:p x with
   | true =>
    rw[hq]at hcall;have HQ:=hid hq;clear hq;go_wp2_with (go_at_fn g;refine hcall.mono ?_;rintro e w' ⟨rfl,hb'⟩)
    go_ret;exact⟨_,rfl,by rw[jH (by rw[<-hm.out];exact hlt) (by rw[HX.out];exact HQ.out)];simp,BW.out.trans hb'⟩
   | false =>
    rw[hq]at hcall;have HQ:=hid hq;clear hq;go_wp2_with (go_at_fn g;refine hcall.mono ?_;rintro e w' ⟨rfl,hb'⟩)
    go_roundg (m-(kk+1))
    case measure=>omega
    case rel =>
     refine⟨kk+1,by omega,by omega,by go_num,hid (BW.out.trans hb'),hid (fun j hj=>?_)⟩;by_cases hjk:j<kk
     ·exact AF.out j hjk
     ·obtain rfl:j=kk:=by omega
      rw[HX.out];exact HQ.out
  ·obtain rfl:kk=m:=by omega
   go_wp2;go_ret;exact⟨_,rfl,by rw[Wj (fun j hj=>AF.out j (by rw[hm.out];exact hj))];rfl,BW.out⟩
theorem Hf(p:Ud->Bool)(g:Nat)(v0 v1:Value)(eg:∀args w,(callFunc g args).run Tryz.prog w=.ok (.enter g args) w)(AL:Option Addr)(cL m:Nat)(L:List Ud)(w:World)(hm:Hid (m=L.length))(hL:Hid (Uin w AL cL L))(hp:Hid (Ld g #[v0,v1] p L w)) :
  Calls Tryz.prog 157 #[.slice AL m cL,.func (.func g) #[] #[v0,v1]] w fun e w'=>e=.returned (.bool (L.any p))/\Ext w w':=by
 go_enter Tryz.func157,Tryz.ntmps157;go_wp2_with (go_at_call 185;refine(iN p g v0 v1 eg AL cL m L _ hm hL hp).mono ?_;rintro e w1 ⟨r,rfl,hr,x1⟩;have HR:=hid hr;clear hr)
 go_ret;exact⟨by rw[<-HR.out];rfl,x1⟩
def Cf(u:UV):Bool:=decide (0<u.1.2.2.length)||decide (Bl u.1.1≠0)
def Cj(U X:List TV)(u:UV):Bool:=!Aj U u.1.2||Aj X u.1.2
theorem Ib(x:Ud)(w:World)(hx:Hid (UdR w x))(hi:Hid (InU x))(G:Good w):Calls Tryz.prog 153 #[udV x] w fun r w'=>r=.returned (.bool (Cf x.uv))/\Ext w w':=by
 obtain⟨A,c,l,⟨te,tA,tc,tl⟩,d⟩:=x;obtain⟨n,hn⟩:∃n,n=l.length:=⟨_,rfl⟩;obtain⟨t,ht⟩:∃t,t=tl.length:=⟨_,rfl⟩;have HR:Hid (∀W,Ext w W->Rw W A c l):=hid (fun W q=>hx.out.r.ext q);have HN:=hid hn;have HT:Hid (Od l):=hid hi.out.row.txt;unfold udV;rw[<-hn,<-ht];have hq:Cf (Ud.uv ⟨A,c,l,⟨te,tA,tc,tl⟩,d⟩)=(decide (0<t)||decide (Bl l≠0)):=by rw[ht];rfl
 rw[hq];clear hn ht hq hx hi;obtain⟨k,hk⟩:∃k,Bl l=k:=⟨_,rfl⟩;rw[hk];have HK:=hid hk;clear hk;have GG:=hid G;clear G;by_cases h0:0<t
 ·have h0z:(0:Int)<(t:Int):=by omega
  have h0d:decide (0<t)=true:=decide_eq_true h0;rw[h0d];clear h0d;go_enter Tryz.func153,Tryz.ntmps153;go_wp2;go_ret;exact⟨rfl,(Ext.refl w).alloc _⟩
 ·have h0z:¬(0:Int)<(t:Int):=by omega
  have h0d:decide (0<t)=false:=decide_eq_false h0;rw[h0d];clear h0d;have XA:Hid (Ext w (w.alloc (.cells #[.slice A n c,.int .u64 te,.slice tA t tc,.int .i64 d] 95))):=hid ((Ext.refl w).alloc _);by_cases hk0:k=0
  ·subst hk0;go_enter Tryz.func153,Tryz.ntmps153;go_wp2_with (go_at_call 154;refine(Gh A c n l _ HK HN (hid (HR.out _ XA.out)) HT (GG.out.ext XA.out)).mono ?_;rintro r w1 ⟨rfl,x1⟩)
   go_ret;exact⟨rfl,XA.out.trans x1⟩
  ·have hkd:decide (k≠0)=true:=decide_eq_true hk0;have hk1:¬k=0:=hk0;rw[hkd];clear hkd hk0;go_enter Tryz.func153,Tryz.ntmps153;go_wp2_with (go_at_call 154;refine(Gh A c n l _ HK HN (hid (HR.out _ XA.out)) HT (GG.out.ext XA.out)).mono ?_;rintro r w1 ⟨rfl,x1⟩)
   go_ret;exact⟨by simp[hk1],XA.out.trans x1⟩
theorem Gi:∀args w,(callFunc 153 args).run Tryz.prog w=.ok (.enter 153 args) w:=enters_of Tryz.func153 (by kernel_rfl) rfl
theorem Hc(x:Ud)(gp gq gs:Nat)(AU:Option Addr)(nU cU:Nat)(U:List Tm)(AX:Option Addr)(nX cX:Nat)(X:List Tm)(w:World)(hx:Hid (UdR w x))(hp:Hid (Bk w gp 76 #[.pointer (some ⟨gs,0,none⟩)]))(hq:Hid (Bk w gq 27 #[.slice AX nX cX]))(hs:Hid (w.cell? ⟨gs,3,none⟩=some (.slice AU nU cU)))
  (hnU:Hid (nU=U.length)) (hU:Hid (Tin w AU cU U)) (hnX:Hid (nX=X.length)) (hX:Hid (Tin w AX cX X)):Calls Tryz.prog 155 #[udV x,.pointer (some ⟨gp,0,none⟩),.pointer (some ⟨gq,0,none⟩)] w fun r w'=>r=.returned (.bool (Cj (U.map Tm.v) (X.map Tm.v) x.uv))/\Ext w w':=by
 obtain⟨A,c,l,⟨te,tA,tc,tl⟩,d⟩:=x;obtain⟨n,hn⟩:∃n,n=l.length:=⟨_,rfl⟩;obtain⟨t,ht⟩:∃t,t=tl.length:=⟨_,rfl⟩;have HT:Hid (∀W,Ext w W->Sl W 1 tA t tc (wds tl)):=hid (fun W q=>by rw[ht];exact hx.out.t.ext q);unfold udV;rw[<-hn,<-ht];have hv:Cj (U.map Tm.v) (X.map Tm.v) (Ud.uv ⟨A,c,l,⟨te,tA,tc,tl⟩,d⟩)=(!Aj (U.map Tm.v) (te,tl)||Aj (X.map Tm.v) (te,tl)):=rfl;rw[hv];clear hn ht hv hx;obtain⟨b1,hb1⟩:∃b,Aj (U.map Tm.v) (te,tl)=b:=⟨_,rfl⟩;obtain⟨b2,hb2⟩:∃b,Aj (X.map Tm.v) (te,tl)=b:=⟨_,rfl⟩;rw[hb1,hb2];have HB1:=hid hb1;have HB2:=hid hb2;clear hb1 hb2;go_enter Tryz.func155,Tryz.ntmps155
 go_upto_region 1 with fail
 obtain⟨wb,hwb⟩:∃wb,wb=w.alloc (.cells #[.slice A n c,.int .u64 te,.slice tA t tc,.int .i64 d] 95):=⟨_,rfl⟩;have XB:Hid (Ext w wb):=hid (by rw[hwb];exact(Ext.refl _).alloc _);have BT:Hid (Bk wb w.heap.size 95 #[.slice A n c,.int .u64 te,.slice tA t tc,.int .i64 d]):=hid (by rw[hwb];exact Bk.new _ _ _);rw[<-hwb];clear hwb;obtain⟨gt,hgt⟩:∃k,k=w.heap.size:=⟨_,rfl⟩;rw[<-hgt]at BT ⊢;clear hgt;have X_:Ext wb wb.drew:=(Ext.refl wb).drew;have P0:∀y:Xt wb.drew,y.W.cell? ⟨gp,0,none⟩=some (.pointer (some ⟨gs,0,none⟩)):=fun y=>(hp.out.ext ((XB.out.trans X_).trans y.x)).cell 0;have P3:∀y:Xt wb.drew,y.W.cell? ⟨gs,3,none⟩=some (.slice AU nU cU):=fun y=>((XB.out.trans X_).trans y.x).cell hs.out;have Q1:∀y:Xt wb.drew,y.W.cell? ⟨gt,1,none⟩=some (.int .u64 te):=fun y=>(BT.out.ext (X_.trans y.x)).cell 1;have Q2:∀y:Xt wb.drew,y.W.cell? ⟨gt,2,none⟩=some (.slice tA t tc):=fun y=>(BT.out.ext (X_.trans y.x)).cell 2;cases b1 with
 | false =>
  refine wro [0,1,3,7,0,16,63,127,255,511,511,1535,4095,8191,16383] (.flo [0,1,2,3,4,5] (.one 6 (.flo [7,8,9,10,11] (.one 12 (.flo [13,14] (.fin)))))) ?_
  (refine Aa (pks rfl) ?_;(repeat (go_big_quiet_step (fail)));refine oq ?_)
  refine Ac (pks rfl) ?_;intro K_ hK_;go_wp2_with (go_at_call 140;refine(Ek AU cU nU U te tA t tc tl _ HB1 hnU (hid (hU.out.ext (XB.out.trans X_))) (hid (HT.out _ (XB.out.trans X_)))).mono ?_;rintro r w1 ⟨rfl,x1⟩;have X1:=hid (X_.trans x1))
  clear P0 P3 Q1 Q2
  (refine Aa (pks rfl) ?_;(repeat (go_big_quiet_step (fail)));refine oq ?_)
  refine Ac (pks rfl) ?_;intro K_ hK_;go_wp2
  (refine Aa (pks rfl) ?_;(repeat (go_big_quiet_step (fail)));refine oq ?_)
  refine Ad ?_;go_wp2;go_ret;exact⟨rfl,XB.out.trans X1.out⟩
 | true =>
  refine wro [0,1,3,7,0,16,63,127,255,511,511,1535,4095,8191,16383] (.flo [0,1,2,3,4,5] (.one 6 (.flo [7,8,9,10,11] (.one 12 (.flo [13,14] (.fin)))))) ?_
  (refine Aa (pks rfl) ?_;(repeat (go_big_quiet_step (fail)));refine oq ?_)
  refine Ac (pks rfl) ?_;intro K_ hK_;go_wp2_with (go_at_call 140;refine(Ek AU cU nU U te tA t tc tl _ HB1 hnU (hid (hU.out.ext (XB.out.trans X_))) (hid (HT.out _ (XB.out.trans X_)))).mono ?_;rintro r w1 ⟨rfl,x1⟩;have X1:=hid (X_.trans x1))
  clear P0 P3 Q1 Q2;have P0:∀y:Xt w1,y.W.cell? ⟨gq,0,none⟩=some (.slice AX nX cX):=fun y=>(hq.out.ext ((XB.out.trans X1.out).trans y.x)).cell 0;have Q1:∀y:Xt w1,y.W.cell? ⟨gt,1,none⟩=some (.int .u64 te):=fun y=>(BT.out.ext (X1.out.trans y.x)).cell 1;have Q2:∀y:Xt w1,y.W.cell? ⟨gt,2,none⟩=some (.slice tA t tc):=fun y=>(BT.out.ext (X1.out.trans y.x)).cell 2
  (refine Aa (pks rfl) ?_;(repeat (go_big_quiet_step (fail)));refine oq ?_)
  refine Ac (pks rfl) ?_;intro K_ hK_;go_wp2_with (go_at_call 140;refine(Ek AX cX nX X te tA t tc tl _ HB2 hnX (hid (hX.out.ext (XB.out.trans X1.out))) (hid (HT.out _ (XB.out.trans X1.out)))).mono ?_;rintro r w2 ⟨rfl,x2⟩;have X2:=hid (X1.out.trans x2))
  (refine Aa (pks rfl) ?_;(repeat (go_big_quiet_step (fail)));refine oq ?_)
  refine Ad ?_;go_wp2;go_ret;exact⟨rfl,XB.out.trans X2.out⟩
theorem He:∀args w,(callFunc 155 args).run Tryz.prog w=.ok (.enter 155 args) w:=enters_of Tryz.func155 (by kernel_rfl) rfl
end Go.Proofs.YtdgbkpoickbidaaGreatDoor
